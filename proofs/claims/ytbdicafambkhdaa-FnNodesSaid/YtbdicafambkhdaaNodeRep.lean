/- slices.Repeat of one node, one to six times. Printed by wip/nn.py. -/
import Derived.Test.YtbdicafambkhdaaShelf
import Derived.Test.YtbdicafambkhdaaNodeC
import Derived.Laws.MakeOwn
import Derived.Deep.RegionHeld3
namespace Go.Proofs.Ytbdicafambkhdaa
open Go.RowKit
attribute [local irreducible] wpQuiet

/-- copy(d, s): n elements of z cells each. -/
theorem run_copy_k {P : Program} (w : World) (dT sT ty elem : TypeId) (z n b o dLen dCap : Nat) (a : Addr) (sLen sCap : Nat) (cs : List Value)
    (hu : P.underlying dT = some (.slice elem)) (hs : (P.info? elem).map (·.size) = some z) (hn : n = Nat.min sLen dLen) (hcl : cs.length = n * z)
    (hsrc : ∀ j v, cs[j]? = some v → w.cell? (a.add j) = some v) (hc : w.there b o cs.length) (h1 : ∀ v ∈ cs, v.oneCell' = true) :
    (Builtin.copy_ #[dT, sT] ty #[.slice (some ⟨b, o, none⟩) dLen dCap, .slice (some a) sLen sCap]).run P w = .ok (goInt n) (w.setCells b o cs) := by
  have hl := run_loadCells_list (P := P) w a cs hsrc
  have hst := run_storeCells_cells (P := P) b o cs 0 w (fun j hj => by rw [Nat.add_zero]; exact (hc j hj).1) (fun j hj => by rw [Nat.add_zero]; exact (hc j hj).2) h1
  cases hq : P.info? elem with
  | none => simp [hq] at hs
  | some i =>
    have hi : i.size = z := by simpa [hq] using hs
    rw [hcl] at hl
    simp only [Nat.add_zero] at hst
    simp [Builtin.copy_, run_underlying hu, Builtin.lenOf, Builtin.firstCells, sizeOf, typeInfo, hq, hi, ← hn, hl, hst]

theorem make_1 (w : World) : (Instr.makeSlice 23 (.int .i64 1) (.int .i64 1)).run Try.prog w = .ok (.slice (some ⟨w.heap.size, 0, none⟩) 1 1) (w.alloc (.cells #[.int .i64 0, .slice none 0 0] 42)) := by
  obtain ⟨i, i1, i2, i3, i4⟩ := info_parts (P := Try.prog) (e := 42) (z := .agg #[.int .i64 0, .slice none 0 0]) (size := 2) (bytes := 32) (by kernel_rfl)
  have h := run_make (P := Try.prog) w 23 42 i _ Try.underlying23 i1 i2 .i64 .i64 1 1 (by decide) (by decide) (by rw [i4]; decide) (by decide)
  have e : madeCells (Value.agg #[.int .i64 0, .slice none 0 0]).cells (Int.toNat 1 * 2) = #[.int .i64 0, .slice none 0 0] := by kernel_rfl
  rw [i3, e] at h
  exact h
theorem make_2 (w : World) : (Instr.makeSlice 23 (.int .i64 2) (.int .i64 2)).run Try.prog w = .ok (.slice (some ⟨w.heap.size, 0, none⟩) 2 2) (w.alloc (.cells #[.int .i64 0, .slice none 0 0, .int .i64 0, .slice none 0 0] 42)) := by
  obtain ⟨i, i1, i2, i3, i4⟩ := info_parts (P := Try.prog) (e := 42) (z := .agg #[.int .i64 0, .slice none 0 0]) (size := 2) (bytes := 32) (by kernel_rfl)
  have h := run_make (P := Try.prog) w 23 42 i _ Try.underlying23 i1 i2 .i64 .i64 2 2 (by decide) (by decide) (by rw [i4]; decide) (by decide)
  have e : madeCells (Value.agg #[.int .i64 0, .slice none 0 0]).cells (Int.toNat 2 * 2) = #[.int .i64 0, .slice none 0 0, .int .i64 0, .slice none 0 0] := by kernel_rfl
  rw [i3, e] at h
  exact h
theorem make_3 (w : World) : (Instr.makeSlice 23 (.int .i64 3) (.int .i64 3)).run Try.prog w = .ok (.slice (some ⟨w.heap.size, 0, none⟩) 3 3) (w.alloc (.cells #[.int .i64 0, .slice none 0 0, .int .i64 0, .slice none 0 0, .int .i64 0, .slice none 0 0] 42)) := by
  obtain ⟨i, i1, i2, i3, i4⟩ := info_parts (P := Try.prog) (e := 42) (z := .agg #[.int .i64 0, .slice none 0 0]) (size := 2) (bytes := 32) (by kernel_rfl)
  have h := run_make (P := Try.prog) w 23 42 i _ Try.underlying23 i1 i2 .i64 .i64 3 3 (by decide) (by decide) (by rw [i4]; decide) (by decide)
  have e : madeCells (Value.agg #[.int .i64 0, .slice none 0 0]).cells (Int.toNat 3 * 2) = #[.int .i64 0, .slice none 0 0, .int .i64 0, .slice none 0 0, .int .i64 0, .slice none 0 0] := by kernel_rfl
  rw [i3, e] at h
  exact h
theorem make_4 (w : World) : (Instr.makeSlice 23 (.int .i64 4) (.int .i64 4)).run Try.prog w = .ok (.slice (some ⟨w.heap.size, 0, none⟩) 4 4) (w.alloc (.cells #[.int .i64 0, .slice none 0 0, .int .i64 0, .slice none 0 0, .int .i64 0, .slice none 0 0, .int .i64 0, .slice none 0 0] 42)) := by
  obtain ⟨i, i1, i2, i3, i4⟩ := info_parts (P := Try.prog) (e := 42) (z := .agg #[.int .i64 0, .slice none 0 0]) (size := 2) (bytes := 32) (by kernel_rfl)
  have h := run_make (P := Try.prog) w 23 42 i _ Try.underlying23 i1 i2 .i64 .i64 4 4 (by decide) (by decide) (by rw [i4]; decide) (by decide)
  have e : madeCells (Value.agg #[.int .i64 0, .slice none 0 0]).cells (Int.toNat 4 * 2) = #[.int .i64 0, .slice none 0 0, .int .i64 0, .slice none 0 0, .int .i64 0, .slice none 0 0, .int .i64 0, .slice none 0 0] := by kernel_rfl
  rw [i3, e] at h
  exact h
theorem make_5 (w : World) : (Instr.makeSlice 23 (.int .i64 5) (.int .i64 5)).run Try.prog w = .ok (.slice (some ⟨w.heap.size, 0, none⟩) 5 5) (w.alloc (.cells #[.int .i64 0, .slice none 0 0, .int .i64 0, .slice none 0 0, .int .i64 0, .slice none 0 0, .int .i64 0, .slice none 0 0, .int .i64 0, .slice none 0 0] 42)) := by
  obtain ⟨i, i1, i2, i3, i4⟩ := info_parts (P := Try.prog) (e := 42) (z := .agg #[.int .i64 0, .slice none 0 0]) (size := 2) (bytes := 32) (by kernel_rfl)
  have h := run_make (P := Try.prog) w 23 42 i _ Try.underlying23 i1 i2 .i64 .i64 5 5 (by decide) (by decide) (by rw [i4]; decide) (by decide)
  have e : madeCells (Value.agg #[.int .i64 0, .slice none 0 0]).cells (Int.toNat 5 * 2) = #[.int .i64 0, .slice none 0 0, .int .i64 0, .slice none 0 0, .int .i64 0, .slice none 0 0, .int .i64 0, .slice none 0 0, .int .i64 0, .slice none 0 0] := by kernel_rfl
  rw [i3, e] at h
  exact h
theorem make_6 (w : World) : (Instr.makeSlice 23 (.int .i64 6) (.int .i64 6)).run Try.prog w = .ok (.slice (some ⟨w.heap.size, 0, none⟩) 6 6) (w.alloc (.cells #[.int .i64 0, .slice none 0 0, .int .i64 0, .slice none 0 0, .int .i64 0, .slice none 0 0, .int .i64 0, .slice none 0 0, .int .i64 0, .slice none 0 0, .int .i64 0, .slice none 0 0] 42)) := by
  obtain ⟨i, i1, i2, i3, i4⟩ := info_parts (P := Try.prog) (e := 42) (z := .agg #[.int .i64 0, .slice none 0 0]) (size := 2) (bytes := 32) (by kernel_rfl)
  have h := run_make (P := Try.prog) w 23 42 i _ Try.underlying23 i1 i2 .i64 .i64 6 6 (by decide) (by decide) (by rw [i4]; decide) (by decide)
  have e : madeCells (Value.agg #[.int .i64 0, .slice none 0 0]).cells (Int.toNat 6 * 2) = #[.int .i64 0, .slice none 0 0, .int .i64 0, .slice none 0 0, .int .i64 0, .slice none 0 0, .int .i64 0, .slice none 0 0, .int .i64 0, .slice none 0 0, .int .i64 0, .slice none 0 0] := by kernel_rfl
  rw [i3, e] at h
  exact h
end Go.Proofs.Ytbdicafambkhdaa

/- slices.Delete at spans: one element of a slice that lies in memory of its own is struck. -/
import Derived.Test.YtocomclenbhhaaaGreatDelFn
namespace Go.Proofs.YtocomclenbhhaaaGreat
open Go.RowKit
attribute [local irreducible] wpQuiet

section
variable {α : Type} [Inhabited α] {E : Elem α} {T : TypeId} {w : World} {l ys : List α} {P : Program} {hfl : ∀ {S S' : Nat → Prop} {w w' : World} {cs x}, E.rel S w cs x → E.rel S' w' cs x}
/-- append(v, s...) in a slice that has room: it stays where it is. -/
theorem run_append_flat_room (t ty : TypeId) (i : TypeInfo) (z : Value) (ht : P.underlying t = some (.slice T)) (hi : P.info? T = some i) (hz : i.zero = some z) (hsz : i.size = E.size) (hzs : z.cells.size = E.size) {B cap : Nat} {F : List Nat} {S : Nat → Prop}
    (hown : OwS (OFlat E hfl) T w (.slice (some ⟨B, 0, none⟩) l.length cap) l F) (hcap : 0 < cap) (Bs os c : Nat) (hy : ∀ k, k < ys.length → ∃ cs, E.rel S w cs (nth ys k) ∧ w.rangeAt Bs (os + k * E.size) cs) (hroom : l.length + ys.length ≤ cap) (hs : cap ≤ maxLen) (hby : (l.length + ys.length) * i.bytes ≤ 140737488355328) :
    ∃ w' F', (Builtin.append_ #[t, t] ty #[.slice (some ⟨B, 0, none⟩) l.length cap, .slice (some ⟨Bs, os, none⟩) ys.length c]).run P w = .ok (.slice (some ⟨B, 0, none⟩) (l.length + ys.length) cap) w' ∧ OwS (OFlat E hfl) T w' (.slice (some ⟨B, 0, none⟩) (l.length + ys.length) cap) (l ++ ys) F' ∧ Kept F w w' ∧ (∀ b ∈ F', b ∈ F ∨ w.heap.size ≤ b) := by
  have hy' : ∀ k, k < ys.length → ∃ cs, (OFlat E hfl).own w cs (nth ys k) (nth (List.replicate ys.length []) k) ∧ w.rangeAt Bs (os + k * E.size) cs := fun k hk => by
    obtain ⟨cs, h1, h2⟩ := hy k hk
    exact ⟨cs, ⟨hfl h1, flat_list (α := α) hk⟩, h2⟩
  obtain ⟨v', w', F', hr, g2, g3, g4⟩ := run_append_ow (P := P) (Gs := List.replicate ys.length []) t ty i z ht hi hz hsz hzs hown Bs os c (by simp) hy' (by rw [flat_flatten, List.append_nil]; exact hown.nodup) (fun b hb => by rw [flat_flatten] at hb; cases hb) (Nat.le_trans hroom hs) hby
  rcases hown with ⟨_, _, A, hv⟩ | ⟨B', cap', C, Fs, hv, hB, h1, h2, h3, hl, _, _, hk⟩
  · injection hv with _ _ hh; omega
  · injection hv with e1 e2 e3
    cases e1
    subst e3
    obtain ⟨hnews, hone⟩ := rowOf_cell (cells_there_of hy')
    have hnl : (rowOf w Bs os (ys.length * E.size)).length = ys.length * i.size := by rw [rowOf_length, hsz]
    have hfit : l.length * i.size + (rowOf w Bs os (ys.length * E.size)).length ≤ C.size := by rw [hnl, h3, ← Nat.add_mul, hsz]; exact Nat.mul_le_mul_right _ hroom
    have hr2 := run_append_room (P := P) w t ty T i ht hi B l.length cap C hB ⟨Bs, os, none⟩ ys.length c _ hnl (fun j u hj => by rw [Addr.add_mid]; exact hnews j u hj) hone hroom hfit
    rw [hr] at hr2
    injection hr2 with e1 e2
    subst e1
    exact ⟨w', F', hr, g2, g3, fun b hb => by
      have := g4 b hb
      rw [flat_flatten] at this
      simpa using this⟩
theorem step_append_flat_room {ops : Array Oper} {o : Oper} {a : Act} {K : Act → World → Prop} {Q : Exit → Act → World → Prop} {X : Prop} (hgd : o.guard = none) (s x : Operand) (t : TypeId)
    (ho : o.op = .call { callee := .builtin .append, args := #[s, x], argTypes := #[t, t] })
    (z : Value) (size bytes : Nat) (ht : P.underlying t = some (.slice T)) (hi : (P.info? T).map (fun i => (i.zero, i.size, i.bytes)) = some (some z, size, bytes)) (hsz : size = E.size) (hzs : z.cells.size = E.size) {B cap n m : Nat} {F : List Nat} {S : Nat → Prop}
    (hn : l.length = n) (hm : ys.length = m) (hs : a.eval s = .slice (some ⟨B, 0, none⟩) n cap) (hown : OwS (OFlat E hfl) T w (.slice (some ⟨B, 0, none⟩) n cap) l F) (hcap : 0 < cap) (Bs os c : Nat) (hx : a.eval x = .slice (some ⟨Bs, os, none⟩) m c)
    (hy : ∀ k, k < m → ∃ cs, E.rel S w cs (nth ys k) ∧ w.rangeAt Bs (os + k * E.size) cs) (hroom : n + m ≤ cap) (hs' : cap ≤ maxLen) (hby : (n + m) * bytes ≤ 140737488355328)
    (h : ∀ w' F', OwS (OFlat E hfl) T w' (.slice (some ⟨B, 0, none⟩) (n + m) cap) (l ++ ys) F' → Kept F w w' → (∀ b ∈ F', b ∈ F ∨ w.heap.size ≤ b) → K (a.put o.dst (.slice (some ⟨B, 0, none⟩) (n + m) cap)) w') : if Region.wanted o (yielded ops a.tmps) = true then Oper.wp P o a w K Q else X := by
  have hw : Region.wanted o (yielded ops a.tmps) = true := by simp [Region.wanted, hgd]
  rw [if_pos hw]
  subst hn hm
  obtain ⟨i, h1, h2, h3, h4⟩ := info_parts hi
  obtain ⟨w', F', hr, g2, g3, g4⟩ := run_append_flat_room (P := P) t o.type i z ht h1 h2 (h3.trans hsz) hzs hown hcap Bs os c hy hroom hs' (by rw [h4]; exact hby)
  unfold Oper.wp execOp
  simp only [ho, resolve, invoke, builtin, Sem.run_bind, Sem.run_pure, Result.andThen_ok, List.map_toArray, List.map_cons, List.map_nil, hs, hx, hr]
  exact h w' F' g2 g3 g4
end
/-- The first elements of a row, when what stands behind them has been written. -/
theorem OwS.cut2 {α : Type} [Inhabited α] {E : Elem α} {hfl : ∀ {S S' : Nat → Prop} {w w' : World} {cs x}, E.rel S w cs x → E.rel S' w' cs x} {T : TypeId} {w w' : World} {l : List α} {B c m n : Nat} {F : List Nat}
    (h : OwS (OFlat E hfl) T w (.slice (some ⟨B, 0, none⟩) n c) l F) (hl : l.length = n) (hc : 0 < c) (hr : RowBut T B (n * E.size) m w w') : OwS (OFlat E hfl) T w' (.slice (some ⟨B, 0, none⟩) n c) l F := by
  subst hl
  rcases h with ⟨_, _, A, hv⟩ | ⟨B', c', C, Fs, hv, hB, h1, h2, h3, hlF, rfl, hnd, hall⟩
  · injection hv with _ _ hh; omega
  · cases hv
    obtain ⟨C0, C', g1, g2, g3, g4⟩ := hr
    rw [hB] at g1
    cases g1
    refine .inr ⟨B, c, C', Fs, rfl, g2, h1, h2, by rw [g3, h3], hlF, rfl, hnd, fun k hk => ?_⟩
    obtain ⟨cs, ho, hc'⟩ := hall k hk
    refine ⟨cs, ⟨hfl ho.1, ho.2⟩, fun i u hi => ?_⟩
    have hil : i < E.size := by have := (List.getElem?_eq_some_iff.1 hi).1; rwa [E.len ho.1] at this
    have hcell := hc' i u hi
    rw [cell_of_row w B _ C T (0, 0) hB] at hcell
    rw [cell_of_row w' B _ C' T (0, 0) g2, g4 _ (.inl (Nat.lt_of_lt_of_le (Nat.add_lt_add_left hil _) (by rw [← Nat.succ_mul]; exact Nat.mul_le_mul_right _ hk)))]
    exact hcell

theorem OwS.flat_blocks {α : Type} [Inhabited α] {E : Elem α} {hfl : ∀ {S S' : Nat → Prop} {w w' : World} {cs x}, E.rel S w cs x → E.rel S' w' cs x} {T : TypeId} {w : World} {l : List α} {B c n : Nat} {F : List Nat}
    (h : OwS (OFlat E hfl) T w (.slice (some ⟨B, 0, none⟩) n c) l F) (hc : 0 < c) : F = [B] := by
  rcases h with ⟨_, _, A, hv⟩ | ⟨B', c', C, Fs, hv, hB, h1, h2, h3, hlF, rfl, hnd, hall⟩
  · injection hv with _ _ hh; omega
  · cases hv
    have : Fs.flatten = [] := List.flatten_eq_nil_iff.2 fun G hG => by
      obtain ⟨i, hi, rfl⟩ := List.getElem_of_mem hG
      obtain ⟨cs, ho, _⟩ := hall i (by omega)
      rw [← nth_eq hi]
      exact ho.2
    rw [this]

end Go.Proofs.YtocomclenbhhaaaGreat

/- slices.DeleteFunc at spans, on a slice that lies in memory of its own. slices.Delete at spans: one element of a slice that lies in memory of its own is struck. Rows of spans in memory, cell by cell; copy of elements of several cells. slices.Insert of spans: the cells that it writes. slices.Insert of one span into a slice that has its memory for itself. -/
import Derived.Test.YtjiipmkehdiiiaaDoorNodeC
import Derived.Test.YtjiipmkehdiiiaaDoorOrdU
import Derived.Test.YtjiipmkehdiiiaaDoorClones
import Derived.Test.YtjiipmkehdiiiaaDoorShelf
import Derived.Shelf.Spec.SlicesInsertGrow
namespace Go.Proofs.YtjiipmkehdiiiaaDoor
open Go.RowKit
attribute [local irreducible] wpQuiet

/-- clear(s), s a slice of n > 0 elements. -/
theorem run_clear_row {P : Program} (w : World) (t e ty : TypeId) (z : Value) (n : Nat) (ht : P.underlying t = some (.slice e)) (hv : ∀ w, (zeroValue e).run P w = .ok z w) (h1 : ∀ v ∈ (Builtin.zeroCells z.cells n).toList, v.oneCell' = true) (b o c : Nat) (hn : 0 < n)
    (hth : w.there b o (Builtin.zeroCells z.cells n).toList.length) :
    (Builtin.clear_ #[t] ty #[.slice (some ⟨b, o, none⟩) n c]).run P w = .ok (.tuple #[]) (w.setCells b o (Builtin.zeroCells z.cells n).toList) := by
  have hst := run_storeCells_cells (P := P) b o (Builtin.zeroCells z.cells n).toList 0 w (fun j hj => by rw [Nat.add_zero]; exact (hth j hj).1) (fun j hj => by rw [Nat.add_zero]; exact (hth j hj).2) h1
  simp only [Nat.add_zero] at hst
  obtain ⟨m, rfl⟩ : ∃ m, n = m + 1 := ⟨n - 1, by omega⟩
  simp [Builtin.clear_, run_underlying ht, hv, hst]
theorem wpList_clear_row {P : Program} {ops : Array Oper} {rest : List Oper} {o : Oper} {a : Act} {w : World} {Q : Exit → Act → World → Prop} (hgd : o.guard = none) (s : Operand) (t e : TypeId) (z : Value) (n : Nat)
    (ho : o.op = .call { callee := .builtin .clear, args := #[s], argTypes := #[t] }) (ht : P.underlying t = some (.slice e)) (hv : ∀ w, (zeroValue e).run P w = .ok z w) (h1 : ∀ v ∈ (Builtin.zeroCells z.cells n).toList, v.oneCell' = true) (b o' c : Nat)
    (hs : a.eval s = .slice (some ⟨b, o', none⟩) n c) (hn : 0 < n) (hth : w.there b o' (Builtin.zeroCells z.cells n).toList.length)
    (h : wpList P ops Q rest (a.put o.dst (.tuple #[])) (w.setCells b o' (Builtin.zeroCells z.cells n).toList)) : wpList P ops Q (o :: rest) a w :=
  wpList_plain hgd fun _ hK => by
    unfold Oper.wp execOp
    simp only [ho, resolve, invoke, builtin, Sem.run_bind, Sem.run_pure, Result.andThen_ok, List.map_toArray, List.map_cons, List.map_nil, hs, run_clear_row w t e o.type z n ht hv h1 b o' c hn hth]
    exact hK _ _ h
/-- The first elements of a row of elements that lead to no memory, when what stands behind them has been written. -/
theorem OwS.cut {α : Type} [Inhabited α] {E : Elem α} {hfl : ∀ {S S' : Nat → Prop} {w w' : World} {cs x}, E.rel S w cs x → E.rel S' w' cs x} {T : TypeId} {w w' : World} {l : List α} {B c n m : Nat} {F : List Nat}
    (h : OwS (OFlat E hfl) T w (.slice (some ⟨B, 0, none⟩) l.length c) l F) (hl : 0 < l.length) (hn : n ≤ l.length) (hr : RowBut T B (n * E.size) m w w') : ∃ F', OwS (OFlat E hfl) T w' (.slice (some ⟨B, 0, none⟩) n c) (l.take n) F' ∧ ∀ b ∈ F', b ∈ F := by
  rcases h with ⟨rfl, _⟩ | ⟨B', c', C, Fs, hv, hB, h1, h2, h3, hlF, rfl, hnd, hall⟩
  · simp at hl
  · cases hv
    obtain ⟨C0, C', g1, g2, g3, g4⟩ := hr
    rw [hB] at g1
    cases g1
    have hlen : (l.take n).length = n := by rw [List.length_take]; omega
    refine ⟨B :: (Fs.take n).flatten, .inr ⟨B, c, C', Fs.take n, by rw [hlen], g2, by rw [hlen]; omega, h2, by rw [g3, h3], by rw [hlen, List.length_take]; omega, rfl, ?_, fun k hk => ?_⟩, fun b hb => ?_⟩
    · have e : Fs.flatten = (Fs.take n).flatten ++ (Fs.drop n).flatten := by rw [← List.flatten_append, List.take_append_drop]
      rw [e] at hnd
      obtain ⟨h1', h2'⟩ := List.nodup_cons.1 hnd
      exact List.nodup_cons.2 ⟨fun hm => h1' (List.mem_append_left _ hm), (List.nodup_append.1 h2').1⟩
    · rw [hlen] at hk
      obtain ⟨cs, ho, hc⟩ := hall k (by omega)
      have e1 : nth (l.take n) k = nth l k := by rw [nth_eq (by omega), nth_eq (by omega)]; simp
      have e2 : nth (Fs.take n) k = nth Fs k := by rw [nth_eq (by rw [List.length_take]; omega), nth_eq (by omega)]; simp
      refine ⟨cs, by rw [e1, e2]; exact ⟨hfl ho.1, ho.2⟩, fun i u hi => ?_⟩
      have hil : i < E.size := by have := (List.getElem?_eq_some_iff.1 hi).1; rwa [E.len ho.1] at this
      have hcell := hc i u hi
      rw [cell_of_row w B _ C T (0, 0) hB] at hcell
      rw [cell_of_row w' B _ C' T (0, 0) g2, g4 _ (.inl (Nat.lt_of_lt_of_le (Nat.add_lt_add_left hil _) (by rw [← Nat.succ_mul]; exact Nat.mul_le_mul_right _ hk)))]
      exact hcell
    · rcases List.mem_cons.1 hb with rfl | hb
      · exact List.mem_cons_self ..
      · obtain ⟨G, hG, hb⟩ := List.mem_flatten.1 hb
        exact List.mem_cons_of_mem _ (List.mem_flatten.2 ⟨G, List.mem_of_mem_take hG, hb⟩)
theorem take_set_succ {α : Type} [Inhabited α] {m : List α} {i : Nat} {x : α} (h : i < m.length) : (m.set i x).take (i + 1) = m.take i ++ [x] := by
  rw [List.take_succ_eq_append_getElem (by simpa using h), List.take_set_of_le (Nat.le_refl _)]
  simp
theorem filter_take_yes {α : Type} [Inhabited α] {f : α → Bool} {l : List α} {k : Nat} (hk : k < l.length) (h : f (nth l k) = true) : (l.take (k + 1)).filter f = (l.take k).filter f ++ [nth l k] := by
  rw [take_succ_nth hk, List.filter_append]; simp [h]
theorem filter_take_no {α : Type} [Inhabited α] {f : α → Bool} {l : List α} {k : Nat} (hk : k < l.length) (h : f (nth l k) = false) : (l.take (k + 1)).filter f = (l.take k).filter f := by
  rw [take_succ_nth hk, List.filter_append]; simp [h]
theorem filter_all_nth {α : Type} [Inhabited α] {f : α → Bool} {l : List α} (h : ∀ j, j < l.length → f (nth l j) = true) : l.filter f = l := List.filter_eq_self.2 fun x hx => by
  obtain ⟨i, hi, rfl⟩ := List.getElem_of_mem hx
  have := h i hi
  rwa [nth_eq hi] at this
theorem zero_spans (n : Nat) : (Builtin.zeroCells (Value.agg #[.int .i64 0, .int .i64 0]).cells n).toList.length = n * 2 ∧ ∀ v ∈ (Builtin.zeroCells (Value.agg #[.int .i64 0, .int .i64 0]).cells n).toList, v.oneCell' = true := by
  refine ⟨by rw [Array.length_toList, size_zeroCells]; rfl, fun v hv => ?_⟩
  obtain ⟨i, hi, rfl⟩ := List.getElem_of_mem hv
  simp only [Builtin.zeroCells, Array.getElem_toList, Array.getElem_map, Array.getElem_range]
  have h2 : i % 2 < 2 := Nat.mod_lt _ (by decide)
  rcases (show i % 2 = 0 ∨ i % 2 = 1 by omega) with h | h <;> simp [Value.cells, h, Value.oneCell']

end Go.Proofs.YtjiipmkehdiiiaaDoor

namespace Go.Proofs.YtjiipmkehdiiiaaDoor
open Go.RowKit
attribute [local irreducible] wpQuiet

section
variable {α : Type} [Inhabited α] {E : Elem α} {T : TypeId} {w : World} {l ys : List α} {P : Program} {hfl : ∀ {S S' : Nat → Prop} {w w' : World} {cs x}, E.rel S w cs x → E.rel S' w' cs x}
/-- append(v, s...) in a slice that has room: it stays where it is. -/
theorem run_append_flat_room (t ty : TypeId) (i : TypeInfo) (z : Value) (ht : P.underlying t = some (.slice T)) (hi : P.info? T = some i) (hz : i.zero = some z) (hsz : i.size = E.size) (hzs : z.cells.size = E.size) {B cap : Nat} {F : List Nat} {S : Nat → Prop}
    (hown : OwS (OFlat E hfl) T w (.slice (some ⟨B, 0, none⟩) l.length cap) l F) (hcap : 0 < cap) (Bs os c : Nat) (hy : ∀ k, k < ys.length → ∃ cs, E.rel S w cs (nth ys k) ∧ w.rangeAt Bs (os + k * E.size) cs) (hroom : l.length + ys.length ≤ cap) (hs : cap ≤ maxLen) (hby : (l.length + ys.length) * i.bytes ≤ 140737488355328) :
    ∃ w' F', (Builtin.append_ #[t, t] ty #[.slice (some ⟨B, 0, none⟩) l.length cap, .slice (some ⟨Bs, os, none⟩) ys.length c]).run P w = .ok (.slice (some ⟨B, 0, none⟩) (l.length + ys.length) cap) w' ∧ OwS (OFlat E hfl) T w' (.slice (some ⟨B, 0, none⟩) (l.length + ys.length) cap) (l ++ ys) F' ∧ Kept F w w' ∧ (∀ b ∈ F', b ∈ F ∨ w.heap.size ≤ b) := by
  have hy' : ∀ k, k < ys.length → ∃ cs, (OFlat E hfl).own w cs (nth ys k) (nth (List.replicate ys.length []) k) ∧ w.rangeAt Bs (os + k * E.size) cs := fun k hk => by
    obtain ⟨cs, h1, h2⟩ := hy k hk
    exact ⟨cs, ⟨hfl h1, flat_list (α := α) hk⟩, h2⟩
  obtain ⟨v', w', F', hr, g2, g3, g4⟩ := run_append_ow (P := P) (Gs := List.replicate ys.length []) t ty i z ht hi hz hsz hzs hown Bs os c (by simp) hy' (by rw [flat_flatten, List.append_nil]; exact hown.nodup) (fun b hb => by rw [flat_flatten] at hb; cases hb) (Nat.le_trans hroom hs) hby
  rcases hown with ⟨_, _, A, hv⟩ | ⟨B', cap', C, Fs, hv, hB, h1, h2, h3, hl, _, _, hk⟩
  · injection hv with _ _ hh; omega
  · injection hv with e1 e2 e3
    cases e1
    subst e3
    obtain ⟨hnews, hone⟩ := rowOf_cell (cells_there_of hy')
    have hnl : (rowOf w Bs os (ys.length * E.size)).length = ys.length * i.size := by rw [rowOf_length, hsz]
    have hfit : l.length * i.size + (rowOf w Bs os (ys.length * E.size)).length ≤ C.size := by rw [hnl, h3, ← Nat.add_mul, hsz]; exact Nat.mul_le_mul_right _ hroom
    have hr2 := run_append_room (P := P) w t ty T i ht hi B l.length cap C hB ⟨Bs, os, none⟩ ys.length c _ hnl (fun j u hj => by rw [Addr.add_mid]; exact hnews j u hj) hone hroom hfit
    rw [hr] at hr2
    injection hr2 with e1 e2
    subst e1
    exact ⟨w', F', hr, g2, g3, fun b hb => by
      have := g4 b hb
      rw [flat_flatten] at this
      simpa using this⟩
theorem step_append_flat_room {ops : Array Oper} {o : Oper} {a : Act} {K : Act → World → Prop} {Q : Exit → Act → World → Prop} {X : Prop} (hgd : o.guard = none) (s x : Operand) (t : TypeId)
    (ho : o.op = .call { callee := .builtin .append, args := #[s, x], argTypes := #[t, t] })
    (z : Value) (size bytes : Nat) (ht : P.underlying t = some (.slice T)) (hi : (P.info? T).map (fun i => (i.zero, i.size, i.bytes)) = some (some z, size, bytes)) (hsz : size = E.size) (hzs : z.cells.size = E.size) {B cap n m : Nat} {F : List Nat} {S : Nat → Prop}
    (hn : l.length = n) (hm : ys.length = m) (hs : a.eval s = .slice (some ⟨B, 0, none⟩) n cap) (hown : OwS (OFlat E hfl) T w (.slice (some ⟨B, 0, none⟩) n cap) l F) (hcap : 0 < cap) (Bs os c : Nat) (hx : a.eval x = .slice (some ⟨Bs, os, none⟩) m c)
    (hy : ∀ k, k < m → ∃ cs, E.rel S w cs (nth ys k) ∧ w.rangeAt Bs (os + k * E.size) cs) (hroom : n + m ≤ cap) (hs' : cap ≤ maxLen) (hby : (n + m) * bytes ≤ 140737488355328)
    (h : ∀ w' F', OwS (OFlat E hfl) T w' (.slice (some ⟨B, 0, none⟩) (n + m) cap) (l ++ ys) F' → Kept F w w' → (∀ b ∈ F', b ∈ F ∨ w.heap.size ≤ b) → K (a.put o.dst (.slice (some ⟨B, 0, none⟩) (n + m) cap)) w') : if Region.wanted o (yielded ops a.tmps) = true then Oper.wp P o a w K Q else X := by
  have hw : Region.wanted o (yielded ops a.tmps) = true := by simp [Region.wanted, hgd]
  rw [if_pos hw]
  subst hn hm
  obtain ⟨i, h1, h2, h3, h4⟩ := info_parts hi
  obtain ⟨w', F', hr, g2, g3, g4⟩ := run_append_flat_room (P := P) t o.type i z ht h1 h2 (h3.trans hsz) hzs hown hcap Bs os c hy hroom hs' (by rw [h4]; exact hby)
  unfold Oper.wp execOp
  simp only [ho, resolve, invoke, builtin, Sem.run_bind, Sem.run_pure, Result.andThen_ok, List.map_toArray, List.map_cons, List.map_nil, hs, hx, hr]
  exact h w' F' g2 g3 g4
end
/-- The first elements of a row, when what stands behind them has been written. -/
theorem OwS.cut2 {α : Type} [Inhabited α] {E : Elem α} {hfl : ∀ {S S' : Nat → Prop} {w w' : World} {cs x}, E.rel S w cs x → E.rel S' w' cs x} {T : TypeId} {w w' : World} {l : List α} {B c m n : Nat} {F : List Nat}
    (h : OwS (OFlat E hfl) T w (.slice (some ⟨B, 0, none⟩) n c) l F) (hl : l.length = n) (hc : 0 < c) (hr : RowBut T B (n * E.size) m w w') : OwS (OFlat E hfl) T w' (.slice (some ⟨B, 0, none⟩) n c) l F := by
  subst hl
  rcases h with ⟨_, _, A, hv⟩ | ⟨B', c', C, Fs, hv, hB, h1, h2, h3, hlF, rfl, hnd, hall⟩
  · injection hv with _ _ hh; omega
  · cases hv
    obtain ⟨C0, C', g1, g2, g3, g4⟩ := hr
    rw [hB] at g1
    cases g1
    refine .inr ⟨B, c, C', Fs, rfl, g2, h1, h2, by rw [g3, h3], hlF, rfl, hnd, fun k hk => ?_⟩
    obtain ⟨cs, ho, hc'⟩ := hall k hk
    refine ⟨cs, ⟨hfl ho.1, ho.2⟩, fun i u hi => ?_⟩
    have hil : i < E.size := by have := (List.getElem?_eq_some_iff.1 hi).1; rwa [E.len ho.1] at this
    have hcell := hc' i u hi
    rw [cell_of_row w B _ C T (0, 0) hB] at hcell
    rw [cell_of_row w' B _ C' T (0, 0) g2, g4 _ (.inl (Nat.lt_of_lt_of_le (Nat.add_lt_add_left hil _) (by rw [← Nat.succ_mul]; exact Nat.mul_le_mul_right _ hk)))]
    exact hcell

theorem OwS.flat_blocks {α : Type} [Inhabited α] {E : Elem α} {hfl : ∀ {S S' : Nat → Prop} {w w' : World} {cs x}, E.rel S w cs x → E.rel S' w' cs x} {T : TypeId} {w : World} {l : List α} {B c n : Nat} {F : List Nat}
    (h : OwS (OFlat E hfl) T w (.slice (some ⟨B, 0, none⟩) n c) l F) (hc : 0 < c) : F = [B] := by
  rcases h with ⟨_, _, A, hv⟩ | ⟨B', c', C, Fs, hv, hB, h1, h2, h3, hlF, rfl, hnd, hall⟩
  · injection hv with _ _ hh; omega
  · cases hv
    have : Fs.flatten = [] := List.flatten_eq_nil_iff.2 fun G hG => by
      obtain ⟨i, hi, rfl⟩ := List.getElem_of_mem hG
      obtain ⟨cs, ho, _⟩ := hall i (by omega)
      rw [← nth_eq hi]
      exact ho.2
    rw [this]

end Go.Proofs.YtjiipmkehdiiiaaDoor

namespace Go.Proofs.YtjiipmkehdiiiaaDoor
open Go.RowKit

/-- copy(d, s): n elements of z cells each. -/
theorem run_copy_z {P : Program} (w : World) (dT sT ty elem : TypeId) (z n b o dLen dCap : Nat) (a : Addr) (sLen sCap : Nat) (cs : List Value)
    (hu : P.underlying dT = some (.slice elem)) (hs : (P.info? elem).map (·.size) = some z) (hn : n = Nat.min sLen dLen) (hcl : cs.length = n * z)
    (hsrc : ∀ j v, cs[j]? = some v → w.cell? (a.add j) = some v) (hc : w.there b o cs.length) (h1 : ∀ v ∈ cs, v.oneCell' = true) :
    (Builtin.copy_ #[dT, sT] ty #[.slice (some ⟨b, o, none⟩) dLen dCap, .slice (some a) sLen sCap]).run P w = .ok (goInt n) (w.setCells b o cs) := by
  have hl := run_loadCells_list (P := P) w a cs hsrc
  have hst := run_storeCells_cells (P := P) b o cs 0 w (fun j hj => by rw [Nat.add_zero]; exact (hc j hj).1) (fun j hj => by rw [Nat.add_zero]; exact (hc j hj).2) h1
  cases hq : P.info? elem with
  | none => simp [hq] at hs
  | some i =>
    have hi : i.size = z := by simpa [hq] using hs
    rw [hcl] at hl
    simp only [Nat.add_zero] at hst
    simp [Builtin.copy_, run_underlying hu, Builtin.lenOf, Builtin.firstCells, sizeOf, typeInfo, hq, hi, ← hn, hl, hst]

def rowC : List Span → List Value
  | [] => []
  | x :: l => .int .i64 x.from_ :: .int .i64 x.to_ :: rowC l
theorem rowC_length : ∀ l, (rowC l).length = l.length * 2
  | [] => rfl
  | x :: l => by rw [rowC, List.length_cons, List.length_cons, rowC_length l, List.length_cons]; omega
theorem rowC_append : ∀ a b, rowC (a ++ b) = rowC a ++ rowC b
  | [], b => rfl
  | x :: a, b => by rw [List.cons_append, rowC, rowC_append a b]; rfl
theorem rowC_one : ∀ l, ∀ v ∈ rowC l, v.oneCell' = true
  | [], v, h => by cases h
  | x :: l, v, h => by
    rw [rowC, List.mem_cons, List.mem_cons] at h
    rcases h with rfl | rfl | h
    · rfl
    · rfl
    · exact rowC_one l v h
theorem rowC_get : ∀ (l : List Span) (k j : Nat), k < l.length → j < 2 → (rowC l)[k * 2 + j]? = (cellsSpan (nth l k))[j]?
  | [], k, _, h, _ => absurd h (Nat.not_lt_zero _)
  | x :: l, 0, j, _, hj => by
    rcases j with _ | _ | j
    · rfl
    · rfl
    · omega
  | x :: l, k + 1, j, h, hj => by
    rw [show (k + 1) * 2 + j = (k * 2 + j) + 2 by omega]
    exact rowC_get l k j (by simpa using h) hj
theorem rowC_drop (l : List Span) (k : Nat) : rowC l = rowC (l.take k) ++ rowC (l.drop k) := by
  rw [← rowC_append, List.take_append_drop]

theorem range_append {w : World} {B o : Nat} {a b : List Value} (h1 : w.rangeAt B o a) (h2 : w.rangeAt B (o + a.length) b) : w.rangeAt B o (a ++ b) := by
  intro j u hj
  by_cases hlt : j < a.length
  · rw [List.getElem?_append_left hlt] at hj
    exact h1 j u hj
  · rw [List.getElem?_append_right (by omega)] at hj
    have := h2 _ u hj
    rwa [show o + a.length + (j - a.length) = o + j by omega] at this
theorem range_left {w : World} {B o : Nat} {a b : List Value} (h : w.rangeAt B o (a ++ b)) : w.rangeAt B o a := fun j u hj => h j u (by rw [List.getElem?_append_left (List.getElem?_eq_some_iff.1 hj).1]; exact hj)
theorem range_right {w : World} {B o : Nat} {a b : List Value} (h : w.rangeAt B o (a ++ b)) : w.rangeAt B (o + a.length) b := fun j u hj => by
  have := h (a.length + j) u (by rw [List.getElem?_append_right (by omega), Nat.add_sub_cancel_left]; exact hj)
  rwa [← Nat.add_assoc] at this

variable {T : TypeId} {w w' : World} {v : Value} {l : List Span} {F : List Nat}
/-- A slice of spans with memory of its own: its block, cell by cell. -/
theorem own_row (h : OwS OSpan T w v l F) (hl : 0 < l.length) : ∃ (B c : Nat) (C : Array Value), v = .slice (some ⟨B, 0, none⟩) l.length c ∧ Blk w B T C ∧ C.size = c * 2 ∧ l.length ≤ c ∧ c ≤ maxLen ∧ F = [B] ∧ w.rangeAt B 0 (rowC l) ∧ ∀ x ∈ l, FitSpan x := by
  obtain ⟨A, c0, hv0, hc0, _⟩ := h.form
  obtain ⟨B0, hB0⟩ : ∃ B0, A = some ⟨B0, 0, none⟩ := by
    rcases h with ⟨rfl, _⟩ | ⟨B, _, _, _, hv, _⟩
    · simp at hl
    · rw [hv] at hv0; injection hv0 with e1; exact ⟨B, e1.symm⟩
  subst hB0
  subst hv0
  have hF := OwS.flat_blocks h (by omega)
  rcases h with ⟨rfl, _⟩ | ⟨B, c, C, Fs, hv, hB, h1, h2, h3, hlF, h4, hn, hk⟩
  · simp at hl
  · injection hv with e1 e2 e3
    cases e1
    subst e3
    refine ⟨_, _, C, rfl, hB, h3, h1, h2, hF, fun j u hj => ?_, fun x hx => ?_⟩
    · have hj2 : j < l.length * 2 := by rw [← rowC_length]; exact (List.getElem?_eq_some_iff.1 hj).1
      have hk' : j / 2 < l.length := by omega
      obtain ⟨cs, ho, hc⟩ := hk _ hk'
      obtain ⟨⟨rfl, _⟩, _⟩ := ho
      have e : j = j / 2 * 2 + j % 2 := by omega
      rw [e, rowC_get l _ _ hk' (by omega)] at hj
      have := hc (j % 2) u hj
      rw [Nat.zero_add, e]
      exact this
    · obtain ⟨i, hi, rfl⟩ := List.getElem_of_mem hx
      obtain ⟨cs, ho, _⟩ := hk i hi
      rw [← nth_eq hi]
      exact ho.1.2
/-- .. and back. -/
theorem row_own {B c : Nat} {C : Array Value} (hB : Blk w B T C) (hC : C.size = c * 2) (hr : w.rangeAt B 0 (rowC l)) (hl : l.length ≤ c) (hm : c ≤ maxLen) (hf : ∀ x ∈ l, FitSpan x) : OwS OSpan T w (.slice (some ⟨B, 0, none⟩) l.length c) l [B] := by
  refine .inr ⟨B, c, C, List.replicate l.length [], rfl, hB, hl, hm, hC, by simp, by rw [flat_flatten], by simp, fun k hk => ⟨cellsSpan (nth l k), ⟨⟨rfl, hf _ (nth_mem hk)⟩, flat_list (α := Span) hk⟩, fun j u hj => ?_⟩⟩
  have hj2 : j < 2 := (List.getElem?_eq_some_iff.1 hj).1
  have := hr (k * 2 + j) u (by rw [rowC_get l k j hk hj2]; exact hj)
  rwa [Nat.zero_add] at this
theorem blk_set {B : Nat} {C : Array Value} (h : Blk w B T C) (o : Nat) (vs : List Value) : ∃ C' : Array Value, Blk (w.setCells B o vs) B T C' ∧ C'.size = C.size := setCells_heap vs w o C h
end Go.Proofs.YtjiipmkehdiiiaaDoor

namespace Go.Proofs.YtjiipmkehdiiiaaDoor
open Go.RowKit Go.Lib
attribute [local irreducible] wpQuiet

theorem isSome_set {B o : Nat} {vs : List Value} {w : World} {n : Nat} (h : w.there B 0 n) (ho : o + vs.length ≤ n) : (w.setCells B o vs).there B 0 n := fun j hj => by
  rw [Nat.zero_add]
  exact ⟨isSome_setCells B vs o w (fun t ht => by have := (h (o + t) (by omega)).1; rwa [Nat.zero_add] at this) j (by have := (h j hj).1; rwa [Nat.zero_add] at this), by rw [World.frozen?_setCells]; have := (h j hj).2; rwa [Nat.zero_add] at this⟩
theorem there_at {w : World} {B n o m : Nat} (h : w.there B 0 n) (hm : o + m ≤ n) : w.there B o m := fun j hj => by have := h (o + j) (by omega); rwa [Nat.zero_add] at this

end Go.Proofs.YtjiipmkehdiiiaaDoor

namespace Go.Proofs.YtjiipmkehdiiiaaDoor
open Go.RowKit Go.Lib
attribute [local irreducible] wpQuiet

theorem blk_shape {w : World} {B : Nat} {T : TypeId} {C : Array Value} (h : Blk w B T C) : w.shape? B = some (T, C.size) := by
  unfold Blk at h
  simp [World.shape?, h]
theorem rowC_mid (a : List Span) (x : Span) (d : List Span) : rowC (a ++ x :: d) = rowC a ++ (rowC [x] ++ rowC d) := by
  rw [rowC_append]
  rfl
theorem fit_mid {a d : List Span} {x : Span} (h : ∀ y ∈ a ++ d, FitSpan y) (hx : FitSpan x) : ∀ y ∈ a ++ x :: d, FitSpan y := by
  intro y hy
  rw [List.mem_append, List.mem_cons] at hy
  rcases hy with hy | rfl | hy
  · exact h y (List.mem_append.2 (.inl hy))
  · exact hx
  · exact h y (List.mem_append.2 (.inr hy))

theorem shift_own {a d : List Span} {x : Span} {T : TypeId} {w : World} {B c : Nat} {C : Array Value} (hB : Blk w B T C) (hC : C.size = c * 2) (hr : w.rangeAt B 0 (rowC (a ++ d))) (hroom : (a ++ d).length + 1 ≤ c) (hm : c ≤ maxLen) (hf : ∀ y ∈ a ++ d, FitSpan y) (hx : FitSpan x) :
    OwS OSpan T ((w.drew.setCells B ((a.length + 1) * 2) (rowC d)).setCells B (a.length * 2) (rowC [x])) (.slice (some ⟨B, 0, none⟩) ((a ++ d).length + 1) c) (a ++ x :: d) [B] := by
  have hlen : (a ++ x :: d).length = (a ++ d).length + 1 := by simp; omega
  have hl2 : (a ++ d).length = a.length + d.length := by simp
  have hd : Blk w.drew B T C := hB
  have hth : w.drew.there B 0 (c * 2) := cells_there hd (by rw [hC]; omega)
  obtain ⟨C1, h1, s1⟩ := blk_set hd ((a.length + 1) * 2) (rowC d)
  obtain ⟨C2, h2, s2⟩ := blk_set h1 (a.length * 2) (rowC [x])
  have hx2 : (rowC [x]).length = 2 := rfl
  rw [← hlen]
  refine row_own h2 (by rw [s2, s1, hC]) ?_ (by rw [hlen]; exact hroom) hm (fit_mid hf hx)
  rw [rowC_mid]
  rw [rowC_append] at hr
  have hr' : w.drew.rangeAt B 0 (rowC a ++ rowC d) := hr
  have ra := World.rangeAt_setCells_apart (World.rangeAt_setCells_apart (range_left hr') B ((a.length + 1) * 2) (rowC d) (.inr (.inl (by rw [rowC_length]; omega)))) B (a.length * 2) (rowC [x]) (.inr (.inl (by rw [rowC_length]; omega)))
  have rd := World.rangeAt_setCells_apart (World.rangeAt_setCells_same w.drew B ((a.length + 1) * 2) (rowC d) (there_at hth (by rw [rowC_length]; omega))) B (a.length * 2) (rowC [x]) (.inr (.inr (by rw [hx2]; omega)))
  have rx := World.rangeAt_setCells_same (w.drew.setCells B ((a.length + 1) * 2) (rowC d)) B (a.length * 2) (rowC [x]) (there_at (isSome_set hth (by rw [rowC_length]; omega)) (by rw [hx2]; omega))
  refine range_append ra ?_
  rw [rowC_length, Nat.zero_add]
  refine range_append rx ?_
  rw [hx2, show a.length * 2 + 2 = (a.length + 1) * 2 by omega]
  exact rd

theorem grow_own {a d : List Span} {x : Span} {T : TypeId} {w : World} {G : Nat} {ROW : Array Value} (hG : (a ++ d).length + 1 ≤ G) (hm : G ≤ maxLen) (hR : ROW.size = G * 2) (hRt : ∀ (j : Nat) (v : Value), (rowC a)[j]? = some v → ROW[j]? = some v) (hf : ∀ y ∈ a ++ d, FitSpan y) (hx : FitSpan x) :
    OwS OSpan T ((((w.alloc (.cells ROW T)).drew.setCells w.heap.size (a.length * 2) (rowC [x])).drew).setCells w.heap.size ((a.length + 1) * 2) (rowC d)) (.slice (some ⟨w.heap.size, 0, none⟩) ((a ++ d).length + 1) G) (a ++ x :: d) [w.heap.size] := by
  have hlen : (a ++ x :: d).length = (a ++ d).length + 1 := by simp; omega
  have hl2 : (a ++ d).length = a.length + d.length := by simp
  have h0 : Blk (w.alloc (.cells ROW T)).drew w.heap.size T ROW := Blk.new w T ROW
  have hth : (w.alloc (.cells ROW T)).drew.there w.heap.size 0 (G * 2) := cells_there h0 (by rw [hR]; omega)
  obtain ⟨C1, h1, s1⟩ := blk_set h0 (a.length * 2) (rowC [x])
  have h1' : Blk ((w.alloc (.cells ROW T)).drew.setCells w.heap.size (a.length * 2) (rowC [x])).drew w.heap.size T C1 := h1
  obtain ⟨C2, h2, s2⟩ := blk_set h1' ((a.length + 1) * 2) (rowC d)
  have hx2 : (rowC [x]).length = 2 := rfl
  rw [← hlen]
  refine row_own h2 (by rw [s2, s1, hR]) ?_ (by rw [hlen]; exact hG) hm (fit_mid hf hx)
  rw [rowC_mid]
  have r0 : (w.alloc (.cells ROW T)).drew.rangeAt w.heap.size 0 (rowC a) := fun j v hj => by rw [Nat.zero_add, h0.cell]; exact hRt j v hj
  have ra0 : ((w.alloc (.cells ROW T)).drew.setCells w.heap.size (a.length * 2) (rowC [x])).drew.rangeAt w.heap.size 0 (rowC a) := World.rangeAt_setCells_apart r0 w.heap.size (a.length * 2) (rowC [x]) (.inr (.inl (by rw [rowC_length]; omega)))
  have rx0 : ((w.alloc (.cells ROW T)).drew.setCells w.heap.size (a.length * 2) (rowC [x])).drew.rangeAt w.heap.size (a.length * 2) (rowC [x]) := World.rangeAt_setCells_same (w.alloc (.cells ROW T)).drew w.heap.size (a.length * 2) (rowC [x]) (there_at hth (by rw [hx2]; omega))
  have hth1 : ((w.alloc (.cells ROW T)).drew.setCells w.heap.size (a.length * 2) (rowC [x])).drew.there w.heap.size 0 (G * 2) := isSome_set hth (by rw [hx2]; omega)
  have ra := World.rangeAt_setCells_apart ra0 w.heap.size ((a.length + 1) * 2) (rowC d) (.inr (.inl (by rw [rowC_length]; omega)))
  have rx := World.rangeAt_setCells_apart rx0 w.heap.size ((a.length + 1) * 2) (rowC d) (.inr (.inl (by rw [hx2]; omega)))
  have rd := World.rangeAt_setCells_same ((w.alloc (.cells ROW T)).drew.setCells w.heap.size (a.length * 2) (rowC [x])).drew w.heap.size ((a.length + 1) * 2) (rowC d) (there_at hth1 (by rw [rowC_length]; omega))
  refine range_append ra ?_
  rw [rowC_length, Nat.zero_add]
  refine range_append rx ?_
  rw [hx2, show a.length * 2 + 2 = (a.length + 1) * 2 by omega]
  exact rd

end Go.Proofs.YtjiipmkehdiiiaaDoor

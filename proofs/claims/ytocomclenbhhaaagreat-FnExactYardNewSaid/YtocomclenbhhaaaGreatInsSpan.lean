/- Rows of spans in memory, cell by cell; copy of elements of several cells. slices.Insert of spans: the cells that it writes. slices.Insert of one span into a slice that has its memory for itself. -/
import Derived.Test.YtocomclenbhhaaaGreatDelete
import Derived.Test.YtocomclenbhhaaaGreatGOwn
import Derived.Test.YtocomclenbhhaaaGreatShelf
import Derived.Shelf.Spec.SlicesInsertGrow
namespace Go.Proofs.YtocomclenbhhaaaGreat
open Go.RowKit

/-- copy(d, s): n elements of z cells each. -/
theorem run_copy_z {P : Program} (w : World) (dT sT ty elem : TypeId) (z n b o dLen dCap : Nat) (a : Addr) (sLen sCap : Nat) (cs : List Value)
    (hu : P.underlying dT = some (.slice elem)) (hs : (P.info? elem).map (·.size) = some z) (hn : n = Nat.min sLen dLen) (hcl : cs.length = n * z)
    (hsrc : ∀ j v, cs[j]? = some v → w.cell? (a.add j) = some v) (hc : w.there b o cs.length) (h1 : ∀ v ∈ cs, v.oneCell' = true) :
    (Builtin.copy_ #[dT, sT] ty #[.slice (some ⟨b, o, none⟩) dLen dCap, .slice (some a) sLen sCap]).run P w = .ok (goInt n) (w.setCells b o cs) := by
  have hl := run_loadCells_list (P := P) w a cs hsrc
  have hst := run_storeCells_cells (P := P) b o cs 0 w (fun j hj => by rw [Nat.add_zero]; exact (hc j hj).1) (fun j hj => by rw [Nat.add_zero]; exact (hc j hj).2) h1
  cases hq : P.info? elem with
  | none => simp [hq] at hs
  | some i =>
    have hi : i.size = z := by simpa [hq] using hs
    rw [hcl] at hl
    simp only [Nat.add_zero] at hst
    simp [Builtin.copy_, run_underlying hu, Builtin.lenOf, Builtin.firstCells, sizeOf, typeInfo, hq, hi, ← hn, hl, hst]

def rowC : List Span → List Value
  | [] => []
  | x :: l => .int .i64 x.from_ :: .int .i64 x.to_ :: rowC l
theorem rowC_length : ∀ l, (rowC l).length = l.length * 2
  | [] => rfl
  | x :: l => by rw [rowC, List.length_cons, List.length_cons, rowC_length l, List.length_cons]; omega
theorem rowC_append : ∀ a b, rowC (a ++ b) = rowC a ++ rowC b
  | [], b => rfl
  | x :: a, b => by rw [List.cons_append, rowC, rowC_append a b]; rfl
theorem rowC_one : ∀ l, ∀ v ∈ rowC l, v.oneCell' = true
  | [], v, h => by cases h
  | x :: l, v, h => by
    rw [rowC, List.mem_cons, List.mem_cons] at h
    rcases h with rfl | rfl | h
    · rfl
    · rfl
    · exact rowC_one l v h
theorem rowC_get : ∀ (l : List Span) (k j : Nat), k < l.length → j < 2 → (rowC l)[k * 2 + j]? = (cellsSpan (nth l k))[j]?
  | [], k, _, h, _ => absurd h (Nat.not_lt_zero _)
  | x :: l, 0, j, _, hj => by
    rcases j with _ | _ | j
    · rfl
    · rfl
    · omega
  | x :: l, k + 1, j, h, hj => by
    rw [show (k + 1) * 2 + j = (k * 2 + j) + 2 by omega]
    exact rowC_get l k j (by simpa using h) hj
theorem rowC_drop (l : List Span) (k : Nat) : rowC l = rowC (l.take k) ++ rowC (l.drop k) := by
  rw [← rowC_append, List.take_append_drop]

theorem range_append {w : World} {B o : Nat} {a b : List Value} (h1 : w.rangeAt B o a) (h2 : w.rangeAt B (o + a.length) b) : w.rangeAt B o (a ++ b) := by
  intro j u hj
  by_cases hlt : j < a.length
  · rw [List.getElem?_append_left hlt] at hj
    exact h1 j u hj
  · rw [List.getElem?_append_right (by omega)] at hj
    have := h2 _ u hj
    rwa [show o + a.length + (j - a.length) = o + j by omega] at this
theorem range_left {w : World} {B o : Nat} {a b : List Value} (h : w.rangeAt B o (a ++ b)) : w.rangeAt B o a := fun j u hj => h j u (by rw [List.getElem?_append_left (List.getElem?_eq_some_iff.1 hj).1]; exact hj)
theorem range_right {w : World} {B o : Nat} {a b : List Value} (h : w.rangeAt B o (a ++ b)) : w.rangeAt B (o + a.length) b := fun j u hj => by
  have := h (a.length + j) u (by rw [List.getElem?_append_right (by omega), Nat.add_sub_cancel_left]; exact hj)
  rwa [← Nat.add_assoc] at this

variable {T : TypeId} {w w' : World} {v : Value} {l : List Span} {F : List Nat}
/-- A slice of spans with memory of its own: its block, cell by cell. -/
theorem own_row (h : OwS OSpan T w v l F) (hl : 0 < l.length) : ∃ (B c : Nat) (C : Array Value), v = .slice (some ⟨B, 0, none⟩) l.length c ∧ Blk w B T C ∧ C.size = c * 2 ∧ l.length ≤ c ∧ c ≤ maxLen ∧ F = [B] ∧ w.rangeAt B 0 (rowC l) ∧ ∀ x ∈ l, FitSpan x := by
  obtain ⟨A, c0, hv0, hc0, _⟩ := h.form
  obtain ⟨B0, hB0⟩ : ∃ B0, A = some ⟨B0, 0, none⟩ := by
    rcases h with ⟨rfl, _⟩ | ⟨B, _, _, _, hv, _⟩
    · simp at hl
    · rw [hv] at hv0; injection hv0 with e1; exact ⟨B, e1.symm⟩
  subst hB0
  subst hv0
  have hF := OwS.flat_blocks h (by omega)
  rcases h with ⟨rfl, _⟩ | ⟨B, c, C, Fs, hv, hB, h1, h2, h3, hlF, h4, hn, hk⟩
  · simp at hl
  · injection hv with e1 e2 e3
    cases e1
    subst e3
    refine ⟨_, _, C, rfl, hB, h3, h1, h2, hF, fun j u hj => ?_, fun x hx => ?_⟩
    · have hj2 : j < l.length * 2 := by rw [← rowC_length]; exact (List.getElem?_eq_some_iff.1 hj).1
      have hk' : j / 2 < l.length := by omega
      obtain ⟨cs, ho, hc⟩ := hk _ hk'
      obtain ⟨⟨rfl, _⟩, _⟩ := ho
      have e : j = j / 2 * 2 + j % 2 := by omega
      rw [e, rowC_get l _ _ hk' (by omega)] at hj
      have := hc (j % 2) u hj
      rw [Nat.zero_add, e]
      exact this
    · obtain ⟨i, hi, rfl⟩ := List.getElem_of_mem hx
      obtain ⟨cs, ho, _⟩ := hk i hi
      rw [← nth_eq hi]
      exact ho.1.2
/-- .. and back. -/
theorem row_own {B c : Nat} {C : Array Value} (hB : Blk w B T C) (hC : C.size = c * 2) (hr : w.rangeAt B 0 (rowC l)) (hl : l.length ≤ c) (hm : c ≤ maxLen) (hf : ∀ x ∈ l, FitSpan x) : OwS OSpan T w (.slice (some ⟨B, 0, none⟩) l.length c) l [B] := by
  refine .inr ⟨B, c, C, List.replicate l.length [], rfl, hB, hl, hm, hC, by simp, by rw [flat_flatten], by simp, fun k hk => ⟨cellsSpan (nth l k), ⟨⟨rfl, hf _ (nth_mem hk)⟩, flat_list (α := Span) hk⟩, fun j u hj => ?_⟩⟩
  have hj2 : j < 2 := (List.getElem?_eq_some_iff.1 hj).1
  have := hr (k * 2 + j) u (by rw [rowC_get l k j hk hj2]; exact hj)
  rwa [Nat.zero_add] at this
theorem blk_set {B : Nat} {C : Array Value} (h : Blk w B T C) (o : Nat) (vs : List Value) : ∃ C' : Array Value, Blk (w.setCells B o vs) B T C' ∧ C'.size = C.size := setCells_heap vs w o C h
end Go.Proofs.YtocomclenbhhaaaGreat

namespace Go.Proofs.YtocomclenbhhaaaGreat
open Go.RowKit Go.Lib
attribute [local irreducible] wpQuiet

theorem isSome_set {B o : Nat} {vs : List Value} {w : World} {n : Nat} (h : w.there B 0 n) (ho : o + vs.length ≤ n) : (w.setCells B o vs).there B 0 n := fun j hj => by
  rw [Nat.zero_add]
  exact ⟨isSome_setCells B vs o w (fun t ht => by have := (h (o + t) (by omega)).1; rwa [Nat.zero_add] at this) j (by have := (h j hj).1; rwa [Nat.zero_add] at this), by rw [World.frozen?_setCells]; have := (h j hj).2; rwa [Nat.zero_add] at this⟩
theorem there_at {w : World} {B n o m : Nat} (h : w.there B 0 n) (hm : o + m ≤ n) : w.there B o m := fun j hj => by have := h (o + j) (by omega); rwa [Nat.zero_add] at this

end Go.Proofs.YtocomclenbhhaaaGreat

namespace Go.Proofs.YtocomclenbhhaaaGreat
open Go.RowKit Go.Lib
attribute [local irreducible] wpQuiet

theorem blk_shape {w : World} {B : Nat} {T : TypeId} {C : Array Value} (h : Blk w B T C) : w.shape? B = some (T, C.size) := by
  unfold Blk at h
  simp [World.shape?, h]
theorem rowC_mid (a : List Span) (x : Span) (d : List Span) : rowC (a ++ x :: d) = rowC a ++ (rowC [x] ++ rowC d) := by
  rw [rowC_append]
  rfl
theorem fit_mid {a d : List Span} {x : Span} (h : ∀ y ∈ a ++ d, FitSpan y) (hx : FitSpan x) : ∀ y ∈ a ++ x :: d, FitSpan y := by
  intro y hy
  rw [List.mem_append, List.mem_cons] at hy
  rcases hy with hy | rfl | hy
  · exact h y (List.mem_append.2 (.inl hy))
  · exact hx
  · exact h y (List.mem_append.2 (.inr hy))

theorem shift_own {a d : List Span} {x : Span} {T : TypeId} {w : World} {B c : Nat} {C : Array Value} (hB : Blk w B T C) (hC : C.size = c * 2) (hr : w.rangeAt B 0 (rowC (a ++ d))) (hroom : (a ++ d).length + 1 ≤ c) (hm : c ≤ maxLen) (hf : ∀ y ∈ a ++ d, FitSpan y) (hx : FitSpan x) :
    OwS OSpan T ((w.drew.setCells B ((a.length + 1) * 2) (rowC d)).setCells B (a.length * 2) (rowC [x])) (.slice (some ⟨B, 0, none⟩) ((a ++ d).length + 1) c) (a ++ x :: d) [B] := by
  have hlen : (a ++ x :: d).length = (a ++ d).length + 1 := by simp; omega
  have hl2 : (a ++ d).length = a.length + d.length := by simp
  have hd : Blk w.drew B T C := hB
  have hth : w.drew.there B 0 (c * 2) := cells_there hd (by rw [hC]; omega)
  obtain ⟨C1, h1, s1⟩ := blk_set hd ((a.length + 1) * 2) (rowC d)
  obtain ⟨C2, h2, s2⟩ := blk_set h1 (a.length * 2) (rowC [x])
  have hx2 : (rowC [x]).length = 2 := rfl
  rw [← hlen]
  refine row_own h2 (by rw [s2, s1, hC]) ?_ (by rw [hlen]; exact hroom) hm (fit_mid hf hx)
  rw [rowC_mid]
  rw [rowC_append] at hr
  have hr' : w.drew.rangeAt B 0 (rowC a ++ rowC d) := hr
  have ra := World.rangeAt_setCells_apart (World.rangeAt_setCells_apart (range_left hr') B ((a.length + 1) * 2) (rowC d) (.inr (.inl (by rw [rowC_length]; omega)))) B (a.length * 2) (rowC [x]) (.inr (.inl (by rw [rowC_length]; omega)))
  have rd := World.rangeAt_setCells_apart (World.rangeAt_setCells_same w.drew B ((a.length + 1) * 2) (rowC d) (there_at hth (by rw [rowC_length]; omega))) B (a.length * 2) (rowC [x]) (.inr (.inr (by rw [hx2]; omega)))
  have rx := World.rangeAt_setCells_same (w.drew.setCells B ((a.length + 1) * 2) (rowC d)) B (a.length * 2) (rowC [x]) (there_at (isSome_set hth (by rw [rowC_length]; omega)) (by rw [hx2]; omega))
  refine range_append ra ?_
  rw [rowC_length, Nat.zero_add]
  refine range_append rx ?_
  rw [hx2, show a.length * 2 + 2 = (a.length + 1) * 2 by omega]
  exact rd

theorem grow_own {a d : List Span} {x : Span} {T : TypeId} {w : World} {G : Nat} {ROW : Array Value} (hG : (a ++ d).length + 1 ≤ G) (hm : G ≤ maxLen) (hR : ROW.size = G * 2) (hRt : ∀ (j : Nat) (v : Value), (rowC a)[j]? = some v → ROW[j]? = some v) (hf : ∀ y ∈ a ++ d, FitSpan y) (hx : FitSpan x) :
    OwS OSpan T ((((w.alloc (.cells ROW T)).drew.setCells w.heap.size (a.length * 2) (rowC [x])).drew).setCells w.heap.size ((a.length + 1) * 2) (rowC d)) (.slice (some ⟨w.heap.size, 0, none⟩) ((a ++ d).length + 1) G) (a ++ x :: d) [w.heap.size] := by
  have hlen : (a ++ x :: d).length = (a ++ d).length + 1 := by simp; omega
  have hl2 : (a ++ d).length = a.length + d.length := by simp
  have h0 : Blk (w.alloc (.cells ROW T)).drew w.heap.size T ROW := Blk.new w T ROW
  have hth : (w.alloc (.cells ROW T)).drew.there w.heap.size 0 (G * 2) := cells_there h0 (by rw [hR]; omega)
  obtain ⟨C1, h1, s1⟩ := blk_set h0 (a.length * 2) (rowC [x])
  have h1' : Blk ((w.alloc (.cells ROW T)).drew.setCells w.heap.size (a.length * 2) (rowC [x])).drew w.heap.size T C1 := h1
  obtain ⟨C2, h2, s2⟩ := blk_set h1' ((a.length + 1) * 2) (rowC d)
  have hx2 : (rowC [x]).length = 2 := rfl
  rw [← hlen]
  refine row_own h2 (by rw [s2, s1, hR]) ?_ (by rw [hlen]; exact hG) hm (fit_mid hf hx)
  rw [rowC_mid]
  have r0 : (w.alloc (.cells ROW T)).drew.rangeAt w.heap.size 0 (rowC a) := fun j v hj => by rw [Nat.zero_add, h0.cell]; exact hRt j v hj
  have ra0 : ((w.alloc (.cells ROW T)).drew.setCells w.heap.size (a.length * 2) (rowC [x])).drew.rangeAt w.heap.size 0 (rowC a) := World.rangeAt_setCells_apart r0 w.heap.size (a.length * 2) (rowC [x]) (.inr (.inl (by rw [rowC_length]; omega)))
  have rx0 : ((w.alloc (.cells ROW T)).drew.setCells w.heap.size (a.length * 2) (rowC [x])).drew.rangeAt w.heap.size (a.length * 2) (rowC [x]) := World.rangeAt_setCells_same (w.alloc (.cells ROW T)).drew w.heap.size (a.length * 2) (rowC [x]) (there_at hth (by rw [hx2]; omega))
  have hth1 : ((w.alloc (.cells ROW T)).drew.setCells w.heap.size (a.length * 2) (rowC [x])).drew.there w.heap.size 0 (G * 2) := isSome_set hth (by rw [hx2]; omega)
  have ra := World.rangeAt_setCells_apart ra0 w.heap.size ((a.length + 1) * 2) (rowC d) (.inr (.inl (by rw [rowC_length]; omega)))
  have rx := World.rangeAt_setCells_apart rx0 w.heap.size ((a.length + 1) * 2) (rowC d) (.inr (.inl (by rw [hx2]; omega)))
  have rd := World.rangeAt_setCells_same ((w.alloc (.cells ROW T)).drew.setCells w.heap.size (a.length * 2) (rowC [x])).drew w.heap.size ((a.length + 1) * 2) (rowC d) (there_at hth1 (by rw [rowC_length]; omega))
  refine range_append ra ?_
  rw [rowC_length, Nat.zero_add]
  refine range_append rx ?_
  rw [hx2, show a.length * 2 + 2 = (a.length + 1) * 2 by omega]
  exact rd

def RetIns (l : List Span) (F : List Nat) (w : World) (e : Ending) (w' : World) : Prop := ∃ v' F', e = .returned v' ∧ OwS OSpan 117 w' v' l F' ∧ Kept F w w' ∧ ∀ b ∈ F', b ∈ F ∨ w.heap.size ≤ b

end Go.Proofs.YtocomclenbhhaaaGreat

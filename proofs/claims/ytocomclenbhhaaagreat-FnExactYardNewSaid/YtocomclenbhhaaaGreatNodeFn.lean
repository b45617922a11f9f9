/- Small functions on nodes. -/
import Derived.Test.YtocomclenbhhaaaGreatNodesP
namespace Go.Proofs.YtocomclenbhhaaaGreat
open Go.RowKit
attribute [local irreducible] wpQuiet

theorem isNode_nat {l : List Node} {n : Int} (h : isNode l n = true) : ∃ d : Nat, n = (d : Int) ∧ d < l.length := by
  have := isB_true h
  exact ⟨n.toNat, by omega, by omega⟩
theorem fit_state {st : Int} {x : Node} (h : stateOk st = true) : FitNode { x with state := st } := by
  have := isB_true h
  unfold FitNode I64
  simp only
  omega
theorem range_back {w : World} {B o : Nat} {a b b' : List Value} (h : w.rangeAt B o (a ++ b)) (ht : w.there B (o + a.length) b'.length) : (w.setCells B (o + a.length) b').rangeAt B o (a ++ b') := by
  intro j u hj
  by_cases hlt : j < a.length
  · rw [World.cell?_setCells_out B b' (o + a.length) w ⟨B, o + j, none⟩ (fun _ _ => by simp only; omega)]
    rw [List.getElem?_append_left hlt] at hj
    exact h j u (by rw [List.getElem?_append_left hlt]; exact hj)
  · rw [List.getElem?_append_right (by omega)] at hj
    have := World.rangeAt_setCells_same w B (o + a.length) b' ht (j - a.length) u hj
    rwa [show o + a.length + (j - a.length) = o + j by omega] at this
theorem there_ext {w w' : World} {B o n : Nat} (h : w.there B o n) (hx : Ext w w') (hB : B < w.heap.size) : w'.there B o n := fun j hj => by
  rw [hx.cells B (o + j) hB, hx.frozens B (o + j) hB]
  exact h j hj
theorem there_sub {w : World} {B o n m : Nat} {i : Nat} (h : w.there B o n) (hi : i + m ≤ n) : w.there B (o + i) m := fun j hj => by
  have := h (i + j) (by omega)
  rwa [← Nat.add_assoc] at this
theorem blk_lt_of {T : TypeId} {B o n : Nat} {w w' : World} (h : RowBut T B o n w w') : B < w.heap.size := by
  obtain ⟨_, _, g, _⟩ := h
  exact blk_lt g

end Go.Proofs.YtocomclenbhhaaaGreat

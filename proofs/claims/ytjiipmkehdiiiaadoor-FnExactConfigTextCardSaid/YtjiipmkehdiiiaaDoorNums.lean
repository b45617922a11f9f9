/- The walks over lists of node numbers: nodesRight and l04Nodes. -/
import Derived.Test.YtjiipmkehdiiiaaDoorSmall
namespace Go.Proofs.YtjiipmkehdiiiaaDoor
open Go.RowKit
attribute [local irreducible] wpQuiet

/-- What is asked of node number i. -/
def numAt (l : List Int) (i : Nat) : Bool := isB (nth l i) 0 5 && (decide (i = 0) || decide (nth l (i - 1) < nth l i))
def numsOk (l : List Int) : Bool := (List.range l.length).all (numAt l)
theorem numsOk_false {l : List Int} {i : Nat} (hi : i < l.length) (h : numAt l i = false) : numsOk l = false := by
  unfold numsOk
  rw [List.all_eq_false]
  exact ⟨i, List.mem_range.2 hi, by simp [h]⟩
theorem numsOk_of {l : List Int} (h : ∀ i, i < l.length → numAt l i = true) : numsOk l = true := List.all_eq_true.2 fun i hi => h i (List.mem_range.1 hi)
theorem numAt_zero {l : List Int} : numAt l 0 = isB (nth l 0) 0 5 := by simp [numAt]
theorem numAt_succ {l : List Int} {m : Nat} : numAt l (m + 1) = (isB (nth l (m + 1)) 0 5 && decide (nth l m < nth l (m + 1))) := by simp [numAt]
theorem numAt_bad {l : List Int} {k : Nat} (h : isB (nth l k) 0 5 = false) : numAt l k = false := by simp [numAt, h]

theorem Rd.ints {S : Nat → Prop} {w : World} {v : Value} {l : List Int} (h : Rd EInt S w v l) :
    ∃ A c, v = .slice A l.length c ∧ l.length ≤ c ∧ c ≤ maxLen ∧ ∀ k, k < l.length → ∃ b o, A = some ⟨b, o, none⟩ ∧ w.cell? ⟨b, o + k, none⟩ = some (.int .i64 (nth l k)) := by
  obtain ⟨A, c, hv, h1, h2, hk⟩ := h.open_
  refine ⟨A, c, hv, h1, h2, fun k hlt => ?_⟩
  obtain ⟨b, o, cs, hA, _, ⟨rfl, _⟩, hc⟩ := hk k hlt
  have h0 := hc 0 _ rfl
  simp only [EInt, Nat.mul_one, Nat.add_zero] at h0
  exact ⟨b, o, hA, h0⟩

end Go.Proofs.YtjiipmkehdiiiaaDoor

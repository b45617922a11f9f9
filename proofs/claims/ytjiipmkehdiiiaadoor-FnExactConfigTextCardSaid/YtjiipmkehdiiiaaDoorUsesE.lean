/- The walk of spec.UsesRight. -/
import Derived.Test.YtjiipmkehdiiiaaDoorUsesC
namespace Go.Proofs.YtjiipmkehdiiiaaDoor
open Go.RowKit
attribute [local irreducible] wpQuiet

/-- How many elements up to here have the last one's label. -/
def sameAt (l : List Use) : Nat → Nat
  | 0 => 0
  | m + 1 => ownersOf (l.take (m + 1)) (nth l m).label
theorem same_more {l : List Use} {m : Nat} (hm : m + 1 < l.length) (he : (nth l m).label = (nth l (m + 1)).label) : sameAt l (m + 2) = sameAt l (m + 1) + 1 := by
  show ownersOf (l.take (m + 1 + 1)) (nth l (m + 1)).label = ownersOf (l.take (m + 1)) (nth l m).label + 1
  rw [ownersOf_succ hm, if_pos rfl, he]
theorem same_new {l : List Use} {m : Nat} (hm : m + 1 < l.length) (h0 : ownersOf (l.take (m + 1)) (nth l (m + 1)).label = 0) : sameAt l (m + 2) = 1 := by
  show ownersOf (l.take (m + 1 + 1)) (nth l (m + 1)).label = 1
  rw [ownersOf_succ hm, if_pos rfl, h0]
theorem same_one {l : List Use} (hm : 0 < l.length) : sameAt l 1 = 1 := by
  show ownersOf (l.take (0 + 1)) (nth l 0).label = 1
  rw [ownersOf_succ hm, if_pos rfl]
  simp [ownersOf]

end Go.Proofs.YtjiipmkehdiiiaaDoor

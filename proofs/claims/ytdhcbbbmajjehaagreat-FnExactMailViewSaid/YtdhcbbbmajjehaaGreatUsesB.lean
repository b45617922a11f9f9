/- The walk of ownersOf. -/
import Derived.Test.YtdhcbbbmajjehaaGreatUses
namespace Go.Proofs.YtdhcbbbmajjehaaGreat
open Go.RowKit
attribute [local irreducible] wpQuiet

def ownersOf (l : List Use) (a : Label) : Nat := l.countP fun x => decide (x.label = a)
theorem ownersOf_succ {l : List Use} {a : Label} {k : Nat} (hk : k < l.length) : ownersOf (l.take (k + 1)) a = ownersOf (l.take k) a + if (nth l k).label = a then 1 else 0 := by
  have h : l.take (k + 1) = l.take k ++ [nth l k] := by
    rw [List.take_succ_eq_append_getElem hk, nth_eq hk]
  rw [h]
  simp [ownersOf, List.countP_append, List.countP_cons]
theorem ownersOf_le (l : List Use) (a : Label) : ownersOf l a ≤ l.length := List.countP_le_length

end Go.Proofs.YtdhcbbbmajjehaaGreat

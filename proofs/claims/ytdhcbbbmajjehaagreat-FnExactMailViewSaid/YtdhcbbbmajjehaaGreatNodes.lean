/- The walks of NodesRight, the program's and the reference's: both answer nodesRight. -/
import Derived.Test.YtdhcbbbmajjehaaGreatSpansB
import Derived.Test.YtdhcbbbmajjehaaGreatSmall
namespace Go.Proofs.YtdhcbbbmajjehaaGreat
open Go.RowKit
attribute [local irreducible] wpQuiet

def stateOk (n : Int) : Bool := isB n 1 3
def nodeOk (x : Node) : Bool := stateOk x.state && (decide (x.books.length ≤ 4) && spansRight x.books)
def nodesRight (l : List Node) : Bool := isB (l.length : Int) 1 6 && l.all nodeOk
def nodeBad (x : Node) : Bool := !nodeOk x

theorem any_nodeBad (l : List Node) : (!l.any nodeBad) = l.all nodeOk := by
  rw [List.not_any_eq_all_not]
  simp [nodeBad]

end Go.Proofs.YtdhcbbbmajjehaaGreat

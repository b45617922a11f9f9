/- Copies of nodes, with reservations of their own. Printed by wip/nodec.py. -/
import Derived.Test.YtdhcbbbmajjehaaGreatClones
import Derived.Test.YtdhcbbbmajjehaaGreatNodesP
import Derived.Deep.RegionHeld3
namespace Go.Proofs.YtdhcbbbmajjehaaGreat
open Go.RowKit
attribute [local irreducible] wpQuiet

end Go.Proofs.YtdhcbbbmajjehaaGreat

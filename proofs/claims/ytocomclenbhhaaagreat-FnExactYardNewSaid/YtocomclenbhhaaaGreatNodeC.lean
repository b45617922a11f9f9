/- Copies of nodes, with reservations of their own. Printed by wip/nodec.py. -/
import Derived.Test.YtocomclenbhhaaaGreatClones
import Derived.Test.YtocomclenbhhaaaGreatNodesP
import Derived.Deep.RegionHeld3
namespace Go.Proofs.YtocomclenbhhaaaGreat
open Go.RowKit
attribute [local irreducible] wpQuiet

end Go.Proofs.YtocomclenbhhaaaGreat

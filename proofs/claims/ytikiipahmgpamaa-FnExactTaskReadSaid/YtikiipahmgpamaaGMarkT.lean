/- The walk of mark.. for tasks. Printed by wip/gen2.py. -/
import Derived.Test.YtikiipahmgpamaaGMark
namespace Go.Proofs.Ytikiipahmgpamaa
open Go.RowKit
attribute [local irreducible] wpQuiet

end Go.Proofs.Ytikiipahmgpamaa

/- The walk of impl.UsesRight. -/
import Derived.Test.YtdhcbbbmajjehaaGreatUsesC
namespace Go.Proofs.YtdhcbbbmajjehaaGreat
open Go.RowKit
attribute [local irreducible] wpQuiet

end Go.Proofs.YtdhcbbbmajjehaaGreat

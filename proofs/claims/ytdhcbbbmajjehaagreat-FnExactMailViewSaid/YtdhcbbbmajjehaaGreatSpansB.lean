/- The walk of impl.SpansRight. -/
import Derived.Test.YtdhcbbbmajjehaaGreatSpansA
namespace Go.Proofs.YtdhcbbbmajjehaaGreat
open Go.RowKit
attribute [local irreducible] wpQuiet

end Go.Proofs.YtdhcbbbmajjehaaGreat

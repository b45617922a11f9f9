/- slices.Clone at the types that lead to no memory. -/
import Derived.Test.YtdhcbbbmajjehaaGreatGOwn
import Derived.Test.YtdhcbbbmajjehaaGreatRows
import Derived.Lib.LazyBuf
namespace Go.Proofs.YtdhcbbbmajjehaaGreat
open Go.RowKit
attribute [local irreducible] wpQuiet

end Go.Proofs.YtdhcbbbmajjehaaGreat

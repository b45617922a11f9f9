/- slices.Clone at the types that lead to no memory. -/
import Derived.Test.YtocomclenbhhaaaGreatGOwn
import Derived.Test.YtocomclenbhhaaaGreatRows
import Derived.Lib.LazyBuf
namespace Go.Proofs.YtocomclenbhhaaaGreat
open Go.RowKit
attribute [local irreducible] wpQuiet

end Go.Proofs.YtocomclenbhhaaaGreat

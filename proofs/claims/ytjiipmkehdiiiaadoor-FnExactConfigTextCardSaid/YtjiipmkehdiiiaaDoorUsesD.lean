/- The walk of impl.UsesRight. -/
import Derived.Test.YtjiipmkehdiiiaaDoorUsesC
namespace Go.Proofs.YtjiipmkehdiiiaaDoor
open Go.RowKit
attribute [local irreducible] wpQuiet

end Go.Proofs.YtjiipmkehdiiiaaDoor

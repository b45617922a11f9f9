/- The closures that withNodes is called with; YardUnbook and YardBook of the program. Printed by wip/yardui.py. -/
import Derived.Test.YtngldifgcgblpaaGreatYardTs
import Derived.Test.YtngldifgcgblpaaGreatYardLb
import Derived.Test.YtngldifgcgblpaaGreatNodeC
import Derived.Test.YtngldifgcgblpaaGreatPut
import Derived.Deep.RegionLaw
import Derived.Test.YtngldifgcgblpaaGreatCounts
import Derived.Test.YtngldifgcgblpaaGreatInsSpan
namespace Go.Proofs.YtngldifgcgblpaaGreat
open Go.RowKit
attribute [local irreducible] wpQuiet
theorem caps_two (v a b : Value) : (#[v] ++ #[a, b] : Array Value) = #[v, a, b] := rfl
end Go.Proofs.YtngldifgcgblpaaGreat

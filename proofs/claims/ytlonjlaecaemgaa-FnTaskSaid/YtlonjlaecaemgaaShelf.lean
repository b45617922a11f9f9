/- The contracts of the library functions that this seat calls: none is wanted. -/
import Derived.Shelf.Lay
import Derived.Shelf.LaySoft
import Derived.Test.YtlonjlaecaemgaaProg
namespace Go.Proofs
end Go.Proofs

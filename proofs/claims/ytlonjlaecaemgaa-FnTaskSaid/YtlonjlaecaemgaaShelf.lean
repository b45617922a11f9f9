/- The contracts of the library functions that this seat calls, laid by the kit's own tool. -/
import Derived.Shelf.Lay
import Derived.Shelf.LaySoft

import Derived.Test.YtlonjlaecaemgaaProg
namespace Go.Proofs
open Go.Shelf
shelf_tried
end Go.Proofs

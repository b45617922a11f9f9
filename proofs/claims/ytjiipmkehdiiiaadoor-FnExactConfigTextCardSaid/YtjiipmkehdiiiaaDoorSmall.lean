/- The walks of the small functions that only compute. -/
import Derived.Test.YtjiipmkehdiiiaaDoorRows
import Derived.Test.YtjiipmkehdiiiaaDoorGElems
import Derived.Test.YtjiipmkehdiiiaaDoorLib
namespace Go.Proofs.YtjiipmkehdiiiaaDoor
open Go.RowKit
attribute [local irreducible] wpQuiet

theorem l02Is_any (n a b : Int) (w : World) :
    Calls Tryd.prog 26 #[.int .i64 n, .int .i64 a, .int .i64 b] w fun e w' => e = .returned (.bool (isB n a b)) ∧ w = w' := by
  go_enter Tryd.func26, Tryd.ntmps26
  go_wp2
  all_goals (go_ret; exact ⟨by simp [isB]; try omega, rfl⟩)
theorem within_any (n a b : Int) (w : World) :
    Calls Tryd.prog 35 #[.int .i64 n, .int .i64 a, .int .i64 b] w fun e w' => e = .returned (.bool (isB n a b)) ∧ w = w' := by
  go_enter Tryd.func35, Tryd.ntmps35
  go_wp2
  all_goals (go_ret; exact ⟨by simp [isB]; try omega, rfl⟩)
end Go.Proofs.YtjiipmkehdiiiaaDoor

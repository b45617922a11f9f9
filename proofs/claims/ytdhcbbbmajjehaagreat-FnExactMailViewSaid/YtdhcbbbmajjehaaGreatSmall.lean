/- The walks of the small functions that only compute. -/
import Derived.Test.YtdhcbbbmajjehaaGreatRows
import Derived.Test.YtdhcbbbmajjehaaGreatGElems
import Derived.Test.YtdhcbbbmajjehaaGreatDat
namespace Go.Proofs.YtdhcbbbmajjehaaGreat
open Go.RowKit
attribute [local irreducible] wpQuiet

theorem l02Is_any (n a b : Int) (w : World) :
    Calls Tryz.prog 37 #[.int .i64 n, .int .i64 a, .int .i64 b] w fun e w' => e = .returned (.bool (isB n a b)) ∧ w = w' := by
  go_enter Tryz.func37, Tryz.ntmps37
  go_wp2
  all_goals (go_ret; exact ⟨by simp [isB]; try omega, rfl⟩)
theorem within_any (n a b : Int) (w : World) :
    Calls Tryz.prog 45 #[.int .i64 n, .int .i64 a, .int .i64 b] w fun e w' => e = .returned (.bool (isB n a b)) ∧ w = w' := by
  go_enter Tryz.func45, Tryz.ntmps45
  go_wp2
  all_goals (go_ret; exact ⟨by simp [isB]; try omega, rfl⟩)
end Go.Proofs.YtdhcbbbmajjehaaGreat

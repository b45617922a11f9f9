/- The walks of the small functions that only compute. -/
import Derived.Test.YtdhcbbbmajjehaaRows
import Derived.Test.YtdhcbbbmajjehaaGElems
import Derived.Test.YtdhcbbbmajjehaaDat
namespace Go.Proofs.Ytdhcbbbmajjehaa
open Go.RowKit
attribute [local irreducible] wpQuiet

theorem l02Is_any (n a b : Int) (w : World) :
    Calls Try.prog 89 #[.int .i64 n, .int .i64 a, .int .i64 b] w fun e w' => e = .returned (.bool (isB n a b)) ∧ w = w' := by
  go_enter Try.func89, Try.ntmps89
  go_wp2
  all_goals (go_ret; exact ⟨by simp [isB]; try omega, rfl⟩)
theorem within_any (n a b : Int) (w : World) :
    Calls Try.prog 84 #[.int .i64 n, .int .i64 a, .int .i64 b] w fun e w' => e = .returned (.bool (isB n a b)) ∧ w = w' := by
  go_enter Try.func84, Try.ntmps84
  go_wp2
  all_goals (go_ret; exact ⟨by simp [isB]; try omega, rfl⟩)
theorem l02Time_any (n : Int) (w : World) :
    Calls Try.prog 136 #[.int .i64 n] w fun e w' => e = .returned (.bool (timeOk n)) ∧ w = w' := by
  go_enter Try.func136, Try.ntmps136
  go_wp2_with (go_at_call 89; refine (l02Is_any _ _ _ _).mono ?_; rintro e w' ⟨rfl, rfl⟩)
  go_ret
  exact ⟨rfl, rfl⟩
theorem isTime_any (n : Int) (w : World) :
    Calls Try.prog 133 #[.int .i64 n] w fun e w' => e = .returned (.bool (timeOk n)) ∧ w = w' := by
  go_enter Try.func133, Try.ntmps133
  go_wp2_with (go_at_call 84; refine (within_any _ _ _ _).mono ?_; rintro e w' ⟨rfl, rfl⟩)
  go_ret
  exact ⟨rfl, rfl⟩

end Go.Proofs.Ytdhcbbbmajjehaa

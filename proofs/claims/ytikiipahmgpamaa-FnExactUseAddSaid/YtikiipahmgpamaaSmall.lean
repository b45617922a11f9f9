/- The walks of the small functions that only compute. -/
import Derived.Test.YtikiipahmgpamaaRows
import Derived.Test.YtikiipahmgpamaaGElems
import Derived.Test.YtikiipahmgpamaaDat
namespace Go.Proofs.Ytikiipahmgpamaa
open Go.RowKit
attribute [local irreducible] wpQuiet

theorem l02Is_any (n a b : Int) (w : World) :
    Calls Try.prog 90 #[.int .i64 n, .int .i64 a, .int .i64 b] w fun e w' => e = .returned (.bool (isB n a b)) ∧ w = w' := by
  go_enter Try.func90, Try.ntmps90
  go_wp2
  all_goals (go_ret; exact ⟨by simp [isB]; try omega, rfl⟩)
theorem within_any (n a b : Int) (w : World) :
    Calls Try.prog 103 #[.int .i64 n, .int .i64 a, .int .i64 b] w fun e w' => e = .returned (.bool (isB n a b)) ∧ w = w' := by
  go_enter Try.func103, Try.ntmps103
  go_wp2
  all_goals (go_ret; exact ⟨by simp [isB]; try omega, rfl⟩)
theorem l02Time_any (n : Int) (w : World) :
    Calls Try.prog 141 #[.int .i64 n] w fun e w' => e = .returned (.bool (timeOk n)) ∧ w = w' := by
  go_enter Try.func141, Try.ntmps141
  go_wp2_with (go_at_call 90; refine (l02Is_any _ _ _ _).mono ?_; rintro e w' ⟨rfl, rfl⟩)
  go_ret
  exact ⟨rfl, rfl⟩
theorem isTime_any (n : Int) (w : World) :
    Calls Try.prog 138 #[.int .i64 n] w fun e w' => e = .returned (.bool (timeOk n)) ∧ w = w' := by
  go_enter Try.func138, Try.ntmps138
  go_wp2_with (go_at_call 103; refine (within_any _ _ _ _).mono ?_; rintro e w' ⟨rfl, rfl⟩)
  go_ret
  exact ⟨rfl, rfl⟩

end Go.Proofs.Ytikiipahmgpamaa

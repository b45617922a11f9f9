/- The walks of the small functions that only compute. -/
import Derived.Test.YtiphkblffpdcgaaRows
import Derived.Test.YtiphkblffpdcgaaGElems
import Derived.Test.YtiphkblffpdcgaaDat
namespace Go.Proofs.Ytiphkblffpdcgaa
open Go.RowKit
attribute [local irreducible] wpQuiet

theorem l02Is_any (n a b : Int) (w : World) :
    Calls Try.prog 92 #[.int .i64 n, .int .i64 a, .int .i64 b] w fun e w' => e = .returned (.bool (isB n a b)) ∧ w = w' := by
  go_enter Try.func92, Try.ntmps92
  go_wp2
  all_goals (go_ret; exact ⟨by simp [isB]; try omega, rfl⟩)
theorem within_any (n a b : Int) (w : World) :
    Calls Try.prog 107 #[.int .i64 n, .int .i64 a, .int .i64 b] w fun e w' => e = .returned (.bool (isB n a b)) ∧ w = w' := by
  go_enter Try.func107, Try.ntmps107
  go_wp2
  all_goals (go_ret; exact ⟨by simp [isB]; try omega, rfl⟩)
theorem l02Time_any (n : Int) (w : World) :
    Calls Try.prog 154 #[.int .i64 n] w fun e w' => e = .returned (.bool (timeOk n)) ∧ w = w' := by
  go_enter Try.func154, Try.ntmps154
  go_wp2_with (go_at_call 92; refine (l02Is_any _ _ _ _).mono ?_; rintro e w' ⟨rfl, rfl⟩)
  go_ret
  exact ⟨rfl, rfl⟩
theorem isTime_any (n : Int) (w : World) :
    Calls Try.prog 159 #[.int .i64 n] w fun e w' => e = .returned (.bool (timeOk n)) ∧ w = w' := by
  go_enter Try.func159, Try.ntmps159
  go_wp2_with (go_at_call 107; refine (within_any _ _ _ _).mono ?_; rintro e w' ⟨rfl, rfl⟩)
  go_ret
  exact ⟨rfl, rfl⟩

end Go.Proofs.Ytiphkblffpdcgaa

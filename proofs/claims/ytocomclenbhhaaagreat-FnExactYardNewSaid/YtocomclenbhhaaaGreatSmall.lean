/- The walks of the small functions that only compute. -/
import Derived.Test.YtocomclenbhhaaaGreatRows
import Derived.Test.YtocomclenbhhaaaGreatGElems
import Derived.Test.YtocomclenbhhaaaGreatDat
namespace Go.Proofs.YtocomclenbhhaaaGreat
open Go.RowKit
attribute [local irreducible] wpQuiet

theorem l02Is_any (n a b : Int) (w : World) :
    Calls Tryz.prog 88 #[.int .i64 n, .int .i64 a, .int .i64 b] w fun e w' => e = .returned (.bool (isB n a b)) ∧ w = w' := by
  go_enter Tryz.func88, Tryz.ntmps88
  go_wp2
  all_goals (go_ret; exact ⟨by simp [isB]; try omega, rfl⟩)
theorem within_any (n a b : Int) (w : World) :
    Calls Tryz.prog 95 #[.int .i64 n, .int .i64 a, .int .i64 b] w fun e w' => e = .returned (.bool (isB n a b)) ∧ w = w' := by
  go_enter Tryz.func95, Tryz.ntmps95
  go_wp2
  all_goals (go_ret; exact ⟨by simp [isB]; try omega, rfl⟩)
theorem l02Time_any (n : Int) (w : World) :
    Calls Tryz.prog 179 #[.int .i64 n] w fun e w' => e = .returned (.bool (timeOk n)) ∧ w = w' := by
  go_enter Tryz.func179, Tryz.ntmps179
  go_wp2_with (go_at_call 88; refine (l02Is_any _ _ _ _).mono ?_; rintro e w' ⟨rfl, rfl⟩)
  go_ret
  exact ⟨rfl, rfl⟩
theorem isTime_any (n : Int) (w : World) :
    Calls Tryz.prog 187 #[.int .i64 n] w fun e w' => e = .returned (.bool (timeOk n)) ∧ w = w' := by
  go_enter Tryz.func187, Tryz.ntmps187
  go_wp2_with (go_at_call 95; refine (within_any _ _ _ _).mono ?_; rintro e w' ⟨rfl, rfl⟩)
  go_ret
  exact ⟨rfl, rfl⟩

end Go.Proofs.YtocomclenbhhaaaGreat

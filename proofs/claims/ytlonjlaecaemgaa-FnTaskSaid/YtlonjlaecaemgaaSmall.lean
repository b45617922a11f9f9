/- The walks of the small functions that only compute. -/
import Derived.Test.YtlonjlaecaemgaaRows
import Derived.Test.YtlonjlaecaemgaaGElems
import Derived.Test.YtlonjlaecaemgaaLib
namespace Go.Proofs.Ytlonjlaecaemgaa
open Go.RowKit
attribute [local irreducible] wpQuiet
theorem l02Is_any (n a b:Int) (w:World) :
 Calls Try.prog 32 #[.int .i64 n,.int .i64 a,.int .i64 b] w fun e w'=>e=.returned (.bool (isB n a b))∧w=w':=by
 go_enter Try.func32,Try.ntmps32
 go_wp2
 all_goals (go_ret;exact ⟨by simp [isB];try omega,rfl⟩)
theorem within_any (n a b:Int) (w:World) :
 Calls Try.prog 37 #[.int .i64 n,.int .i64 a,.int .i64 b] w fun e w'=>e=.returned (.bool (isB n a b))∧w=w':=by
 go_enter Try.func37,Try.ntmps37
 go_wp2
 all_goals (go_ret;exact ⟨by simp [isB];try omega,rfl⟩)
theorem l02Time_any (n:Int) (w:World) :
 Calls Try.prog 49 #[.int .i64 n] w fun e w'=>e=.returned (.bool (timeOk n))∧w=w':=by
 go_enter Try.func49,Try.ntmps49
 go_wp2_with (go_at_call 32;refine (l02Is_any _ _ _ _).mono ?_;rintro e w' ⟨rfl,rfl⟩)
 go_ret
 exact ⟨rfl,rfl⟩
theorem isTime_any (n:Int) (w:World) :
 Calls Try.prog 43 #[.int .i64 n] w fun e w'=>e=.returned (.bool (timeOk n))∧w=w':=by
 go_enter Try.func43,Try.ntmps43
 go_wp2_with (go_at_call 37;refine (within_any _ _ _ _).mono ?_;rintro e w' ⟨rfl,rfl⟩)
 go_ret
 exact ⟨rfl,rfl⟩
end Go.Proofs.Ytlonjlaecaemgaa

/- The walks of LabelRight, isWork, isNow and WishRight, the program's and the reference's. -/
import Derived.Test.YtocomclenbhhaaaGreatNames
namespace Go.Proofs.YtocomclenbhhaaaGreat
open Go.RowKit
attribute [local irreducible] wpQuiet

def labelRight (a : Label) : Bool := isB a.level 0 3 && isB a.set 0 7
def isWorkB (need long prio : Int) : Bool := isB need 1 6 && isB long 1 20 && isB prio 0 9
def nowOk (n : Int) : Bool := isB n 0 999900
def wishRight (x : Wish) : Bool :=
  nameRight x.owner && isWorkB x.need x.long x.prio && isB x.count 1 4 && (if x.after = 0 then decide (x.under = ⟨0, 0⟩) else isB x.after 1 12 && labelRight x.under)

theorem specLabelRight_any {S : Nat → Prop} (x : Label) (cs : List Value) (w : World) (h : ELabel.rel S w cs x) :
    Calls Tryz.prog 75 #[.agg cs.toArray] w fun e w' => e = .returned (.bool (labelRight x)) ∧ Ext w w' := by
  obtain ⟨rfl, hi⟩ := h
  clear hi
  simp only [cellsLabel]
  go_enter Tryz.func75, Tryz.ntmps75
  go_wp2_with (go_at_call 88; refine (l02Is_any _ _ _ _).mono ?_; rintro e w' ⟨rfl, rfl⟩)
  all_goals (go_ret; exact ⟨ret_bool (by simp_all [labelRight]), (Ext.refl _).alloc _⟩)
theorem labelRight_any {S : Nat → Prop} (x : Label) (cs : List Value) (w : World) (h : ELabel.rel S w cs x) :
    Calls Tryz.prog 80 #[.agg cs.toArray] w fun e w' => e = .returned (.bool (labelRight x)) ∧ Ext w w' := by
  obtain ⟨rfl, hi⟩ := h
  clear hi
  simp only [cellsLabel]
  go_enter Tryz.func80, Tryz.ntmps80
  go_wp2_with (go_at_call 95; refine (within_any _ _ _ _).mono ?_; rintro e w' ⟨rfl, rfl⟩)
  all_goals (go_ret; exact ⟨ret_bool (by simp_all [labelRight]), (Ext.refl _).alloc _⟩)
theorem isWork_any (a b c : Int) (w : World) :
    Calls Tryz.prog 185 #[.int .i64 a, .int .i64 b, .int .i64 c] w fun e w' => e = .returned (.bool (isWorkB a b c)) ∧ w = w' := by
  go_enter Tryz.func185, Tryz.ntmps185
  go_wp2_with (go_at_call 95; refine (within_any _ _ _ _).mono ?_; rintro e w' ⟨rfl, rfl⟩)
  all_goals (go_ret; exact ⟨ret_bool (by simp_all [isWorkB]), rfl⟩)
theorem l03Now_any (n : Int) (w : World) :
    Calls Tryz.prog 47 #[.int .i64 n] w fun e w' => e = .returned (.bool (nowOk n)) ∧ w = w' := by
  go_enter Tryz.func47, Tryz.ntmps47
  go_wp2_with (go_at_call 88; refine (l02Is_any _ _ _ _).mono ?_; rintro e w' ⟨rfl, rfl⟩)
  go_ret
  exact ⟨rfl, rfl⟩
theorem isNow_any (n : Int) (w : World) :
    Calls Tryz.prog 62 #[.int .i64 n] w fun e w' => e = .returned (.bool (nowOk n)) ∧ w = w' := by
  go_enter Tryz.func62, Tryz.ntmps62
  go_wp2_with (go_at_call 95; refine (within_any _ _ _ _).mono ?_; rintro e w' ⟨rfl, rfl⟩)
  go_ret
  exact ⟨rfl, rfl⟩

end Go.Proofs.YtocomclenbhhaaaGreat

/- The walks of LabelRight, isWork, isNow and WishRight, the program's and the reference's. -/
import Derived.Test.YtfbbbnalbficbaaNames
namespace Go.Proofs.Ytfbbbnalbficbaa
open Go.RowKit
attribute [local irreducible] wpQuiet

def labelRight (a : Label) : Bool := isB a.level 0 3 && isB a.set 0 7
def isWorkB (need long prio : Int) : Bool := isB need 1 6 && isB long 1 20 && isB prio 0 9
def nowOk (n : Int) : Bool := isB n 0 999900
def wishRight (x : Wish) : Bool :=
  nameRight x.owner && isWorkB x.need x.long x.prio && isB x.count 1 4 && (if x.after = 0 then decide (x.under = ⟨0, 0⟩) else isB x.after 1 12 && labelRight x.under)

theorem specLabelRight_any {S : Nat → Prop} (x : Label) (cs : List Value) (w : World) (h : ELabel.rel S w cs x) :
    Calls Try.prog 65 #[.agg cs.toArray] w fun e w' => e = .returned (.bool (labelRight x)) ∧ Ext w w' := by
  obtain ⟨rfl, hi⟩ := h
  clear hi
  simp only [cellsLabel]
  go_enter Try.func65, Try.ntmps65
  go_wp2_with (go_at_call 55; refine (l02Is_any _ _ _ _).mono ?_; rintro e w' ⟨rfl, rfl⟩)
  all_goals (go_ret; exact ⟨ret_bool (by simp_all [labelRight]), (Ext.refl _).alloc _⟩)
theorem labelRight_any {S : Nat → Prop} (x : Label) (cs : List Value) (w : World) (h : ELabel.rel S w cs x) :
    Calls Try.prog 68 #[.agg cs.toArray] w fun e w' => e = .returned (.bool (labelRight x)) ∧ Ext w w' := by
  obtain ⟨rfl, hi⟩ := h
  clear hi
  simp only [cellsLabel]
  go_enter Try.func68, Try.ntmps68
  go_wp2_with (go_at_call 58; refine (within_any _ _ _ _).mono ?_; rintro e w' ⟨rfl, rfl⟩)
  all_goals (go_ret; exact ⟨ret_bool (by simp_all [labelRight]), (Ext.refl _).alloc _⟩)
theorem isWork_any (a b c : Int) (w : World) :
    Calls Try.prog 67 #[.int .i64 a, .int .i64 b, .int .i64 c] w fun e w' => e = .returned (.bool (isWorkB a b c)) ∧ w = w' := by
  go_enter Try.func67, Try.ntmps67
  go_wp2_with (go_at_call 58; refine (within_any _ _ _ _).mono ?_; rintro e w' ⟨rfl, rfl⟩)
  all_goals (go_ret; exact ⟨ret_bool (by simp_all [isWorkB]), rfl⟩)
theorem l03Now_any (n : Int) (w : World) :
    Calls Try.prog 88 #[.int .i64 n] w fun e w' => e = .returned (.bool (nowOk n)) ∧ w = w' := by
  go_enter Try.func88, Try.ntmps88
  go_wp2_with (go_at_call 55; refine (l02Is_any _ _ _ _).mono ?_; rintro e w' ⟨rfl, rfl⟩)
  go_ret
  exact ⟨rfl, rfl⟩
theorem isNow_any (n : Int) (w : World) :
    Calls Try.prog 92 #[.int .i64 n] w fun e w' => e = .returned (.bool (nowOk n)) ∧ w = w' := by
  go_enter Try.func92, Try.ntmps92
  go_wp2_with (go_at_call 58; refine (within_any _ _ _ _).mono ?_; rintro e w' ⟨rfl, rfl⟩)
  go_ret
  exact ⟨rfl, rfl⟩

set_option maxHeartbeats 4000000 in
theorem wishRight_any {S : Nat → Prop} (x : Wish) (cs : List Value) (w : World) (h : EWish.rel S w cs x) :
    Calls Try.prog 21 #[.agg cs.toArray] w fun e w' => e = .returned (.bool (wishRight x)) ∧ Ext w w' := by
  obtain ⟨rfl, hi⟩ := h
  have hs : Str x.owner := by simp only [FitWish] at hi; simp only [hi]
  have HS := Lib.hid hs
  have HI := Lib.hid hi
  clear hi hs
  simp only [cellsWish]
  go_enter Try.func21, Try.ntmps21
  go_wp2_with (first | (go_at_call 58; refine (within_any _ _ _ _).mono ?_; rintro e w' ⟨rfl, rfl⟩) | (go_at_call 67; refine (isWork_any _ _ _ _).mono ?_; rintro e w' ⟨rfl, rfl⟩) | (go_at_call 66; refine (nameRight_any _ _ HS.out).mono ?_; rintro e w' ⟨rfl, rfl⟩) | (go_at_call 68; (with_reducible refine (labelRight_any (S := S) x.under [.int .i64 x.under.level, .int .i64 x.under.set] _ (rel_Label (by have hf := HI.out; simp only [FitWish] at hf; simp only [FitLabel, hf, and_self]))).mono ?_); rintro e w1 ⟨rfl, hx1⟩))
  all_goals (go_ret; exact ⟨ret_bool (by go_light; simp_all [wishRight, Label.ext_iff]), by first | exact (Ext.refl _).alloc _ | exact ((Ext.refl _).alloc _).trans hx1⟩)

set_option maxHeartbeats 4000000 in
theorem specWishRight_any {S : Nat → Prop} (x : Wish) (cs : List Value) (w : World) (h : EWish.rel S w cs x) :
    Calls Try.prog 19 #[.agg cs.toArray] w fun e w' => e = .returned (.bool (wishRight x)) ∧ Ext w w' := by
  obtain ⟨rfl, hi⟩ := h
  have hs : Str x.owner := by simp only [FitWish] at hi; simp only [hi]
  have HS := Lib.hid hs
  have HI := Lib.hid hi
  clear hi hs
  simp only [cellsWish]
  go_enter Try.func19, Try.ntmps19
  go_wp2_with (first | (go_at_call 55; refine (l02Is_any _ _ _ _).mono ?_; rintro e w' ⟨rfl, rfl⟩) | (go_at_call 64; refine (specNameRight_any _ _ HS.out).mono ?_; rintro e w' ⟨rfl, rfl⟩) | (go_at_call 65; (with_reducible refine (specLabelRight_any (S := S) x.under [.int .i64 x.under.level, .int .i64 x.under.set] _ (rel_Label (by have hf := HI.out; simp only [FitWish] at hf; simp only [FitLabel, hf, and_self]))).mono ?_); rintro e w1 ⟨rfl, hx1⟩))
  all_goals (go_ret; exact ⟨ret_bool (by go_light; simp_all [wishRight, isWorkB, Label.ext_iff]), by first | exact (Ext.refl _).alloc _ | exact ((Ext.refl _).alloc _).trans hx1⟩)
end Go.Proofs.Ytfbbbnalbficbaa

/- The walks of the rank functions; the law that they are equal. -/
import Derived.Test.YtfbbbnalbficbaaRows
import Derived.Test.YtfbbbnalbficbaaGElems
import Derived.Test.YtfbbbnalbficbaaSmall
import Derived.Test.YtfbbbnalbficbaaLaw
import Derived.ProofKit
namespace Go.Proofs.Ytfbbbnalbficbaa
open Go.ChangeShapes Go.WideShapes Go.ChangeAt Go.RowKit
attribute [local irreducible] wpQuiet

def rankOf (p a u : Int) : Int := if isB p 0 9 && timeOk a && timeOk u then 100 * p + min a 50 - min u 90 else 0
theorem timeOk_true {n : Int} (h : timeOk n = true) : 0 ≤ n ∧ n ≤ 1000000 := isB_true h

theorem l01Min_any (a b : Int) (w : World) :
    Calls Try.prog 57 #[.int .i64 a, .int .i64 b] w fun e w' => e = .returned (.int .i64 (min a b)) ∧ w = w' := by
  go_enter Try.func57, Try.ntmps57
  go_wp2
  all_goals (go_ret; exact ⟨ret_int (by omega), rfl⟩)

theorem specRank_any (p a u : Int) (w : World) :
    Calls Try.prog 15 #[.int .i64 p, .int .i64 a, .int .i64 u] w fun e w' => e = .returned (.int .i64 (rankOf p a u)) ∧ w = w' := by
  by_cases hp : isB p 0 9 = true <;> by_cases ha : timeOk a = true <;> by_cases hu : timeOk u = true
  · have h1 := isB_true hp
    have h2 := timeOk_true ha
    have h3 := timeOk_true hu
    go_enter Try.func15, Try.ntmps15
    go_wp2_with (first | (go_at_call 55; refine (l02Is_any _ _ _ _).mono ?_; rintro e w' ⟨rfl, rfl⟩) | (go_at_call 56; refine (l02Time_any _ _).mono ?_; rintro e w' ⟨rfl, rfl⟩) | (go_at_call 57; refine (l01Min_any _ _ _).mono ?_; rintro e w' ⟨rfl, rfl⟩))
    go_ret
    exact ⟨ret_int (by simp [rankOf, hp, ha, hu]), rfl⟩
  all_goals
    simp only [Bool.not_eq_true] at *
    go_enter Try.func15, Try.ntmps15
    go_wp2_with (first | (go_at_call 55; refine (l02Is_any _ _ _ _).mono ?_; rintro e w' ⟨rfl, rfl⟩) | (go_at_call 56; refine (l02Time_any _ _).mono ?_; rintro e w' ⟨rfl, rfl⟩) | (go_at_call 57; refine (l01Min_any _ _ _).mono ?_; rintro e w' ⟨rfl, rfl⟩))
    go_ret
    exact ⟨ret_int (by simp [rankOf, *]), rfl⟩

theorem rank_any (p a u : Int) (w : World) :
    Calls Try.prog 16 #[.int .i64 p, .int .i64 a, .int .i64 u] w fun e w' => e = .returned (.int .i64 (rankOf p a u)) ∧ w = w' := by
  by_cases hp : isB p 0 9 = true <;> by_cases ha : timeOk a = true <;> by_cases hu : timeOk u = true
  · have h1 := isB_true hp
    have h2 := timeOk_true ha
    have h3 := timeOk_true hu
    go_enter Try.func16, Try.ntmps16
    go_wp2_with (first | (go_at_call 58; refine (within_any _ _ _ _).mono ?_; rintro e w' ⟨rfl, rfl⟩) | (go_at_call 59; refine (isTime_any _ _).mono ?_; rintro e w' ⟨rfl, rfl⟩))
    all_goals (go_ret; exact ⟨ret_int (by simp [rankOf, hp, ha, hu]; try omega), rfl⟩)
  all_goals
    simp only [Bool.not_eq_true] at *
    go_enter Try.func16, Try.ntmps16
    go_wp2_with (first | (go_at_call 58; refine (within_any _ _ _ _).mono ?_; rintro e w' ⟨rfl, rfl⟩) | (go_at_call 59; refine (isTime_any _ _).mono ?_; rintro e w' ⟨rfl, rfl⟩))
    go_ret
    exact ⟨ret_int (by simp [rankOf, *]), rfl⟩

theorem fnExactRank_walk (p a u : Int) (w : World) :
    Calls Try.prog 3 #[.int .i64 p, .int .i64 a, .int .i64 u] w fun e w' => e = .returned (.bool true) ∧ Ext w w' := by
  go_enter Try.func3, Try.ntmps3
  go_wp2_with (first | (go_at_call 15; refine (specRank_any _ _ _ _).mono ?_; rintro e w' ⟨rfl, rfl⟩) | (go_at_call 16; refine (rank_any _ _ _ _).mono ?_; rintro e w' ⟨rfl, rfl⟩))
  go_ret
  exact ⟨rfl, Ext.refl _⟩

set_option maxRecDepth 100000 in
theorem fnExactRank_lifted (os : Os) (started : os.Started) (H : Type) (enc : TypeId × Value → H) :
    ReturnsInHanded {} Try.checked os 3 .any (Rows.fnExactRankSpec.pre6 enc Try.prog Try.f3 Rows.fnExactRankRow.domain false) (Rows.fnExactRankSpec.post enc Try.prog Try.f3 false true false false) := by
  refine returnsInHanded_of_change (C := Try.checked) (show ownKnob Try.prog.godebug = none by kernel_rfl) started (by kernel_rfl) Try.func3
    (ChangeSpec.witness6 (enc := enc) (C := Try.checked) false ⟨#[], #[.int .i64 0, .int .i64 0, .int .i64 0], []⟩ 8 (by kernel_rfl) (by kernel_rfl) (by kernel_rfl) (by kernel_rfl)) ?_
  intro W base args ds gs before hval0 hW hcnd _
  have hval : ∀ (j : Nat) t v, Try.f3.params[j]? = some t → args[j]? = some v → Value.okWide Try.prog W .any base t v := hval0
  have hW' := hW
  obtain ⟨p, q, hA0, hV, rfl, hfz, hnd⟩ := hW
  have hA : DataW.TrodAll enc Try.prog W 0 (fun _ => true) true Try.f3.params.toList args.toList ds p := hA0
  rw [Try.params3] at hA hval
  obtain ⟨v0, v1, v2, d0, d1, d2, p0, p1, p2, rfl, rfl, rfl, h0, h1, h2⟩ := trodAll_three hA
  obtain ⟨rfl, rfl⟩ := trodVars_none hV
  obtain ⟨p1, rfl, rfl, rfl, wp1⟩ := open_int Try.underlying2 (hval 0 2 v0 rfl rfl) h0
  have ip1 := i64_of_wf wp1
  obtain ⟨a1, rfl, rfl, rfl, wa1⟩ := open_int Try.underlying2 (hval 1 2 v1 rfl rfl) h1
  have ia1 := i64_of_wf wa1
  obtain ⟨u1, rfl, rfl, rfl, wu1⟩ := open_int Try.underlying2 (hval 2 2 v2 rfl rfl) h2
  have iu1 := i64_of_wf wu1
  clear hA0 hval0 hval hcnd
  refine (fnExactRank_walk p1 a1 u1 W).mono fun e W2 ⟨he, hx⟩ => ?_
  subst he
  exact ⟨_, rfl, law_post (by kernel_rfl) (by kernel_rfl) Try.underlying4 (by intro t ht; rw [Try.params3] at ht; simp only [List.mem_cons, List.not_mem_nil, or_false] at ht; rcases ht with rfl | rfl | rfl <;> exact ⟨by kernel_rfl, of_decide_eq_true (by kernel_rfl)⟩) rfl rfl hW' hx⟩

theorem fnExactRank_holds : Rows.FnExactRankSaid :=
  OpenClaim.holds_of_wide 3 Try.f3 rfl rfl rfl rfl rfl rfl rfl ⟨rfl, rfl, rfl, rfl, rfl⟩ rfl rfl rfl rfl rfl (by kernel_rfl) Try.func3 (by kernel_rfl)
    (of_decide_eq_true (by kernel_rfl)) (by unfold Func.isWrapper; rw [if_neg (of_decide_eq_false (by kernel_rfl))]; exact ⟨rfl, rfl⟩)
    (fun os started H enc _ => fnExactRank_lifted os started H enc)
end Go.Proofs.Ytfbbbnalbficbaa

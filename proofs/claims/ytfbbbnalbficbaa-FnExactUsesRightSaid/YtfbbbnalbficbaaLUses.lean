/- The law FnExactUsesRight: the program's UsesRight and the reference's are equal; its row. -/
import Derived.Test.YtfbbbnalbficbaaUsesE
import Derived.Test.YtfbbbnalbficbaaUsesD
import Derived.Test.YtfbbbnalbficbaaGTo
import Derived.Test.YtfbbbnalbficbaaGEq
import Derived.Test.YtfbbbnalbficbaaGSz
import Derived.Test.YtfbbbnalbficbaaGOpen
namespace Go.Proofs.Ytfbbbnalbficbaa
open Go.ChangeShapes Go.WideShapes Go.ChangeAt Go.RowKit
attribute [local irreducible] wpQuiet

set_option maxHeartbeats 4000000 in
theorem fnExactUsesRight_walk {S : Nat → Prop} (l : List Use) (v : Value) (w : World) (h : Rd EUse S w v l) :
    Calls Try.prog 8 #[v] w fun e w' => e = .returned (.bool true) ∧ Ext w w' := by
  have HR := Lib.hid h
  obtain ⟨A, c, rfl, h1, h2⟩ := h.form
  unfold maxLen at h2
  clear h
  by_cases hs : szUseS l 1048576 < 0
  · go_enter Try.func8, Try.ntmps8
    go_wp2_with (go_at_call 31; refine (szUseS_any l _ 1048576 _ HR.out (by decide) (by decide)).mono ?_; rintro e w1 ⟨rfl, hx1⟩; have HX1 := Lib.hid hx1; clear hx1)
    go_ret
    exact ⟨rfl, HX1.out⟩
  · have hs' : 0 ≤ szUseS l 1048576 := by omega
    have HS := Lib.hid (small_szUseS (by decide) (by decide) hs')
    clear hs
    go_enter Try.func8, Try.ntmps8
    go_wp2_with fail
    refine (szUseS_any l _ 1048576 _ HR.out (by decide) (by decide)).mono ?_
    rintro e w1 ⟨rfl, hx⟩
    have X1 := Lib.hid hx
    clear hx
    go_wp2_with fail
    refine (toUseS_any l _ _ (HR.out.ext X1.out) HS.out).mono ?_
    rintro e w2 ⟨v2, rfl, hr, hx⟩
    have X2 := Lib.hid (X1.out.trans hx)
    have R2 := Lib.hid hr
    clear hx hr
    go_wp2_with fail
    refine (specUsesRight_any l _ _ R2.out).mono ?_
    rintro e w3 ⟨rfl, hx⟩
    have X3 := Lib.hid (X2.out.trans hx)
    clear hx
    go_wp2_with fail
    refine (toUseS_any l _ _ (HR.out.ext X3.out) HS.out).mono ?_
    rintro e w4 ⟨v4, rfl, hr, hx⟩
    have X4 := Lib.hid (X3.out.trans hx)
    have R4 := Lib.hid hr
    clear hx hr
    go_wp2_with fail
    refine (usesRight_any l _ _ R4.out).mono ?_
    rintro e w5 ⟨rfl, hx⟩
    have X5 := Lib.hid (X4.out.trans hx)
    have R5 := Lib.hid (R4.out.ext hx)
    clear hx
    go_wp2_with fail
    refine (toUseS_any l _ _ (HR.out.ext X5.out) HS.out).mono ?_
    rintro e w6 ⟨v6, rfl, hr, hx⟩
    have X6 := Lib.hid (X5.out.trans hx)
    have R6 := Lib.hid hr
    have R7 := Lib.hid (R5.out.ext hx)
    clear hx hr
    go_wp2_with fail
    refine (eqUseS_any l l _ _ _ R7.out R6.out).mono ?_
    rintro e w7 ⟨rfl, hx⟩
    have X7 := Lib.hid (X6.out.trans hx)
    clear hx
    go_wp2_with fail
    go_ret
    exact ⟨rfl, X7.out⟩

set_option maxRecDepth 100000 in
theorem fnExactUsesRight_lifted (os : Os) (started : os.Started) (H : Type) (enc : TypeId × Value → H) :
    ReturnsInHanded {} Try.checked os 8 .any (Rows.fnExactUsesRightSpec.pre6 enc Try.prog Try.f8 Rows.fnExactUsesRightRow.domain false) (Rows.fnExactUsesRightSpec.post enc Try.prog Try.f8 false true false false) := by
  refine returnsInHanded_of_change (C := Try.checked) (show ownKnob Try.prog.godebug = none by kernel_rfl) started (by kernel_rfl) Try.func8
    (ChangeSpec.witness6 (enc := enc) (C := Try.checked) false ⟨#[], #[.slice none 0 0], []⟩ 8 (by kernel_rfl) (by kernel_rfl) (by kernel_rfl) (by kernel_rfl)) ?_
  intro W base args ds gs before hval0 hW hcnd _
  have hval : ∀ (j : Nat) t v, Try.f8.params[j]? = some t → args[j]? = some v → Value.okWide Try.prog W .any base t v := hval0
  have hW' := hW
  obtain ⟨p, q, hA0, hV, rfl, hfz, hnd⟩ := hW
  have hA : DataW.TrodAll enc Try.prog W 0 (fun _ => true) true Try.f8.params.toList args.toList ds p := hA0
  rw [Try.params8] at hA hval
  obtain ⟨v0, d0, rfl, rfl, h0⟩ := trodAll_one hA
  obtain ⟨rfl, rfl⟩ := trodVars_none hV
  obtain ⟨fu0, hf0⟩ := h0
  obtain ⟨l1, u0, e0, rl1⟩ := opens_UseS hf0
  obtain ⟨a0, len0, cap0, rfl⟩ := okWide_slice Try.underlying49 (hval 0 49 v0 rfl rfl)
  obtain rfl : u0 = _ := by simpa [Value.cells] using e0.symm
  clear hf0 e0
  clear hA0 hval0 hval hcnd
  refine (fnExactUsesRight_walk l1 _ W rl1).mono fun e W2 ⟨he, hx⟩ => ?_
  subst he
  exact ⟨_, rfl, law_post (by kernel_rfl) (by kernel_rfl) Try.underlying4 (by intro t ht; rw [Try.params8] at ht; simp only [List.mem_cons, List.not_mem_nil, or_false] at ht; rcases ht with rfl <;> exact ⟨by kernel_rfl, of_decide_eq_true (by kernel_rfl)⟩) rfl rfl hW' hx⟩

theorem fnExactUsesRight_holds : Rows.FnExactUsesRightSaid :=
  OpenClaim.holds_of_wide 8 Try.f8 rfl rfl rfl rfl rfl rfl rfl ⟨rfl, rfl, rfl, rfl, rfl⟩ rfl rfl rfl rfl rfl (by kernel_rfl) Try.func8 (by kernel_rfl)
    (of_decide_eq_true (by kernel_rfl)) (by unfold Func.isWrapper; rw [if_neg (of_decide_eq_false (by kernel_rfl))]; exact ⟨rfl, rfl⟩)
    (fun os started H enc _ => fnExactUsesRight_lifted os started H enc)
end Go.Proofs.Ytfbbbnalbficbaa

/- The law FnExactTasksRight: the program's TasksRight and the reference's are equal; its row. Printed by wip/law.py. -/
import Derived.Test.YtiphkblffpdcgaaKTasksRight
import Derived.Test.YtiphkblffpdcgaaTasksI
import Derived.Test.YtiphkblffpdcgaaTasksS
import Derived.Test.YtiphkblffpdcgaaGTo
import Derived.Test.YtiphkblffpdcgaaGEq
import Derived.Test.YtiphkblffpdcgaaGSz
import Derived.Test.YtiphkblffpdcgaaGOpen
import Derived.Deep.RegionHeld3
import Derived.ChangeMaps5
namespace Go.Proofs.Ytiphkblffpdcgaa
open Go.ChangeShapes Go.WideShapes Go.ChangeAt Go.RowKit Go.ChangeMaps
attribute [local irreducible] wpQuiet

set_option maxHeartbeats 16000000 in
set_option maxRecDepth 100000 in
theorem fnExactTasksRight_walk {S : Nat → Prop} (l : List Task) (vl : Value) (w : World) (hl : Rd ETask S w vl l) :
    Calls Try.prog 3 #[vl] w fun e w' => e = .returned (.bool true) ∧ Ext w w' := by
  have h0 : (0 : Int) ≤ 1048576 := by decide
  have R_l := Lib.hid hl
  obtain ⟨A_l, c_l, rfl, l1_l, l2_l⟩ := hl.form
  unfold maxLen at l2_l
  clear hl
  go_enter Try.func3, Try.ntmps3
  go_upto_region 1 with (fail)
  by_cases hs_l : szTaskS l 1048576 < 0
  · go_wp2_with fail
    refine (szTaskS_any l _ 1048576 _ (R_l.out.ext (Ext.refl _)) h0 (Int.le_refl _)).mono ?_
    rintro e w11 ⟨rfl, hx⟩
    have X0 := Lib.hid hx
    clear hx
    go_wp2_with fail
    go_ret
    exact ⟨rfl, (X0.out)⟩
  have hp_l : 0 ≤ szTaskS l 1048576 := by omega
  have M_l := Lib.hid (small_szTaskS h0 (Int.le_refl _) hp_l)
  have hq_l : szTaskS l 1048576 ≤ 1048576 := by have := pays_szTaskS l 1048576 h0; have := h0; omega
  clear hs_l
  go_wp2_with fail
  refine (szTaskS_any l _ 1048576 _ (R_l.out.ext (Ext.refl _)) h0 (Int.le_refl _)).mono ?_
  rintro e w11 ⟨rfl, hx⟩
  have X0 := Lib.hid hx
  clear hx
  generalize szTaskS l 1048576 = q_l at *
  have HP_l := Lib.hid hp_l
  have HQ_l := Lib.hid hq_l
  clear hq_l
  go_wp2_with fail
  refine (toTaskS_any (S := S) l _ _ (R_l.out.ext (X0.out)) M_l.out).mono ?_
  rintro e w12 ⟨u1, rfl, r1, hx⟩
  have X1 := Lib.hid hx
  clear hx
  obtain ⟨A1, c1, rfl, -⟩ := Rd.form r1
  have R1 := Lib.hid r1
  clear r1
  go_wp2_with fail
  refine (specTasksRight_any l _ _ (R1.out.ext (Ext.refl _))).mono ?_
  rintro e w13 ⟨rfl, hx⟩
  have X2 := Lib.hid hx
  clear hx
  go_wp2_with fail
  refine (toTaskS_any (S := S) l _ _ (R_l.out.ext (X0.out.trans (X1.out.trans X2.out))) M_l.out).mono ?_
  rintro e w14 ⟨u2, rfl, r2, hx⟩
  have X3 := Lib.hid hx
  clear hx
  obtain ⟨A2, c2, rfl, -⟩ := Rd.form r2
  have R2 := Lib.hid r2
  clear r2
  go_wp2_with fail
  refine (tasksRight_any l _ _ (R2.out.ext (Ext.refl _))).mono ?_
  rintro e w15 ⟨rfl, hx⟩
  have X4 := Lib.hid hx
  clear hx
  go_wp2_with fail
  refine (toTaskS_any (S := S) l _ _ (R_l.out.ext (X0.out.trans (X1.out.trans (X2.out.trans (X3.out.trans X4.out))))) M_l.out).mono ?_
  rintro e w16 ⟨u3, rfl, r3, hx⟩
  have X5 := Lib.hid hx
  clear hx
  obtain ⟨A3, c3, rfl, -⟩ := Rd.form r3
  have R3 := Lib.hid r3
  clear r3
  go_wp2_with fail
  refine (eqTaskS_any l l _ _ _ (R2.out.ext (X4.out.trans X5.out)) (R3.out.ext (Ext.refl _))).mono ?_
  rintro e w17 ⟨rfl, hx⟩
  have X6 := Lib.hid hx
  clear hx
  go_wp2_with fail
  go_ret
  exact ⟨rfl, (X0.out.trans (X1.out.trans (X2.out.trans (X3.out.trans (X4.out.trans (X5.out.trans X6.out))))))⟩

set_option maxRecDepth 100000 in
theorem fnExactTasksRight_lifted (os : Os) (started : os.Started) (H : Type) (enc : TypeId × Value → H) :
    ReturnsInHanded {} Try.checked os 3 .any (Rows.fnExactTasksRightSpec.pre6 enc Try.prog Try.f3 Rows.fnExactTasksRightRow.domain false) (Rows.fnExactTasksRightSpec.post enc Try.prog Try.f3 false true false false) := by
  refine returnsInHanded_of_change (C := Try.checked) (show ownKnob Try.prog.godebug = none by kernel_rfl) started (by kernel_rfl) Try.func3
    (ChangeSpec.witness6 (enc := enc) (C := Try.checked) false ⟨#[], #[.slice none 0 0], []⟩ 8 (by kernel_rfl) (by kernel_rfl) (by kernel_rfl) (by kernel_rfl)) ?_
  intro W base args ds gs before hval0 hW hcnd _
  have hval : ∀ (j : Nat) t v, Try.f3.params[j]? = some t → args[j]? = some v → Value.okWide Try.prog W .any base t v := hval0
  have hW' := hW
  obtain ⟨p, q, hA0, hV, rfl, hfz, hnd⟩ := hW
  have hA : DataW.TrodAll enc Try.prog W 0 (fun _ => true) true Try.f3.params.toList args.toList ds p := hA0
  rw [Try.params3] at hA hval
  obtain ⟨v0, d0, rfl, rfl, h0⟩ := trodAll_one hA
  obtain ⟨rfl, rfl⟩ := trodVars_none hV
  obtain ⟨fu0, hf0⟩ := h0
  obtain ⟨l1, u0, e0, rl1⟩ := opens_TaskS hf0
  obtain ⟨a0, len0, cap0, rfl⟩ := okWide_slice Try.underlying22 (hval 0 22 v0 rfl rfl)
  obtain rfl : u0 = _ := by simpa [Value.cells] using e0.symm
  clear hf0 e0
  clear hA0 hval0 hval hcnd
  refine (fnExactTasksRight_walk l1 _ W rl1).mono fun e W2 ⟨he, hx⟩ => ?_
  subst he
  exact ⟨_, rfl, law_post (by kernel_rfl) (by kernel_rfl) Try.underlying4 (by intro t ht; rw [Try.params3] at ht; simp only [List.mem_cons, List.not_mem_nil, or_false] at ht; rcases ht with rfl <;> exact ⟨by kernel_rfl, of_decide_eq_true (by kernel_rfl)⟩) rfl rfl hW' hx⟩

theorem fnExactTasksRight_holds : Rows.FnExactTasksRightSaid :=
  OpenClaim.holds_of_wide 3 Try.f3 rfl rfl rfl rfl rfl rfl rfl ⟨rfl, rfl, rfl, rfl, rfl⟩ rfl rfl rfl rfl rfl (by kernel_rfl) Try.func3 fnExactTasksRight_closed
    (of_decide_eq_true (by kernel_rfl)) (by unfold Func.isWrapper; rw [if_neg (of_decide_eq_false (by kernel_rfl))]; exact ⟨rfl, rfl⟩)
    (fun os started H enc _ => fnExactTasksRight_lifted os started H enc)
end Go.Proofs.Ytiphkblffpdcgaa

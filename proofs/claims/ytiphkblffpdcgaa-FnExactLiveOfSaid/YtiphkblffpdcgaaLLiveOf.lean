/- The law FnExactLiveOf: the program's LiveOf and the reference's are equal; its row. Printed by wip/law.py. -/
import Derived.Test.YtiphkblffpdcgaaKLiveOf
import Derived.Test.YtiphkblffpdcgaaLive
import Derived.Test.YtiphkblffpdcgaaGTo
import Derived.Test.YtiphkblffpdcgaaGEq
import Derived.Test.YtiphkblffpdcgaaGSz
import Derived.Test.YtiphkblffpdcgaaGOpen
import Derived.Deep.RegionHeld3
import Derived.ChangeMaps5
namespace Go.Proofs.Ytiphkblffpdcgaa
open Go.ChangeShapes Go.WideShapes Go.ChangeAt Go.RowKit Go.ChangeMaps
attribute [local irreducible] wpQuiet

set_option maxHeartbeats 16000000 in
set_option maxRecDepth 100000 in
theorem fnExactLiveOf_walk {S : Nat → Prop} (l : List Task) (vl : Value) (a : Label) (csa : List Value) (w : World) (hl : Rd ETask S w vl l) (ha : ELabel.rel S w csa a) :
    Calls Try.prog 4 #[vl, .agg csa.toArray] w fun e w' => e = .returned (.bool true) ∧ Ext w w' := by
  have h0 : (0 : Int) ≤ 1048576 := by decide
  have R_l := Lib.hid hl
  obtain ⟨A_l, c_l, rfl, l1_l, l2_l⟩ := hl.form
  unfold maxLen at l2_l
  clear hl
  obtain ⟨rfl, hf_a⟩ := ha
  have F_a := Lib.hid hf_a
  clear hf_a
  simp only [cellsLabel]
  go_enter Try.func4, Try.ntmps4
  go_upto_region 1 with (fail)
  obtain ⟨W0, B, hW, hB, hx0, hbox⟩ := box_new w #[.int .i64 a.level, .int .i64 a.set] 30
  rw [← hW, ← hB]
  have Q_a : Hid (Blk W0 B 30 #[.int .i64 a.level, .int .i64 a.set]) := Lib.hid (by rw [hW, hB]; exact Blk.new w _ _)
  clear hW hB hbox
  have X0 := Lib.hid hx0
  clear hx0
  have ac_a := (Q_a.out.ext (Ext.refl _)).cell
  by_cases hs_l : szTaskS l 1048576 < 0
  · go_wp2_with fail
    refine (szTaskS_any l _ 1048576 _ (R_l.out.ext (X0.out)) h0 (Int.le_refl _)).mono ?_
    rintro e w12 ⟨rfl, hx⟩
    have X1 := Lib.hid hx
    clear hx ac_a
    go_wp2_with fail
    go_ret
    exact ⟨rfl, (X0.out.trans X1.out)⟩
  have hp_l : 0 ≤ szTaskS l 1048576 := by omega
  have M_l := Lib.hid (small_szTaskS h0 (Int.le_refl _) hp_l)
  have hq_l : szTaskS l 1048576 ≤ 1048576 := by have := pays_szTaskS l 1048576 h0; have := h0; omega
  clear hs_l
  go_wp2_with fail
  refine (szTaskS_any l _ 1048576 _ (R_l.out.ext (X0.out)) h0 (Int.le_refl _)).mono ?_
  rintro e w12 ⟨rfl, hx⟩
  have X1 := Lib.hid hx
  clear hx ac_a
  generalize szTaskS l 1048576 = q_l at *
  have HP_l := Lib.hid hp_l
  have HQ_l := Lib.hid hq_l
  clear hq_l
  have M_a : Hid (SmLabel a) := Lib.hid trivial
  have ac_a := (Q_a.out.ext (X1.out)).cell
  go_wp2_with fail
  clear ac_a
  have al_a : ∀ V, Ext w12 V → ∀ i, V.cell? ⟨B, i, none⟩ = _ := fun V hx => (Q_a.out.ext (X1.out.trans hx)).cell
  go_region_held3 (fun w' => Ext w12 w') (first | exact Ext.refl _ | exact (Ext.refl _).drew | assumption | exact Ext.alloc (by assumption) _ | exact Ext.trans (by assumption) hx1 | exact Ext.trans (by assumption) hx2 | exact Ext.trans (by assumption) hx3) (first | (go_at_call 17; (with_reducible refine (toTaskS_any (S := S) l _ _ (R_l.out.ext (X0.out.trans (X1.out.trans (by assumption)))) M_l.out).mono ?_); rintro e w13_1 ⟨u1, rfl, r1, hx1⟩; obtain ⟨A1, c1, rfl, -⟩ := Rd.form r1; have R1 := Lib.hid r1; clear r1) | (go_at_call 21; (with_reducible refine (toLabel_any (S := S) a _ _ (rel_Label F_a.out) M_a.out).mono ?_); rintro e w13_2 ⟨_, rfl, ⟨rfl, f2⟩, hx2⟩; clear f2; simp only [cellsLabel]) | (go_at_call 20; (with_reducible refine (specLiveOf_any l a _ _ (by first | exact R1.out | exact R1.out.ext (by assumption))).mono ?_); rintro e w13 ⟨rfl, hx3⟩))
  all_goals clear al_a
  have X2 : Hid (Ext w12 w13) := Lib.hid (by first | assumption | exact Ext.drew (by assumption))
  have ac_a := (Q_a.out.ext (X1.out.trans X2.out)).cell
  go_wp2_with fail
  refine (toTaskS_any (S := S) l _ _ (R_l.out.ext (X0.out.trans (X1.out.trans X2.out))) M_l.out).mono ?_
  rintro e w14 ⟨u4, rfl, r4, hx⟩
  have X3 := Lib.hid hx
  clear hx ac_a
  obtain ⟨A4, c4, rfl, -⟩ := Rd.form r4
  have R4 := Lib.hid r4
  clear r4
  have ac_a := (Q_a.out.ext (X1.out.trans (X2.out.trans X3.out))).cell
  go_wp2_with fail
  refine (toLabel_any (S := S) a _ _ (rel_Label F_a.out) M_a.out).mono ?_
  rintro e w15 ⟨_, rfl, ⟨rfl, f5⟩, hx⟩
  have X4 := Lib.hid hx
  clear hx ac_a
  clear f5
  simp only [cellsLabel]
  have ac_a := (Q_a.out.ext (X1.out.trans (X2.out.trans (X3.out.trans X4.out)))).cell
  go_wp2_with fail
  refine (liveOf_any l a _ _ (R4.out.ext (X4.out))).mono ?_
  rintro e w16 ⟨rfl, hx⟩
  have X5 := Lib.hid hx
  clear hx ac_a
  have ac_a := (Q_a.out.ext (X1.out.trans (X2.out.trans (X3.out.trans (X4.out.trans X5.out))))).cell
  go_wp2_with fail
  refine (toTaskS_any (S := S) l _ _ (R_l.out.ext (X0.out.trans (X1.out.trans (X2.out.trans (X3.out.trans (X4.out.trans X5.out)))))) M_l.out).mono ?_
  rintro e w17 ⟨u6, rfl, r6, hx⟩
  have X6 := Lib.hid hx
  clear hx ac_a
  obtain ⟨A6, c6, rfl, -⟩ := Rd.form r6
  have R6 := Lib.hid r6
  clear r6
  have ac_a := (Q_a.out.ext (X1.out.trans (X2.out.trans (X3.out.trans (X4.out.trans (X5.out.trans X6.out)))))).cell
  go_wp2_with fail
  refine (eqTaskS_any l l _ _ _ (R4.out.ext (X4.out.trans (X5.out.trans X6.out))) (R6.out.ext (Ext.refl _))).mono ?_
  rintro e w18 ⟨rfl, hx⟩
  have X7 := Lib.hid hx
  clear hx ac_a
  have ac_a := (Q_a.out.ext (X1.out.trans (X2.out.trans (X3.out.trans (X4.out.trans (X5.out.trans (X6.out.trans X7.out))))))).cell
  go_wp2_with fail
  go_ret
  exact ⟨rfl, (X0.out.trans (X1.out.trans (X2.out.trans (X3.out.trans (X4.out.trans (X5.out.trans (X6.out.trans X7.out)))))))⟩

set_option maxRecDepth 100000 in
theorem fnExactLiveOf_lifted (os : Os) (started : os.Started) (H : Type) (enc : TypeId × Value → H) :
    ReturnsInHanded {} Try.checked os 4 .any (Rows.fnExactLiveOfSpec.pre6 enc Try.prog Try.f4 Rows.fnExactLiveOfRow.domain false) (Rows.fnExactLiveOfSpec.post enc Try.prog Try.f4 false true false false) := by
  refine returnsInHanded_of_change (C := Try.checked) (show ownKnob Try.prog.godebug = none by kernel_rfl) started (by kernel_rfl) Try.func4
    (ChangeSpec.witness6 (enc := enc) (C := Try.checked) false ⟨#[], #[.slice none 0 0, .agg #[.int .i64 0, .int .i64 0]], []⟩ 8 (by kernel_rfl) (by kernel_rfl) (by kernel_rfl) (by kernel_rfl)) ?_
  intro W base args ds gs before hval0 hW hcnd _
  have hval : ∀ (j : Nat) t v, Try.f4.params[j]? = some t → args[j]? = some v → Value.okWide Try.prog W .any base t v := hval0
  have hW' := hW
  obtain ⟨p, q, hA0, hV, rfl, hfz, hnd⟩ := hW
  have hA : DataW.TrodAll enc Try.prog W 0 (fun _ => true) true Try.f4.params.toList args.toList ds p := hA0
  rw [Try.params4] at hA hval
  obtain ⟨v0, v1, d0, d1, p0, p1, rfl, rfl, rfl, h0, h1⟩ := trodAll_two hA
  obtain ⟨rfl, rfl⟩ := trodVars_none hV
  obtain ⟨fu0, hf0⟩ := h0
  obtain ⟨l1, u0, e0, rl1⟩ := opens_TaskS hf0
  obtain ⟨a0, len0, cap0, rfl⟩ := okWide_slice Try.underlying22 (hval 0 22 v0 rfl rfl)
  obtain rfl : u0 = _ := by simpa [Value.cells] using e0.symm
  clear hf0 e0
  obtain ⟨fu1, hf1⟩ := h1
  obtain ⟨a1, ra1⟩ := opens_Label hf1
  obtain ⟨⟨cs1⟩, rfl, hsz1⟩ := okWide_struct Try.underlying30 (hval 1 30 v1 rfl rfl)
  simp only [Value.cells] at ra1
  clear hf1 hsz1
  clear hA0 hval0 hval hcnd
  refine (fnExactLiveOf_walk l1 _ a1 _ W rl1 ra1).mono fun e W2 ⟨he, hx⟩ => ?_
  subst he
  exact ⟨_, rfl, law_post (by kernel_rfl) (by kernel_rfl) Try.underlying4 (by intro t ht; rw [Try.params4] at ht; simp only [List.mem_cons, List.not_mem_nil, or_false] at ht; rcases ht with rfl | rfl <;> exact ⟨by kernel_rfl, of_decide_eq_true (by kernel_rfl)⟩) rfl rfl hW' hx⟩

theorem fnExactLiveOf_holds : Rows.FnExactLiveOfSaid :=
  OpenClaim.holds_of_wide 4 Try.f4 rfl rfl rfl rfl rfl rfl rfl ⟨rfl, rfl, rfl, rfl, rfl⟩ rfl rfl rfl rfl rfl (by kernel_rfl) Try.func4 fnExactLiveOf_closed
    (of_decide_eq_true (by kernel_rfl)) (by unfold Func.isWrapper; rw [if_neg (of_decide_eq_false (by kernel_rfl))]; exact ⟨rfl, rfl⟩)
    (fun os started H enc _ => fnExactLiveOf_lifted os started H enc)
end Go.Proofs.Ytiphkblffpdcgaa

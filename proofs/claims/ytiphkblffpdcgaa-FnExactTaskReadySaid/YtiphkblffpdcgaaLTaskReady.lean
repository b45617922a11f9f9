/- The law FnExactTaskReady: the program's TaskReady and the reference's are equal; its row. Printed by wip/law.py. -/
import Derived.Test.YtiphkblffpdcgaaKTaskReady
import Derived.Test.YtiphkblffpdcgaaReady
import Derived.Test.YtiphkblffpdcgaaGTo
import Derived.Test.YtiphkblffpdcgaaGEq
import Derived.Test.YtiphkblffpdcgaaGSz
import Derived.Test.YtiphkblffpdcgaaGOpen
import Derived.Deep.RegionHeld3
import Derived.ChangeMaps5
namespace Go.Proofs.Ytiphkblffpdcgaa
open Go.ChangeShapes Go.WideShapes Go.ChangeAt Go.RowKit Go.ChangeMaps
attribute [local irreducible] wpQuiet

set_option maxHeartbeats 16000000 in
set_option maxRecDepth 100000 in
theorem fnExactTaskReady_walk {S : Nat → Prop} (l : List Task) (vl : Value) (x : Task) (csx : List Value) (w : World) (hl : Rd ETask S w vl l) (hx : ETask.rel S w csx x) :
    Calls Try.prog 5 #[vl, .agg csx.toArray] w fun e w' => e = .returned (.bool true) ∧ Ext w w' := by
  have h0 : (0 : Int) ≤ 1048576 := by decide
  have R_l := Lib.hid hl
  obtain ⟨A_l, c_l, rfl, l1_l, l2_l⟩ := hl.form
  unfold maxLen at l2_l
  clear hl
  obtain ⟨vx_0, rfl, hf_x, hrx_0⟩ := hx
  have F_x := Lib.hid hf_x
  clear hf_x
  obtain ⟨Ax_0, cx_0, rfl, l1x_0, l2x_0⟩ := hrx_0.form
  unfold maxLen at l2x_0
  have Rx_0 := Lib.hid hrx_0
  clear hrx_0
  simp only [cellsTask]
  go_enter Try.func5, Try.ntmps5
  go_upto_region 1 with (fail)
  obtain ⟨W0, B, hW, hB, hx0, hbox⟩ := box_new w #[.int .i64 x.label.level, .int .i64 x.label.set, .int .i64 x.id, .string x.owner, .int .i64 x.need, .int .i64 x.long, .int .i64 x.prio, .int .i64 x.under.level, .int .i64 x.under.set, .int .i64 x.after, .int .i64 x.born, .int .i64 x.state, .int .i64 x.start, .slice Ax_0 x.nodes.length cx_0] 37
  rw [← hW, ← hB]
  have Q_x : Hid (Blk W0 B 37 #[.int .i64 x.label.level, .int .i64 x.label.set, .int .i64 x.id, .string x.owner, .int .i64 x.need, .int .i64 x.long, .int .i64 x.prio, .int .i64 x.under.level, .int .i64 x.under.set, .int .i64 x.after, .int .i64 x.born, .int .i64 x.state, .int .i64 x.start, .slice Ax_0 x.nodes.length cx_0]) := Lib.hid (by rw [hW, hB]; exact Blk.new w _ _)
  clear hW hB hbox
  have X0 := Lib.hid hx0
  clear hx0
  have ac_x := (Q_x.out.ext (Ext.refl _)).cell
  by_cases hs_l : szTaskS l 1048576 < 0
  · go_wp2_with fail
    refine (szTaskS_any l _ 1048576 _ (R_l.out.ext (X0.out)) h0 (Int.le_refl _)).mono ?_
    rintro e w12 ⟨rfl, hx⟩
    have X1 := Lib.hid hx
    clear hx ac_x
    go_wp2_with fail
    go_ret
    exact ⟨rfl, (X0.out.trans X1.out)⟩
  have hp_l : 0 ≤ szTaskS l 1048576 := by omega
  have M_l := Lib.hid (small_szTaskS h0 (Int.le_refl _) hp_l)
  have hq_l : szTaskS l 1048576 ≤ 1048576 := by have := pays_szTaskS l 1048576 h0; have := h0; omega
  clear hs_l
  go_wp2_with fail
  refine (szTaskS_any l _ 1048576 _ (R_l.out.ext (X0.out)) h0 (Int.le_refl _)).mono ?_
  rintro e w12 ⟨rfl, hx⟩
  have X1 := Lib.hid hx
  clear hx ac_x
  generalize szTaskS l 1048576 = q_l at *
  have HP_l := Lib.hid hp_l
  have HQ_l := Lib.hid hq_l
  clear hq_l
  have ac_x := (Q_x.out.ext (X1.out)).cell
  have k0 := HP_l.out
  have k1 := HQ_l.out
  by_cases hs_x : szTask x q_l < 0
  · go_wp2_with fail
    refine (szTask_any x _ q_l _ (rel_Task F_x.out (Rx_0.out.ext (X0.out.trans X1.out))) HP_l.out HQ_l.out).mono ?_
    rintro e w13 ⟨rfl, hx⟩
    have X2 := Lib.hid hx
    clear hx ac_x
    go_wp2_with fail
    go_ret
    exact ⟨rfl, (X0.out.trans (X1.out.trans X2.out))⟩
  have hp_x : 0 ≤ szTask x q_l := by omega
  have M_x := Lib.hid (small_szTask HP_l.out HQ_l.out hp_x)
  have hq_x : szTask x q_l ≤ 1048576 := by have := pays_szTask x q_l HP_l.out; have := HQ_l.out; omega
  clear hs_x
  go_wp2_with fail
  refine (szTask_any x _ q_l _ (rel_Task F_x.out (Rx_0.out.ext (X0.out.trans X1.out))) HP_l.out HQ_l.out).mono ?_
  rintro e w13 ⟨rfl, hx⟩
  have X2 := Lib.hid hx
  clear hx ac_x
  generalize szTask x q_l = q_x at *
  have HP_x := Lib.hid hp_x
  have HQ_x := Lib.hid hq_x
  clear hq_x
  have ac_x := (Q_x.out.ext (X1.out.trans X2.out)).cell
  go_wp2_with fail
  clear ac_x
  have al_x : ∀ V, Ext w13 V → ∀ i, V.cell? ⟨B, i, none⟩ = _ := fun V hx => (Q_x.out.ext (X1.out.trans (X2.out.trans hx))).cell
  go_region_held3 (fun w' => Ext w13 w') (first | exact Ext.refl _ | exact (Ext.refl _).drew | assumption | exact Ext.alloc (by assumption) _ | exact Ext.trans (by assumption) hx1 | exact Ext.trans (by assumption) hx2 | exact Ext.trans (by assumption) hx3) (first | (go_at_call 17; (with_reducible refine (toTaskS_any (S := S) l _ _ (R_l.out.ext (X0.out.trans (X1.out.trans (X2.out.trans (by assumption))))) M_l.out).mono ?_); rintro e w14_1 ⟨u1, rfl, r1, hx1⟩; obtain ⟨A1, c1, rfl, -⟩ := Rd.form r1; have R1 := Lib.hid r1; clear r1) | (go_at_call 25; (with_reducible refine (toTask_any (S := S) x _ _ (rel_Task F_x.out (Rx_0.out.ext (X0.out.trans (X1.out.trans (X2.out.trans (by assumption)))))) M_x.out).mono ?_); rintro e w14_2 ⟨_, rfl, ⟨u2_0, rfl, f2, r2_0⟩, hx2⟩; clear f2; simp only [cellsTask]; obtain ⟨A2_0, c2_0, rfl, -⟩ := Rd.form r2_0; have R2_0 := Lib.hid r2_0; clear r2_0) | (go_at_call 24; (with_reducible refine (specTaskReady_any l x _ _ _ (by first | exact R1.out | exact R1.out.ext (by assumption)) (rel_Task F_x.out (by first | exact R2_0.out | exact R2_0.out.ext (by assumption)))).mono ?_); rintro e w14 ⟨rfl, hx3⟩))
  all_goals clear al_x
  have X3 : Hid (Ext w13 w14) := Lib.hid (by first | assumption | exact Ext.drew (by assumption))
  have ac_x := (Q_x.out.ext (X1.out.trans (X2.out.trans X3.out))).cell
  go_wp2_with fail
  refine (toTaskS_any (S := S) l _ _ (R_l.out.ext (X0.out.trans (X1.out.trans (X2.out.trans X3.out)))) M_l.out).mono ?_
  rintro e w15 ⟨u4, rfl, r4, hx⟩
  have X4 := Lib.hid hx
  clear hx ac_x
  obtain ⟨A4, c4, rfl, -⟩ := Rd.form r4
  have R4 := Lib.hid r4
  clear r4
  have ac_x := (Q_x.out.ext (X1.out.trans (X2.out.trans (X3.out.trans X4.out)))).cell
  go_wp2_with fail
  refine (toTask_any (S := S) x _ _ (rel_Task F_x.out (Rx_0.out.ext (X0.out.trans (X1.out.trans (X2.out.trans (X3.out.trans X4.out)))))) M_x.out).mono ?_
  rintro e w16 ⟨_, rfl, ⟨u5_0, rfl, f5, r5_0⟩, hx⟩
  have X5 := Lib.hid hx
  clear hx ac_x
  clear f5
  simp only [cellsTask]
  obtain ⟨A5_0, c5_0, rfl, -⟩ := Rd.form r5_0
  have R5_0 := Lib.hid r5_0
  clear r5_0
  have ac_x := (Q_x.out.ext (X1.out.trans (X2.out.trans (X3.out.trans (X4.out.trans X5.out))))).cell
  go_wp2_with fail
  clear ac_x
  obtain ⟨V5, C5, hW, hB, hx, hbox⟩ := box_new w16 #[.int .i64 x.label.level, .int .i64 x.label.set, .int .i64 x.id, .string x.owner, .int .i64 x.need, .int .i64 x.long, .int .i64 x.prio, .int .i64 x.under.level, .int .i64 x.under.set, .int .i64 x.after, .int .i64 x.born, .int .i64 x.state, .int .i64 x.start, .slice A5_0 x.nodes.length c5_0] 41
  rw [← hW, ← hB]
  have Q_xx : Hid (Blk V5 C5 41 #[.int .i64 x.label.level, .int .i64 x.label.set, .int .i64 x.id, .string x.owner, .int .i64 x.need, .int .i64 x.long, .int .i64 x.prio, .int .i64 x.under.level, .int .i64 x.under.set, .int .i64 x.after, .int .i64 x.born, .int .i64 x.state, .int .i64 x.start, .slice A5_0 x.nodes.length c5_0]) := Lib.hid (by rw [hW, hB]; exact Blk.new w16 _ _)
  have X6 := Lib.hid hx
  clear hW hB hbox hx
  have ac_x := (Q_x.out.ext (X1.out.trans (X2.out.trans (X3.out.trans (X4.out.trans (X5.out.trans X6.out)))))).cell
  have ac_xx := (Q_xx.out.ext (Ext.refl _)).cell
  go_wp2_with fail
  refine (taskReady_any l x _ _ _ (R4.out.ext (X5.out.trans X6.out)) (rel_Task F_x.out (R5_0.out.ext (X6.out)))).mono ?_
  rintro e w18 ⟨rfl, hx⟩
  have X7 := Lib.hid hx
  clear hx ac_x ac_xx
  have ac_x := (Q_x.out.ext (X1.out.trans (X2.out.trans (X3.out.trans (X4.out.trans (X5.out.trans (X6.out.trans X7.out))))))).cell
  have ac_xx := (Q_xx.out.ext (X7.out)).cell
  go_wp2_with fail
  refine (toTaskS_any (S := S) l _ _ (R_l.out.ext (X0.out.trans (X1.out.trans (X2.out.trans (X3.out.trans (X4.out.trans (X5.out.trans (X6.out.trans X7.out)))))))) M_l.out).mono ?_
  rintro e w19 ⟨u6, rfl, r6, hx⟩
  have X8 := Lib.hid hx
  clear hx ac_x ac_xx
  obtain ⟨A6, c6, rfl, -⟩ := Rd.form r6
  have R6 := Lib.hid r6
  clear r6
  have ac_x := (Q_x.out.ext (X1.out.trans (X2.out.trans (X3.out.trans (X4.out.trans (X5.out.trans (X6.out.trans (X7.out.trans X8.out)))))))).cell
  have ac_xx := (Q_xx.out.ext (X7.out.trans X8.out)).cell
  go_wp2_with fail
  refine (eqTaskS_any l l _ _ _ (R4.out.ext (X5.out.trans (X6.out.trans (X7.out.trans X8.out)))) (R6.out.ext (Ext.refl _))).mono ?_
  rintro e w20 ⟨rfl, hx⟩
  have X9 := Lib.hid hx
  clear hx ac_x ac_xx
  have F_new := F_x
  have ac_x := (Q_x.out.ext (X1.out.trans (X2.out.trans (X3.out.trans (X4.out.trans (X5.out.trans (X6.out.trans (X7.out.trans (X8.out.trans X9.out))))))))).cell
  have ac_xx := (Q_xx.out.ext (X7.out.trans (X8.out.trans X9.out))).cell
  go_wp2_with fail
  clear ac_x ac_xx
  have al_x : ∀ V, Ext w20 V → ∀ i, V.cell? ⟨B, i, none⟩ = _ := fun V hx => (Q_x.out.ext (X1.out.trans (X2.out.trans (X3.out.trans (X4.out.trans (X5.out.trans (X6.out.trans (X7.out.trans (X8.out.trans (X9.out.trans hx)))))))))).cell
  have al_xx : ∀ V, Ext w20 V → ∀ i, V.cell? ⟨C5, i, none⟩ = _ := fun V hx => (Q_xx.out.ext (X7.out.trans (X8.out.trans (X9.out.trans hx)))).cell
  go_region_held3 (fun w' => Ext w20 w') (first | exact Ext.refl _ | exact (Ext.refl _).drew | assumption | exact Ext.alloc (by assumption) _ | exact Ext.trans (by assumption) hx7 | exact Ext.trans (by assumption) hx8) (first | (go_at_call 25; (with_reducible refine (toTask_any (S := S) x _ _ (rel_Task F_x.out (Rx_0.out.ext (X0.out.trans (X1.out.trans (X2.out.trans (X3.out.trans (X4.out.trans (X5.out.trans (X6.out.trans (X7.out.trans (X8.out.trans (X9.out.trans (by assumption))))))))))))) M_x.out).mono ?_); rintro e w21_7 ⟨_, rfl, ⟨u7_0, rfl, f7, r7_0⟩, hx7⟩; clear f7; simp only [cellsTask]; obtain ⟨A7_0, c7_0, rfl, -⟩ := Rd.form r7_0; have R7_0 := Lib.hid r7_0; clear r7_0) | (go_at_call 27; (with_reducible refine (eqTask_any x x _ _ _ (rel_Task F_x.out (R5_0.out.ext (X6.out.trans (X7.out.trans (X8.out.trans (X9.out.trans (by assumption))))))) (rel_Task F_new.out (by first | exact R7_0.out | exact R7_0.out.ext (by assumption)))).mono ?_); rintro e w21 ⟨rfl, hx8⟩))
  all_goals clear al_x al_xx
  have X10 : Hid (Ext w20 w21) := Lib.hid (by first | assumption | exact Ext.drew (by assumption))
  clear F_new
  have ac_x := (Q_x.out.ext (X1.out.trans (X2.out.trans (X3.out.trans (X4.out.trans (X5.out.trans (X6.out.trans (X7.out.trans (X8.out.trans (X9.out.trans X10.out)))))))))).cell
  have ac_xx := (Q_xx.out.ext (X7.out.trans (X8.out.trans (X9.out.trans X10.out)))).cell
  go_wp2_with fail
  go_ret
  exact ⟨rfl, (X0.out.trans (X1.out.trans (X2.out.trans (X3.out.trans (X4.out.trans (X5.out.trans (X6.out.trans (X7.out.trans (X8.out.trans (X9.out.trans X10.out))))))))))⟩

set_option maxRecDepth 100000 in
theorem fnExactTaskReady_lifted (os : Os) (started : os.Started) (H : Type) (enc : TypeId × Value → H) :
    ReturnsInHanded {} Try.checked os 5 .any (Rows.fnExactTaskReadySpec.pre6 enc Try.prog Try.f5 Rows.fnExactTaskReadyRow.domain false) (Rows.fnExactTaskReadySpec.post enc Try.prog Try.f5 false true false false) := by
  refine returnsInHanded_of_change (C := Try.checked) (show ownKnob Try.prog.godebug = none by kernel_rfl) started (by kernel_rfl) Try.func5
    (ChangeSpec.witness6 (enc := enc) (C := Try.checked) false ⟨#[], #[.slice none 0 0, .agg #[.int .i64 0, .int .i64 0, .int .i64 0, .string ⟨#[]⟩, .int .i64 0, .int .i64 0, .int .i64 0, .int .i64 0, .int .i64 0, .int .i64 0, .int .i64 0, .int .i64 0, .int .i64 0, .slice none 0 0]], []⟩ 8 (by kernel_rfl) (by kernel_rfl) (by kernel_rfl) (by kernel_rfl)) ?_
  intro W base args ds gs before hval0 hW hcnd _
  have hval : ∀ (j : Nat) t v, Try.f5.params[j]? = some t → args[j]? = some v → Value.okWide Try.prog W .any base t v := hval0
  have hW' := hW
  obtain ⟨p, q, hA0, hV, rfl, hfz, hnd⟩ := hW
  have hA : DataW.TrodAll enc Try.prog W 0 (fun _ => true) true Try.f5.params.toList args.toList ds p := hA0
  rw [Try.params5] at hA hval
  obtain ⟨v0, v1, d0, d1, p0, p1, rfl, rfl, rfl, h0, h1⟩ := trodAll_two hA
  obtain ⟨rfl, rfl⟩ := trodVars_none hV
  obtain ⟨fu0, hf0⟩ := h0
  obtain ⟨l1, u0, e0, rl1⟩ := opens_TaskS hf0
  obtain ⟨a0, len0, cap0, rfl⟩ := okWide_slice Try.underlying22 (hval 0 22 v0 rfl rfl)
  obtain rfl : u0 = _ := by simpa [Value.cells] using e0.symm
  clear hf0 e0
  obtain ⟨fu1, hf1⟩ := h1
  obtain ⟨x1, rx1⟩ := opens_Task hf1
  obtain ⟨⟨cs1⟩, rfl, hsz1⟩ := okWide_struct Try.underlying37 (hval 1 37 v1 rfl rfl)
  simp only [Value.cells] at rx1
  clear hf1 hsz1
  clear hA0 hval0 hval hcnd
  refine (fnExactTaskReady_walk l1 _ x1 _ W rl1 rx1).mono fun e W2 ⟨he, hx⟩ => ?_
  subst he
  exact ⟨_, rfl, law_post (by kernel_rfl) (by kernel_rfl) Try.underlying4 (by intro t ht; rw [Try.params5] at ht; simp only [List.mem_cons, List.not_mem_nil, or_false] at ht; rcases ht with rfl | rfl <;> exact ⟨by kernel_rfl, of_decide_eq_true (by kernel_rfl)⟩) rfl rfl hW' hx⟩

theorem fnExactTaskReady_holds : Rows.FnExactTaskReadySaid :=
  OpenClaim.holds_of_wide 5 Try.f5 rfl rfl rfl rfl rfl rfl rfl ⟨rfl, rfl, rfl, rfl, rfl⟩ rfl rfl rfl rfl rfl (by kernel_rfl) Try.func5 fnExactTaskReady_closed
    (of_decide_eq_true (by kernel_rfl)) (by unfold Func.isWrapper; rw [if_neg (of_decide_eq_false (by kernel_rfl))]; exact ⟨rfl, rfl⟩)
    (fun os started H enc _ => fnExactTaskReady_lifted os started H enc)
end Go.Proofs.Ytiphkblffpdcgaa

/- The law FnExactMailView: the program's MailView and the reference's are equal; its row. Printed by wip/law.py. -/
import Derived.Test.YtdhcbbbmajjehaaGreatKMailView
import Derived.Test.YtdhcbbbmajjehaaGreatMailV
import Derived.Test.YtdhcbbbmajjehaaGreatGTo
import Derived.Test.YtdhcbbbmajjehaaGreatGEq
import Derived.Test.YtdhcbbbmajjehaaGreatGSz
import Derived.Test.YtdhcbbbmajjehaaGreatGOpen
import Derived.Deep.RegionHeld3
import Derived.ChangeMaps5
namespace Go.Proofs.YtdhcbbbmajjehaaGreat
open Go.ChangeShapes Go.WideShapes Go.ChangeAt Go.RowKit Go.ChangeMaps
attribute [local irreducible] wpQuiet

set_option maxHeartbeats 16000000 in
set_option maxRecDepth 100000 in
theorem fnExactMailView_walk {S : Nat → Prop} (c : Config) (csc : List Value) (m : Mail) (csm : List Value) (lab : Label) (cslab : List Value) (w : World) (hc : EConfig.rel S w csc c) (hm : EMail.rel S w csm m) (hlab : ELabel.rel S w cslab lab) :
    Calls Tryz.prog 3 #[.agg csc.toArray, .agg csm.toArray, .agg cslab.toArray] w fun e w' => e = .returned (.bool true) ∧ Ext w w' := by
  have h0 : (0 : Int) ≤ 1048576 := by decide
  obtain ⟨vc_0, vc_1, vc_2, rfl, hf_c, hrc_0, hrc_1, hrc_2⟩ := hc
  have F_c := Lib.hid hf_c
  clear hf_c
  obtain ⟨Ac_0, cc_0, rfl, l1c_0, l2c_0⟩ := hrc_0.form
  unfold maxLen at l2c_0
  have Rc_0 := Lib.hid hrc_0
  clear hrc_0
  obtain ⟨Ac_1, cc_1, rfl, l1c_1, l2c_1⟩ := hrc_1.form
  unfold maxLen at l2c_1
  have Rc_1 := Lib.hid hrc_1
  clear hrc_1
  obtain ⟨Ac_2, cc_2, rfl, l1c_2, l2c_2⟩ := hrc_2.form
  unfold maxLen at l2c_2
  have Rc_2 := Lib.hid hrc_2
  clear hrc_2
  simp only [cellsConfig]
  obtain ⟨vm_0, rfl, hf_m, hrm_0⟩ := hm
  have F_m := Lib.hid hf_m
  clear hf_m
  obtain ⟨Am_0, cm_0, rfl, l1m_0, l2m_0⟩ := hrm_0.form
  unfold maxLen at l2m_0
  have Rm_0 := Lib.hid hrm_0
  clear hrm_0
  simp only [cellsMail]
  obtain ⟨rfl, hf_lab⟩ := hlab
  have F_lab := Lib.hid hf_lab
  clear hf_lab
  simp only [cellsLabel]
  go_enter Tryz.func3, Tryz.ntmps3
  go_upto_region 1 with (fail)
  obtain ⟨W0, B, hW, hB, hx0, b_0, b_1, b_2⟩ := boxes3 w #[.slice Ac_0 c.nodes.length cc_0, .slice Ac_1 c.pairs.length cc_1, .slice Ac_2 c.quotas.length cc_2, .int .i64 c.half] #[.slice Am_0 m.boxes.length cm_0] #[.int .i64 lab.level, .int .i64 lab.set] 26 29 31
  rw [← hW, ← hB]
  have Q_c : Hid (Blk W0 (B) 26 #[.slice Ac_0 c.nodes.length cc_0, .slice Ac_1 c.pairs.length cc_1, .slice Ac_2 c.quotas.length cc_2, .int .i64 c.half]) := Lib.hid b_0
  have Q_m : Hid (Blk W0 (B + 1) 29 #[.slice Am_0 m.boxes.length cm_0]) := Lib.hid b_1
  have Q_lab : Hid (Blk W0 (B + 1 + 1) 31 #[.int .i64 lab.level, .int .i64 lab.set]) := Lib.hid b_2
  clear hW hB b_0 b_1 b_2
  have X0 := Lib.hid hx0
  clear hx0
  have ac_c := (Q_c.out.ext (Ext.refl _)).cell
  have ac_m := (Q_m.out.ext (Ext.refl _)).cell
  have ac_lab := (Q_lab.out.ext (Ext.refl _)).cell
  by_cases hs_c : szConfig c 1048576 < 0
  · go_wp2_with fail
    refine (szConfig_any c _ 1048576 _ (rel_Config F_c.out (Rc_0.out.ext (X0.out)) (Rc_1.out.ext (X0.out)) (Rc_2.out.ext (X0.out))) h0 (Int.le_refl _)).mono ?_
    rintro e w12 ⟨rfl, hx⟩
    have X1 := Lib.hid hx
    clear hx ac_c ac_m ac_lab
    go_wp2_with fail
    go_ret
    exact ⟨rfl, (X0.out.trans X1.out)⟩
  have hp_c : 0 ≤ szConfig c 1048576 := by omega
  have M_c := Lib.hid (small_szConfig h0 (Int.le_refl _) hp_c)
  have hq_c : szConfig c 1048576 ≤ 1048576 := by have := pays_szConfig c 1048576 h0; have := h0; omega
  clear hs_c
  go_wp2_with fail
  refine (szConfig_any c _ 1048576 _ (rel_Config F_c.out (Rc_0.out.ext (X0.out)) (Rc_1.out.ext (X0.out)) (Rc_2.out.ext (X0.out))) h0 (Int.le_refl _)).mono ?_
  rintro e w12 ⟨rfl, hx⟩
  have X1 := Lib.hid hx
  clear hx ac_c ac_m ac_lab
  generalize szConfig c 1048576 = q_c at *
  have HP_c := Lib.hid hp_c
  have HQ_c := Lib.hid hq_c
  clear hq_c
  have ac_c := (Q_c.out.ext (X1.out)).cell
  have ac_m := (Q_m.out.ext (X1.out)).cell
  have ac_lab := (Q_lab.out.ext (X1.out)).cell
  have k0 := HP_c.out
  have k1 := HQ_c.out
  by_cases hs_m : szMail m q_c < 0
  · go_wp2_with fail
    refine (szMail_any m _ q_c _ (rel_Mail F_m.out (Rm_0.out.ext (X0.out.trans X1.out))) HP_c.out HQ_c.out).mono ?_
    rintro e w13 ⟨rfl, hx⟩
    have X2 := Lib.hid hx
    clear hx ac_c ac_m ac_lab
    go_wp2_with fail
    go_ret
    exact ⟨rfl, (X0.out.trans (X1.out.trans X2.out))⟩
  have hp_m : 0 ≤ szMail m q_c := by omega
  have M_m := Lib.hid (small_szMail HP_c.out HQ_c.out hp_m)
  have hq_m : szMail m q_c ≤ 1048576 := by have := pays_szMail m q_c HP_c.out; have := HQ_c.out; omega
  clear hs_m
  go_wp2_with fail
  refine (szMail_any m _ q_c _ (rel_Mail F_m.out (Rm_0.out.ext (X0.out.trans X1.out))) HP_c.out HQ_c.out).mono ?_
  rintro e w13 ⟨rfl, hx⟩
  have X2 := Lib.hid hx
  clear hx ac_c ac_m ac_lab
  generalize szMail m q_c = q_m at *
  have HP_m := Lib.hid hp_m
  have HQ_m := Lib.hid hq_m
  clear hq_m
  have M_lab : Hid (SmLabel lab) := Lib.hid trivial
  have ac_c := (Q_c.out.ext (X1.out.trans X2.out)).cell
  have ac_m := (Q_m.out.ext (X1.out.trans X2.out)).cell
  have ac_lab := (Q_lab.out.ext (X1.out.trans X2.out)).cell
  go_wp2_with fail
  clear ac_c ac_m ac_lab
  have al_c : ∀ V, Ext w13 V → ∀ i, V.cell? ⟨B, i, none⟩ = _ := fun V hx => (Q_c.out.ext (X1.out.trans (X2.out.trans hx))).cell
  have al_m : ∀ V, Ext w13 V → ∀ i, V.cell? ⟨(B + 1), i, none⟩ = _ := fun V hx => (Q_m.out.ext (X1.out.trans (X2.out.trans hx))).cell
  have al_lab : ∀ V, Ext w13 V → ∀ i, V.cell? ⟨(B + 1 + 1), i, none⟩ = _ := fun V hx => (Q_lab.out.ext (X1.out.trans (X2.out.trans hx))).cell
  go_region_held3 (fun w' => Ext w13 w') (first | exact Ext.refl _ | exact (Ext.refl _).drew | assumption | exact Ext.alloc (by assumption) _ | exact Ext.trans (by assumption) hx1 | exact Ext.trans (by assumption) hx2 | exact Ext.trans (by assumption) hx3 | exact Ext.trans (by assumption) hx4) (first | (go_at_call 7; (with_reducible refine (toConfig_any (S := S) c _ _ (rel_Config F_c.out (Rc_0.out.ext (X0.out.trans (X1.out.trans (X2.out.trans (by assumption))))) (Rc_1.out.ext (X0.out.trans (X1.out.trans (X2.out.trans (by assumption))))) (Rc_2.out.ext (X0.out.trans (X1.out.trans (X2.out.trans (by assumption)))))) M_c.out).mono ?_); rintro e w14_1 ⟨_, rfl, ⟨u1_0, u1_1, u1_2, rfl, f1, r1_0, r1_1, r1_2⟩, hx1⟩; clear f1; simp only [cellsConfig]; obtain ⟨A1_0, c1_0, rfl, -⟩ := Rd.form r1_0; have R1_0 := Lib.hid r1_0; clear r1_0; obtain ⟨A1_1, c1_1, rfl, -⟩ := Rd.form r1_1; have R1_1 := Lib.hid r1_1; clear r1_1; obtain ⟨A1_2, c1_2, rfl, -⟩ := Rd.form r1_2; have R1_2 := Lib.hid r1_2; clear r1_2) | (go_at_call 8; (with_reducible refine (toMail_any (S := S) m _ _ (rel_Mail F_m.out (Rm_0.out.ext (X0.out.trans (X1.out.trans (X2.out.trans (by assumption)))))) M_m.out).mono ?_); rintro e w14_2 ⟨_, rfl, ⟨u2_0, rfl, f2, r2_0⟩, hx2⟩; clear f2; simp only [cellsMail]; obtain ⟨A2_0, c2_0, rfl, -⟩ := Rd.form r2_0; have R2_0 := Lib.hid r2_0; clear r2_0) | (go_at_call 9; (with_reducible refine (toLabel_any (S := S) lab _ _ (rel_Label F_lab.out) M_lab.out).mono ?_); rintro e w14_3 ⟨_, rfl, ⟨rfl, f3⟩, hx3⟩; clear f3; simp only [cellsLabel]) | (go_at_call 6; (with_reducible refine (specMailView_any (S3 := S) c m lab _ _ _ _ (rel_Config F_c.out (by first | exact R1_0.out | exact R1_0.out.ext (by assumption) | exact R1_0.out.ext (Ext.trans (by assumption) hx4) | exact R1_0.out.ext (Ext.trans (by assumption) hx3) | exact R1_0.out.ext (Ext.trans (by assumption) hx2) | exact R1_0.out.ext (Ext.trans (by assumption) hx1)) (by first | exact R1_1.out | exact R1_1.out.ext (by assumption) | exact R1_1.out.ext (Ext.trans (by assumption) hx4) | exact R1_1.out.ext (Ext.trans (by assumption) hx3) | exact R1_1.out.ext (Ext.trans (by assumption) hx2) | exact R1_1.out.ext (Ext.trans (by assumption) hx1)) (by first | exact R1_2.out | exact R1_2.out.ext (by assumption) | exact R1_2.out.ext (Ext.trans (by assumption) hx4) | exact R1_2.out.ext (Ext.trans (by assumption) hx3) | exact R1_2.out.ext (Ext.trans (by assumption) hx2) | exact R1_2.out.ext (Ext.trans (by assumption) hx1))) (rel_Mail F_m.out (by first | exact R2_0.out | exact R2_0.out.ext (by assumption) | exact R2_0.out.ext (Ext.trans (by assumption) hx4) | exact R2_0.out.ext (Ext.trans (by assumption) hx3) | exact R2_0.out.ext (Ext.trans (by assumption) hx2) | exact R2_0.out.ext (Ext.trans (by assumption) hx1))) (rel_Label F_lab.out)).mono ?_); rintro e w14 ⟨rfl, hx4⟩))
  all_goals clear al_c al_m al_lab
  have X3 : Hid (Ext w13 w14) := Lib.hid (by first | assumption | exact Ext.drew (by assumption))
  have ac_c := (Q_c.out.ext (X1.out.trans (X2.out.trans X3.out))).cell
  have ac_m := (Q_m.out.ext (X1.out.trans (X2.out.trans X3.out))).cell
  have ac_lab := (Q_lab.out.ext (X1.out.trans (X2.out.trans X3.out))).cell
  go_wp2_with fail
  refine (toConfig_any (S := S) c _ _ (rel_Config F_c.out (Rc_0.out.ext (X0.out.trans (X1.out.trans (X2.out.trans X3.out)))) (Rc_1.out.ext (X0.out.trans (X1.out.trans (X2.out.trans X3.out)))) (Rc_2.out.ext (X0.out.trans (X1.out.trans (X2.out.trans X3.out))))) M_c.out).mono ?_
  rintro e w15 ⟨_, rfl, ⟨u5_0, u5_1, u5_2, rfl, f5, r5_0, r5_1, r5_2⟩, hx⟩
  have X4 := Lib.hid hx
  clear hx ac_c ac_m ac_lab
  clear f5
  simp only [cellsConfig]
  obtain ⟨A5_0, c5_0, rfl, -⟩ := Rd.form r5_0
  have R5_0 := Lib.hid r5_0
  clear r5_0
  obtain ⟨A5_1, c5_1, rfl, -⟩ := Rd.form r5_1
  have R5_1 := Lib.hid r5_1
  clear r5_1
  obtain ⟨A5_2, c5_2, rfl, -⟩ := Rd.form r5_2
  have R5_2 := Lib.hid r5_2
  clear r5_2
  have ac_c := (Q_c.out.ext (X1.out.trans (X2.out.trans (X3.out.trans X4.out)))).cell
  have ac_m := (Q_m.out.ext (X1.out.trans (X2.out.trans (X3.out.trans X4.out)))).cell
  have ac_lab := (Q_lab.out.ext (X1.out.trans (X2.out.trans (X3.out.trans X4.out)))).cell
  go_upto_region 10 with (fail)
  clear ac_c ac_m ac_lab
  obtain ⟨V5, C5, hW, hB, hx, hbox⟩ := box_new w15 #[.slice A5_0 c.nodes.length c5_0, .slice A5_1 c.pairs.length c5_1, .slice A5_2 c.quotas.length c5_2, .int .i64 c.half] 39
  rw [← hW, ← hB]
  have Q_xc : Hid (Blk V5 C5 39 #[.slice A5_0 c.nodes.length c5_0, .slice A5_1 c.pairs.length c5_1, .slice A5_2 c.quotas.length c5_2, .int .i64 c.half]) := Lib.hid (by rw [hW, hB]; exact Blk.new w15 _ _)
  have X5 := Lib.hid hx
  clear hW hB hbox hx
  have ac_c := (Q_c.out.ext (X1.out.trans (X2.out.trans (X3.out.trans (X4.out.trans X5.out))))).cell
  have ac_m := (Q_m.out.ext (X1.out.trans (X2.out.trans (X3.out.trans (X4.out.trans X5.out))))).cell
  have ac_lab := (Q_lab.out.ext (X1.out.trans (X2.out.trans (X3.out.trans (X4.out.trans X5.out))))).cell
  have ac_xc := (Q_xc.out.ext (Ext.refl _)).cell
  go_wp2_with fail
  refine (toMail_any (S := S) m _ _ (rel_Mail F_m.out (Rm_0.out.ext (X0.out.trans (X1.out.trans (X2.out.trans (X3.out.trans (X4.out.trans X5.out))))))) M_m.out).mono ?_
  rintro e w17 ⟨_, rfl, ⟨u6_0, rfl, f6, r6_0⟩, hx⟩
  have X6 := Lib.hid hx
  clear hx ac_c ac_m ac_lab ac_xc
  clear f6
  simp only [cellsMail]
  obtain ⟨A6_0, c6_0, rfl, -⟩ := Rd.form r6_0
  have R6_0 := Lib.hid r6_0
  clear r6_0
  have ac_c := (Q_c.out.ext (X1.out.trans (X2.out.trans (X3.out.trans (X4.out.trans (X5.out.trans X6.out)))))).cell
  have ac_m := (Q_m.out.ext (X1.out.trans (X2.out.trans (X3.out.trans (X4.out.trans (X5.out.trans X6.out)))))).cell
  have ac_lab := (Q_lab.out.ext (X1.out.trans (X2.out.trans (X3.out.trans (X4.out.trans (X5.out.trans X6.out)))))).cell
  have ac_xc := (Q_xc.out.ext (X6.out)).cell
  go_upto_region 11 with (fail)
  clear ac_c ac_m ac_lab ac_xc
  obtain ⟨V6, C6, hW, hB, hx, hbox⟩ := box_new w17 #[.slice A6_0 m.boxes.length c6_0] 43
  rw [← hW, ← hB]
  have Q_xm : Hid (Blk V6 C6 43 #[.slice A6_0 m.boxes.length c6_0]) := Lib.hid (by rw [hW, hB]; exact Blk.new w17 _ _)
  have X7 := Lib.hid hx
  clear hW hB hbox hx
  have ac_c := (Q_c.out.ext (X1.out.trans (X2.out.trans (X3.out.trans (X4.out.trans (X5.out.trans (X6.out.trans X7.out))))))).cell
  have ac_m := (Q_m.out.ext (X1.out.trans (X2.out.trans (X3.out.trans (X4.out.trans (X5.out.trans (X6.out.trans X7.out))))))).cell
  have ac_lab := (Q_lab.out.ext (X1.out.trans (X2.out.trans (X3.out.trans (X4.out.trans (X5.out.trans (X6.out.trans X7.out))))))).cell
  have ac_xc := (Q_xc.out.ext (X6.out.trans X7.out)).cell
  have ac_xm := (Q_xm.out.ext (Ext.refl _)).cell
  go_wp2_with fail
  clear ac_c ac_m ac_lab ac_xc ac_xm
  have al_c : ∀ V, Ext V6 V → ∀ i, V.cell? ⟨B, i, none⟩ = _ := fun V hx => (Q_c.out.ext (X1.out.trans (X2.out.trans (X3.out.trans (X4.out.trans (X5.out.trans (X6.out.trans (X7.out.trans hx)))))))).cell
  have al_m : ∀ V, Ext V6 V → ∀ i, V.cell? ⟨(B + 1), i, none⟩ = _ := fun V hx => (Q_m.out.ext (X1.out.trans (X2.out.trans (X3.out.trans (X4.out.trans (X5.out.trans (X6.out.trans (X7.out.trans hx)))))))).cell
  have al_lab : ∀ V, Ext V6 V → ∀ i, V.cell? ⟨(B + 1 + 1), i, none⟩ = _ := fun V hx => (Q_lab.out.ext (X1.out.trans (X2.out.trans (X3.out.trans (X4.out.trans (X5.out.trans (X6.out.trans (X7.out.trans hx)))))))).cell
  have al_xc : ∀ V, Ext V6 V → ∀ i, V.cell? ⟨C5, i, none⟩ = _ := fun V hx => (Q_xc.out.ext (X6.out.trans (X7.out.trans hx))).cell
  have al_xm : ∀ V, Ext V6 V → ∀ i, V.cell? ⟨C6, i, none⟩ = _ := fun V hx => (Q_xm.out.ext hx).cell
  go_region_held3 (fun w' => Ext V6 w') (first | exact Ext.refl _ | exact (Ext.refl _).drew | assumption | exact Ext.alloc (by assumption) _ | exact Ext.trans (by assumption) hx7 | exact Ext.trans (by assumption) hx8) (first | (go_at_call 9; (with_reducible refine (toLabel_any (S := S) lab _ _ (rel_Label F_lab.out) M_lab.out).mono ?_); rintro e w19_7 ⟨_, rfl, ⟨rfl, f7⟩, hx7⟩; clear f7; simp only [cellsLabel]) | (go_at_call 10; (with_reducible refine (mailView_any (S3 := S) c m lab _ _ _ _ (rel_Config F_c.out (R5_0.out.ext (X5.out.trans (X6.out.trans (X7.out.trans (by assumption))))) (R5_1.out.ext (X5.out.trans (X6.out.trans (X7.out.trans (by assumption))))) (R5_2.out.ext (X5.out.trans (X6.out.trans (X7.out.trans (by assumption)))))) (rel_Mail F_m.out (R6_0.out.ext (X7.out.trans (by assumption)))) (rel_Label F_lab.out)).mono ?_); rintro e w19 ⟨rfl, hx8⟩))
  all_goals clear al_c al_m al_lab al_xc al_xm
  have X8 : Hid (Ext V6 w19) := Lib.hid (by first | assumption | exact Ext.drew (by assumption))
  have F_new := F_c
  have ac_c := (Q_c.out.ext (X1.out.trans (X2.out.trans (X3.out.trans (X4.out.trans (X5.out.trans (X6.out.trans (X7.out.trans X8.out)))))))).cell
  have ac_m := (Q_m.out.ext (X1.out.trans (X2.out.trans (X3.out.trans (X4.out.trans (X5.out.trans (X6.out.trans (X7.out.trans X8.out)))))))).cell
  have ac_lab := (Q_lab.out.ext (X1.out.trans (X2.out.trans (X3.out.trans (X4.out.trans (X5.out.trans (X6.out.trans (X7.out.trans X8.out)))))))).cell
  have ac_xc := (Q_xc.out.ext (X6.out.trans (X7.out.trans X8.out))).cell
  have ac_xm := (Q_xm.out.ext (X8.out)).cell
  go_wp2_with fail
  clear ac_c ac_m ac_lab ac_xc ac_xm
  have al_c : ∀ V, Ext w19 V → ∀ i, V.cell? ⟨B, i, none⟩ = _ := fun V hx => (Q_c.out.ext (X1.out.trans (X2.out.trans (X3.out.trans (X4.out.trans (X5.out.trans (X6.out.trans (X7.out.trans (X8.out.trans hx))))))))).cell
  have al_m : ∀ V, Ext w19 V → ∀ i, V.cell? ⟨(B + 1), i, none⟩ = _ := fun V hx => (Q_m.out.ext (X1.out.trans (X2.out.trans (X3.out.trans (X4.out.trans (X5.out.trans (X6.out.trans (X7.out.trans (X8.out.trans hx))))))))).cell
  have al_lab : ∀ V, Ext w19 V → ∀ i, V.cell? ⟨(B + 1 + 1), i, none⟩ = _ := fun V hx => (Q_lab.out.ext (X1.out.trans (X2.out.trans (X3.out.trans (X4.out.trans (X5.out.trans (X6.out.trans (X7.out.trans (X8.out.trans hx))))))))).cell
  have al_xc : ∀ V, Ext w19 V → ∀ i, V.cell? ⟨C5, i, none⟩ = _ := fun V hx => (Q_xc.out.ext (X6.out.trans (X7.out.trans (X8.out.trans hx)))).cell
  have al_xm : ∀ V, Ext w19 V → ∀ i, V.cell? ⟨C6, i, none⟩ = _ := fun V hx => (Q_xm.out.ext (X8.out.trans hx)).cell
  go_region_held3 (fun w' => Ext w19 w') (first | exact Ext.refl _ | exact (Ext.refl _).drew | assumption | exact Ext.alloc (by assumption) _ | exact Ext.trans (by assumption) hx9 | exact Ext.trans (by assumption) hx10) (first | (go_at_call 7; (with_reducible refine (toConfig_any (S := S) c _ _ (rel_Config F_c.out (Rc_0.out.ext (X0.out.trans (X1.out.trans (X2.out.trans (X3.out.trans (X4.out.trans (X5.out.trans (X6.out.trans (X7.out.trans (X8.out.trans (by assumption))))))))))) (Rc_1.out.ext (X0.out.trans (X1.out.trans (X2.out.trans (X3.out.trans (X4.out.trans (X5.out.trans (X6.out.trans (X7.out.trans (X8.out.trans (by assumption))))))))))) (Rc_2.out.ext (X0.out.trans (X1.out.trans (X2.out.trans (X3.out.trans (X4.out.trans (X5.out.trans (X6.out.trans (X7.out.trans (X8.out.trans (by assumption)))))))))))) M_c.out).mono ?_); rintro e w20_9 ⟨_, rfl, ⟨u9_0, u9_1, u9_2, rfl, f9, r9_0, r9_1, r9_2⟩, hx9⟩; clear f9; simp only [cellsConfig]; obtain ⟨A9_0, c9_0, rfl, -⟩ := Rd.form r9_0; have R9_0 := Lib.hid r9_0; clear r9_0; obtain ⟨A9_1, c9_1, rfl, -⟩ := Rd.form r9_1; have R9_1 := Lib.hid r9_1; clear r9_1; obtain ⟨A9_2, c9_2, rfl, -⟩ := Rd.form r9_2; have R9_2 := Lib.hid r9_2; clear r9_2) | (go_at_call 11; (with_reducible refine (eqConfig_any c c _ _ _ (rel_Config F_c.out (R5_0.out.ext (X5.out.trans (X6.out.trans (X7.out.trans (X8.out.trans (by assumption)))))) (R5_1.out.ext (X5.out.trans (X6.out.trans (X7.out.trans (X8.out.trans (by assumption)))))) (R5_2.out.ext (X5.out.trans (X6.out.trans (X7.out.trans (X8.out.trans (by assumption))))))) (rel_Config F_new.out (by first | exact R9_0.out | exact R9_0.out.ext (by assumption) | exact R9_0.out.ext (Ext.trans (by assumption) hx10) | exact R9_0.out.ext (Ext.trans (by assumption) hx9) | exact R9_0.out.ext (Ext.trans (by assumption) hx8) | exact R9_0.out.ext (Ext.trans (by assumption) hx7) | exact R9_0.out.ext (Ext.trans (by assumption) hx6) | exact R9_0.out.ext (Ext.trans (by assumption) hx5) | exact R9_0.out.ext (Ext.trans (by assumption) hx4) | exact R9_0.out.ext (Ext.trans (by assumption) hx3) | exact R9_0.out.ext (Ext.trans (by assumption) hx2) | exact R9_0.out.ext (Ext.trans (by assumption) hx1)) (by first | exact R9_1.out | exact R9_1.out.ext (by assumption) | exact R9_1.out.ext (Ext.trans (by assumption) hx10) | exact R9_1.out.ext (Ext.trans (by assumption) hx9) | exact R9_1.out.ext (Ext.trans (by assumption) hx8) | exact R9_1.out.ext (Ext.trans (by assumption) hx7) | exact R9_1.out.ext (Ext.trans (by assumption) hx6) | exact R9_1.out.ext (Ext.trans (by assumption) hx5) | exact R9_1.out.ext (Ext.trans (by assumption) hx4) | exact R9_1.out.ext (Ext.trans (by assumption) hx3) | exact R9_1.out.ext (Ext.trans (by assumption) hx2) | exact R9_1.out.ext (Ext.trans (by assumption) hx1)) (by first | exact R9_2.out | exact R9_2.out.ext (by assumption) | exact R9_2.out.ext (Ext.trans (by assumption) hx10) | exact R9_2.out.ext (Ext.trans (by assumption) hx9) | exact R9_2.out.ext (Ext.trans (by assumption) hx8) | exact R9_2.out.ext (Ext.trans (by assumption) hx7) | exact R9_2.out.ext (Ext.trans (by assumption) hx6) | exact R9_2.out.ext (Ext.trans (by assumption) hx5) | exact R9_2.out.ext (Ext.trans (by assumption) hx4) | exact R9_2.out.ext (Ext.trans (by assumption) hx3) | exact R9_2.out.ext (Ext.trans (by assumption) hx2) | exact R9_2.out.ext (Ext.trans (by assumption) hx1)))).mono ?_); rintro e w20 ⟨rfl, hx10⟩))
  all_goals clear al_c al_m al_lab al_xc al_xm
  have X9 : Hid (Ext w19 w20) := Lib.hid (by first | assumption | exact Ext.drew (by assumption))
  clear F_new
  have F_new := F_m
  have ac_c := (Q_c.out.ext (X1.out.trans (X2.out.trans (X3.out.trans (X4.out.trans (X5.out.trans (X6.out.trans (X7.out.trans (X8.out.trans X9.out))))))))).cell
  have ac_m := (Q_m.out.ext (X1.out.trans (X2.out.trans (X3.out.trans (X4.out.trans (X5.out.trans (X6.out.trans (X7.out.trans (X8.out.trans X9.out))))))))).cell
  have ac_lab := (Q_lab.out.ext (X1.out.trans (X2.out.trans (X3.out.trans (X4.out.trans (X5.out.trans (X6.out.trans (X7.out.trans (X8.out.trans X9.out))))))))).cell
  have ac_xc := (Q_xc.out.ext (X6.out.trans (X7.out.trans (X8.out.trans X9.out)))).cell
  have ac_xm := (Q_xm.out.ext (X8.out.trans X9.out)).cell
  go_wp2_with fail
  clear ac_c ac_m ac_lab ac_xc ac_xm
  have al_c : ∀ V, Ext w20 V → ∀ i, V.cell? ⟨B, i, none⟩ = _ := fun V hx => (Q_c.out.ext (X1.out.trans (X2.out.trans (X3.out.trans (X4.out.trans (X5.out.trans (X6.out.trans (X7.out.trans (X8.out.trans (X9.out.trans hx)))))))))).cell
  have al_m : ∀ V, Ext w20 V → ∀ i, V.cell? ⟨(B + 1), i, none⟩ = _ := fun V hx => (Q_m.out.ext (X1.out.trans (X2.out.trans (X3.out.trans (X4.out.trans (X5.out.trans (X6.out.trans (X7.out.trans (X8.out.trans (X9.out.trans hx)))))))))).cell
  have al_lab : ∀ V, Ext w20 V → ∀ i, V.cell? ⟨(B + 1 + 1), i, none⟩ = _ := fun V hx => (Q_lab.out.ext (X1.out.trans (X2.out.trans (X3.out.trans (X4.out.trans (X5.out.trans (X6.out.trans (X7.out.trans (X8.out.trans (X9.out.trans hx)))))))))).cell
  have al_xc : ∀ V, Ext w20 V → ∀ i, V.cell? ⟨C5, i, none⟩ = _ := fun V hx => (Q_xc.out.ext (X6.out.trans (X7.out.trans (X8.out.trans (X9.out.trans hx))))).cell
  have al_xm : ∀ V, Ext w20 V → ∀ i, V.cell? ⟨C6, i, none⟩ = _ := fun V hx => (Q_xm.out.ext (X8.out.trans (X9.out.trans hx))).cell
  go_region_held3 (fun w' => Ext w20 w') (first | exact Ext.refl _ | exact (Ext.refl _).drew | assumption | exact Ext.alloc (by assumption) _ | exact Ext.trans (by assumption) hx11 | exact Ext.trans (by assumption) hx12) (first | (go_at_call 8; (with_reducible refine (toMail_any (S := S) m _ _ (rel_Mail F_m.out (Rm_0.out.ext (X0.out.trans (X1.out.trans (X2.out.trans (X3.out.trans (X4.out.trans (X5.out.trans (X6.out.trans (X7.out.trans (X8.out.trans (X9.out.trans (by assumption))))))))))))) M_m.out).mono ?_); rintro e w21_11 ⟨_, rfl, ⟨u11_0, rfl, f11, r11_0⟩, hx11⟩; clear f11; simp only [cellsMail]; obtain ⟨A11_0, c11_0, rfl, -⟩ := Rd.form r11_0; have R11_0 := Lib.hid r11_0; clear r11_0) | (go_at_call 12; (with_reducible refine (eqMail_any m m _ _ _ (rel_Mail F_m.out (R6_0.out.ext (X7.out.trans (X8.out.trans (X9.out.trans (by assumption)))))) (rel_Mail F_new.out (by first | exact R11_0.out | exact R11_0.out.ext (by assumption) | exact R11_0.out.ext (Ext.trans (by assumption) hx12) | exact R11_0.out.ext (Ext.trans (by assumption) hx11) | exact R11_0.out.ext (Ext.trans (by assumption) hx10) | exact R11_0.out.ext (Ext.trans (by assumption) hx9) | exact R11_0.out.ext (Ext.trans (by assumption) hx8) | exact R11_0.out.ext (Ext.trans (by assumption) hx7) | exact R11_0.out.ext (Ext.trans (by assumption) hx6) | exact R11_0.out.ext (Ext.trans (by assumption) hx5) | exact R11_0.out.ext (Ext.trans (by assumption) hx4) | exact R11_0.out.ext (Ext.trans (by assumption) hx3) | exact R11_0.out.ext (Ext.trans (by assumption) hx2) | exact R11_0.out.ext (Ext.trans (by assumption) hx1)))).mono ?_); rintro e w21 ⟨rfl, hx12⟩))
  all_goals clear al_c al_m al_lab al_xc al_xm
  have X10 : Hid (Ext w20 w21) := Lib.hid (by first | assumption | exact Ext.drew (by assumption))
  clear F_new
  have ac_c := (Q_c.out.ext (X1.out.trans (X2.out.trans (X3.out.trans (X4.out.trans (X5.out.trans (X6.out.trans (X7.out.trans (X8.out.trans (X9.out.trans X10.out)))))))))).cell
  have ac_m := (Q_m.out.ext (X1.out.trans (X2.out.trans (X3.out.trans (X4.out.trans (X5.out.trans (X6.out.trans (X7.out.trans (X8.out.trans (X9.out.trans X10.out)))))))))).cell
  have ac_lab := (Q_lab.out.ext (X1.out.trans (X2.out.trans (X3.out.trans (X4.out.trans (X5.out.trans (X6.out.trans (X7.out.trans (X8.out.trans (X9.out.trans X10.out)))))))))).cell
  have ac_xc := (Q_xc.out.ext (X6.out.trans (X7.out.trans (X8.out.trans (X9.out.trans X10.out))))).cell
  have ac_xm := (Q_xm.out.ext (X8.out.trans (X9.out.trans X10.out))).cell
  go_wp2_with fail
  go_ret
  exact ⟨rfl, (X0.out.trans (X1.out.trans (X2.out.trans (X3.out.trans (X4.out.trans (X5.out.trans (X6.out.trans (X7.out.trans (X8.out.trans (X9.out.trans X10.out))))))))))⟩

set_option maxRecDepth 100000 in
theorem fnExactMailView_lifted (os : Os) (started : os.Started) (H : Type) (enc : TypeId × Value → H) :
    ReturnsInHanded {} Tryz.checked os 3 .any (Rows.fnExactMailViewSpec.pre6 enc Tryz.prog Tryz.f3 Rows.fnExactMailViewRow.domain false) (Rows.fnExactMailViewSpec.post enc Tryz.prog Tryz.f3 false true false false) := by
  refine returnsInHanded_of_change (C := Tryz.checked) (show ownKnob Tryz.prog.godebug = none by kernel_rfl) started (by kernel_rfl) Tryz.func3
    (ChangeSpec.witness6 (enc := enc) (C := Tryz.checked) false ⟨#[], #[.agg #[.slice none 0 0, .slice none 0 0, .slice none 0 0, .int .i64 0], .agg #[.slice none 0 0], .agg #[.int .i64 0, .int .i64 0]], []⟩ 8 (by kernel_rfl) (by kernel_rfl) (by kernel_rfl) (by kernel_rfl)) ?_
  intro W base args ds gs before hval0 hW hcnd _
  have hval : ∀ (j : Nat) t v, Tryz.f3.params[j]? = some t → args[j]? = some v → Value.okWide Tryz.prog W .any base t v := hval0
  have hW' := hW
  obtain ⟨p, q, hA0, hV, rfl, hfz, hnd⟩ := hW
  have hA : DataW.TrodAll enc Tryz.prog W 0 (fun _ => true) true Tryz.f3.params.toList args.toList ds p := hA0
  rw [Tryz.params3] at hA hval
  obtain ⟨v0, v1, v2, d0, d1, d2, p0, p1, p2, rfl, rfl, rfl, h0, h1, h2⟩ := trodAll_three hA
  obtain ⟨rfl, rfl⟩ := trodVars_none hV
  obtain ⟨fu0, hf0⟩ := h0
  obtain ⟨c1, rc1⟩ := opens_Config hf0
  obtain ⟨⟨cs0⟩, rfl, hsz0⟩ := okWide_struct Tryz.underlying26 (hval 0 26 v0 rfl rfl)
  simp only [Value.cells] at rc1
  clear hf0 hsz0
  obtain ⟨fu1, hf1⟩ := h1
  obtain ⟨m1, rm1⟩ := opens_Mail hf1
  obtain ⟨⟨cs1⟩, rfl, hsz1⟩ := okWide_struct Tryz.underlying29 (hval 1 29 v1 rfl rfl)
  simp only [Value.cells] at rm1
  clear hf1 hsz1
  obtain ⟨fu2, hf2⟩ := h2
  obtain ⟨lab1, rlab1⟩ := opens_Label hf2
  obtain ⟨⟨cs2⟩, rfl, hsz2⟩ := okWide_struct Tryz.underlying31 (hval 2 31 v2 rfl rfl)
  simp only [Value.cells] at rlab1
  clear hf2 hsz2
  clear hA0 hval0 hval hcnd
  refine (fnExactMailView_walk c1 _ m1 _ lab1 _ W rc1 rm1 rlab1).mono fun e W2 ⟨he, hx⟩ => ?_
  subst he
  exact ⟨_, rfl, law_post (by kernel_rfl) (by kernel_rfl) Tryz.underlying4 (by intro t ht; rw [Tryz.params3] at ht; simp only [List.mem_cons, List.not_mem_nil, or_false] at ht; rcases ht with rfl | rfl | rfl <;> exact ⟨by kernel_rfl, of_decide_eq_true (by kernel_rfl)⟩) rfl rfl hW' hx⟩

theorem fnExactMailView_holds : Rows.FnExactMailViewSaid :=
  OpenClaim.holds_of_wide 3 Tryz.f3 rfl rfl rfl rfl rfl rfl rfl ⟨rfl, rfl, rfl, rfl, rfl⟩ rfl rfl rfl rfl rfl (by kernel_rfl) Tryz.func3 fnExactMailView_closed
    (of_decide_eq_true (by kernel_rfl)) (by unfold Func.isWrapper; rw [if_neg (of_decide_eq_false (by kernel_rfl))]; exact ⟨rfl, rfl⟩)
    (fun os started H enc _ => fnExactMailView_lifted os started H enc)
end Go.Proofs.YtdhcbbbmajjehaaGreat

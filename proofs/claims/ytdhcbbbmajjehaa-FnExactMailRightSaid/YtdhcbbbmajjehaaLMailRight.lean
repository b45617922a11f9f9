/- The law FnExactMailRight: the program's MailRight and the reference's are equal; its row. Printed by wip/law.py. -/
import Derived.Test.YtdhcbbbmajjehaaKMailRight
import Derived.Test.YtdhcbbbmajjehaaMailI
import Derived.Test.YtdhcbbbmajjehaaMailS
import Derived.Test.YtdhcbbbmajjehaaGTo
import Derived.Test.YtdhcbbbmajjehaaGEq
import Derived.Test.YtdhcbbbmajjehaaGSz
import Derived.Test.YtdhcbbbmajjehaaGOpen
import Derived.Deep.RegionHeld3
import Derived.ChangeMaps5
namespace Go.Proofs.Ytdhcbbbmajjehaa
open Go.ChangeShapes Go.WideShapes Go.ChangeAt Go.RowKit Go.ChangeMaps
attribute [local irreducible] wpQuiet

set_option maxHeartbeats 16000000 in
set_option maxRecDepth 100000 in
theorem fnExactMailRight_walk {S : Nat → Prop} (c : Config) (csc : List Value) (m : Mail) (csm : List Value) (w : World) (hc : EConfig.rel S w csc c) (hm : EMail.rel S w csm m) :
    Calls Try.prog 7 #[.agg csc.toArray, .agg csm.toArray] w fun e w' => e = .returned (.bool true) ∧ Ext w w' := by
  have h0 : (0 : Int) ≤ 1048576 := by decide
  obtain ⟨vc_0, vc_1, vc_2, rfl, hf_c, hrc_0, hrc_1, hrc_2⟩ := hc
  have F_c := Lib.hid hf_c
  clear hf_c
  obtain ⟨Ac_0, cc_0, rfl, l1c_0, l2c_0⟩ := hrc_0.form
  unfold maxLen at l2c_0
  have Rc_0 := Lib.hid hrc_0
  clear hrc_0
  obtain ⟨Ac_1, cc_1, rfl, l1c_1, l2c_1⟩ := hrc_1.form
  unfold maxLen at l2c_1
  have Rc_1 := Lib.hid hrc_1
  clear hrc_1
  obtain ⟨Ac_2, cc_2, rfl, l1c_2, l2c_2⟩ := hrc_2.form
  unfold maxLen at l2c_2
  have Rc_2 := Lib.hid hrc_2
  clear hrc_2
  simp only [cellsConfig]
  obtain ⟨vm_0, rfl, hf_m, hrm_0⟩ := hm
  have F_m := Lib.hid hf_m
  clear hf_m
  obtain ⟨Am_0, cm_0, rfl, l1m_0, l2m_0⟩ := hrm_0.form
  unfold maxLen at l2m_0
  have Rm_0 := Lib.hid hrm_0
  clear hrm_0
  simp only [cellsMail]
  go_enter Try.func7, Try.ntmps7
  go_upto_region 1 with (fail)
  obtain ⟨W0, B, hW, hB, hx0, b_0, b_1⟩ := boxes2 w #[.slice Ac_0 c.nodes.length cc_0, .slice Ac_1 c.pairs.length cc_1, .slice Ac_2 c.quotas.length cc_2, .int .i64 c.half] #[.slice Am_0 m.boxes.length cm_0] 80 98
  rw [← hW, ← hB]
  have Q_c : Hid (Blk W0 (B) 80 #[.slice Ac_0 c.nodes.length cc_0, .slice Ac_1 c.pairs.length cc_1, .slice Ac_2 c.quotas.length cc_2, .int .i64 c.half]) := Lib.hid b_0
  have Q_m : Hid (Blk W0 (B + 1) 98 #[.slice Am_0 m.boxes.length cm_0]) := Lib.hid b_1
  clear hW hB b_0 b_1
  have X0 := Lib.hid hx0
  clear hx0
  have ac_c := (Q_c.out.ext (Ext.refl _)).cell
  have ac_m := (Q_m.out.ext (Ext.refl _)).cell
  by_cases hs_c : szConfig c 1048576 < 0
  · go_wp2_with fail
    refine (szConfig_any c _ 1048576 _ (rel_Config F_c.out (Rc_0.out.ext (X0.out)) (Rc_1.out.ext (X0.out)) (Rc_2.out.ext (X0.out))) h0 (Int.le_refl _)).mono ?_
    rintro e w12 ⟨rfl, hx⟩
    have X1 := Lib.hid hx
    clear hx ac_c ac_m
    go_wp2_with fail
    go_ret
    exact ⟨rfl, (X0.out.trans X1.out)⟩
  have hp_c : 0 ≤ szConfig c 1048576 := by omega
  have M_c := Lib.hid (small_szConfig h0 (Int.le_refl _) hp_c)
  have hq_c : szConfig c 1048576 ≤ 1048576 := by have := pays_szConfig c 1048576 h0; have := h0; omega
  clear hs_c
  go_wp2_with fail
  refine (szConfig_any c _ 1048576 _ (rel_Config F_c.out (Rc_0.out.ext (X0.out)) (Rc_1.out.ext (X0.out)) (Rc_2.out.ext (X0.out))) h0 (Int.le_refl _)).mono ?_
  rintro e w12 ⟨rfl, hx⟩
  have X1 := Lib.hid hx
  clear hx ac_c ac_m
  generalize szConfig c 1048576 = q_c at *
  have HP_c := Lib.hid hp_c
  have HQ_c := Lib.hid hq_c
  clear hq_c
  have ac_c := (Q_c.out.ext (X1.out)).cell
  have ac_m := (Q_m.out.ext (X1.out)).cell
  have k0 := HP_c.out
  have k1 := HQ_c.out
  by_cases hs_m : szMail m q_c < 0
  · go_wp2_with fail
    refine (szMail_any m _ q_c _ (rel_Mail F_m.out (Rm_0.out.ext (X0.out.trans X1.out))) HP_c.out HQ_c.out).mono ?_
    rintro e w13 ⟨rfl, hx⟩
    have X2 := Lib.hid hx
    clear hx ac_c ac_m
    go_wp2_with fail
    go_ret
    exact ⟨rfl, (X0.out.trans (X1.out.trans X2.out))⟩
  have hp_m : 0 ≤ szMail m q_c := by omega
  have M_m := Lib.hid (small_szMail HP_c.out HQ_c.out hp_m)
  have hq_m : szMail m q_c ≤ 1048576 := by have := pays_szMail m q_c HP_c.out; have := HQ_c.out; omega
  clear hs_m
  go_wp2_with fail
  refine (szMail_any m _ q_c _ (rel_Mail F_m.out (Rm_0.out.ext (X0.out.trans X1.out))) HP_c.out HQ_c.out).mono ?_
  rintro e w13 ⟨rfl, hx⟩
  have X2 := Lib.hid hx
  clear hx ac_c ac_m
  generalize szMail m q_c = q_m at *
  have HP_m := Lib.hid hp_m
  have HQ_m := Lib.hid hq_m
  clear hq_m
  have ac_c := (Q_c.out.ext (X1.out.trans X2.out)).cell
  have ac_m := (Q_m.out.ext (X1.out.trans X2.out)).cell
  go_wp2_with fail
  clear ac_c ac_m
  have al_c : ∀ V, Ext w13 V → ∀ i, V.cell? ⟨B, i, none⟩ = _ := fun V hx => (Q_c.out.ext (X1.out.trans (X2.out.trans hx))).cell
  have al_m : ∀ V, Ext w13 V → ∀ i, V.cell? ⟨(B + 1), i, none⟩ = _ := fun V hx => (Q_m.out.ext (X1.out.trans (X2.out.trans hx))).cell
  go_region_held3 (fun w' => Ext w13 w') (first | exact Ext.refl _ | exact (Ext.refl _).drew | assumption | exact Ext.alloc (by assumption) _ | exact Ext.trans (by assumption) hx1 | exact Ext.trans (by assumption) hx2 | exact Ext.trans (by assumption) hx3) (first | (go_at_call 55; (with_reducible refine (toConfig_any (S := S) c _ _ (rel_Config F_c.out (Rc_0.out.ext (X0.out.trans (X1.out.trans (X2.out.trans (by assumption))))) (Rc_1.out.ext (X0.out.trans (X1.out.trans (X2.out.trans (by assumption))))) (Rc_2.out.ext (X0.out.trans (X1.out.trans (X2.out.trans (by assumption)))))) M_c.out).mono ?_); rintro e w14_1 ⟨_, rfl, ⟨u1_0, u1_1, u1_2, rfl, f1, r1_0, r1_1, r1_2⟩, hx1⟩; clear f1; simp only [cellsConfig]; obtain ⟨A1_0, c1_0, rfl, -⟩ := Rd.form r1_0; have R1_0 := Lib.hid r1_0; clear r1_0; obtain ⟨A1_1, c1_1, rfl, -⟩ := Rd.form r1_1; have R1_1 := Lib.hid r1_1; clear r1_1; obtain ⟨A1_2, c1_2, rfl, -⟩ := Rd.form r1_2; have R1_2 := Lib.hid r1_2; clear r1_2) | (go_at_call 65; (with_reducible refine (toMail_any (S := S) m _ _ (rel_Mail F_m.out (Rm_0.out.ext (X0.out.trans (X1.out.trans (X2.out.trans (by assumption)))))) M_m.out).mono ?_); rintro e w14_2 ⟨_, rfl, ⟨u2_0, rfl, f2, r2_0⟩, hx2⟩; clear f2; simp only [cellsMail]; obtain ⟨A2_0, c2_0, rfl, -⟩ := Rd.form r2_0; have R2_0 := Lib.hid r2_0; clear r2_0) | (go_at_call 64; (with_reducible refine (specMailRight_any c m _ _ _ (rel_Config F_c.out (by first | exact R1_0.out | exact R1_0.out.ext (by assumption)) (by first | exact R1_1.out | exact R1_1.out.ext (by assumption)) (by first | exact R1_2.out | exact R1_2.out.ext (by assumption))) (rel_Mail F_m.out (by first | exact R2_0.out | exact R2_0.out.ext (by assumption)))).mono ?_); rintro e w14 ⟨rfl, hx3⟩))
  all_goals clear al_c al_m
  have X3 : Hid (Ext w13 w14) := Lib.hid (by first | assumption | exact Ext.drew (by assumption))
  have ac_c := (Q_c.out.ext (X1.out.trans (X2.out.trans X3.out))).cell
  have ac_m := (Q_m.out.ext (X1.out.trans (X2.out.trans X3.out))).cell
  go_wp2_with fail
  refine (toConfig_any (S := S) c _ _ (rel_Config F_c.out (Rc_0.out.ext (X0.out.trans (X1.out.trans (X2.out.trans X3.out)))) (Rc_1.out.ext (X0.out.trans (X1.out.trans (X2.out.trans X3.out)))) (Rc_2.out.ext (X0.out.trans (X1.out.trans (X2.out.trans X3.out))))) M_c.out).mono ?_
  rintro e w15 ⟨_, rfl, ⟨u4_0, u4_1, u4_2, rfl, f4, r4_0, r4_1, r4_2⟩, hx⟩
  have X4 := Lib.hid hx
  clear hx ac_c ac_m
  clear f4
  simp only [cellsConfig]
  obtain ⟨A4_0, c4_0, rfl, -⟩ := Rd.form r4_0
  have R4_0 := Lib.hid r4_0
  clear r4_0
  obtain ⟨A4_1, c4_1, rfl, -⟩ := Rd.form r4_1
  have R4_1 := Lib.hid r4_1
  clear r4_1
  obtain ⟨A4_2, c4_2, rfl, -⟩ := Rd.form r4_2
  have R4_2 := Lib.hid r4_2
  clear r4_2
  have ac_c := (Q_c.out.ext (X1.out.trans (X2.out.trans (X3.out.trans X4.out)))).cell
  have ac_m := (Q_m.out.ext (X1.out.trans (X2.out.trans (X3.out.trans X4.out)))).cell
  go_upto_region 10 with (fail)
  clear ac_c ac_m
  obtain ⟨V4, C4, hW, hB, hx, hbox⟩ := box_new w15 #[.slice A4_0 c.nodes.length c4_0, .slice A4_1 c.pairs.length c4_1, .slice A4_2 c.quotas.length c4_2, .int .i64 c.half] 88
  rw [← hW, ← hB]
  have Q_xc : Hid (Blk V4 C4 88 #[.slice A4_0 c.nodes.length c4_0, .slice A4_1 c.pairs.length c4_1, .slice A4_2 c.quotas.length c4_2, .int .i64 c.half]) := Lib.hid (by rw [hW, hB]; exact Blk.new w15 _ _)
  have X5 := Lib.hid hx
  clear hW hB hbox hx
  have ac_c := (Q_c.out.ext (X1.out.trans (X2.out.trans (X3.out.trans (X4.out.trans X5.out))))).cell
  have ac_m := (Q_m.out.ext (X1.out.trans (X2.out.trans (X3.out.trans (X4.out.trans X5.out))))).cell
  have ac_xc := (Q_xc.out.ext (Ext.refl _)).cell
  go_wp2_with fail
  refine (toMail_any (S := S) m _ _ (rel_Mail F_m.out (Rm_0.out.ext (X0.out.trans (X1.out.trans (X2.out.trans (X3.out.trans (X4.out.trans X5.out))))))) M_m.out).mono ?_
  rintro e w17 ⟨_, rfl, ⟨u5_0, rfl, f5, r5_0⟩, hx⟩
  have X6 := Lib.hid hx
  clear hx ac_c ac_m ac_xc
  clear f5
  simp only [cellsMail]
  obtain ⟨A5_0, c5_0, rfl, -⟩ := Rd.form r5_0
  have R5_0 := Lib.hid r5_0
  clear r5_0
  have ac_c := (Q_c.out.ext (X1.out.trans (X2.out.trans (X3.out.trans (X4.out.trans (X5.out.trans X6.out)))))).cell
  have ac_m := (Q_m.out.ext (X1.out.trans (X2.out.trans (X3.out.trans (X4.out.trans (X5.out.trans X6.out)))))).cell
  have ac_xc := (Q_xc.out.ext (X6.out)).cell
  go_upto_region 11 with (fail)
  clear ac_c ac_m ac_xc
  obtain ⟨V5, C5, hW, hB, hx, hbox⟩ := box_new w17 #[.slice A5_0 m.boxes.length c5_0] 103
  rw [← hW, ← hB]
  have Q_xm : Hid (Blk V5 C5 103 #[.slice A5_0 m.boxes.length c5_0]) := Lib.hid (by rw [hW, hB]; exact Blk.new w17 _ _)
  have X7 := Lib.hid hx
  clear hW hB hbox hx
  have ac_c := (Q_c.out.ext (X1.out.trans (X2.out.trans (X3.out.trans (X4.out.trans (X5.out.trans (X6.out.trans X7.out))))))).cell
  have ac_m := (Q_m.out.ext (X1.out.trans (X2.out.trans (X3.out.trans (X4.out.trans (X5.out.trans (X6.out.trans X7.out))))))).cell
  have ac_xc := (Q_xc.out.ext (X6.out.trans X7.out)).cell
  have ac_xm := (Q_xm.out.ext (Ext.refl _)).cell
  go_wp2_with fail
  refine (mailRight_any c m _ _ _ (rel_Config F_c.out (R4_0.out.ext (X5.out.trans (X6.out.trans X7.out))) (R4_1.out.ext (X5.out.trans (X6.out.trans X7.out))) (R4_2.out.ext (X5.out.trans (X6.out.trans X7.out)))) (rel_Mail F_m.out (R5_0.out.ext (X7.out)))).mono ?_
  rintro e w19 ⟨rfl, hx⟩
  have X8 := Lib.hid hx
  clear hx ac_c ac_m ac_xc ac_xm
  have F_new := F_c
  have ac_c := (Q_c.out.ext (X1.out.trans (X2.out.trans (X3.out.trans (X4.out.trans (X5.out.trans (X6.out.trans (X7.out.trans X8.out)))))))).cell
  have ac_m := (Q_m.out.ext (X1.out.trans (X2.out.trans (X3.out.trans (X4.out.trans (X5.out.trans (X6.out.trans (X7.out.trans X8.out)))))))).cell
  have ac_xc := (Q_xc.out.ext (X6.out.trans (X7.out.trans X8.out))).cell
  have ac_xm := (Q_xm.out.ext (X8.out)).cell
  go_wp2_with fail
  clear ac_c ac_m ac_xc ac_xm
  have al_c : ∀ V, Ext w19 V → ∀ i, V.cell? ⟨B, i, none⟩ = _ := fun V hx => (Q_c.out.ext (X1.out.trans (X2.out.trans (X3.out.trans (X4.out.trans (X5.out.trans (X6.out.trans (X7.out.trans (X8.out.trans hx))))))))).cell
  have al_m : ∀ V, Ext w19 V → ∀ i, V.cell? ⟨(B + 1), i, none⟩ = _ := fun V hx => (Q_m.out.ext (X1.out.trans (X2.out.trans (X3.out.trans (X4.out.trans (X5.out.trans (X6.out.trans (X7.out.trans (X8.out.trans hx))))))))).cell
  have al_xc : ∀ V, Ext w19 V → ∀ i, V.cell? ⟨C4, i, none⟩ = _ := fun V hx => (Q_xc.out.ext (X6.out.trans (X7.out.trans (X8.out.trans hx)))).cell
  have al_xm : ∀ V, Ext w19 V → ∀ i, V.cell? ⟨C5, i, none⟩ = _ := fun V hx => (Q_xm.out.ext (X8.out.trans hx)).cell
  go_region_held3 (fun w' => Ext w19 w') (first | exact Ext.refl _ | exact (Ext.refl _).drew | assumption | exact Ext.alloc (by assumption) _ | exact Ext.trans (by assumption) hx6 | exact Ext.trans (by assumption) hx7) (first | (go_at_call 55; (with_reducible refine (toConfig_any (S := S) c _ _ (rel_Config F_c.out (Rc_0.out.ext (X0.out.trans (X1.out.trans (X2.out.trans (X3.out.trans (X4.out.trans (X5.out.trans (X6.out.trans (X7.out.trans (X8.out.trans (by assumption))))))))))) (Rc_1.out.ext (X0.out.trans (X1.out.trans (X2.out.trans (X3.out.trans (X4.out.trans (X5.out.trans (X6.out.trans (X7.out.trans (X8.out.trans (by assumption))))))))))) (Rc_2.out.ext (X0.out.trans (X1.out.trans (X2.out.trans (X3.out.trans (X4.out.trans (X5.out.trans (X6.out.trans (X7.out.trans (X8.out.trans (by assumption)))))))))))) M_c.out).mono ?_); rintro e w20_6 ⟨_, rfl, ⟨u6_0, u6_1, u6_2, rfl, f6, r6_0, r6_1, r6_2⟩, hx6⟩; clear f6; simp only [cellsConfig]; obtain ⟨A6_0, c6_0, rfl, -⟩ := Rd.form r6_0; have R6_0 := Lib.hid r6_0; clear r6_0; obtain ⟨A6_1, c6_1, rfl, -⟩ := Rd.form r6_1; have R6_1 := Lib.hid r6_1; clear r6_1; obtain ⟨A6_2, c6_2, rfl, -⟩ := Rd.form r6_2; have R6_2 := Lib.hid r6_2; clear r6_2) | (go_at_call 59; (with_reducible refine (eqConfig_any c c _ _ _ (rel_Config F_c.out (R4_0.out.ext (X5.out.trans (X6.out.trans (X7.out.trans (X8.out.trans (by assumption)))))) (R4_1.out.ext (X5.out.trans (X6.out.trans (X7.out.trans (X8.out.trans (by assumption)))))) (R4_2.out.ext (X5.out.trans (X6.out.trans (X7.out.trans (X8.out.trans (by assumption))))))) (rel_Config F_new.out (by first | exact R6_0.out | exact R6_0.out.ext (by assumption)) (by first | exact R6_1.out | exact R6_1.out.ext (by assumption)) (by first | exact R6_2.out | exact R6_2.out.ext (by assumption)))).mono ?_); rintro e w20 ⟨rfl, hx7⟩))
  all_goals clear al_c al_m al_xc al_xm
  have X9 : Hid (Ext w19 w20) := Lib.hid (by first | assumption | exact Ext.drew (by assumption))
  clear F_new
  have F_new := F_m
  have ac_c := (Q_c.out.ext (X1.out.trans (X2.out.trans (X3.out.trans (X4.out.trans (X5.out.trans (X6.out.trans (X7.out.trans (X8.out.trans X9.out))))))))).cell
  have ac_m := (Q_m.out.ext (X1.out.trans (X2.out.trans (X3.out.trans (X4.out.trans (X5.out.trans (X6.out.trans (X7.out.trans (X8.out.trans X9.out))))))))).cell
  have ac_xc := (Q_xc.out.ext (X6.out.trans (X7.out.trans (X8.out.trans X9.out)))).cell
  have ac_xm := (Q_xm.out.ext (X8.out.trans X9.out)).cell
  go_wp2_with fail
  clear ac_c ac_m ac_xc ac_xm
  have al_c : ∀ V, Ext w20 V → ∀ i, V.cell? ⟨B, i, none⟩ = _ := fun V hx => (Q_c.out.ext (X1.out.trans (X2.out.trans (X3.out.trans (X4.out.trans (X5.out.trans (X6.out.trans (X7.out.trans (X8.out.trans (X9.out.trans hx)))))))))).cell
  have al_m : ∀ V, Ext w20 V → ∀ i, V.cell? ⟨(B + 1), i, none⟩ = _ := fun V hx => (Q_m.out.ext (X1.out.trans (X2.out.trans (X3.out.trans (X4.out.trans (X5.out.trans (X6.out.trans (X7.out.trans (X8.out.trans (X9.out.trans hx)))))))))).cell
  have al_xc : ∀ V, Ext w20 V → ∀ i, V.cell? ⟨C4, i, none⟩ = _ := fun V hx => (Q_xc.out.ext (X6.out.trans (X7.out.trans (X8.out.trans (X9.out.trans hx))))).cell
  have al_xm : ∀ V, Ext w20 V → ∀ i, V.cell? ⟨C5, i, none⟩ = _ := fun V hx => (Q_xm.out.ext (X8.out.trans (X9.out.trans hx))).cell
  go_region_held3 (fun w' => Ext w20 w') (first | exact Ext.refl _ | exact (Ext.refl _).drew | assumption | exact Ext.alloc (by assumption) _ | exact Ext.trans (by assumption) hx8 | exact Ext.trans (by assumption) hx9) (first | (go_at_call 65; (with_reducible refine (toMail_any (S := S) m _ _ (rel_Mail F_m.out (Rm_0.out.ext (X0.out.trans (X1.out.trans (X2.out.trans (X3.out.trans (X4.out.trans (X5.out.trans (X6.out.trans (X7.out.trans (X8.out.trans (X9.out.trans (by assumption))))))))))))) M_m.out).mono ?_); rintro e w21_8 ⟨_, rfl, ⟨u8_0, rfl, f8, r8_0⟩, hx8⟩; clear f8; simp only [cellsMail]; obtain ⟨A8_0, c8_0, rfl, -⟩ := Rd.form r8_0; have R8_0 := Lib.hid r8_0; clear r8_0) | (go_at_call 67; (with_reducible refine (eqMail_any m m _ _ _ (rel_Mail F_m.out (R5_0.out.ext (X7.out.trans (X8.out.trans (X9.out.trans (by assumption)))))) (rel_Mail F_new.out (by first | exact R8_0.out | exact R8_0.out.ext (by assumption)))).mono ?_); rintro e w21 ⟨rfl, hx9⟩))
  all_goals clear al_c al_m al_xc al_xm
  have X10 : Hid (Ext w20 w21) := Lib.hid (by first | assumption | exact Ext.drew (by assumption))
  clear F_new
  have ac_c := (Q_c.out.ext (X1.out.trans (X2.out.trans (X3.out.trans (X4.out.trans (X5.out.trans (X6.out.trans (X7.out.trans (X8.out.trans (X9.out.trans X10.out)))))))))).cell
  have ac_m := (Q_m.out.ext (X1.out.trans (X2.out.trans (X3.out.trans (X4.out.trans (X5.out.trans (X6.out.trans (X7.out.trans (X8.out.trans (X9.out.trans X10.out)))))))))).cell
  have ac_xc := (Q_xc.out.ext (X6.out.trans (X7.out.trans (X8.out.trans (X9.out.trans X10.out))))).cell
  have ac_xm := (Q_xm.out.ext (X8.out.trans (X9.out.trans X10.out))).cell
  go_wp2_with fail
  go_ret
  exact ⟨rfl, (X0.out.trans (X1.out.trans (X2.out.trans (X3.out.trans (X4.out.trans (X5.out.trans (X6.out.trans (X7.out.trans (X8.out.trans (X9.out.trans X10.out))))))))))⟩

set_option maxRecDepth 100000 in
theorem fnExactMailRight_lifted (os : Os) (started : os.Started) (H : Type) (enc : TypeId × Value → H) :
    ReturnsInHanded {} Try.checked os 7 .any (Rows.fnExactMailRightSpec.pre6 enc Try.prog Try.f7 Rows.fnExactMailRightRow.domain false) (Rows.fnExactMailRightSpec.post enc Try.prog Try.f7 false true false false) := by
  refine returnsInHanded_of_change (C := Try.checked) (show ownKnob Try.prog.godebug = none by kernel_rfl) started (by kernel_rfl) Try.func7
    (ChangeSpec.witness6 (enc := enc) (C := Try.checked) false ⟨#[], #[.agg #[.slice none 0 0, .slice none 0 0, .slice none 0 0, .int .i64 0], .agg #[.slice none 0 0]], []⟩ 8 (by kernel_rfl) (by kernel_rfl) (by kernel_rfl) (by kernel_rfl)) ?_
  intro W base args ds gs before hval0 hW hcnd _
  have hval : ∀ (j : Nat) t v, Try.f7.params[j]? = some t → args[j]? = some v → Value.okWide Try.prog W .any base t v := hval0
  have hW' := hW
  obtain ⟨p, q, hA0, hV, rfl, hfz, hnd⟩ := hW
  have hA : DataW.TrodAll enc Try.prog W 0 (fun _ => true) true Try.f7.params.toList args.toList ds p := hA0
  rw [Try.params7] at hA hval
  obtain ⟨v0, v1, d0, d1, p0, p1, rfl, rfl, rfl, h0, h1⟩ := trodAll_two hA
  obtain ⟨rfl, rfl⟩ := trodVars_none hV
  obtain ⟨fu0, hf0⟩ := h0
  obtain ⟨c1, rc1⟩ := opens_Config hf0
  obtain ⟨⟨cs0⟩, rfl, hsz0⟩ := okWide_struct Try.underlying80 (hval 0 80 v0 rfl rfl)
  simp only [Value.cells] at rc1
  clear hf0 hsz0
  obtain ⟨fu1, hf1⟩ := h1
  obtain ⟨m1, rm1⟩ := opens_Mail hf1
  obtain ⟨⟨cs1⟩, rfl, hsz1⟩ := okWide_struct Try.underlying98 (hval 1 98 v1 rfl rfl)
  simp only [Value.cells] at rm1
  clear hf1 hsz1
  clear hA0 hval0 hval hcnd
  refine (fnExactMailRight_walk c1 _ m1 _ W rc1 rm1).mono fun e W2 ⟨he, hx⟩ => ?_
  subst he
  exact ⟨_, rfl, law_post (by kernel_rfl) (by kernel_rfl) Try.underlying4 (by intro t ht; rw [Try.params7] at ht; simp only [List.mem_cons, List.not_mem_nil, or_false] at ht; rcases ht with rfl | rfl <;> exact ⟨by kernel_rfl, of_decide_eq_true (by kernel_rfl)⟩) rfl rfl hW' hx⟩

theorem fnExactMailRight_holds : Rows.FnExactMailRightSaid :=
  OpenClaim.holds_of_wide 7 Try.f7 rfl rfl rfl rfl rfl rfl rfl ⟨rfl, rfl, rfl, rfl, rfl⟩ rfl rfl rfl rfl rfl (by kernel_rfl) Try.func7 fnExactMailRight_closed
    (of_decide_eq_true (by kernel_rfl)) (by unfold Func.isWrapper; rw [if_neg (of_decide_eq_false (by kernel_rfl))]; exact ⟨rfl, rfl⟩)
    (fun os started H enc _ => fnExactMailRight_lifted os started H enc)
end Go.Proofs.Ytdhcbbbmajjehaa

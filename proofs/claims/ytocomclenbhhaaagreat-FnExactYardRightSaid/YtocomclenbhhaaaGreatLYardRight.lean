/- The law FnExactYardRight: the program's YardRight and the reference's are equal; its row. Printed by wip/law.py. -/
import Derived.Test.YtocomclenbhhaaaGreatKYardRight
import Derived.Test.YtocomclenbhhaaaGreatYardS
import Derived.Test.YtocomclenbhhaaaGreatGYardT
import Derived.Test.YtocomclenbhhaaaGreatGYardE
import Derived.Deep.RegionHeld3
import Derived.ChangeMaps5
namespace Go.Proofs.YtocomclenbhhaaaGreat
open Go.ChangeShapes Go.WideShapes Go.ChangeAt Go.RowKit Go.ChangeMaps
attribute [local irreducible] wpQuiet

set_option maxHeartbeats 16000000 in
set_option maxRecDepth 100000 in
theorem fnExactYardRight_walk {S : Nat → Prop} (y : Yard) (csy : List Value) (w : World) (hy : EYard.rel S w csy y) :
    Calls Tryz.prog 4 #[.agg csy.toArray] w fun e w' => e = .returned (.bool true) ∧ Ext w w' := by
  have h0 : (0 : Int) ≤ 1048576 := by decide
  obtain ⟨vy_0, vy_1, vy_2, vy_3, vy_4, vy_5, rfl, hf_y, hry_0, hry_1, hry_2, hry_3, hry_4, hry_5⟩ := hy
  have F_y := Lib.hid hf_y
  clear hf_y
  obtain ⟨Ay_0, cy_0, rfl, l1y_0, l2y_0⟩ := hry_0.form
  unfold maxLen at l2y_0
  have Ry_0 := Lib.hid hry_0
  clear hry_0
  obtain ⟨Ay_1, cy_1, rfl, l1y_1, l2y_1⟩ := hry_1.form
  unfold maxLen at l2y_1
  have Ry_1 := Lib.hid hry_1
  clear hry_1
  obtain ⟨Ay_2, cy_2, rfl, l1y_2, l2y_2⟩ := hry_2.form
  unfold maxLen at l2y_2
  have Ry_2 := Lib.hid hry_2
  clear hry_2
  obtain ⟨Ay_3, cy_3, rfl, l1y_3, l2y_3⟩ := hry_3.form
  unfold maxLen at l2y_3
  have Ry_3 := Lib.hid hry_3
  clear hry_3
  obtain ⟨Ay_4, cy_4, rfl, l1y_4, l2y_4⟩ := hry_4.form
  unfold maxLen at l2y_4
  have Ry_4 := Lib.hid hry_4
  clear hry_4
  obtain ⟨Ay_5, cy_5, rfl, l1y_5, l2y_5⟩ := hry_5.form
  unfold maxLen at l2y_5
  have Ry_5 := Lib.hid hry_5
  clear hry_5
  simp only [cellsYard]
  go_enter Tryz.func4, Tryz.ntmps4
  go_upto_region 1 with (fail)
  obtain ⟨W0, B, hW, hB, hx0, hbox⟩ := box_new w #[.slice Ay_0 y.config.nodes.length cy_0, .slice Ay_1 y.config.pairs.length cy_1, .slice Ay_2 y.config.quotas.length cy_2, .int .i64 y.config.half, .slice Ay_3 y.nodes.length cy_3, .slice Ay_4 y.tasks.length cy_4, .slice Ay_5 y.uses.length cy_5, .int .i64 y.now] 51
  rw [← hW, ← hB]
  have Q_y : Hid (Blk W0 B 51 #[.slice Ay_0 y.config.nodes.length cy_0, .slice Ay_1 y.config.pairs.length cy_1, .slice Ay_2 y.config.quotas.length cy_2, .int .i64 y.config.half, .slice Ay_3 y.nodes.length cy_3, .slice Ay_4 y.tasks.length cy_4, .slice Ay_5 y.uses.length cy_5, .int .i64 y.now]) := Lib.hid (by rw [hW, hB]; exact Blk.new w _ _)
  clear hW hB hbox
  have X0 := Lib.hid hx0
  clear hx0
  have ac_y := (Q_y.out.ext (Ext.refl _)).cell
  by_cases hs_y : szYard y 1048576 < 0
  · go_wp2_with fail
    refine (szYard_any y _ 1048576 _ (rel_Yard F_y.out (Ry_0.out.ext (X0.out)) (Ry_1.out.ext (X0.out)) (Ry_2.out.ext (X0.out)) (Ry_3.out.ext (X0.out)) (Ry_4.out.ext (X0.out)) (Ry_5.out.ext (X0.out))) h0 (Int.le_refl _)).mono ?_
    rintro e w12 ⟨rfl, hx⟩
    have X1 := Lib.hid hx
    clear hx ac_y
    go_wp2_with fail
    go_ret
    exact ⟨rfl, (X0.out.trans X1.out)⟩
  have hp_y : 0 ≤ szYard y 1048576 := by omega
  have M_y := Lib.hid (small_szYard h0 (Int.le_refl _) hp_y)
  have hq_y : szYard y 1048576 ≤ 1048576 := by have := pays_szYard y 1048576 h0; have := h0; omega
  clear hs_y
  go_wp2_with fail
  refine (szYard_any y _ 1048576 _ (rel_Yard F_y.out (Ry_0.out.ext (X0.out)) (Ry_1.out.ext (X0.out)) (Ry_2.out.ext (X0.out)) (Ry_3.out.ext (X0.out)) (Ry_4.out.ext (X0.out)) (Ry_5.out.ext (X0.out))) h0 (Int.le_refl _)).mono ?_
  rintro e w12 ⟨rfl, hx⟩
  have X1 := Lib.hid hx
  clear hx ac_y
  generalize szYard y 1048576 = q_y at *
  have HP_y := Lib.hid hp_y
  have HQ_y := Lib.hid hq_y
  clear hq_y
  have ac_y := (Q_y.out.ext (X1.out)).cell
  go_wp2_with fail
  refine (toYard_any (S := S) y _ _ (rel_Yard F_y.out (Ry_0.out.ext (X0.out.trans X1.out)) (Ry_1.out.ext (X0.out.trans X1.out)) (Ry_2.out.ext (X0.out.trans X1.out)) (Ry_3.out.ext (X0.out.trans X1.out)) (Ry_4.out.ext (X0.out.trans X1.out)) (Ry_5.out.ext (X0.out.trans X1.out))) M_y.out).mono ?_
  rintro e w13 ⟨_, rfl, ⟨u1_0, u1_1, u1_2, u1_3, u1_4, u1_5, rfl, f1, r1_0, r1_1, r1_2, r1_3, r1_4, r1_5⟩, hx⟩
  have X2 := Lib.hid hx
  clear hx ac_y
  clear f1
  simp only [cellsYard]
  obtain ⟨A1_0, c1_0, rfl, -⟩ := Rd.form r1_0
  have R1_0 := Lib.hid r1_0
  clear r1_0
  obtain ⟨A1_1, c1_1, rfl, -⟩ := Rd.form r1_1
  have R1_1 := Lib.hid r1_1
  clear r1_1
  obtain ⟨A1_2, c1_2, rfl, -⟩ := Rd.form r1_2
  have R1_2 := Lib.hid r1_2
  clear r1_2
  obtain ⟨A1_3, c1_3, rfl, -⟩ := Rd.form r1_3
  have R1_3 := Lib.hid r1_3
  clear r1_3
  obtain ⟨A1_4, c1_4, rfl, -⟩ := Rd.form r1_4
  have R1_4 := Lib.hid r1_4
  clear r1_4
  obtain ⟨A1_5, c1_5, rfl, -⟩ := Rd.form r1_5
  have R1_5 := Lib.hid r1_5
  clear r1_5
  have ac_y := (Q_y.out.ext (X1.out.trans X2.out)).cell
  go_wp2_with fail
  refine (specYardRight_any y _ _ (rel_Yard F_y.out (R1_0.out.ext (Ext.refl _)) (R1_1.out.ext (Ext.refl _)) (R1_2.out.ext (Ext.refl _)) (R1_3.out.ext (Ext.refl _)) (R1_4.out.ext (Ext.refl _)) (R1_5.out.ext (Ext.refl _)))).mono ?_
  rintro e w14 ⟨rfl, hx⟩
  have X3 := Lib.hid hx
  clear hx ac_y
  have ac_y := (Q_y.out.ext (X1.out.trans (X2.out.trans X3.out))).cell
  go_wp2_with fail
  refine (toYard_any (S := S) y _ _ (rel_Yard F_y.out (Ry_0.out.ext (X0.out.trans (X1.out.trans (X2.out.trans X3.out)))) (Ry_1.out.ext (X0.out.trans (X1.out.trans (X2.out.trans X3.out)))) (Ry_2.out.ext (X0.out.trans (X1.out.trans (X2.out.trans X3.out)))) (Ry_3.out.ext (X0.out.trans (X1.out.trans (X2.out.trans X3.out)))) (Ry_4.out.ext (X0.out.trans (X1.out.trans (X2.out.trans X3.out)))) (Ry_5.out.ext (X0.out.trans (X1.out.trans (X2.out.trans X3.out))))) M_y.out).mono ?_
  rintro e w15 ⟨_, rfl, ⟨u2_0, u2_1, u2_2, u2_3, u2_4, u2_5, rfl, f2, r2_0, r2_1, r2_2, r2_3, r2_4, r2_5⟩, hx⟩
  have X4 := Lib.hid hx
  clear hx ac_y
  clear f2
  simp only [cellsYard]
  obtain ⟨A2_0, c2_0, rfl, -⟩ := Rd.form r2_0
  have R2_0 := Lib.hid r2_0
  clear r2_0
  obtain ⟨A2_1, c2_1, rfl, -⟩ := Rd.form r2_1
  have R2_1 := Lib.hid r2_1
  clear r2_1
  obtain ⟨A2_2, c2_2, rfl, -⟩ := Rd.form r2_2
  have R2_2 := Lib.hid r2_2
  clear r2_2
  obtain ⟨A2_3, c2_3, rfl, -⟩ := Rd.form r2_3
  have R2_3 := Lib.hid r2_3
  clear r2_3
  obtain ⟨A2_4, c2_4, rfl, -⟩ := Rd.form r2_4
  have R2_4 := Lib.hid r2_4
  clear r2_4
  obtain ⟨A2_5, c2_5, rfl, -⟩ := Rd.form r2_5
  have R2_5 := Lib.hid r2_5
  clear r2_5
  have ac_y := (Q_y.out.ext (X1.out.trans (X2.out.trans (X3.out.trans X4.out)))).cell
  go_upto_region 7 with (fail)
  clear ac_y
  obtain ⟨V2, C2, hW, hB, hx, hbox⟩ := box_new w15 #[.slice A2_0 y.config.nodes.length c2_0, .slice A2_1 y.config.pairs.length c2_1, .slice A2_2 y.config.quotas.length c2_2, .int .i64 y.config.half, .slice A2_3 y.nodes.length c2_3, .slice A2_4 y.tasks.length c2_4, .slice A2_5 y.uses.length c2_5, .int .i64 y.now] 37
  rw [← hW, ← hB]
  have Q_xy : Hid (Blk V2 C2 37 #[.slice A2_0 y.config.nodes.length c2_0, .slice A2_1 y.config.pairs.length c2_1, .slice A2_2 y.config.quotas.length c2_2, .int .i64 y.config.half, .slice A2_3 y.nodes.length c2_3, .slice A2_4 y.tasks.length c2_4, .slice A2_5 y.uses.length c2_5, .int .i64 y.now]) := Lib.hid (by rw [hW, hB]; exact Blk.new w15 _ _)
  have X5 := Lib.hid hx
  clear hW hB hbox hx
  have ac_y := (Q_y.out.ext (X1.out.trans (X2.out.trans (X3.out.trans (X4.out.trans X5.out))))).cell
  have ac_xy := (Q_xy.out.ext (Ext.refl _)).cell
  go_wp2_with fail
  refine (yardRight_any y _ _ (rel_Yard F_y.out (R2_0.out.ext (X5.out)) (R2_1.out.ext (X5.out)) (R2_2.out.ext (X5.out)) (R2_3.out.ext (X5.out)) (R2_4.out.ext (X5.out)) (R2_5.out.ext (X5.out)))).mono ?_
  rintro e w17 ⟨rfl, hx⟩
  have X6 := Lib.hid hx
  clear hx ac_y ac_xy
  have F_new := F_y
  have ac_y := (Q_y.out.ext (X1.out.trans (X2.out.trans (X3.out.trans (X4.out.trans (X5.out.trans X6.out)))))).cell
  have ac_xy := (Q_xy.out.ext (X6.out)).cell
  go_wp2_with fail
  clear ac_y ac_xy
  have al_y : ∀ V, Ext w17 V → ∀ i, V.cell? ⟨B, i, none⟩ = _ := fun V hx => (Q_y.out.ext (X1.out.trans (X2.out.trans (X3.out.trans (X4.out.trans (X5.out.trans (X6.out.trans hx))))))).cell
  have al_xy : ∀ V, Ext w17 V → ∀ i, V.cell? ⟨C2, i, none⟩ = _ := fun V hx => (Q_xy.out.ext (X6.out.trans hx)).cell
  go_region_held3 (fun w' => Ext w17 w') (first | exact Ext.refl _ | exact (Ext.refl _).drew | assumption | exact Ext.alloc (by assumption) _ | exact Ext.trans (by assumption) hx3 | exact Ext.trans (by assumption) hx4) (first | (go_at_call 17; (with_reducible refine (toYard_any (S := S) y _ _ (rel_Yard F_y.out (Ry_0.out.ext (X0.out.trans (X1.out.trans (X2.out.trans (X3.out.trans (X4.out.trans (X5.out.trans (X6.out.trans (by assumption))))))))) (Ry_1.out.ext (X0.out.trans (X1.out.trans (X2.out.trans (X3.out.trans (X4.out.trans (X5.out.trans (X6.out.trans (by assumption))))))))) (Ry_2.out.ext (X0.out.trans (X1.out.trans (X2.out.trans (X3.out.trans (X4.out.trans (X5.out.trans (X6.out.trans (by assumption))))))))) (Ry_3.out.ext (X0.out.trans (X1.out.trans (X2.out.trans (X3.out.trans (X4.out.trans (X5.out.trans (X6.out.trans (by assumption))))))))) (Ry_4.out.ext (X0.out.trans (X1.out.trans (X2.out.trans (X3.out.trans (X4.out.trans (X5.out.trans (X6.out.trans (by assumption))))))))) (Ry_5.out.ext (X0.out.trans (X1.out.trans (X2.out.trans (X3.out.trans (X4.out.trans (X5.out.trans (X6.out.trans (by assumption)))))))))) M_y.out).mono ?_); rintro e w18_3 ⟨_, rfl, ⟨u3_0, u3_1, u3_2, u3_3, u3_4, u3_5, rfl, f3, r3_0, r3_1, r3_2, r3_3, r3_4, r3_5⟩, hx3⟩; clear f3; simp only [cellsYard]; obtain ⟨A3_0, c3_0, rfl, -⟩ := Rd.form r3_0; have R3_0 := Lib.hid r3_0; clear r3_0; obtain ⟨A3_1, c3_1, rfl, -⟩ := Rd.form r3_1; have R3_1 := Lib.hid r3_1; clear r3_1; obtain ⟨A3_2, c3_2, rfl, -⟩ := Rd.form r3_2; have R3_2 := Lib.hid r3_2; clear r3_2; obtain ⟨A3_3, c3_3, rfl, -⟩ := Rd.form r3_3; have R3_3 := Lib.hid r3_3; clear r3_3; obtain ⟨A3_4, c3_4, rfl, -⟩ := Rd.form r3_4; have R3_4 := Lib.hid r3_4; clear r3_4; obtain ⟨A3_5, c3_5, rfl, -⟩ := Rd.form r3_5; have R3_5 := Lib.hid r3_5; clear r3_5) | (go_at_call 19; (with_reducible refine (eqYard_any y y _ _ _ (rel_Yard F_y.out (R2_0.out.ext (X5.out.trans (X6.out.trans (by assumption)))) (R2_1.out.ext (X5.out.trans (X6.out.trans (by assumption)))) (R2_2.out.ext (X5.out.trans (X6.out.trans (by assumption)))) (R2_3.out.ext (X5.out.trans (X6.out.trans (by assumption)))) (R2_4.out.ext (X5.out.trans (X6.out.trans (by assumption)))) (R2_5.out.ext (X5.out.trans (X6.out.trans (by assumption))))) (rel_Yard F_new.out (by first | exact R3_0.out | exact R3_0.out.ext (by assumption) | exact R3_0.out.ext (Ext.trans (by assumption) hx4) | exact R3_0.out.ext (Ext.trans (by assumption) hx3) | exact R3_0.out.ext (Ext.trans (by assumption) hx2) | exact R3_0.out.ext (Ext.trans (by assumption) hx1)) (by first | exact R3_1.out | exact R3_1.out.ext (by assumption) | exact R3_1.out.ext (Ext.trans (by assumption) hx4) | exact R3_1.out.ext (Ext.trans (by assumption) hx3) | exact R3_1.out.ext (Ext.trans (by assumption) hx2) | exact R3_1.out.ext (Ext.trans (by assumption) hx1)) (by first | exact R3_2.out | exact R3_2.out.ext (by assumption) | exact R3_2.out.ext (Ext.trans (by assumption) hx4) | exact R3_2.out.ext (Ext.trans (by assumption) hx3) | exact R3_2.out.ext (Ext.trans (by assumption) hx2) | exact R3_2.out.ext (Ext.trans (by assumption) hx1)) (by first | exact R3_3.out | exact R3_3.out.ext (by assumption) | exact R3_3.out.ext (Ext.trans (by assumption) hx4) | exact R3_3.out.ext (Ext.trans (by assumption) hx3) | exact R3_3.out.ext (Ext.trans (by assumption) hx2) | exact R3_3.out.ext (Ext.trans (by assumption) hx1)) (by first | exact R3_4.out | exact R3_4.out.ext (by assumption) | exact R3_4.out.ext (Ext.trans (by assumption) hx4) | exact R3_4.out.ext (Ext.trans (by assumption) hx3) | exact R3_4.out.ext (Ext.trans (by assumption) hx2) | exact R3_4.out.ext (Ext.trans (by assumption) hx1)) (by first | exact R3_5.out | exact R3_5.out.ext (by assumption) | exact R3_5.out.ext (Ext.trans (by assumption) hx4) | exact R3_5.out.ext (Ext.trans (by assumption) hx3) | exact R3_5.out.ext (Ext.trans (by assumption) hx2) | exact R3_5.out.ext (Ext.trans (by assumption) hx1)))).mono ?_); rintro e w18 ⟨rfl, hx4⟩))
  all_goals clear al_y al_xy
  have X7 : Hid (Ext w17 w18) := Lib.hid (by first | assumption | exact Ext.drew (by assumption))
  clear F_new
  have ac_y := (Q_y.out.ext (X1.out.trans (X2.out.trans (X3.out.trans (X4.out.trans (X5.out.trans (X6.out.trans X7.out))))))).cell
  have ac_xy := (Q_xy.out.ext (X6.out.trans X7.out)).cell
  go_wp2_with fail
  go_ret
  exact ⟨rfl, (X0.out.trans (X1.out.trans (X2.out.trans (X3.out.trans (X4.out.trans (X5.out.trans (X6.out.trans X7.out)))))))⟩

set_option maxRecDepth 100000 in
theorem fnExactYardRight_lifted (os : Os) (started : os.Started) (H : Type) (enc : TypeId × Value → H) :
    ReturnsInHanded {} Tryz.checked os 4 .any (Rows.fnExactYardRightSpec.pre6 enc Tryz.prog Tryz.f4 Rows.fnExactYardRightRow.domain false) (Rows.fnExactYardRightSpec.post enc Tryz.prog Tryz.f4 false true false false) := by
  refine returnsInHanded_of_change (C := Tryz.checked) (show ownKnob Tryz.prog.godebug = none by kernel_rfl) started (by kernel_rfl) Tryz.func4
    (ChangeSpec.witness6 (enc := enc) (C := Tryz.checked) false ⟨#[], #[.agg #[.slice none 0 0, .slice none 0 0, .slice none 0 0, .int .i64 0, .slice none 0 0, .slice none 0 0, .slice none 0 0, .int .i64 0]], []⟩ 8 (by kernel_rfl) (by kernel_rfl) (by kernel_rfl) (by kernel_rfl)) ?_
  intro W base args ds gs before hval0 hW hcnd _
  have hval : ∀ (j : Nat) t v, Tryz.f4.params[j]? = some t → args[j]? = some v → Value.okWide Tryz.prog W .any base t v := hval0
  have hW' := hW
  obtain ⟨p, q, hA0, hV, rfl, hfz, hnd⟩ := hW
  have hA : DataW.TrodAll enc Tryz.prog W 0 (fun _ => true) true Tryz.f4.params.toList args.toList ds p := hA0
  rw [Tryz.params4] at hA hval
  obtain ⟨v0, d0, rfl, rfl, h0⟩ := trodAll_one hA
  obtain ⟨rfl, rfl⟩ := trodVars_none hV
  obtain ⟨fu0, hf0⟩ := h0
  obtain ⟨y1, ry1⟩ := opens_Yard hf0
  obtain ⟨⟨cs0⟩, rfl, hsz0⟩ := okWide_struct Tryz.underlying51 (hval 0 51 v0 rfl rfl)
  simp only [Value.cells] at ry1
  clear hf0 hsz0
  clear hA0 hval0 hval hcnd
  refine (fnExactYardRight_walk y1 _ W ry1).mono fun e W2 ⟨he, hx⟩ => ?_
  subst he
  exact ⟨_, rfl, law_post (by kernel_rfl) (by kernel_rfl) Tryz.underlying4 (by intro t ht; rw [Tryz.params4] at ht; simp only [List.mem_cons, List.not_mem_nil, or_false] at ht; rcases ht with rfl <;> exact ⟨by kernel_rfl, of_decide_eq_true (by kernel_rfl)⟩) rfl rfl hW' hx⟩

theorem fnExactYardRight_holds : Rows.FnExactYardRightSaid :=
  OpenClaim.holds_of_wide 4 Tryz.f4 rfl rfl rfl rfl rfl rfl rfl ⟨rfl, rfl, rfl, rfl, rfl⟩ rfl rfl rfl rfl rfl (by kernel_rfl) Tryz.func4 fnExactYardRight_closed
    (of_decide_eq_true (by kernel_rfl)) (by unfold Func.isWrapper; rw [if_neg (of_decide_eq_false (by kernel_rfl))]; exact ⟨rfl, rfl⟩)
    (fun os started H enc _ => fnExactYardRight_lifted os started H enc)
end Go.Proofs.YtocomclenbhhaaaGreat

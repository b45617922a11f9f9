/- The law FnExactTaskBytes: the program's TaskBytes and the reference's are equal; its row. Printed by wip/law.py. -/
import Derived.Test.YtalnbddpkkkpeaaKTaskBytes
import Derived.Test.YtalnbddpkkkpeaaTBytesI
import Derived.Test.YtalnbddpkkkpeaaTBytesS
import Derived.Test.YtalnbddpkkkpeaaGTo
import Derived.Test.YtalnbddpkkkpeaaGEq
import Derived.Test.YtalnbddpkkkpeaaGSz
import Derived.Test.YtalnbddpkkkpeaaGOpen
import Derived.Deep.RegionHeld3
import Derived.ChangeMaps5
namespace Go.Proofs.Ytalnbddpkkkpeaa
open Go.ChangeShapes Go.WideShapes Go.ChangeAt Go.RowKit Go.ChangeMaps
attribute [local irreducible] wpQuiet

set_option maxHeartbeats 16000000 in
set_option maxRecDepth 100000 in
theorem fnExactTaskBytes_walk {S : Nat → Prop} (x : Task) (csx : List Value) (w : World) (hx : ETask.rel S w csx x) :
    Calls Try.prog 7 #[.agg csx.toArray] w fun e w' => e = .returned (.bool true) ∧ Ext w w' := by
  have h0 : (0 : Int) ≤ 1048576 := by decide
  obtain ⟨vx_0, rfl, hf_x, hrx_0⟩ := hx
  have F_x := Lib.hid hf_x
  clear hf_x
  obtain ⟨Ax_0, cx_0, rfl, l1x_0, l2x_0⟩ := hrx_0.form
  unfold maxLen at l2x_0
  have Rx_0 := Lib.hid hrx_0
  clear hrx_0
  simp only [cellsTask]
  go_enter Try.func7, Try.ntmps7
  go_upto_region 1 with (fail)
  obtain ⟨W0, B, hW, hB, hx0, hbox⟩ := box_new w #[.int .i64 x.label.level, .int .i64 x.label.set, .int .i64 x.id, .string x.owner, .int .i64 x.need, .int .i64 x.long, .int .i64 x.prio, .int .i64 x.under.level, .int .i64 x.under.set, .int .i64 x.after, .int .i64 x.born, .int .i64 x.state, .int .i64 x.start, .slice Ax_0 x.nodes.length cx_0] 41
  rw [← hW, ← hB]
  have Q_x : Hid (Blk W0 B 41 #[.int .i64 x.label.level, .int .i64 x.label.set, .int .i64 x.id, .string x.owner, .int .i64 x.need, .int .i64 x.long, .int .i64 x.prio, .int .i64 x.under.level, .int .i64 x.under.set, .int .i64 x.after, .int .i64 x.born, .int .i64 x.state, .int .i64 x.start, .slice Ax_0 x.nodes.length cx_0]) := Lib.hid (by rw [hW, hB]; exact Blk.new w _ _)
  clear hW hB hbox
  have X0 := Lib.hid hx0
  clear hx0
  have ac_x := (Q_x.out.ext (Ext.refl _)).cell
  by_cases hs_x : szTask x 1048576 < 0
  · go_wp2_with fail
    refine (szTask_any x _ 1048576 _ (rel_Task F_x.out (Rx_0.out.ext (X0.out))) h0 (Int.le_refl _)).mono ?_
    rintro e w12 ⟨rfl, hx⟩
    have X1 := Lib.hid hx
    clear hx ac_x
    go_wp2_with fail
    go_ret
    exact ⟨rfl, (X0.out.trans X1.out)⟩
  have hp_x : 0 ≤ szTask x 1048576 := by omega
  have M_x := Lib.hid (small_szTask h0 (Int.le_refl _) hp_x)
  have hq_x : szTask x 1048576 ≤ 1048576 := by have := pays_szTask x 1048576 h0; have := h0; omega
  clear hs_x
  go_wp2_with fail
  refine (szTask_any x _ 1048576 _ (rel_Task F_x.out (Rx_0.out.ext (X0.out))) h0 (Int.le_refl _)).mono ?_
  rintro e w12 ⟨rfl, hx⟩
  have X1 := Lib.hid hx
  clear hx ac_x
  generalize szTask x 1048576 = q_x at *
  have HP_x := Lib.hid hp_x
  have HQ_x := Lib.hid hq_x
  clear hq_x
  have ac_x := (Q_x.out.ext (X1.out)).cell
  go_wp2_with fail
  refine (toTask_any (S := S) x _ _ (rel_Task F_x.out (Rx_0.out.ext (X0.out.trans X1.out))) M_x.out).mono ?_
  rintro e w13 ⟨_, rfl, ⟨u1_0, rfl, f1, r1_0⟩, hx⟩
  have X2 := Lib.hid hx
  clear hx ac_x
  clear f1
  simp only [cellsTask]
  obtain ⟨A1_0, c1_0, rfl, -⟩ := Rd.form r1_0
  have R1_0 := Lib.hid r1_0
  clear r1_0
  have ac_x := (Q_x.out.ext (X1.out.trans X2.out)).cell
  go_wp2_with fail
  refine (specTaskBytes_any x _ _ (rel_Task F_x.out (R1_0.out.ext (Ext.refl _)))).mono ?_
  rintro e w14 ⟨rfl, hx⟩
  have X3 := Lib.hid hx
  clear hx ac_x
  have ac_x := (Q_x.out.ext (X1.out.trans (X2.out.trans X3.out))).cell
  go_wp2_with fail
  refine (toTask_any (S := S) x _ _ (rel_Task F_x.out (Rx_0.out.ext (X0.out.trans (X1.out.trans (X2.out.trans X3.out))))) M_x.out).mono ?_
  rintro e w15 ⟨_, rfl, ⟨u2_0, rfl, f2, r2_0⟩, hx⟩
  have X4 := Lib.hid hx
  clear hx ac_x
  clear f2
  simp only [cellsTask]
  obtain ⟨A2_0, c2_0, rfl, -⟩ := Rd.form r2_0
  have R2_0 := Lib.hid r2_0
  clear r2_0
  have ac_x := (Q_x.out.ext (X1.out.trans (X2.out.trans (X3.out.trans X4.out)))).cell
  go_wp2_with fail
  clear ac_x
  obtain ⟨V2, C2, hW, hB, hx, hbox⟩ := box_new w15 #[.int .i64 x.label.level, .int .i64 x.label.set, .int .i64 x.id, .string x.owner, .int .i64 x.need, .int .i64 x.long, .int .i64 x.prio, .int .i64 x.under.level, .int .i64 x.under.set, .int .i64 x.after, .int .i64 x.born, .int .i64 x.state, .int .i64 x.start, .slice A2_0 x.nodes.length c2_0] 46
  rw [← hW, ← hB]
  have Q_xx : Hid (Blk V2 C2 46 #[.int .i64 x.label.level, .int .i64 x.label.set, .int .i64 x.id, .string x.owner, .int .i64 x.need, .int .i64 x.long, .int .i64 x.prio, .int .i64 x.under.level, .int .i64 x.under.set, .int .i64 x.after, .int .i64 x.born, .int .i64 x.state, .int .i64 x.start, .slice A2_0 x.nodes.length c2_0]) := Lib.hid (by rw [hW, hB]; exact Blk.new w15 _ _)
  have X5 := Lib.hid hx
  clear hW hB hbox hx
  have ac_x := (Q_x.out.ext (X1.out.trans (X2.out.trans (X3.out.trans (X4.out.trans X5.out))))).cell
  have ac_xx := (Q_xx.out.ext (Ext.refl _)).cell
  go_wp2_with fail
  refine (taskBytes_any x _ _ (rel_Task F_x.out (R2_0.out.ext (X5.out)))).mono ?_
  rintro e w17 ⟨rfl, hx⟩
  have X6 := Lib.hid hx
  clear hx ac_x ac_xx
  have F_new := F_x
  have ac_x := (Q_x.out.ext (X1.out.trans (X2.out.trans (X3.out.trans (X4.out.trans (X5.out.trans X6.out)))))).cell
  have ac_xx := (Q_xx.out.ext (X6.out)).cell
  go_wp2_with fail
  clear ac_x ac_xx
  have al_x : ∀ V, Ext w17 V → ∀ i, V.cell? ⟨B, i, none⟩ = _ := fun V hx => (Q_x.out.ext (X1.out.trans (X2.out.trans (X3.out.trans (X4.out.trans (X5.out.trans (X6.out.trans hx))))))).cell
  have al_xx : ∀ V, Ext w17 V → ∀ i, V.cell? ⟨C2, i, none⟩ = _ := fun V hx => (Q_xx.out.ext (X6.out.trans hx)).cell
  go_region_held3 (fun w' => Ext w17 w') (first | exact Ext.refl _ | exact (Ext.refl _).drew | assumption | exact Ext.alloc (by assumption) _ | exact Ext.trans (by assumption) hx3 | exact Ext.trans (by assumption) hx4) (first | (go_at_call 35; (with_reducible refine (toTask_any (S := S) x _ _ (rel_Task F_x.out (Rx_0.out.ext (X0.out.trans (X1.out.trans (X2.out.trans (X3.out.trans (X4.out.trans (X5.out.trans (X6.out.trans (by assumption)))))))))) M_x.out).mono ?_); rintro e w18_3 ⟨_, rfl, ⟨u3_0, rfl, f3, r3_0⟩, hx3⟩; clear f3; simp only [cellsTask]; obtain ⟨A3_0, c3_0, rfl, -⟩ := Rd.form r3_0; have R3_0 := Lib.hid r3_0; clear r3_0) | (go_at_call 37; (with_reducible refine (eqTask_any x x _ _ _ (rel_Task F_x.out (R2_0.out.ext (X5.out.trans (X6.out.trans (by assumption))))) (rel_Task F_new.out (by first | exact R3_0.out | exact R3_0.out.ext (by assumption)))).mono ?_); rintro e w18 ⟨rfl, hx4⟩))
  all_goals clear al_x al_xx
  have X7 : Hid (Ext w17 w18) := Lib.hid (by first | assumption | exact Ext.drew (by assumption))
  clear F_new
  have ac_x := (Q_x.out.ext (X1.out.trans (X2.out.trans (X3.out.trans (X4.out.trans (X5.out.trans (X6.out.trans X7.out))))))).cell
  have ac_xx := (Q_xx.out.ext (X6.out.trans X7.out)).cell
  go_wp2_with fail
  go_ret
  exact ⟨rfl, (X0.out.trans (X1.out.trans (X2.out.trans (X3.out.trans (X4.out.trans (X5.out.trans (X6.out.trans X7.out)))))))⟩

set_option maxRecDepth 100000 in
theorem fnExactTaskBytes_lifted (os : Os) (started : os.Started) (H : Type) (enc : TypeId × Value → H) :
    ReturnsInHanded {} Try.checked os 7 .any (Rows.fnExactTaskBytesSpec.pre6 enc Try.prog Try.f7 Rows.fnExactTaskBytesRow.domain false) (Rows.fnExactTaskBytesSpec.post enc Try.prog Try.f7 false true false false) := by
  refine returnsInHanded_of_change (C := Try.checked) (show ownKnob Try.prog.godebug = none by kernel_rfl) started (by kernel_rfl) Try.func7
    (ChangeSpec.witness6 (enc := enc) (C := Try.checked) false ⟨#[], #[.agg #[.int .i64 0, .int .i64 0, .int .i64 0, .string ⟨#[]⟩, .int .i64 0, .int .i64 0, .int .i64 0, .int .i64 0, .int .i64 0, .int .i64 0, .int .i64 0, .int .i64 0, .int .i64 0, .slice none 0 0]], []⟩ 8 (by kernel_rfl) (by kernel_rfl) (by kernel_rfl) (by kernel_rfl)) ?_
  intro W base args ds gs before hval0 hW hcnd _
  have hval : ∀ (j : Nat) t v, Try.f7.params[j]? = some t → args[j]? = some v → Value.okWide Try.prog W .any base t v := hval0
  have hW' := hW
  obtain ⟨p, q, hA0, hV, rfl, hfz, hnd⟩ := hW
  have hA : DataW.TrodAll enc Try.prog W 0 (fun _ => true) true Try.f7.params.toList args.toList ds p := hA0
  rw [Try.params7] at hA hval
  obtain ⟨v0, d0, rfl, rfl, h0⟩ := trodAll_one hA
  obtain ⟨rfl, rfl⟩ := trodVars_none hV
  obtain ⟨fu0, hf0⟩ := h0
  obtain ⟨x1, rx1⟩ := opens_Task hf0
  obtain ⟨⟨cs0⟩, rfl, hsz0⟩ := okWide_struct Try.underlying41 (hval 0 41 v0 rfl rfl)
  simp only [Value.cells] at rx1
  clear hf0 hsz0
  clear hA0 hval0 hval hcnd
  refine (fnExactTaskBytes_walk x1 _ W rx1).mono fun e W2 ⟨he, hx⟩ => ?_
  subst he
  exact ⟨_, rfl, law_post (by kernel_rfl) (by kernel_rfl) Try.underlying4 (by intro t ht; rw [Try.params7] at ht; simp only [List.mem_cons, List.not_mem_nil, or_false] at ht; rcases ht with rfl <;> exact ⟨by kernel_rfl, of_decide_eq_true (by kernel_rfl)⟩) rfl rfl hW' hx⟩

theorem fnExactTaskBytes_holds : Rows.FnExactTaskBytesSaid :=
  OpenClaim.holds_of_wide 7 Try.f7 rfl rfl rfl rfl rfl rfl rfl ⟨rfl, rfl, rfl, rfl, rfl⟩ rfl rfl rfl rfl rfl (by kernel_rfl) Try.func7 fnExactTaskBytes_closed
    (of_decide_eq_true (by kernel_rfl)) (by unfold Func.isWrapper; rw [if_neg (of_decide_eq_false (by kernel_rfl))]; exact ⟨rfl, rfl⟩)
    (fun os started H enc _ => fnExactTaskBytes_lifted os started H enc)
end Go.Proofs.Ytalnbddpkkkpeaa

/- The law FnExactConfigText: the program's ConfigText and the reference's are equal; its row. Printed by wip/law.py. -/
import Derived.Test.YtjiipmkehdiiiaaDoorKConfigText
import Derived.Test.YtjiipmkehdiiiaaDoorCtI
import Derived.Test.YtjiipmkehdiiiaaDoorCtS
import Derived.Test.YtjiipmkehdiiiaaDoorGYardT
import Derived.Test.YtjiipmkehdiiiaaDoorGYardE
import Derived.Deep.RegionHeld3
import Derived.ChangeMaps5
import Derived.Deep.DeepLaidRun
import Derived.SevenTiedAt
import Derived.Test.YtjiipmkehdiiiaaDoorCards
import Derived.Test.YtjiipmkehdiiiaaDoorTie
namespace Go.Proofs.YtjiipmkehdiiiaaDoor
open Go.ChangeShapes Go.WideShapes Go.ChangeAt Go.RowKit Go.ChangeMaps
attribute [local irreducible] wpQuiet

set_option maxHeartbeats 16000000 in
set_option maxRecDepth 100000 in
theorem fnExactConfigText_walk {S : Nat → Prop} (c : Config) (csc : List Value) (w : World) (hc : EConfig.rel S w csc c) :
    Calls Tryd.prog 3 #[.agg csc.toArray] w fun e w' => e = .returned (.bool true) ∧ Ext w w' := by
  have h0 : (0 : Int) ≤ 1048576 := by decide
  obtain ⟨vc_0, vc_1, vc_2, rfl, hf_c, hrc_0, hrc_1, hrc_2⟩ := hc
  have F_c := Lib.hid hf_c
  clear hf_c
  obtain ⟨Ac_0, cc_0, rfl, l1c_0, l2c_0⟩ := hrc_0.form
  unfold maxLen at l2c_0
  have Rc_0 := Lib.hid hrc_0
  clear hrc_0
  obtain ⟨Ac_1, cc_1, rfl, l1c_1, l2c_1⟩ := hrc_1.form
  unfold maxLen at l2c_1
  have Rc_1 := Lib.hid hrc_1
  clear hrc_1
  obtain ⟨Ac_2, cc_2, rfl, l1c_2, l2c_2⟩ := hrc_2.form
  unfold maxLen at l2c_2
  have Rc_2 := Lib.hid hrc_2
  clear hrc_2
  simp only [cellsConfig]
  go_enter Tryd.func3, Tryd.ntmps3
  go_upto_region 1 with (fail)
  obtain ⟨W0, B, hW, hB, hx0, hbox⟩ := box_new w #[.slice Ac_0 c.nodes.length cc_0, .slice Ac_1 c.pairs.length cc_1, .slice Ac_2 c.quotas.length cc_2, .int .i64 c.half] 26
  rw [← hW, ← hB]
  have Q_c : Hid (Blk W0 B 26 #[.slice Ac_0 c.nodes.length cc_0, .slice Ac_1 c.pairs.length cc_1, .slice Ac_2 c.quotas.length cc_2, .int .i64 c.half]) := Lib.hid (by rw [hW, hB]; exact Blk.new w _ _)
  clear hW hB hbox
  have X0 := Lib.hid hx0
  clear hx0
  have ac_c := (Q_c.out.ext (Ext.refl _)).cell
  by_cases hs_c : szConfig c 1048576 < 0
  · go_wp2_with fail
    refine (szConfig_any c _ 1048576 _ (rel_Config F_c.out (Rc_0.out.ext (X0.out)) (Rc_1.out.ext (X0.out)) (Rc_2.out.ext (X0.out))) h0 (Int.le_refl _)).mono ?_
    rintro e w12 ⟨rfl, hx⟩
    have X1 := Lib.hid hx
    clear hx ac_c
    go_wp2_with fail
    go_ret
    exact ⟨rfl, (X0.out.trans X1.out)⟩
  have hp_c : 0 ≤ szConfig c 1048576 := by omega
  have M_c := Lib.hid (small_szConfig h0 (Int.le_refl _) hp_c)
  have hq_c : szConfig c 1048576 ≤ 1048576 := by have := pays_szConfig c 1048576 h0; have := h0; omega
  clear hs_c
  go_wp2_with fail
  refine (szConfig_any c _ 1048576 _ (rel_Config F_c.out (Rc_0.out.ext (X0.out)) (Rc_1.out.ext (X0.out)) (Rc_2.out.ext (X0.out))) h0 (Int.le_refl _)).mono ?_
  rintro e w12 ⟨rfl, hx⟩
  have X1 := Lib.hid hx
  clear hx ac_c
  generalize szConfig c 1048576 = q_c at *
  have HP_c := Lib.hid hp_c
  have HQ_c := Lib.hid hq_c
  clear hq_c
  have ac_c := (Q_c.out.ext (X1.out)).cell
  go_wp2_with fail
  refine (toConfig_any (S := S) c _ _ (rel_Config F_c.out (Rc_0.out.ext (X0.out.trans X1.out)) (Rc_1.out.ext (X0.out.trans X1.out)) (Rc_2.out.ext (X0.out.trans X1.out))) M_c.out).mono ?_
  rintro e w13 ⟨_, rfl, ⟨u1_0, u1_1, u1_2, rfl, f1, r1_0, r1_1, r1_2⟩, hx⟩
  have X2 := Lib.hid hx
  clear hx ac_c
  clear f1
  simp only [cellsConfig]
  obtain ⟨A1_0, c1_0, rfl, -⟩ := Rd.form r1_0
  have R1_0 := Lib.hid r1_0
  clear r1_0
  obtain ⟨A1_1, c1_1, rfl, -⟩ := Rd.form r1_1
  have R1_1 := Lib.hid r1_1
  clear r1_1
  obtain ⟨A1_2, c1_2, rfl, -⟩ := Rd.form r1_2
  have R1_2 := Lib.hid r1_2
  clear r1_2
  have ac_c := (Q_c.out.ext (X1.out.trans X2.out)).cell
  go_wp2_with fail
  refine (specConfigText_any c _ _ (rel_Config F_c.out (R1_0.out.ext (Ext.refl _)) (R1_1.out.ext (Ext.refl _)) (R1_2.out.ext (Ext.refl _)))).mono ?_
  rintro e w14 ⟨rfl, hx⟩
  have X3 := Lib.hid hx
  clear hx ac_c
  have ac_c := (Q_c.out.ext (X1.out.trans (X2.out.trans X3.out))).cell
  go_wp2_with fail
  refine (toConfig_any (S := S) c _ _ (rel_Config F_c.out (Rc_0.out.ext (X0.out.trans (X1.out.trans (X2.out.trans X3.out)))) (Rc_1.out.ext (X0.out.trans (X1.out.trans (X2.out.trans X3.out)))) (Rc_2.out.ext (X0.out.trans (X1.out.trans (X2.out.trans X3.out))))) M_c.out).mono ?_
  rintro e w15 ⟨_, rfl, ⟨u2_0, u2_1, u2_2, rfl, f2, r2_0, r2_1, r2_2⟩, hx⟩
  have X4 := Lib.hid hx
  clear hx ac_c
  clear f2
  simp only [cellsConfig]
  obtain ⟨A2_0, c2_0, rfl, -⟩ := Rd.form r2_0
  have R2_0 := Lib.hid r2_0
  clear r2_0
  obtain ⟨A2_1, c2_1, rfl, -⟩ := Rd.form r2_1
  have R2_1 := Lib.hid r2_1
  clear r2_1
  obtain ⟨A2_2, c2_2, rfl, -⟩ := Rd.form r2_2
  have R2_2 := Lib.hid r2_2
  clear r2_2
  have ac_c := (Q_c.out.ext (X1.out.trans (X2.out.trans (X3.out.trans X4.out)))).cell
  go_upto_region 7 with (fail)
  clear ac_c
  obtain ⟨V2, C2, hW, hB, hx, hbox⟩ := box_new w15 #[.slice A2_0 c.nodes.length c2_0, .slice A2_1 c.pairs.length c2_1, .slice A2_2 c.quotas.length c2_2, .int .i64 c.half] 33
  rw [← hW, ← hB]
  have Q_xc : Hid (Blk V2 C2 33 #[.slice A2_0 c.nodes.length c2_0, .slice A2_1 c.pairs.length c2_1, .slice A2_2 c.quotas.length c2_2, .int .i64 c.half]) := Lib.hid (by rw [hW, hB]; exact Blk.new w15 _ _)
  have X5 := Lib.hid hx
  clear hW hB hbox hx
  have ac_c := (Q_c.out.ext (X1.out.trans (X2.out.trans (X3.out.trans (X4.out.trans X5.out))))).cell
  have ac_xc := (Q_xc.out.ext (Ext.refl _)).cell
  go_wp2_with fail
  refine (configText_any c _ _ (rel_Config F_c.out (R2_0.out.ext (X5.out)) (R2_1.out.ext (X5.out)) (R2_2.out.ext (X5.out)))).mono ?_
  rintro e w17 ⟨rfl, hx⟩
  have X6 := Lib.hid hx
  clear hx ac_c ac_xc
  have F_new := F_c
  have ac_c := (Q_c.out.ext (X1.out.trans (X2.out.trans (X3.out.trans (X4.out.trans (X5.out.trans X6.out)))))).cell
  have ac_xc := (Q_xc.out.ext (X6.out)).cell
  go_wp2_with fail
  clear ac_c ac_xc
  have al_c : ∀ V, Ext w17 V → ∀ i, V.cell? ⟨B, i, none⟩ = _ := fun V hx => (Q_c.out.ext (X1.out.trans (X2.out.trans (X3.out.trans (X4.out.trans (X5.out.trans (X6.out.trans hx))))))).cell
  have al_xc : ∀ V, Ext w17 V → ∀ i, V.cell? ⟨C2, i, none⟩ = _ := fun V hx => (Q_xc.out.ext (X6.out.trans hx)).cell
  go_region_held3 (fun w' => Ext w17 w') (first | exact Ext.refl _ | exact (Ext.refl _).drew | assumption | exact Ext.alloc (by assumption) _ | exact Ext.trans (by assumption) hx3 | exact Ext.trans (by assumption) hx4) (first | (go_at_call 6; (with_reducible refine (toConfig_any (S := S) c _ _ (rel_Config F_c.out (Rc_0.out.ext (X0.out.trans (X1.out.trans (X2.out.trans (X3.out.trans (X4.out.trans (X5.out.trans (X6.out.trans (by assumption))))))))) (Rc_1.out.ext (X0.out.trans (X1.out.trans (X2.out.trans (X3.out.trans (X4.out.trans (X5.out.trans (X6.out.trans (by assumption))))))))) (Rc_2.out.ext (X0.out.trans (X1.out.trans (X2.out.trans (X3.out.trans (X4.out.trans (X5.out.trans (X6.out.trans (by assumption)))))))))) M_c.out).mono ?_); rintro e w18_3 ⟨_, rfl, ⟨u3_0, u3_1, u3_2, rfl, f3, r3_0, r3_1, r3_2⟩, hx3⟩; clear f3; simp only [cellsConfig]; obtain ⟨A3_0, c3_0, rfl, -⟩ := Rd.form r3_0; have R3_0 := Lib.hid r3_0; clear r3_0; obtain ⟨A3_1, c3_1, rfl, -⟩ := Rd.form r3_1; have R3_1 := Lib.hid r3_1; clear r3_1; obtain ⟨A3_2, c3_2, rfl, -⟩ := Rd.form r3_2; have R3_2 := Lib.hid r3_2; clear r3_2) | (go_at_call 8; (with_reducible refine (eqConfig_any c c _ _ _ (rel_Config F_c.out (R2_0.out.ext (X5.out.trans (X6.out.trans (by assumption)))) (R2_1.out.ext (X5.out.trans (X6.out.trans (by assumption)))) (R2_2.out.ext (X5.out.trans (X6.out.trans (by assumption))))) (rel_Config F_new.out (by first | exact R3_0.out | exact R3_0.out.ext (by assumption) | exact R3_0.out.ext (Ext.trans (by assumption) hx4) | exact R3_0.out.ext (Ext.trans (by assumption) hx3) | exact R3_0.out.ext (Ext.trans (by assumption) hx2) | exact R3_0.out.ext (Ext.trans (by assumption) hx1)) (by first | exact R3_1.out | exact R3_1.out.ext (by assumption) | exact R3_1.out.ext (Ext.trans (by assumption) hx4) | exact R3_1.out.ext (Ext.trans (by assumption) hx3) | exact R3_1.out.ext (Ext.trans (by assumption) hx2) | exact R3_1.out.ext (Ext.trans (by assumption) hx1)) (by first | exact R3_2.out | exact R3_2.out.ext (by assumption) | exact R3_2.out.ext (Ext.trans (by assumption) hx4) | exact R3_2.out.ext (Ext.trans (by assumption) hx3) | exact R3_2.out.ext (Ext.trans (by assumption) hx2) | exact R3_2.out.ext (Ext.trans (by assumption) hx1)))).mono ?_); rintro e w18 ⟨rfl, hx4⟩))
  all_goals clear al_c al_xc
  have X7 : Hid (Ext w17 w18) := Lib.hid (by first | assumption | exact Ext.drew (by assumption))
  clear F_new
  have ac_c := (Q_c.out.ext (X1.out.trans (X2.out.trans (X3.out.trans (X4.out.trans (X5.out.trans (X6.out.trans X7.out))))))).cell
  have ac_xc := (Q_xc.out.ext (X6.out.trans X7.out)).cell
  go_wp2_with fail
  go_ret
  exact ⟨rfl, (X0.out.trans (X1.out.trans (X2.out.trans (X3.out.trans (X4.out.trans (X5.out.trans (X6.out.trans X7.out)))))))⟩

/-- The cells of a laid table. -/
def laidCells : DataW Unit → Array Value
  | .agg ps => (ps.map fun d => match d with | .lit (.int k n) => Value.int k n | _ => undef).toArray
  | _ => #[]
/-- The settled world, but the three tables hold what the program's text lays in them. -/
noncomputable def laidWorld (os : Os) : World :=
  let w0 := World.holding Tryd.prog os ⟨#[], #[], []⟩
  { w0 with heap := ((w0.heap.modify 0 fun
      | .cells _ t frozen => .cells (laidCells Rows.laid_internal_strconv_uint64pow10) t frozen
      | o => o).modify 1 fun
      | .cells _ t frozen => .cells (laidCells Rows.laid_math_bits_deBruijn32tab) t frozen
      | o => o).modify 2 fun
      | .cells _ t frozen => .cells (laidCells Rows.laid_math_bits_deBruijn64tab) t frozen
      | o => o }
theorem laid_met (os : Os) (args : Array Value) : laidMet Tryd.prog Rows.fnExactConfigTextRow.laid ((laidWorld os).forCall (fun _ _ => 0) ⟨#[], args, []⟩).memory :=
  laidMet_of_run3 8 (by kernel_rfl) (by kernel_rfl) (by kernel_rfl)

set_option maxRecDepth 100000 in
theorem fnExactConfigText_lifted (os : Os) (started : os.Started) (H : Type) (enc : TypeId × Value → H) :
    ReturnsInHanded {} Tryd.checked os 3 .any (fun w args => (Rows.fnExactConfigTextSpec.pre enc Tryd.prog Tryd.f3 Rows.fnExactConfigTextRow.domain false w args ∧ laidMet Tryd.prog Rows.fnExactConfigTextRow.laid w) ∧ sizedMet enc Tryd.prog Tryd.f3 (OpenSpec.ofChange Rows.fnExactConfigTextSpec) false w args)
      (Rows.fnExactConfigTextSpec.post enc Tryd.prog Tryd.f3 false true false false) := by
  refine returnsInHanded_of_change_and (C := Tryd.checked) (X := fun w _ => laidMet Tryd.prog Rows.fnExactConfigTextRow.laid w) (fun _ _ _ hh h => h.of_heap hh) (show ownKnob Tryd.prog.godebug = none by kernel_rfl) started (by kernel_rfl) Tryd.func3
    (ChangeSpec.witness_at (enc := enc) (C := Tryd.checked) (os := os) (X := fun w _ => laidMet Tryd.prog Rows.fnExactConfigTextRow.laid w) false (laidWorld os) #[.agg #[.slice none 0 0, .slice none 0 0, .slice none 0 0, .int .i64 0]] 8 rfl (by kernel_rfl) (by kernel_rfl) (by kernel_rfl) (by kernel_rfl) (by kernel_rfl) (laid_met os _)) ?_
  intro W base args ds gs before hval0 hW hcnd _ _ _
  have hval : ∀ (j : Nat) t v, Tryd.f3.params[j]? = some t → args[j]? = some v → Value.okWide Tryd.prog W .any base t v := hval0
  have hW' := hW
  obtain ⟨p, q, hA0, hV, rfl, hfz, hnd⟩ := hW
  have hA : DataW.TrodAll enc Tryd.prog W 0 (fun _ => true) true Tryd.f3.params.toList args.toList ds p := hA0
  rw [Tryd.params3] at hA hval
  obtain ⟨v0, d0, rfl, rfl, h0⟩ := trodAll_one hA
  obtain ⟨rfl, rfl⟩ := trodVars_none hV
  obtain ⟨fu0, hf0⟩ := h0
  obtain ⟨c1, rc1⟩ := opens_Config hf0
  obtain ⟨⟨cs0⟩, rfl, hsz0⟩ := okWide_struct Tryd.underlying26 (hval 0 26 v0 rfl rfl)
  simp only [Value.cells] at rc1
  clear hf0 hsz0
  clear hA0 hval0 hval hcnd
  refine (fnExactConfigText_walk c1 _ W rc1).mono fun e W2 ⟨he, hx⟩ => ?_
  subst he
  exact ⟨_, rfl, law_post (by kernel_rfl) (by kernel_rfl) Tryd.underlying4 (by intro t ht; rw [Tryd.params3] at ht; simp only [List.mem_cons, List.not_mem_nil, or_false] at ht; rcases ht with rfl <;> exact ⟨by kernel_rfl, of_decide_eq_true (by kernel_rfl)⟩) rfl rfl hW' hx⟩

theorem fnExactConfigText_row : Rows.FnExactConfigTextSaid :=
  OpenClaim.holds_of_wide 3 Tryd.f3 rfl rfl rfl rfl rfl rfl rfl ⟨rfl, rfl, rfl, rfl, rfl⟩ rfl rfl rfl rfl rfl (by kernel_rfl) Tryd.func3 fnExactConfigText_closed
    (of_decide_eq_true (by kernel_rfl)) (by unfold Func.isWrapper; rw [if_neg (of_decide_eq_false (by kernel_rfl))]; exact ⟨rfl, rfl⟩)
    (fun os started H enc _ => fnExactConfigText_lifted os started H enc)

/-- The card: the row, its three tables tied to the program's text. -/
theorem fnExactConfigText_holds : Rows.FnExactConfigTextCardSaid :=
  Claim7.holds_tied_plain_at .later [] [.data, .data, .data] true (true, "adb9a2f1c66f6768bf94bd3281ffa8b806773fa34b249918f8c28b54bad75e9f") false
    fnExactConfigText_row (fun _ h => by cases h) (by kernel_rfl) (fun _ h => by cases h) fnExactConfigText_row_tie rfl ⟨rfl, rfl⟩ (by kernel_rfl) rfl
    (fun f fn hf hfn => by
      obtain rfl : f = 3 := Option.some.inj ((show Tryd.prog.funcNamed "loop.example/g00658/laws.FnExactConfigText" = some 3 by kernel_rfl).symm.trans hf) |>.symm
      obtain rfl : fn = Tryd.f3 := (Option.some.inj (Tryd.func3.symm.trans hfn)).symm
      exact ⟨by kernel_rfl, fun j t ht => by
        rw [Tryd.params3] at ht
        have h3 : t = 26 := by
          rcases j with _ | j
          · simpa using ht.symm
          · simp at ht
        subst h3
        exact (show Tryd.prog.wantsStandIn 26 = false by kernel_rfl)⟩)
    (by kernel_rfl)
end Go.Proofs.YtjiipmkehdiiiaaDoor

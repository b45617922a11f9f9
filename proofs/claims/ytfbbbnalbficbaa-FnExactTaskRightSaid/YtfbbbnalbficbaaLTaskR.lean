/- The law FnExactTaskRight: the program's TaskRight and the reference's are equal; its row. -/
import Derived.Test.YtfbbbnalbficbaaTaskRS
import Derived.Test.YtfbbbnalbficbaaTaskRI
import Derived.Test.YtfbbbnalbficbaaGTo
import Derived.Test.YtfbbbnalbficbaaGEq
import Derived.Test.YtfbbbnalbficbaaGSz
import Derived.Test.YtfbbbnalbficbaaGOpen
import Derived.Deep.RegionHeld3
namespace Go.Proofs.Ytfbbbnalbficbaa
open Go.ChangeShapes Go.WideShapes Go.ChangeAt Go.RowKit
attribute [local irreducible] wpQuiet

set_option maxHeartbeats 8000000 in
set_option maxRecDepth 50000 in
theorem fnExactTaskRight_walk {S : Nat → Prop} (x : Task) (cs : List Value) (w : World) (h : ETask.rel S w cs x) :
    Calls Try.prog 9 #[.agg cs.toArray] w fun e w' => e = .returned (.bool true) ∧ Ext w w' := by
  obtain ⟨v, rfl, hi, hr⟩ := h
  obtain ⟨A, c, rfl, g1, g2⟩ := hr.form
  unfold maxLen at g2
  have HN := Lib.hid hr
  have HI := Lib.hid hi
  clear hi hr
  have HR : ∀ W, Ext w W → Hid (ETask.rel S W (cellsTask x (.slice A x.nodes.length c)) x) := fun W hx => Lib.hid ⟨_, rfl, HI.out, HN.out.ext hx⟩
  have HRR := Lib.hid HR
  clear HR
  simp only [cellsTask] at HRR ⊢
  have h0 : (0 : Int) ≤ 1048576 := by decide
  go_enter Try.func9, Try.ntmps9
  go_upto_region 1 with (fail)
  obtain ⟨W, B, hW, hB, hx0, hbox⟩ := box_new w #[.int .i64 x.label.level, .int .i64 x.label.set, .int .i64 x.id, .string x.owner, .int .i64 x.need, .int .i64 x.long, .int .i64 x.prio, .int .i64 x.under.level, .int .i64 x.under.set, .int .i64 x.after, .int .i64 x.born, .int .i64 x.state, .int .i64 x.start, .slice A x.nodes.length c] 58
  rw [← hW, ← hB]
  have A0 : Hid (Blk W B 58 #[.int .i64 x.label.level, .int .i64 x.label.set, .int .i64 x.id, .string x.owner, .int .i64 x.need, .int .i64 x.long, .int .i64 x.prio, .int .i64 x.under.level, .int .i64 x.under.set, .int .i64 x.after, .int .i64 x.born, .int .i64 x.state, .int .i64 x.start, .slice A x.nodes.length c]) := Lib.hid (by rw [hW, hB]; exact Blk.new w _ _)
  have X0 := Lib.hid hx0
  clear hW hB hbox hx0
  have ac := A0.out.cell
  by_cases hs : szTask x 1048576 < 0
  · go_wp2_with fail
    refine (szTask_any x _ 1048576 _ (HRR.out _ X0.out).out h0 (Int.le_refl _)).mono ?_
    rintro e w1 ⟨rfl, hx⟩
    have X1 := Lib.hid (X0.out.trans hx)
    clear hx ac A0 X0
    go_wp2_with fail
    go_ret
    exact ⟨rfl, X1.out⟩
  · have hs' : 0 ≤ szTask x 1048576 := by omega
    have HS := Lib.hid (small_szTask h0 (Int.le_refl _) hs')
    clear hs
    go_wp2_with fail
    refine (szTask_any x _ 1048576 _ (HRR.out _ X0.out).out h0 (Int.le_refl _)).mono ?_
    rintro e w1 ⟨rfl, hx⟩
    have X1 := Lib.hid (X0.out.trans hx)
    have A1 := Lib.hid (A0.out.ext hx)
    clear hx ac X0 A0
    have ac := A1.out.cell
    go_wp2_with fail
    refine (toTask_any x _ _ (HRR.out _ X1.out).out HS.out).mono ?_
    rintro e w2 ⟨c2, rfl, r2, hx⟩
    have R2 := Lib.hid r2
    have X2 := Lib.hid (X1.out.trans hx)
    have A2 := Lib.hid (A1.out.ext hx)
    clear hx ac X1 A1 r2
    have ac := A2.out.cell
    go_wp2_with fail
    refine (specTaskRight_any x _ _ R2.out).mono ?_
    rintro e w3 ⟨rfl, hx⟩
    have X3 := Lib.hid (X2.out.trans hx)
    have A3 := Lib.hid (A2.out.ext hx)
    clear hx ac X2 A2 R2
    have ac := A3.out.cell
    go_wp2_with fail
    refine (toTask_any x _ _ (HRR.out _ X3.out).out HS.out).mono ?_
    rintro e w4 ⟨c4, rfl, ⟨v4, rfl, f4, r4⟩, hx⟩
    obtain ⟨A4, k4, rfl, -⟩ := Rd.form r4
    have R4 := Lib.hid r4
    have X4 := Lib.hid (X3.out.trans hx)
    have AA := Lib.hid (A3.out.ext hx)
    clear hx ac X3 A3 r4 f4
    have ac := AA.out.cell
    simp only [cellsTask]
    go_wp2_with fail
    obtain ⟨W5, B5, hW, hB, hx5, hbox⟩ := box_new w4 #[.int .i64 x.label.level, .int .i64 x.label.set, .int .i64 x.id, .string x.owner, .int .i64 x.need, .int .i64 x.long, .int .i64 x.prio, .int .i64 x.under.level, .int .i64 x.under.set, .int .i64 x.after, .int .i64 x.born, .int .i64 x.state, .int .i64 x.start, .slice A4 x.nodes.length k4] 62
    rw [← hW, ← hB]
    have D5 : Hid (Blk W5 B5 62 #[.int .i64 x.label.level, .int .i64 x.label.set, .int .i64 x.id, .string x.owner, .int .i64 x.need, .int .i64 x.long, .int .i64 x.prio, .int .i64 x.under.level, .int .i64 x.under.set, .int .i64 x.after, .int .i64 x.born, .int .i64 x.state, .int .i64 x.start, .slice A4 x.nodes.length k4]) := Lib.hid (by rw [hW, hB]; exact Blk.new w4 _ _)
    have X5 := Lib.hid (X4.out.trans hx5)
    have A5 := Lib.hid (AA.out.ext hx5)
    have R5 := Lib.hid (R4.out.ext hx5)
    clear hW hB hbox hx5 ac X4 AA R4
    have HRD : ∀ W, Ext W5 W → Hid (ETask.rel (fun b => w3.heap.size ≤ b) W [.int .i64 x.label.level, .int .i64 x.label.set, .int .i64 x.id, .string x.owner, .int .i64 x.need, .int .i64 x.long, .int .i64 x.prio, .int .i64 x.under.level, .int .i64 x.under.set, .int .i64 x.after, .int .i64 x.born, .int .i64 x.state, .int .i64 x.start, .slice A4 x.nodes.length k4] x) := fun W hx => Lib.hid ⟨_, rfl, HI.out, R5.out.ext hx⟩
    have HRX := Lib.hid HRD
    clear HRD
    refine (taskRight_any x _ _ (HRX.out _ (Ext.refl _)).out).mono ?_
    rintro e w6 ⟨rfl, hx⟩
    have X6 := Lib.hid (X5.out.trans hx)
    have Y6 := Lib.hid hx
    have A6 := Lib.hid (A5.out.ext hx)
    have D6 := Lib.hid (D5.out.ext hx)
    clear hx X5 A5 D5
    have ac := A6.out.cell
    have dc := D6.out.cell
    go_wp2_with fail
    have al : ∀ W, Ext w6 W → ∀ i, W.cell? ⟨B, i, none⟩ = _ := fun W hx => (A6.out.ext hx).cell
    have dl : ∀ W, Ext w6 W → ∀ i, W.cell? ⟨B5, i, none⟩ = _ := fun W hx => (D6.out.ext hx).cell
    clear ac dc
    go_region_held3 (fun w' => Ext w6 w') (first | exact (Ext.refl _).drew | exact Ext.trans (by assumption) hx7 | exact Ext.trans (by assumption) hx8) (first | (go_at_call 38; refine (toTask_any x _ _ (HRR.out _ (X6.out.trans (by assumption))).out HS.out).mono ?_; rintro e w7 ⟨c7, rfl, r7, hx7⟩; have R7 := Lib.hid r7; clear r7) | (go_at_call 40; refine (eqTask_any x x _ _ _ (HRX.out _ (Y6.out.trans (by assumption))).out R7.out).mono ?_; rintro e w8 ⟨rfl, hx8⟩))
    all_goals
      clear al dl
      go_wp2_with fail
      go_ret
      exact ⟨rfl, X6.out.trans (by assumption)⟩

set_option maxRecDepth 100000 in
theorem fnExactTaskRight_lifted (os : Os) (started : os.Started) (H : Type) (enc : TypeId × Value → H) :
    ReturnsInHanded {} Try.checked os 9 .any (Rows.fnExactTaskRightSpec.pre6 enc Try.prog Try.f9 Rows.fnExactTaskRightRow.domain false) (Rows.fnExactTaskRightSpec.post enc Try.prog Try.f9 false true false false) := by
  refine returnsInHanded_of_change (C := Try.checked) (show ownKnob Try.prog.godebug = none by kernel_rfl) started (by kernel_rfl) Try.func9
    (ChangeSpec.witness6 (enc := enc) (C := Try.checked) false ⟨#[], #[.agg #[.int .i64 0, .int .i64 0, .int .i64 0, .string ⟨#[]⟩, .int .i64 0, .int .i64 0, .int .i64 0, .int .i64 0, .int .i64 0, .int .i64 0, .int .i64 0, .int .i64 0, .int .i64 0, .slice none 0 0]], []⟩ 8 (by kernel_rfl) (by kernel_rfl) (by kernel_rfl) (by kernel_rfl)) ?_
  intro W base args ds gs before hval0 hW hcnd _
  have hval : ∀ (j : Nat) t v, Try.f9.params[j]? = some t → args[j]? = some v → Value.okWide Try.prog W .any base t v := hval0
  have hW' := hW
  obtain ⟨p, q, hA0, hV, rfl, hfz, hnd⟩ := hW
  have hA : DataW.TrodAll enc Try.prog W 0 (fun _ => true) true Try.f9.params.toList args.toList ds p := hA0
  rw [Try.params9] at hA hval
  obtain ⟨v0, d0, rfl, rfl, h0⟩ := trodAll_one hA
  obtain ⟨rfl, rfl⟩ := trodVars_none hV
  obtain ⟨fu0, hf0⟩ := h0
  obtain ⟨x1, rx1⟩ := opens_Task hf0
  obtain ⟨⟨cs0⟩, rfl, hsz0⟩ := okWide_struct Try.underlying58 (hval 0 58 v0 rfl rfl)
  simp only [Value.cells] at rx1
  clear hf0 hsz0
  clear hA0 hval0 hval hcnd
  refine (fnExactTaskRight_walk x1 _ W rx1).mono fun e W2 ⟨he, hx⟩ => ?_
  subst he
  exact ⟨_, rfl, law_post (by kernel_rfl) (by kernel_rfl) Try.underlying4 (by intro t ht; rw [Try.params9] at ht; simp only [List.mem_cons, List.not_mem_nil, or_false] at ht; rcases ht with rfl <;> exact ⟨by kernel_rfl, of_decide_eq_true (by kernel_rfl)⟩) rfl rfl hW' hx⟩

theorem fnExactTaskRight_holds : Rows.FnExactTaskRightSaid :=
  OpenClaim.holds_of_wide 9 Try.f9 rfl rfl rfl rfl rfl rfl rfl ⟨rfl, rfl, rfl, rfl, rfl⟩ rfl rfl rfl rfl rfl (by kernel_rfl) Try.func9 (by kernel_rfl)
    (of_decide_eq_true (by kernel_rfl)) (by unfold Func.isWrapper; rw [if_neg (of_decide_eq_false (by kernel_rfl))]; exact ⟨rfl, rfl⟩)
    (fun os started H enc _ => fnExactTaskRight_lifted os started H enc)
end Go.Proofs.Ytfbbbnalbficbaa

/- The law FnExactWishRight: the program's WishRight and the reference's are equal; its row. -/
import Derived.Test.YtfbbbnalbficbaaLabels
import Derived.Test.YtfbbbnalbficbaaGTo
import Derived.Test.YtfbbbnalbficbaaGSz
import Derived.Test.YtfbbbnalbficbaaGOpen
namespace Go.Proofs.Ytfbbbnalbficbaa
open Go.ChangeShapes Go.WideShapes Go.ChangeAt Go.RowKit
attribute [local irreducible] wpQuiet

set_option maxHeartbeats 4000000 in
theorem fnExactWishRight_walk {S : Nat → Prop} (x : Wish) (cs : List Value) (w : World) (h : EWish.rel S w cs x) :
    Calls Try.prog 5 #[.agg cs.toArray] w fun e w' => e = .returned (.bool true) ∧ Ext w w' := by
  obtain ⟨rfl, hi⟩ := h
  have HI := Lib.hid hi
  clear hi
  have HR : ∀ W, Hid (EWish.rel S W (cellsWish x) x) := fun W => Lib.hid ⟨rfl, HI.out⟩
  simp only [cellsWish] at HR ⊢
  have h0 : (0 : Int) ≤ 1048576 := by decide
  by_cases hs : szWish x 1048576 < 0
  · go_enter Try.func5, Try.ntmps5
    go_wp2_with (go_at_call 18; refine (szWish_any x _ 1048576 _ (HR _).out h0 (Int.le_refl _)).mono ?_; rintro e w1 ⟨rfl, hx1⟩; have HX1 := Lib.hid hx1; clear hx1)
    go_ret
    exact ⟨rfl, ((Ext.refl _).alloc _).trans HX1.out⟩
  · have hs' : 0 ≤ szWish x 1048576 := by omega
    have HS := Lib.hid (small_szWish h0 (Int.le_refl _) hs')
    clear hs
    go_enter Try.func5, Try.ntmps5
    go_upto_region 1 with (fail)
    obtain ⟨W, B, hW, hB, hx0, hbox⟩ := box_new w #[.string x.owner, .int .i64 x.need, .int .i64 x.long, .int .i64 x.prio, .int .i64 x.under.level, .int .i64 x.under.set, .int .i64 x.after, .int .i64 x.count] 31
    rw [← hW, ← hB]
    have A0 : Hid (Blk W B 31 #[.string x.owner, .int .i64 x.need, .int .i64 x.long, .int .i64 x.prio, .int .i64 x.under.level, .int .i64 x.under.set, .int .i64 x.after, .int .i64 x.count]) := Lib.hid (by rw [hW, hB]; exact Blk.new w _ _)
    have X0 := Lib.hid hx0
    clear hW hB hbox hx0
    have ac := A0.out.cell
    go_wp2_with fail
    refine (szWish_any x _ 1048576 _ (HR _).out h0 (Int.le_refl _)).mono ?_
    rintro e w1 ⟨rfl, hx⟩
    have X1 := Lib.hid (X0.out.trans hx)
    have A1 := Lib.hid (A0.out.ext hx)
    clear hx ac X0 A0
    have ac := A1.out.cell
    go_wp2_with fail
    refine (toWish_any x _ _ (HR _).out HS.out).mono ?_
    rintro e w2 ⟨c2, rfl, r2, hx⟩
    have X2 := Lib.hid (X1.out.trans hx)
    have A2 := Lib.hid (A1.out.ext hx)
    clear hx ac X1 A1
    have ac := A2.out.cell
    go_wp2_with fail
    refine (specWishRight_any x _ _ r2).mono ?_
    rintro e w3 ⟨rfl, hx⟩
    have X3 := Lib.hid (X2.out.trans hx)
    have A3 := Lib.hid (A2.out.ext hx)
    clear hx ac X2 A2 r2
    have ac := A3.out.cell
    go_wp2_with fail
    refine (toWish_any x _ _ (HR _).out HS.out).mono ?_
    rintro e w4 ⟨c4, rfl, r4, hx⟩
    have X4 := Lib.hid (X3.out.trans hx)
    clear hx ac X3 A3
    go_wp2_with fail
    refine (wishRight_any x _ _ r4).mono ?_
    rintro e w5 ⟨rfl, hx⟩
    have X5 := Lib.hid (X4.out.trans hx)
    clear hx X4
    go_wp2_with fail
    go_ret
    exact ⟨rfl, X5.out⟩

set_option maxRecDepth 100000 in
theorem fnExactWishRight_lifted (os : Os) (started : os.Started) (H : Type) (enc : TypeId × Value → H) :
    ReturnsInHanded {} Try.checked os 5 .any (Rows.fnExactWishRightSpec.pre6 enc Try.prog Try.f5 Rows.fnExactWishRightRow.domain false) (Rows.fnExactWishRightSpec.post enc Try.prog Try.f5 false true false false) := by
  refine returnsInHanded_of_change (C := Try.checked) (show ownKnob Try.prog.godebug = none by kernel_rfl) started (by kernel_rfl) Try.func5
    (ChangeSpec.witness6 (enc := enc) (C := Try.checked) false ⟨#[], #[.agg #[.string ⟨#[]⟩, .int .i64 0, .int .i64 0, .int .i64 0, .int .i64 0, .int .i64 0, .int .i64 0, .int .i64 0]], []⟩ 8 (by kernel_rfl) (by kernel_rfl) (by kernel_rfl) (by kernel_rfl)) ?_
  intro W base args ds gs before hval0 hW hcnd _
  have hval : ∀ (j : Nat) t v, Try.f5.params[j]? = some t → args[j]? = some v → Value.okWide Try.prog W .any base t v := hval0
  have hW' := hW
  obtain ⟨p, q, hA0, hV, rfl, hfz, hnd⟩ := hW
  have hA : DataW.TrodAll enc Try.prog W 0 (fun _ => true) true Try.f5.params.toList args.toList ds p := hA0
  rw [Try.params5] at hA hval
  obtain ⟨v0, d0, rfl, rfl, h0⟩ := trodAll_one hA
  obtain ⟨rfl, rfl⟩ := trodVars_none hV
  obtain ⟨fu0, hf0⟩ := h0
  obtain ⟨x1, rx1⟩ := opens_Wish hf0
  obtain ⟨⟨cs0⟩, rfl, hsz0⟩ := okWide_struct Try.underlying31 (hval 0 31 v0 rfl rfl)
  simp only [Value.cells] at rx1
  clear hf0 hsz0
  clear hA0 hval0 hval hcnd
  refine (fnExactWishRight_walk x1 _ W rx1).mono fun e W2 ⟨he, hx⟩ => ?_
  subst he
  exact ⟨_, rfl, law_post (by kernel_rfl) (by kernel_rfl) Try.underlying4 (by intro t ht; rw [Try.params5] at ht; simp only [List.mem_cons, List.not_mem_nil, or_false] at ht; rcases ht with rfl <;> exact ⟨by kernel_rfl, of_decide_eq_true (by kernel_rfl)⟩) rfl rfl hW' hx⟩

theorem fnExactWishRight_holds : Rows.FnExactWishRightSaid :=
  OpenClaim.holds_of_wide 5 Try.f5 rfl rfl rfl rfl rfl rfl rfl ⟨rfl, rfl, rfl, rfl, rfl⟩ rfl rfl rfl rfl rfl (by kernel_rfl) Try.func5 (by kernel_rfl)
    (of_decide_eq_true (by kernel_rfl)) (by unfold Func.isWrapper; rw [if_neg (of_decide_eq_false (by kernel_rfl))]; exact ⟨rfl, rfl⟩)
    (fun os started H enc _ => fnExactWishRight_lifted os started H enc)
end Go.Proofs.Ytfbbbnalbficbaa

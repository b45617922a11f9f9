/- The law FnExactNodesNew: the program's NodesNew and the reference's are equal; its row. Printed by wip/law.py. -/
import Derived.Test.YtalnbddpkkkpeaaKNodesNew
import Derived.Test.YtalnbddpkkkpeaaNodeNew
import Derived.Test.YtalnbddpkkkpeaaGTo
import Derived.Test.YtalnbddpkkkpeaaGToO
import Derived.Test.YtalnbddpkkkpeaaGMark
import Derived.Test.YtalnbddpkkkpeaaGHeld
import Derived.Test.YtalnbddpkkkpeaaGEq
import Derived.Test.YtalnbddpkkkpeaaGSz
import Derived.Test.YtalnbddpkkkpeaaGOpen
import Derived.Deep.RegionHeld3
import Derived.ChangeMaps5
namespace Go.Proofs.Ytalnbddpkkkpeaa
open Go.ChangeShapes Go.WideShapes Go.ChangeAt Go.RowKit Go.ChangeMaps
attribute [local irreducible] wpQuiet

set_option maxHeartbeats 16000000 in
set_option maxRecDepth 100000 in
theorem fnExactNodesNew_walk (num : Int) (w : World) (inum : I64 num) :
    Calls Try.prog 3 #[.int .i64 num] w fun e w' => e = .returned (.bool true) ∧ Ext w w' := by
  have h0 : (0 : Int) ≤ 1048576 := by decide
  have I_num := Lib.hid inum
  clear inum
  go_enter Try.func3, Try.ntmps3
  go_upto_region 1 with (fail)
  go_wp2_with fail
  refine (specNodesNew_any num _).mono ?_
  rintro e w11 ⟨vS, FS, rfl, oS, gS, hx⟩
  have GES := Lib.hid gS
  have OS := Lib.hid oS
  clear gS oS
  obtain ⟨AS, cS, rfl, -⟩ := OS.out.form
  have X0 := Lib.hid hx
  clear hx
  go_wp2_with fail
  refine (nodesNew_any num _).mono ?_
  rintro e w12 ⟨vG, FG, rfl, oG, gG, hx⟩
  have GEG := Lib.hid gG
  have OG := Lib.hid oG
  clear gG oG
  obtain ⟨AG, cG, rfl, -⟩ := OG.out.form
  have X1 := Lib.hid hx
  clear hx
  go_wp2_with fail
  refine (eqNodeS_any _ _ _ _ _ (OwS.rd (OG.out)) (OwS.rd ((OS.out.ext (X1.out))))).mono ?_
  rintro e w13 ⟨rfl, hx⟩
  have X2 := Lib.hid hx
  clear hx
  have LS := Lib.hid OS.out.lt
  have LG := Lib.hid OG.out.lt
  have DS_G : Hid (∀ b ∈ FS, b ∉ FG) := Lib.hid (fun b h1 h2 => absurd (Nat.lt_of_lt_of_le (LS.out b h1) (Ext.size (Ext.refl _))) (Nat.not_lt.2 (GEG.out b h2)))
  have DG_S : Hid (∀ b ∈ FG, b ∉ FS) := Lib.hid (fun b h1 h2 => absurd (Nat.lt_of_lt_of_le (LS.out b h2) (Ext.size (Ext.refl _))) (Nat.not_lt.2 (GEG.out b h1)))
  have GZS : Hid (∀ b ∈ FS, w.heap.size ≤ b) := Lib.hid (fun b hb => Nat.le_trans (Ext.size (Ext.refl _)) (GES.out b hb))
  have GZG : Hid (∀ b ∈ FG, w.heap.size ≤ b) := Lib.hid (fun b hb => Nat.le_trans (Ext.size X0.out) (GEG.out b hb))
  have BND : Hid (1 + ((cntL cntNode (nodesNew num) : Nat) : Int) ≤ 1125899906842624) := Lib.hid (new_bound num)
  have hc_R := Int.natCast_nonneg (cntL cntNode (nodesNew num))
  go_wp2_with fail
  refine (markNodeS_any _ _ FG _ _ (OG.out.ext (X2.out)) (by omega) (by have := BND.out; omega)).mono ?_
  rintro e w14 ⟨rfl, om, km⟩
  have K3 := Lib.hid km
  have OM := Lib.hid om
  clear om km
  replace OS := Lib.hid (OwS.kept (OS.out.ext (X1.out.trans X2.out)) K3.out DS_G.out)
  have Z4 : Hid (Ext w w14) := Lib.hid (Kept.ext (X0.out.trans (X1.out.trans X2.out)) K3.out GZG.out)
  replace OG := OM
  clear OM
  go_wp2_with fail
  refine (heldNodeS_any (S := fun b => b ∈ FG) (nodesNew num) _ 1 _ (OwS.rd (OG.out)) (by omega) (by have := BND.out; omega)).mono ?_
  rintro e w15 ⟨rfl, hx⟩
  have X4 := Lib.hid hx
  clear hx
  go_wp2_with fail
  refine (nodesNew_any num _).mono ?_
  rintro e w16 ⟨vH, FH, rfl, oH, gH, hx⟩
  have GEH := Lib.hid gH
  have OH := Lib.hid oH
  clear gH oH
  obtain ⟨AH, cH, rfl, -⟩ := OH.out.form
  have X5 := Lib.hid hx
  clear hx
  go_wp2_with fail
  refine (eqNodeS_any _ _ _ _ _ (OwS.rd (OH.out)) (OwS.rd ((OS.out.ext (X4.out.trans X5.out))))).mono ?_
  rintro e w17 ⟨rfl, hx⟩
  have X6 := Lib.hid hx
  clear hx
  go_wp2_with fail
  refine (heldNodeS_any (S := fun b => b ∈ FG) (nodesNew num) _ 1 _ (OwS.rd ((OG.out.ext (X4.out.trans (X5.out.trans X6.out))))) (by omega) (by have := BND.out; omega)).mono ?_
  rintro e w18 ⟨rfl, hx⟩
  have X7 := Lib.hid hx
  clear hx
  go_wp2_with fail
  go_ret
  exact ⟨rfl, (Z4.out.trans (X4.out.trans (X5.out.trans (X6.out.trans X7.out))))⟩

set_option maxRecDepth 100000 in
theorem fnExactNodesNew_lifted (os : Os) (started : os.Started) (H : Type) (enc : TypeId × Value → H) :
    ReturnsInHanded {} Try.checked os 3 .any (Rows.fnExactNodesNewSpec.pre6 enc Try.prog Try.f3 Rows.fnExactNodesNewRow.domain false) (Rows.fnExactNodesNewSpec.post enc Try.prog Try.f3 false true false false) := by
  refine returnsInHanded_of_change (C := Try.checked) (show ownKnob Try.prog.godebug = none by kernel_rfl) started (by kernel_rfl) Try.func3
    (ChangeSpec.witness6 (enc := enc) (C := Try.checked) false ⟨#[], #[.int .i64 0], []⟩ 8 (by kernel_rfl) (by kernel_rfl) (by kernel_rfl) (by kernel_rfl)) ?_
  intro W base args ds gs before hval0 hW hcnd _
  have hval : ∀ (j : Nat) t v, Try.f3.params[j]? = some t → args[j]? = some v → Value.okWide Try.prog W .any base t v := hval0
  have hW' := hW
  obtain ⟨p, q, hA0, hV, rfl, hfz, hnd⟩ := hW
  have hA : DataW.TrodAll enc Try.prog W 0 (fun _ => true) true Try.f3.params.toList args.toList ds p := hA0
  rw [Try.params3] at hA hval
  obtain ⟨v0, d0, rfl, rfl, h0⟩ := trodAll_one hA
  obtain ⟨rfl, rfl⟩ := trodVars_none hV
  obtain ⟨num1, rfl, rfl, rfl, wnum1⟩ := open_int Try.underlying2 (hval 0 2 v0 rfl rfl) h0
  have inum1 := i64_of_wf wnum1
  clear hA0 hval0 hval hcnd
  refine (fnExactNodesNew_walk num1 W inum1).mono fun e W2 ⟨he, hx⟩ => ?_
  subst he
  exact ⟨_, rfl, law_post (by kernel_rfl) (by kernel_rfl) Try.underlying4 (by intro t ht; rw [Try.params3] at ht; simp only [List.mem_cons, List.not_mem_nil, or_false] at ht; rcases ht with rfl <;> exact ⟨by kernel_rfl, of_decide_eq_true (by kernel_rfl)⟩) rfl rfl hW' hx⟩

theorem fnExactNodesNew_holds : Rows.FnExactNodesNewSaid :=
  OpenClaim.holds_of_wide 3 Try.f3 rfl rfl rfl rfl rfl rfl rfl ⟨rfl, rfl, rfl, rfl, rfl⟩ rfl rfl rfl rfl rfl (by kernel_rfl) Try.func3 fnExactNodesNew_closed
    (of_decide_eq_true (by kernel_rfl)) (by unfold Func.isWrapper; rw [if_neg (of_decide_eq_false (by kernel_rfl))]; exact ⟨rfl, rfl⟩)
    (fun os started H enc _ => fnExactNodesNew_lifted os started H enc)
end Go.Proofs.Ytalnbddpkkkpeaa

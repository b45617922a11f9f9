/- The law FnExactOrphans: the program's Orphans and the reference's are equal; its row. Printed by wip/law.py. -/
import Derived.Test.YtalnbddpkkkpeaaKOrphans
import Derived.Test.YtalnbddpkkkpeaaOrphS
import Derived.Test.YtalnbddpkkkpeaaOrphB
import Derived.Test.YtalnbddpkkkpeaaGTo
import Derived.Test.YtalnbddpkkkpeaaGToO
import Derived.Test.YtalnbddpkkkpeaaGMarkT
import Derived.Test.YtalnbddpkkkpeaaGHeldT
import Derived.Test.YtalnbddpkkkpeaaGEq
import Derived.Test.YtalnbddpkkkpeaaGSz
import Derived.Test.YtalnbddpkkkpeaaGOpen
import Derived.Deep.RegionHeld3
import Derived.ChangeMaps5
namespace Go.Proofs.Ytalnbddpkkkpeaa
open Go.ChangeShapes Go.WideShapes Go.ChangeAt Go.RowKit Go.ChangeMaps
attribute [local irreducible] wpQuiet

set_option maxHeartbeats 16000000 in
set_option maxRecDepth 100000 in
theorem fnExactOrphans_walk {S : Nat → Prop} (l : List Task) (vl : Value) (w : World) (hl : Rd ETask S w vl l) :
    Calls Try.prog 10 #[vl] w fun e w' => e = .returned (.bool true) ∧ Ext w w' := by
  have h0 : (0 : Int) ≤ 1048576 := by decide
  have R_l := Lib.hid hl
  obtain ⟨A_l, c_l, rfl, l1_l, l2_l⟩ := hl.form
  unfold maxLen at l2_l
  clear hl
  go_enter Try.func10, Try.ntmps10
  go_upto_region 1 with (fail)
  by_cases hs_l : szTaskS l 1048576 < 0
  · go_wp2_with fail
    refine (szTaskS_any l _ 1048576 _ (R_l.out.ext (Ext.refl _)) h0 (Int.le_refl _)).mono ?_
    rintro e w11 ⟨rfl, hx⟩
    have X0 := Lib.hid hx
    clear hx
    go_wp2_with fail
    go_ret
    exact ⟨rfl, (X0.out)⟩
  have hp_l : 0 ≤ szTaskS l 1048576 := by omega
  have M_l := Lib.hid (small_szTaskS h0 (Int.le_refl _) hp_l)
  have hq_l : szTaskS l 1048576 ≤ 1048576 := by have := pays_szTaskS l 1048576 h0; have := h0; omega
  clear hs_l
  go_wp2_with fail
  refine (szTaskS_any l _ 1048576 _ (R_l.out.ext (Ext.refl _)) h0 (Int.le_refl _)).mono ?_
  rintro e w11 ⟨rfl, hx⟩
  have X0 := Lib.hid hx
  clear hx
  generalize szTaskS l 1048576 = q_l at *
  have HP_l := Lib.hid hp_l
  have HQ_l := Lib.hid hq_l
  clear hq_l
  go_wp2_with fail
  refine (toTaskS_any (S := S) l _ _ (R_l.out.ext (X0.out)) M_l.out).mono ?_
  rintro e w12 ⟨u1, rfl, r1, hx⟩
  have X1 := Lib.hid hx
  clear hx
  obtain ⟨A1, c1, rfl, -⟩ := Rd.form r1
  have R1 := Lib.hid r1
  clear r1
  go_wp2_with fail
  refine (specOrphans_any l _ _ (R1.out.ext (Ext.refl _))).mono ?_
  rintro e w13 ⟨vS, FS, rfl, oS, gS, hx⟩
  have GES := Lib.hid gS
  have OS := Lib.hid oS
  clear gS oS
  obtain ⟨AS, cS, rfl, -⟩ := OS.out.form
  have X2 := Lib.hid hx
  clear hx
  go_wp2_with fail
  refine (toTaskS_own (S := S) l _ _ (R_l.out.ext (X0.out.trans (X1.out.trans X2.out))) M_l.out).mono ?_
  rintro e w14 ⟨vxl, Fxl, rfl, oxl, gxl, hx⟩
  have X3 := Lib.hid hx
  clear hx
  have GExl := Lib.hid gxl
  have Oxl := Lib.hid oxl
  clear gxl oxl
  obtain ⟨Axl, cxl, rfl, -⟩ := Oxl.out.form
  go_wp2_with fail
  refine (orphans_any l _ _ (OwS.rd (Oxl.out))).mono ?_
  rintro e w15 ⟨vG, FG, rfl, oG, gG, hx⟩
  have GEG := Lib.hid gG
  have OG := Lib.hid oG
  clear gG oG
  obtain ⟨AG, cG, rfl, -⟩ := OG.out.form
  have X4 := Lib.hid hx
  clear hx
  go_wp2_with fail
  refine (eqTaskS_any _ _ _ _ _ (OwS.rd (OG.out)) (OwS.rd ((OS.out.ext (X3.out.trans X4.out))))).mono ?_
  rintro e w16 ⟨rfl, hx⟩
  have X5 := Lib.hid hx
  clear hx
  go_wp2_with fail
  refine (toTaskS_any (S := S) l _ _ (R_l.out.ext (X0.out.trans (X1.out.trans (X2.out.trans (X3.out.trans (X4.out.trans X5.out)))))) M_l.out).mono ?_
  rintro e w17 ⟨u2, rfl, r2, hx⟩
  have X6 := Lib.hid hx
  clear hx
  obtain ⟨A2, c2, rfl, -⟩ := Rd.form r2
  have R2 := Lib.hid r2
  clear r2
  go_wp2_with fail
  refine (eqTaskS_any l l _ _ _ (OwS.rd ((Oxl.out.ext (X4.out.trans (X5.out.trans X6.out))))) (R2.out.ext (Ext.refl _))).mono ?_
  rintro e w18 ⟨rfl, hx⟩
  have X7 := Lib.hid hx
  clear hx
  have LS := Lib.hid OS.out.lt
  have Lxl := Lib.hid Oxl.out.lt
  have LG := Lib.hid OG.out.lt
  have DS_xl : Hid (∀ b ∈ FS, b ∉ Fxl) := Lib.hid (fun b h1 h2 => absurd (Nat.lt_of_lt_of_le (LS.out b h1) (Ext.size (Ext.refl _))) (Nat.not_lt.2 (GExl.out b h2)))
  have DS_G : Hid (∀ b ∈ FS, b ∉ FG) := Lib.hid (fun b h1 h2 => absurd (Nat.lt_of_lt_of_le (LS.out b h1) (Ext.size X3.out)) (Nat.not_lt.2 (GEG.out b h2)))
  have Dxl_S : Hid (∀ b ∈ Fxl, b ∉ FS) := Lib.hid (fun b h1 h2 => absurd (Nat.lt_of_lt_of_le (LS.out b h2) (Ext.size (Ext.refl _))) (Nat.not_lt.2 (GExl.out b h1)))
  have Dxl_G : Hid (∀ b ∈ Fxl, b ∉ FG) := Lib.hid (fun b h1 h2 => absurd (Nat.lt_of_lt_of_le (Lxl.out b h1) (Ext.size (Ext.refl _))) (Nat.not_lt.2 (GEG.out b h2)))
  have DG_S : Hid (∀ b ∈ FG, b ∉ FS) := Lib.hid (fun b h1 h2 => absurd (Nat.lt_of_lt_of_le (LS.out b h2) (Ext.size X3.out)) (Nat.not_lt.2 (GEG.out b h1)))
  have DG_xl : Hid (∀ b ∈ FG, b ∉ Fxl) := Lib.hid (fun b h1 h2 => absurd (Nat.lt_of_lt_of_le (Lxl.out b h2) (Ext.size (Ext.refl _))) (Nat.not_lt.2 (GEG.out b h1)))
  have GZS : Hid (∀ b ∈ FS, w.heap.size ≤ b) := Lib.hid (fun b hb => Nat.le_trans (Ext.size (X0.out.trans X1.out)) (GES.out b hb))
  have GZxl : Hid (∀ b ∈ Fxl, w.heap.size ≤ b) := Lib.hid (fun b hb => Nat.le_trans (Ext.size (X0.out.trans (X1.out.trans X2.out))) (GExl.out b hb))
  have GZG : Hid (∀ b ∈ FG, w.heap.size ≤ b) := Lib.hid (fun b hb => Nat.le_trans (Ext.size (X0.out.trans (X1.out.trans (X2.out.trans X3.out)))) (GEG.out b hb))
  have BND : Hid (1 + ((cntL cntTask l : Nat) : Int) ≤ 1125899906842624 ∧ 1 + ((cntL cntTask (orphans l) : Nat) : Int) ≤ 1125899906842624) := Lib.hid (orphans_bound M_l.out)
  have hc_l := Int.natCast_nonneg (cntL cntTask l)
  have hc_R := Int.natCast_nonneg (cntL cntTask (orphans l))
  go_wp2_with fail
  refine (markTaskS_any _ _ Fxl _ _ (Oxl.out.ext (X4.out.trans (X5.out.trans (X6.out.trans X7.out)))) (by omega) (by have := BND.out; omega)).mono ?_
  rintro e w19 ⟨rfl, om, km⟩
  have K8 := Lib.hid km
  have OM := Lib.hid om
  clear om km
  replace OS := Lib.hid (OwS.kept (OS.out.ext (X3.out.trans (X4.out.trans (X5.out.trans (X6.out.trans X7.out))))) K8.out DS_xl.out)
  replace OG := Lib.hid (OwS.kept (OG.out.ext (X5.out.trans (X6.out.trans X7.out))) K8.out DG_xl.out)
  have Z9 : Hid (Ext w w19) := Lib.hid (Kept.ext (X0.out.trans (X1.out.trans (X2.out.trans (X3.out.trans (X4.out.trans (X5.out.trans (X6.out.trans X7.out))))))) K8.out GZxl.out)
  replace Oxl := OM
  clear OM
  go_wp2_with fail
  refine (eqTaskS_any _ _ _ _ _ (OwS.rd (OG.out)) (OwS.rd (OS.out))).mono ?_
  rintro e w20 ⟨rfl, hx⟩
  have X9 := Lib.hid hx
  clear hx
  go_wp2_with fail
  refine (markTaskS_any _ _ FG _ _ (OG.out.ext (X9.out)) (by omega) (by have := BND.out; omega)).mono ?_
  rintro e w21 ⟨rfl, om, km⟩
  have K10 := Lib.hid km
  have OM := Lib.hid om
  clear om km
  replace OS := Lib.hid (OwS.kept (OS.out.ext (X9.out)) K10.out DS_G.out)
  replace Oxl := Lib.hid (OwS.kept (Oxl.out.ext (X9.out)) K10.out Dxl_G.out)
  have Z11 : Hid (Ext w w21) := Lib.hid (Kept.ext (Z9.out.trans X9.out) K10.out GZG.out)
  replace OG := OM
  clear OM
  go_wp2_with fail
  refine (heldTaskS_any (S := fun b => b ∈ FG) (orphans l) _ 1 _ (OwS.rd (OG.out)) (by omega) (by have := BND.out; omega)).mono ?_
  rintro e w22 ⟨rfl, hx⟩
  have X11 := Lib.hid hx
  clear hx
  go_wp2_with fail
  refine (toTaskS_any (S := S) l _ _ (R_l.out.ext (Z11.out.trans X11.out)) M_l.out).mono ?_
  rintro e w23 ⟨u3, rfl, r3, hx⟩
  have X12 := Lib.hid hx
  clear hx
  obtain ⟨A3, c3, rfl, -⟩ := Rd.form r3
  have R3 := Lib.hid r3
  clear r3
  go_wp2_with fail
  refine (orphans_any l _ _ (R3.out.ext (Ext.refl _))).mono ?_
  rintro e w24 ⟨vH, FH, rfl, oH, gH, hx⟩
  have GEH := Lib.hid gH
  have OH := Lib.hid oH
  clear gH oH
  obtain ⟨AH, cH, rfl, -⟩ := OH.out.form
  have X13 := Lib.hid hx
  clear hx
  go_wp2_with fail
  refine (eqTaskS_any _ _ _ _ _ (OwS.rd (OH.out)) (OwS.rd ((OS.out.ext (X11.out.trans (X12.out.trans X13.out)))))).mono ?_
  rintro e w25 ⟨rfl, hx⟩
  have X14 := Lib.hid hx
  clear hx
  go_wp2_with fail
  refine (heldTaskS_any (S := fun b => b ∈ FG) (orphans l) _ 1 _ (OwS.rd ((OG.out.ext (X11.out.trans (X12.out.trans (X13.out.trans X14.out)))))) (by omega) (by have := BND.out; omega)).mono ?_
  rintro e w26 ⟨rfl, hx⟩
  have X15 := Lib.hid hx
  clear hx
  go_wp2_with fail
  go_ret
  exact ⟨rfl, (Z11.out.trans (X11.out.trans (X12.out.trans (X13.out.trans (X14.out.trans X15.out)))))⟩

set_option maxRecDepth 100000 in
theorem fnExactOrphans_lifted (os : Os) (started : os.Started) (H : Type) (enc : TypeId × Value → H) :
    ReturnsInHanded {} Try.checked os 10 .any (Rows.fnExactOrphansSpec.pre6 enc Try.prog Try.f10 Rows.fnExactOrphansRow.domain false) (Rows.fnExactOrphansSpec.post enc Try.prog Try.f10 false true false false) := by
  refine returnsInHanded_of_change (C := Try.checked) (show ownKnob Try.prog.godebug = none by kernel_rfl) started (by kernel_rfl) Try.func10
    (ChangeSpec.witness6 (enc := enc) (C := Try.checked) false ⟨#[], #[.slice none 0 0], []⟩ 8 (by kernel_rfl) (by kernel_rfl) (by kernel_rfl) (by kernel_rfl)) ?_
  intro W base args ds gs before hval0 hW hcnd _
  have hval : ∀ (j : Nat) t v, Try.f10.params[j]? = some t → args[j]? = some v → Value.okWide Try.prog W .any base t v := hval0
  have hW' := hW
  obtain ⟨p, q, hA0, hV, rfl, hfz, hnd⟩ := hW
  have hA : DataW.TrodAll enc Try.prog W 0 (fun _ => true) true Try.f10.params.toList args.toList ds p := hA0
  rw [Try.params10] at hA hval
  obtain ⟨v0, d0, rfl, rfl, h0⟩ := trodAll_one hA
  obtain ⟨rfl, rfl⟩ := trodVars_none hV
  obtain ⟨fu0, hf0⟩ := h0
  obtain ⟨l1, u0, e0, rl1⟩ := opens_TaskS hf0
  obtain ⟨a0, len0, cap0, rfl⟩ := okWide_slice Try.underlying55 (hval 0 55 v0 rfl rfl)
  obtain rfl : u0 = _ := by simpa [Value.cells] using e0.symm
  clear hf0 e0
  clear hA0 hval0 hval hcnd
  refine (fnExactOrphans_walk l1 _ W rl1).mono fun e W2 ⟨he, hx⟩ => ?_
  subst he
  exact ⟨_, rfl, law_post (by kernel_rfl) (by kernel_rfl) Try.underlying4 (by intro t ht; rw [Try.params10] at ht; simp only [List.mem_cons, List.not_mem_nil, or_false] at ht; rcases ht with rfl <;> exact ⟨by kernel_rfl, of_decide_eq_true (by kernel_rfl)⟩) rfl rfl hW' hx⟩

theorem fnExactOrphans_holds : Rows.FnExactOrphansSaid :=
  OpenClaim.holds_of_wide 10 Try.f10 rfl rfl rfl rfl rfl rfl rfl ⟨rfl, rfl, rfl, rfl, rfl⟩ rfl rfl rfl rfl rfl (by kernel_rfl) Try.func10 fnExactOrphans_closed
    (of_decide_eq_true (by kernel_rfl)) (by unfold Func.isWrapper; rw [if_neg (of_decide_eq_false (by kernel_rfl))]; exact ⟨rfl, rfl⟩)
    (fun os started H enc _ => fnExactOrphans_lifted os started H enc)
end Go.Proofs.Ytalnbddpkkkpeaa

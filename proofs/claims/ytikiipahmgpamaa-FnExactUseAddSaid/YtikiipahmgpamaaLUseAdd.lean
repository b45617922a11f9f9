/- The law FnExactUseAdd: the program's UseAdd and the reference's are equal; its row. Printed by wip/law.py. -/
import Derived.Test.YtikiipahmgpamaaKUseAdd
import Derived.Test.YtikiipahmgpamaaUAddS
import Derived.Test.YtikiipahmgpamaaUAddB
import Derived.Test.YtikiipahmgpamaaGTo
import Derived.Test.YtikiipahmgpamaaGToO
import Derived.Test.YtikiipahmgpamaaGMarkU
import Derived.Test.YtikiipahmgpamaaGHeldU
import Derived.Test.YtikiipahmgpamaaBox4
import Derived.Test.YtikiipahmgpamaaGEq
import Derived.Test.YtikiipahmgpamaaGSz
import Derived.Test.YtikiipahmgpamaaGOpen
import Derived.Deep.RegionHeld3
import Derived.ChangeMaps5
namespace Go.Proofs.Ytikiipahmgpamaa
open Go.ChangeShapes Go.WideShapes Go.ChangeAt Go.RowKit Go.ChangeMaps
attribute [local irreducible] wpQuiet

set_option maxHeartbeats 64000000 in
set_option maxRecDepth 100000 in
theorem fnExactUseAdd_walk {S : Nat → Prop} (l : List Use) (vl : Value) (lab : Label) (cslab : List Value) (own : ByteArray) (num : Int) (w : World) (hl : Rd EUse S w vl l) (hlab : ELabel.rel S w cslab lab) (iown : Str own) (inum : I64 num) :
    Calls Try.prog 5 #[vl, .agg cslab.toArray, .string own, .int .i64 num] w fun e w' => e = .returned (.bool true) ∧ Ext w w' := by
  have h0 : (0 : Int) ≤ 1048576 := by decide
  have R_l := Lib.hid hl
  obtain ⟨A_l, c_l, rfl, l1_l, l2_l⟩ := hl.form
  unfold maxLen at l2_l
  clear hl
  obtain ⟨rfl, hf_lab⟩ := hlab
  have F_lab := Lib.hid hf_lab
  clear hf_lab
  simp only [cellsLabel]
  have S_own := Lib.hid iown
  have z_own := S_own.out
  unfold Str maxLen at z_own
  clear iown
  have I_num := Lib.hid inum
  clear inum
  go_enter Try.func5, Try.ntmps5
  go_upto_region 1 with (fail)
  obtain ⟨W0, B, hW, hB, hx0, hbox⟩ := box_new w #[.int .i64 lab.level, .int .i64 lab.set] 50
  rw [← hW, ← hB]
  have Q_lab : Hid (Blk W0 B 50 #[.int .i64 lab.level, .int .i64 lab.set]) := Lib.hid (by rw [hW, hB]; exact Blk.new w _ _)
  clear hW hB hbox
  have X0 := Lib.hid hx0
  clear hx0
  by_cases hz_own : 1048576 < own.size
  · go_wp2_with fail
    go_ret
    exact ⟨rfl, (X0.out)⟩
  have ht_own : own.size ≤ 1048576 := by omega
  clear hz_own
  have ac_lab := (Q_lab.out.ext (Ext.refl _)).cell
  by_cases hs_l : szUseS l 1048576 < 0
  · go_wp2_with fail
    refine (szUseS_any l _ 1048576 _ (R_l.out.ext (X0.out)) h0 (Int.le_refl _)).mono ?_
    rintro e w12 ⟨rfl, hx⟩
    have X1 := Lib.hid hx
    clear hx ac_lab
    go_wp2_with fail
    go_ret
    exact ⟨rfl, (X0.out.trans X1.out)⟩
  have hp_l : 0 ≤ szUseS l 1048576 := by omega
  have M_l := Lib.hid (small_szUseS h0 (Int.le_refl _) hp_l)
  have hq_l : szUseS l 1048576 ≤ 1048576 := by have := pays_szUseS l 1048576 h0; have := h0; omega
  clear hs_l
  go_wp2_with fail
  refine (szUseS_any l _ 1048576 _ (R_l.out.ext (X0.out)) h0 (Int.le_refl _)).mono ?_
  rintro e w12 ⟨rfl, hx⟩
  have X1 := Lib.hid hx
  clear hx ac_lab
  generalize szUseS l 1048576 = q_l at *
  have HP_l := Lib.hid hp_l
  have HQ_l := Lib.hid hq_l
  clear hq_l
  have M_lab : Hid (SmLabel lab) := Lib.hid trivial
  have ac_lab := (Q_lab.out.ext (X1.out)).cell
  go_wp2_with fail
  clear ac_lab
  have al_lab : ∀ V, Ext w12 V → ∀ i, V.cell? ⟨B, i, none⟩ = _ := fun V hx => (Q_lab.out.ext (X1.out.trans hx)).cell
  go_region_held3 (fun w' => Ext w12 w') (first | exact Ext.refl _ | exact (Ext.refl _).drew | assumption | exact Ext.alloc (by assumption) _ | exact Ext.trans (by assumption) hx1 | exact Ext.trans (by assumption) hx2 | exact Ext.trans (by assumption) hx3) (first | (go_at_call 26; (with_reducible refine (toUseS_any (S := S) l _ _ (R_l.out.ext (X0.out.trans (X1.out.trans (by assumption)))) M_l.out).mono ?_); rintro e w13_1 ⟨u1, rfl, r1, hx1⟩; obtain ⟨A1, c1, rfl, -⟩ := Rd.form r1; have R1 := Lib.hid r1; clear r1) | (go_at_call 27; (with_reducible refine (toLabel_any (S := S) lab _ _ (rel_Label F_lab.out) M_lab.out).mono ?_); rintro e w13_2 ⟨_, rfl, ⟨rfl, f2⟩, hx2⟩; clear f2; simp only [cellsLabel]) | (go_at_call 25; (with_reducible refine (specUseAdd_any l lab own num _ _ (by first | exact R1.out | exact R1.out.ext (by assumption)) F_lab.out S_own.out I_num.out).mono ?_); rintro e w13 ⟨vS, FS, rfl, oS, gS, hx3⟩; have OS := Lib.hid oS; have GES : Hid (∀ b ∈ FS, (w12).heap.size ≤ b) := Lib.hid (fun b hb => Nat.le_trans (Ext.size (by assumption)) (gS b hb)); clear oS gS))
  all_goals clear al_lab
  have X2 : Hid (Ext w12 w13) := Lib.hid (by first | assumption | exact Ext.drew (by assumption))
  obtain ⟨AS, cS, rfl, -⟩ := OS.out.form
  have ac_lab := (Q_lab.out.ext (X1.out.trans X2.out)).cell
  go_wp2_with fail
  refine (toUseS_own (S := S) l _ _ (R_l.out.ext (X0.out.trans (X1.out.trans X2.out))) M_l.out).mono ?_
  rintro e w14 ⟨vxl, Fxl, rfl, oxl, gxl, hx⟩
  have X3 := Lib.hid hx
  clear hx ac_lab
  have GExl := Lib.hid gxl
  have Oxl := Lib.hid oxl
  clear gxl oxl
  obtain ⟨Axl, cxl, rfl, -⟩ := Oxl.out.form
  have ac_lab := (Q_lab.out.ext (X1.out.trans (X2.out.trans X3.out))).cell
  go_wp2_with fail
  refine (toLabel_any (S := S) lab _ _ (rel_Label F_lab.out) M_lab.out).mono ?_
  rintro e w15 ⟨_, rfl, ⟨rfl, f4⟩, hx⟩
  have X4 := Lib.hid hx
  clear hx ac_lab
  clear f4
  simp only [cellsLabel]
  have ac_lab := (Q_lab.out.ext (X1.out.trans (X2.out.trans (X3.out.trans X4.out)))).cell
  go_wp2_with fail
  refine (useAdd_any l lab own num _ _ (OwS.rd ((Oxl.out.ext (X4.out)))) F_lab.out S_own.out I_num.out).mono ?_
  rintro e w16 ⟨vG, FG, rfl, oG, gG, hx⟩
  have GEG := Lib.hid gG
  have OG := Lib.hid oG
  clear gG oG
  obtain ⟨AG, cG, rfl, -⟩ := OG.out.form
  have X5 := Lib.hid hx
  clear hx ac_lab
  have ac_lab := (Q_lab.out.ext (X1.out.trans (X2.out.trans (X3.out.trans (X4.out.trans X5.out))))).cell
  go_wp2_with fail
  refine (eqUseS_any _ _ _ _ _ (OwS.rd (OG.out)) (OwS.rd ((OS.out.ext (X3.out.trans (X4.out.trans X5.out)))))).mono ?_
  rintro e w17 ⟨rfl, hx⟩
  have X6 := Lib.hid hx
  clear hx ac_lab
  have ac_lab := (Q_lab.out.ext (X1.out.trans (X2.out.trans (X3.out.trans (X4.out.trans (X5.out.trans X6.out)))))).cell
  go_wp2_with fail
  refine (toUseS_any (S := S) l _ _ (R_l.out.ext (X0.out.trans (X1.out.trans (X2.out.trans (X3.out.trans (X4.out.trans (X5.out.trans X6.out))))))) M_l.out).mono ?_
  rintro e w18 ⟨u5, rfl, r5, hx⟩
  have X7 := Lib.hid hx
  clear hx ac_lab
  obtain ⟨A5, c5, rfl, -⟩ := Rd.form r5
  have R5 := Lib.hid r5
  clear r5
  have ac_lab := (Q_lab.out.ext (X1.out.trans (X2.out.trans (X3.out.trans (X4.out.trans (X5.out.trans (X6.out.trans X7.out))))))).cell
  go_wp2_with fail
  refine (eqUseS_any l l _ _ _ (OwS.rd ((Oxl.out.ext (X4.out.trans (X5.out.trans (X6.out.trans X7.out)))))) (R5.out.ext (Ext.refl _))).mono ?_
  rintro e w19 ⟨rfl, hx⟩
  have X8 := Lib.hid hx
  clear hx ac_lab
  have LS := Lib.hid OS.out.lt
  have Lxl := Lib.hid Oxl.out.lt
  have LG := Lib.hid OG.out.lt
  have DS_xl : Hid (∀ b ∈ FS, b ∉ Fxl) := Lib.hid (fun b h1 h2 => absurd (Nat.lt_of_lt_of_le (LS.out b h1) (Ext.size (Ext.refl _))) (Nat.not_lt.2 (GExl.out b h2)))
  have DS_G : Hid (∀ b ∈ FS, b ∉ FG) := Lib.hid (fun b h1 h2 => absurd (Nat.lt_of_lt_of_le (LS.out b h1) (Ext.size (X3.out.trans X4.out))) (Nat.not_lt.2 (GEG.out b h2)))
  have Dxl_S : Hid (∀ b ∈ Fxl, b ∉ FS) := Lib.hid (fun b h1 h2 => absurd (Nat.lt_of_lt_of_le (LS.out b h2) (Ext.size (Ext.refl _))) (Nat.not_lt.2 (GExl.out b h1)))
  have Dxl_G : Hid (∀ b ∈ Fxl, b ∉ FG) := Lib.hid (fun b h1 h2 => absurd (Nat.lt_of_lt_of_le (Lxl.out b h1) (Ext.size X4.out)) (Nat.not_lt.2 (GEG.out b h2)))
  have DG_S : Hid (∀ b ∈ FG, b ∉ FS) := Lib.hid (fun b h1 h2 => absurd (Nat.lt_of_lt_of_le (LS.out b h2) (Ext.size (X3.out.trans X4.out))) (Nat.not_lt.2 (GEG.out b h1)))
  have DG_xl : Hid (∀ b ∈ FG, b ∉ Fxl) := Lib.hid (fun b h1 h2 => absurd (Nat.lt_of_lt_of_le (Lxl.out b h2) (Ext.size X4.out)) (Nat.not_lt.2 (GEG.out b h1)))
  have GZS : Hid (∀ b ∈ FS, w.heap.size ≤ b) := Lib.hid (fun b hb => Nat.le_trans (Ext.size (X0.out.trans X1.out)) (GES.out b hb))
  have GZxl : Hid (∀ b ∈ Fxl, w.heap.size ≤ b) := Lib.hid (fun b hb => Nat.le_trans (Ext.size (X0.out.trans (X1.out.trans X2.out))) (GExl.out b hb))
  have GZG : Hid (∀ b ∈ FG, w.heap.size ≤ b) := Lib.hid (fun b hb => Nat.le_trans (Ext.size (X0.out.trans (X1.out.trans (X2.out.trans (X3.out.trans X4.out))))) (GEG.out b hb))
  have Nlab_S : Hid (B ∉ FS) := Lib.hid (fun hb => absurd (Nat.lt_of_lt_of_le Q_lab.out.lt (Ext.size X1.out)) (Nat.not_lt.2 (GES.out _ hb)))
  have Nlab_xl : Hid (B ∉ Fxl) := Lib.hid (fun hb => absurd (Nat.lt_of_lt_of_le Q_lab.out.lt (Ext.size (X1.out.trans X2.out))) (Nat.not_lt.2 (GExl.out _ hb)))
  have Nlab_G : Hid (B ∉ FG) := Lib.hid (fun hb => absurd (Nat.lt_of_lt_of_le Q_lab.out.lt (Ext.size (X1.out.trans (X2.out.trans (X3.out.trans X4.out))))) (Nat.not_lt.2 (GEG.out _ hb)))
  have BND : Hid (1 + ((cntL cntUse l : Nat) : Int) ≤ 1125899906842624 ∧ 1 + ((cntL cntUse (useAdd l lab own num) : Nat) : Int) ≤ 1125899906842624) := Lib.hid (useAdd_bound M_l.out.1)
  have hc_l := Int.natCast_nonneg (cntL cntUse l)
  have hc_R := Int.natCast_nonneg (cntL cntUse (useAdd l lab own num))
  have ac_lab := (Q_lab.out.ext (X1.out.trans (X2.out.trans (X3.out.trans (X4.out.trans (X5.out.trans (X6.out.trans (X7.out.trans X8.out)))))))).cell
  go_wp2_with fail
  refine (markUseS_any _ _ Fxl _ _ (Oxl.out.ext (X4.out.trans (X5.out.trans (X6.out.trans (X7.out.trans X8.out))))) (by omega) (by have := BND.out; omega)).mono ?_
  rintro e w20 ⟨rfl, om, km⟩
  have K9 := Lib.hid km
  have OM := Lib.hid om
  clear om km ac_lab
  replace OS := Lib.hid (OwS.kept (OS.out.ext (X3.out.trans (X4.out.trans (X5.out.trans (X6.out.trans (X7.out.trans X8.out)))))) K9.out DS_xl.out)
  replace OG := Lib.hid (OwS.kept (OG.out.ext (X6.out.trans (X7.out.trans X8.out))) K9.out DG_xl.out)
  have Z10 : Hid (Ext w w20) := Lib.hid (Kept.ext (X0.out.trans (X1.out.trans (X2.out.trans (X3.out.trans (X4.out.trans (X5.out.trans (X6.out.trans (X7.out.trans X8.out)))))))) K9.out GZxl.out)
  replace Q_lab : Hid (Blk w20 B 50 #[.int .i64 lab.level, .int .i64 lab.set]) := Lib.hid ((K9.out.block _ (Blk.lt (Q_lab.out.ext (X1.out.trans (X2.out.trans (X3.out.trans (X4.out.trans (X5.out.trans (X6.out.trans (X7.out.trans X8.out))))))))) Nlab_xl.out).trans (Q_lab.out.ext (X1.out.trans (X2.out.trans (X3.out.trans (X4.out.trans (X5.out.trans (X6.out.trans (X7.out.trans X8.out)))))))))
  replace Oxl := OM
  clear OM
  have ac_lab := (Q_lab.out.ext (Ext.refl _)).cell
  go_wp2_with fail
  refine (eqUseS_any _ _ _ _ _ (OwS.rd (OG.out)) (OwS.rd (OS.out))).mono ?_
  rintro e w21 ⟨rfl, hx⟩
  have X10 := Lib.hid hx
  clear hx ac_lab
  have ac_lab := (Q_lab.out.ext (X10.out)).cell
  go_wp2_with fail
  refine (markUseS_any _ _ FG _ _ (OG.out.ext (X10.out)) (by omega) (by have := BND.out; omega)).mono ?_
  rintro e w22 ⟨rfl, om, km⟩
  have K11 := Lib.hid km
  have OM := Lib.hid om
  clear om km ac_lab
  replace OS := Lib.hid (OwS.kept (OS.out.ext (X10.out)) K11.out DS_G.out)
  replace Oxl := Lib.hid (OwS.kept (Oxl.out.ext (X10.out)) K11.out Dxl_G.out)
  have Z12 : Hid (Ext w w22) := Lib.hid (Kept.ext (Z10.out.trans X10.out) K11.out GZG.out)
  replace Q_lab : Hid (Blk w22 B 50 #[.int .i64 lab.level, .int .i64 lab.set]) := Lib.hid ((K11.out.block _ (Blk.lt (Q_lab.out.ext (X10.out))) Nlab_G.out).trans (Q_lab.out.ext (X10.out)))
  replace OG := OM
  clear OM
  have ac_lab := (Q_lab.out.ext (Ext.refl _)).cell
  go_wp2_with fail
  refine (heldUseS_any (S := fun b => b ∈ FG) (useAdd l lab own num) _ 1 _ (OwS.rd (OG.out)) (by omega) (by have := BND.out; omega)).mono ?_
  rintro e w23 ⟨rfl, hx⟩
  have X12 := Lib.hid hx
  clear hx ac_lab
  have ac_lab := (Q_lab.out.ext (X12.out)).cell
  go_wp2_with fail
  clear ac_lab
  have al_lab : ∀ V, Ext w23 V → ∀ i, V.cell? ⟨B, i, none⟩ = _ := fun V hx => (Q_lab.out.ext (X12.out.trans hx)).cell
  go_region_held3 (fun w' => Ext w23 w') (first | exact Ext.refl _ | exact (Ext.refl _).drew | assumption | exact Ext.alloc (by assumption) _ | exact Ext.trans (by assumption) hx6 | exact Ext.trans (by assumption) hx7 | exact Ext.trans (by assumption) hx8) (first | (go_at_call 26; (with_reducible refine (toUseS_any (S := S) l _ _ (R_l.out.ext (Z12.out.trans (X12.out.trans (by assumption)))) M_l.out).mono ?_); rintro e w24_6 ⟨u6, rfl, r6, hx6⟩; obtain ⟨A6, c6, rfl, -⟩ := Rd.form r6; have R6 := Lib.hid r6; clear r6) | (go_at_call 27; (with_reducible refine (toLabel_any (S := S) lab _ _ (rel_Label F_lab.out) M_lab.out).mono ?_); rintro e w24_7 ⟨_, rfl, ⟨rfl, f7⟩, hx7⟩; clear f7; simp only [cellsLabel]) | (go_at_call 28; (with_reducible refine (useAdd_any l lab own num _ _ (by first | exact R6.out | exact R6.out.ext (by assumption)) F_lab.out S_own.out I_num.out).mono ?_); rintro e w24 ⟨vH, FH, rfl, oH, gH, hx8⟩; have OH := Lib.hid oH; have GEH : Hid (∀ b ∈ FH, (w23).heap.size ≤ b) := Lib.hid (fun b hb => Nat.le_trans (Ext.size (by assumption)) (gH b hb)); clear oH gH))
  all_goals clear al_lab
  have X13 : Hid (Ext w23 w24) := Lib.hid (by first | assumption | exact Ext.drew (by assumption))
  obtain ⟨AH, cH, rfl, -⟩ := OH.out.form
  have ac_lab := (Q_lab.out.ext (X12.out.trans X13.out)).cell
  go_wp2_with fail
  refine (eqUseS_any _ _ _ _ _ (OwS.rd (OH.out)) (OwS.rd ((OS.out.ext (X12.out.trans X13.out))))).mono ?_
  rintro e w25 ⟨rfl, hx⟩
  have X14 := Lib.hid hx
  clear hx ac_lab
  have ac_lab := (Q_lab.out.ext (X12.out.trans (X13.out.trans X14.out))).cell
  go_wp2_with fail
  refine (heldUseS_any (S := fun b => b ∈ FG) (useAdd l lab own num) _ 1 _ (OwS.rd ((OG.out.ext (X12.out.trans (X13.out.trans X14.out))))) (by omega) (by have := BND.out; omega)).mono ?_
  rintro e w26 ⟨rfl, hx⟩
  have X15 := Lib.hid hx
  clear hx ac_lab
  have ac_lab := (Q_lab.out.ext (X12.out.trans (X13.out.trans (X14.out.trans X15.out)))).cell
  go_wp2_with fail
  go_ret
  exact ⟨rfl, (Z12.out.trans (X12.out.trans (X13.out.trans (X14.out.trans X15.out))))⟩

set_option maxRecDepth 100000 in
theorem fnExactUseAdd_lifted (os : Os) (started : os.Started) (H : Type) (enc : TypeId × Value → H) :
    ReturnsInHanded {} Try.checked os 5 .any (Rows.fnExactUseAddSpec.pre6 enc Try.prog Try.f5 Rows.fnExactUseAddRow.domain false) (Rows.fnExactUseAddSpec.post enc Try.prog Try.f5 false true false false) := by
  refine returnsInHanded_of_change (C := Try.checked) (show ownKnob Try.prog.godebug = none by kernel_rfl) started (by kernel_rfl) Try.func5
    (ChangeSpec.witness6 (enc := enc) (C := Try.checked) false ⟨#[], #[.slice none 0 0, .agg #[.int .i64 0, .int .i64 0], .string ⟨#[]⟩, .int .i64 0], []⟩ 8 (by kernel_rfl) (by kernel_rfl) (by kernel_rfl) (by kernel_rfl)) ?_
  intro W base args ds gs before hval0 hW hcnd _
  have hval : ∀ (j : Nat) t v, Try.f5.params[j]? = some t → args[j]? = some v → Value.okWide Try.prog W .any base t v := hval0
  have hW' := hW
  obtain ⟨p, q, hA0, hV, rfl, hfz, hnd⟩ := hW
  have hA : DataW.TrodAll enc Try.prog W 0 (fun _ => true) true Try.f5.params.toList args.toList ds p := hA0
  rw [Try.params5] at hA hval
  obtain ⟨v0, v1, v2, v3, d0, d1, d2, d3, p0, p1, p2, p3, rfl, rfl, rfl, h0, h1, h2, h3⟩ := trodAll_four hA
  obtain ⟨rfl, rfl⟩ := trodVars_none hV
  obtain ⟨fu0, hf0⟩ := h0
  obtain ⟨l1, u0, e0, rl1⟩ := opens_UseS hf0
  obtain ⟨a0, len0, cap0, rfl⟩ := okWide_slice Try.underlying49 (hval 0 49 v0 rfl rfl)
  obtain rfl : u0 = _ := by simpa [Value.cells] using e0.symm
  clear hf0 e0
  obtain ⟨fu1, hf1⟩ := h1
  obtain ⟨lab1, rlab1⟩ := opens_Label hf1
  obtain ⟨⟨cs1⟩, rfl, hsz1⟩ := okWide_struct Try.underlying50 (hval 1 50 v1 rfl rfl)
  simp only [Value.cells] at rlab1
  clear hf1 hsz1
  obtain ⟨own1, rfl, rfl, rfl, iown1⟩ := open_string Try.underlying9 (hval 2 9 v2 rfl rfl) h2
  obtain ⟨num1, rfl, rfl, rfl, wnum1⟩ := open_int Try.underlying2 (hval 3 2 v3 rfl rfl) h3
  have inum1 := i64_of_wf wnum1
  clear hA0 hval0 hval hcnd
  refine (fnExactUseAdd_walk l1 _ lab1 _ own1 num1 W rl1 rlab1 iown1 inum1).mono fun e W2 ⟨he, hx⟩ => ?_
  subst he
  exact ⟨_, rfl, law_post (by kernel_rfl) (by kernel_rfl) Try.underlying4 (by intro t ht; rw [Try.params5] at ht; simp only [List.mem_cons, List.not_mem_nil, or_false] at ht; rcases ht with rfl | rfl | rfl | rfl <;> exact ⟨by kernel_rfl, of_decide_eq_true (by kernel_rfl)⟩) rfl rfl hW' hx⟩

theorem fnExactUseAdd_holds : Rows.FnExactUseAddSaid :=
  OpenClaim.holds_of_wide 5 Try.f5 rfl rfl rfl rfl rfl rfl rfl ⟨rfl, rfl, rfl, rfl, rfl⟩ rfl rfl rfl rfl rfl (by kernel_rfl) Try.func5 fnExactUseAdd_closed
    (of_decide_eq_true (by kernel_rfl)) (by unfold Func.isWrapper; rw [if_neg (of_decide_eq_false (by kernel_rfl))]; exact ⟨rfl, rfl⟩)
    (fun os started H enc _ => fnExactUseAdd_lifted os started H enc)
end Go.Proofs.Ytikiipahmgpamaa

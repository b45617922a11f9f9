/- The law FnExactBookCut: the program's BookCut and the reference's are equal; its row. Printed by wip/law.py. -/
import Derived.Test.YtalnbddpkkkpeaaKBookCut
import Derived.Test.YtalnbddpkkkpeaaBookCut
import Derived.Test.YtalnbddpkkkpeaaBookCutS
import Derived.Test.YtalnbddpkkkpeaaGMarkS
import Derived.Test.YtalnbddpkkkpeaaNodeB
import Derived.Test.YtalnbddpkkkpeaaGTo
import Derived.Test.YtalnbddpkkkpeaaGToO
import Derived.Test.YtalnbddpkkkpeaaGMark
import Derived.Test.YtalnbddpkkkpeaaGHeld
import Derived.Test.YtalnbddpkkkpeaaBox3
import Derived.Test.YtalnbddpkkkpeaaGEq
import Derived.Test.YtalnbddpkkkpeaaGSz
import Derived.Test.YtalnbddpkkkpeaaGOpen
import Derived.Deep.RegionHeld3
import Derived.ChangeMaps5
namespace Go.Proofs.Ytalnbddpkkkpeaa
open Go.ChangeShapes Go.WideShapes Go.ChangeAt Go.RowKit Go.ChangeMaps
attribute [local irreducible] wpQuiet

set_option maxHeartbeats 64000000 in
set_option maxRecDepth 100000 in
theorem fnExactBookCut_walk {S : Nat → Prop} (l : List Node) (vl : Value) (num : Int) (fr : Int) (w : World) (hl : Rd ENode S w vl l) (inum : I64 num) (ifr : I64 fr) :
    Calls Try.prog 12 #[vl, .int .i64 num, .int .i64 fr] w fun e w' => e = .returned (.bool true) ∧ Ext w w' := by
  have h0 : (0 : Int) ≤ 1048576 := by decide
  have R_l := Lib.hid hl
  obtain ⟨A_l, c_l, rfl, l1_l, l2_l⟩ := hl.form
  unfold maxLen at l2_l
  clear hl
  have I_num := Lib.hid inum
  clear inum
  have I_fr := Lib.hid ifr
  clear ifr
  go_enter Try.func12, Try.ntmps12
  go_upto_region 1 with (fail)
  by_cases hs_l : szNodeS l 1048576 < 0
  · go_wp2_with fail
    refine (szNodeS_any l _ 1048576 _ (R_l.out.ext (Ext.refl _)) h0 (Int.le_refl _)).mono ?_
    rintro e w11 ⟨rfl, hx⟩
    have X0 := Lib.hid hx
    clear hx
    go_wp2_with fail
    go_ret
    exact ⟨rfl, (X0.out)⟩
  have hp_l : 0 ≤ szNodeS l 1048576 := by omega
  have M_l := Lib.hid (small_szNodeS h0 (Int.le_refl _) hp_l)
  have hq_l : szNodeS l 1048576 ≤ 1048576 := by have := pays_szNodeS l 1048576 h0; have := h0; omega
  clear hs_l
  go_wp2_with fail
  refine (szNodeS_any l _ 1048576 _ (R_l.out.ext (Ext.refl _)) h0 (Int.le_refl _)).mono ?_
  rintro e w11 ⟨rfl, hx⟩
  have X0 := Lib.hid hx
  clear hx
  generalize szNodeS l 1048576 = q_l at *
  have HP_l := Lib.hid hp_l
  have HQ_l := Lib.hid hq_l
  clear hq_l
  go_wp2_with fail
  refine (toNodeS_any (S := S) l _ _ (R_l.out.ext (X0.out)) M_l.out).mono ?_
  rintro e w12 ⟨u1, rfl, r1, hx⟩
  have X1 := Lib.hid hx
  clear hx
  obtain ⟨A1, c1, rfl, -⟩ := Rd.form r1
  have R1 := Lib.hid r1
  clear r1
  go_wp2_with fail
  refine (specBookCut_any l num fr _ _ (R1.out.ext (Ext.refl _))).mono ?_
  rintro e w13 ⟨csS, FS, rfl, ⟨uS, rfl, fS, oS⟩, gS, hx⟩
  have GES := Lib.hid gS
  have OS := Lib.hid oS
  clear gS oS
  obtain ⟨AS, cS, rfl, -⟩ := OS.out.form
  have FTS := Lib.hid fS
  clear fS
  simp only [cellsNodesOut]
  have X2 := Lib.hid hx
  clear hx
  go_wp2_with fail
  obtain ⟨WBS, BS, hW, hB, hxb, hbx⟩ : ∃ W B, W = w13.alloc (.cells #[.slice AS (bookCut l num fr).nodes.length cS, .int .i64 (bookCut l num fr).code] 68) ∧ B = w13.heap.size ∧ Ext w13 W ∧ Blk W B 68 #[.slice AS (bookCut l num fr).nodes.length cS, .int .i64 (bookCut l num fr).code] := ⟨_, _, rfl, rfl, (Ext.refl _).alloc _, Blk.new _ _ _⟩
  rw [← hW, ← hB]
  have HB_S : Hid (w13.heap.size ≤ BS) := Lib.hid (by omega)
  have Q_S := Lib.hid hbx
  have X3 := Lib.hid hxb
  clear hW hB hxb hbx
  refine (toNodeS_own (S := S) l _ _ (R_l.out.ext (X0.out.trans (X1.out.trans (X2.out.trans X3.out)))) M_l.out).mono ?_
  rintro e w15 ⟨vxl, Fxl, rfl, oxl, gxl, hx⟩
  have X4 := Lib.hid hx
  clear hx
  have GExl := Lib.hid gxl
  have Oxl := Lib.hid oxl
  clear gxl oxl
  obtain ⟨Axl, cxl, rfl, -⟩ := Oxl.out.form
  have ac_S := (Q_S.out.ext (X4.out)).cell
  go_wp2_with fail
  refine (bookCut_any l num fr _ _ (OwS.rd (Oxl.out))).mono ?_
  rintro e w16 ⟨csG, FG, rfl, ⟨uG, rfl, fG, oG⟩, gG, hx⟩
  have GEG := Lib.hid gG
  have OG := Lib.hid oG
  clear gG oG
  obtain ⟨AG, cG, rfl, -⟩ := OG.out.form
  have FTG := Lib.hid fG
  clear fG
  simp only [cellsNodesOut]
  have X5 := Lib.hid hx
  clear hx ac_S
  have ac_S := (Q_S.out.ext (X4.out.trans X5.out)).cell
  have aa_S := fun ob : Obj => (Q_S.out.ext (Ext.alloc (X4.out.trans X5.out) ob)).cell
  go_wp2_with fail
  obtain ⟨WBG, BG, hW, hB, hxb, hbx⟩ : ∃ W B, W = w16.alloc (.cells #[.slice AG (bookCut l num fr).nodes.length cG, .int .i64 (bookCut l num fr).code] 68) ∧ B = w16.heap.size ∧ Ext w16 W ∧ Blk W B 68 #[.slice AG (bookCut l num fr).nodes.length cG, .int .i64 (bookCut l num fr).code] := ⟨_, _, rfl, rfl, (Ext.refl _).alloc _, Blk.new _ _ _⟩
  rw [← hW, ← hB]
  have HB_G : Hid (w16.heap.size ≤ BG) := Lib.hid (by omega)
  have Q_G := Lib.hid hbx
  have X6 := Lib.hid hxb
  clear hW hB hxb hbx
  refine (eqNodesOut_any (bookCut l num fr) (bookCut l num fr) _ _ _ (rel_NodesOut FTG.out (OwS.rd ((OG.out.ext (X6.out))))) (rel_NodesOut FTS.out (OwS.rd ((OS.out.ext (X3.out.trans (X4.out.trans (X5.out.trans X6.out)))))))).mono ?_
  rintro e w18 ⟨rfl, hx⟩
  have X7 := Lib.hid hx
  clear hx ac_S aa_S
  have ac_S := (Q_S.out.ext (X4.out.trans (X5.out.trans (X6.out.trans X7.out)))).cell
  have ac_G := (Q_G.out.ext (X7.out)).cell
  go_wp2_with fail
  refine (toNodeS_any (S := S) l _ _ (R_l.out.ext (X0.out.trans (X1.out.trans (X2.out.trans (X3.out.trans (X4.out.trans (X5.out.trans (X6.out.trans X7.out)))))))) M_l.out).mono ?_
  rintro e w19 ⟨u2, rfl, r2, hx⟩
  have X8 := Lib.hid hx
  clear hx ac_S ac_G
  obtain ⟨A2, c2, rfl, -⟩ := Rd.form r2
  have R2 := Lib.hid r2
  clear r2
  have ac_S := (Q_S.out.ext (X4.out.trans (X5.out.trans (X6.out.trans (X7.out.trans X8.out))))).cell
  have ac_G := (Q_G.out.ext (X7.out.trans X8.out)).cell
  go_wp2_with fail
  refine (eqNodeS_any l l _ _ _ (OwS.rd ((Oxl.out.ext (X5.out.trans (X6.out.trans (X7.out.trans X8.out)))))) (R2.out.ext (Ext.refl _))).mono ?_
  rintro e w20 ⟨rfl, hx⟩
  have X9 := Lib.hid hx
  clear hx ac_S ac_G
  have LS := Lib.hid OS.out.lt
  have Lxl := Lib.hid Oxl.out.lt
  have LG := Lib.hid OG.out.lt
  have DS_xl : Hid (∀ b ∈ FS, b ∉ Fxl) := Lib.hid (fun b h1 h2 => absurd (Nat.lt_of_lt_of_le (LS.out b h1) (Ext.size X3.out)) (Nat.not_lt.2 (GExl.out b h2)))
  have DS_G : Hid (∀ b ∈ FS, b ∉ FG) := Lib.hid (fun b h1 h2 => absurd (Nat.lt_of_lt_of_le (LS.out b h1) (Ext.size (X3.out.trans X4.out))) (Nat.not_lt.2 (GEG.out b h2)))
  have Dxl_S : Hid (∀ b ∈ Fxl, b ∉ FS) := Lib.hid (fun b h1 h2 => absurd (Nat.lt_of_lt_of_le (LS.out b h2) (Ext.size X3.out)) (Nat.not_lt.2 (GExl.out b h1)))
  have Dxl_G : Hid (∀ b ∈ Fxl, b ∉ FG) := Lib.hid (fun b h1 h2 => absurd (Nat.lt_of_lt_of_le (Lxl.out b h1) (Ext.size (Ext.refl _))) (Nat.not_lt.2 (GEG.out b h2)))
  have DG_S : Hid (∀ b ∈ FG, b ∉ FS) := Lib.hid (fun b h1 h2 => absurd (Nat.lt_of_lt_of_le (LS.out b h2) (Ext.size (X3.out.trans X4.out))) (Nat.not_lt.2 (GEG.out b h1)))
  have DG_xl : Hid (∀ b ∈ FG, b ∉ Fxl) := Lib.hid (fun b h1 h2 => absurd (Nat.lt_of_lt_of_le (Lxl.out b h2) (Ext.size (Ext.refl _))) (Nat.not_lt.2 (GEG.out b h1)))
  have GZS : Hid (∀ b ∈ FS, w.heap.size ≤ b) := Lib.hid (fun b hb => Nat.le_trans (Ext.size (X0.out.trans X1.out)) (GES.out b hb))
  have GZxl : Hid (∀ b ∈ Fxl, w.heap.size ≤ b) := Lib.hid (fun b hb => Nat.le_trans (Ext.size (X0.out.trans (X1.out.trans (X2.out.trans X3.out)))) (GExl.out b hb))
  have GZG : Hid (∀ b ∈ FG, w.heap.size ≤ b) := Lib.hid (fun b hb => Nat.le_trans (Ext.size (X0.out.trans (X1.out.trans (X2.out.trans (X3.out.trans X4.out))))) (GEG.out b hb))
  have NS_S : Hid (BS ∉ FS) := Lib.hid (fun hb => absurd (Nat.lt_of_lt_of_le (LS.out _ hb) (Ext.size (Ext.refl _))) (Nat.not_lt.2 HB_S.out))
  have NS_xl : Hid (BS ∉ Fxl) := Lib.hid (fun hb => absurd (Nat.lt_of_lt_of_le Q_S.out.lt (Ext.size (Ext.refl _))) (Nat.not_lt.2 (GExl.out _ hb)))
  have NS_G : Hid (BS ∉ FG) := Lib.hid (fun hb => absurd (Nat.lt_of_lt_of_le Q_S.out.lt (Ext.size X4.out)) (Nat.not_lt.2 (GEG.out _ hb)))
  have NG_S : Hid (BG ∉ FS) := Lib.hid (fun hb => absurd (Nat.lt_of_lt_of_le (LS.out _ hb) (Ext.size (X3.out.trans (X4.out.trans X5.out)))) (Nat.not_lt.2 HB_G.out))
  have NG_xl : Hid (BG ∉ Fxl) := Lib.hid (fun hb => absurd (Nat.lt_of_lt_of_le (Lxl.out _ hb) (Ext.size X5.out)) (Nat.not_lt.2 HB_G.out))
  have NG_G : Hid (BG ∉ FG) := Lib.hid (fun hb => absurd (Nat.lt_of_lt_of_le (LG.out _ hb) (Ext.size (Ext.refl _))) (Nat.not_lt.2 HB_G.out))
  have BND : Hid (1 + ((cntL cntNode l : Nat) : Int) ≤ 1125899906842624 ∧ 1 + ((cntL cntNode (bookCut l num fr).nodes : Nat) : Int) ≤ 1125899906842624) := Lib.hid (bookCut_bound M_l.out)
  have hc_l := Int.natCast_nonneg (cntL cntNode l)
  have hc_R := Int.natCast_nonneg (cntL cntNode ((bookCut l num fr).nodes))
  have ac_S := (Q_S.out.ext (X4.out.trans (X5.out.trans (X6.out.trans (X7.out.trans (X8.out.trans X9.out)))))).cell
  have ac_G := (Q_G.out.ext (X7.out.trans (X8.out.trans X9.out))).cell
  go_wp2_with fail
  refine (markNodeS_any _ _ Fxl _ _ (Oxl.out.ext (X5.out.trans (X6.out.trans (X7.out.trans (X8.out.trans X9.out))))) (by omega) (by have := BND.out; omega)).mono ?_
  rintro e w21 ⟨rfl, om, km⟩
  have K10 := Lib.hid km
  have OM := Lib.hid om
  clear om km ac_S ac_G
  replace OS := Lib.hid (OwS.kept (OS.out.ext (X3.out.trans (X4.out.trans (X5.out.trans (X6.out.trans (X7.out.trans (X8.out.trans X9.out))))))) K10.out DS_xl.out)
  replace OG := Lib.hid (OwS.kept (OG.out.ext (X6.out.trans (X7.out.trans (X8.out.trans X9.out)))) K10.out DG_xl.out)
  have Z11 : Hid (Ext w w21) := Lib.hid (Kept.ext (X0.out.trans (X1.out.trans (X2.out.trans (X3.out.trans (X4.out.trans (X5.out.trans (X6.out.trans (X7.out.trans (X8.out.trans X9.out))))))))) K10.out GZxl.out)
  replace Q_S : Hid (Blk w21 BS 68 #[.slice AS (bookCut l num fr).nodes.length cS, .int .i64 (bookCut l num fr).code]) := Lib.hid ((K10.out.block _ (Blk.lt (Q_S.out.ext (X4.out.trans (X5.out.trans (X6.out.trans (X7.out.trans (X8.out.trans X9.out))))))) NS_xl.out).trans (Q_S.out.ext (X4.out.trans (X5.out.trans (X6.out.trans (X7.out.trans (X8.out.trans X9.out)))))))
  replace Q_G : Hid (Blk w21 BG 68 #[.slice AG (bookCut l num fr).nodes.length cG, .int .i64 (bookCut l num fr).code]) := Lib.hid ((K10.out.block _ (Blk.lt (Q_G.out.ext (X7.out.trans (X8.out.trans X9.out)))) NG_xl.out).trans (Q_G.out.ext (X7.out.trans (X8.out.trans X9.out))))
  replace Oxl := OM
  clear OM
  have ac_S := (Q_S.out.ext (Ext.refl _)).cell
  have ac_G := (Q_G.out.ext (Ext.refl _)).cell
  go_wp2_with fail
  refine (eqNodesOut_any (bookCut l num fr) (bookCut l num fr) _ _ _ (rel_NodesOut FTG.out (OwS.rd (OG.out))) (rel_NodesOut FTS.out (OwS.rd (OS.out)))).mono ?_
  rintro e w22 ⟨rfl, hx⟩
  have X11 := Lib.hid hx
  clear hx ac_S ac_G
  have ac_S := (Q_S.out.ext (X11.out)).cell
  have ac_G := (Q_G.out.ext (X11.out)).cell
  go_wp2_with fail
  refine (markNodesOut_any (bookCut l num fr) _ FG _ _ (OG.out.ext (X11.out)) (by omega) (by have := BND.out; omega)).mono ?_
  rintro e w23 ⟨rfl, om, km⟩
  have K12 := Lib.hid km
  have OM := Lib.hid om
  clear om km ac_S ac_G
  replace OS := Lib.hid (OwS.kept (OS.out.ext (X11.out)) K12.out DS_G.out)
  replace Oxl := Lib.hid (OwS.kept (Oxl.out.ext (X11.out)) K12.out Dxl_G.out)
  have Z13 : Hid (Ext w w23) := Lib.hid (Kept.ext (Z11.out.trans X11.out) K12.out GZG.out)
  replace Q_S : Hid (Blk w23 BS 68 #[.slice AS (bookCut l num fr).nodes.length cS, .int .i64 (bookCut l num fr).code]) := Lib.hid ((K12.out.block _ (Blk.lt (Q_S.out.ext (X11.out))) NS_G.out).trans (Q_S.out.ext (X11.out)))
  replace Q_G : Hid (Blk w23 BG 68 #[.slice AG (bookCut l num fr).nodes.length cG, .int .i64 (bookCut l num fr).code]) := Lib.hid ((K12.out.block _ (Blk.lt (Q_G.out.ext (X11.out))) NG_G.out).trans (Q_G.out.ext (X11.out)))
  replace OG := OM
  clear OM
  have ac_S := (Q_S.out.ext (Ext.refl _)).cell
  have ac_G := (Q_G.out.ext (Ext.refl _)).cell
  go_wp2_with fail
  refine (heldNodesOut_any (S := fun b => b ∈ FG) (bookCut l num fr) _ 1 _ (OwS.rd (OG.out)) (by omega) (by have := BND.out; omega)).mono ?_
  rintro e w24 ⟨rfl, hx⟩
  have X13 := Lib.hid hx
  clear hx ac_S ac_G
  have ac_S := (Q_S.out.ext (X13.out)).cell
  have ac_G := (Q_G.out.ext (X13.out)).cell
  go_wp2_with fail
  refine (toNodeS_any (S := S) l _ _ (R_l.out.ext (Z13.out.trans X13.out)) M_l.out).mono ?_
  rintro e w25 ⟨u3, rfl, r3, hx⟩
  have X14 := Lib.hid hx
  clear hx ac_S ac_G
  obtain ⟨A3, c3, rfl, -⟩ := Rd.form r3
  have R3 := Lib.hid r3
  clear r3
  have ac_S := (Q_S.out.ext (X13.out.trans X14.out)).cell
  have ac_G := (Q_G.out.ext (X13.out.trans X14.out)).cell
  go_wp2_with fail
  refine (bookCut_any l num fr _ _ (R3.out.ext (Ext.refl _))).mono ?_
  rintro e w26 ⟨csH, FH, rfl, ⟨uH, rfl, fH, oH⟩, gH, hx⟩
  have GEH := Lib.hid gH
  have OH := Lib.hid oH
  clear gH oH
  obtain ⟨AH, cH, rfl, -⟩ := OH.out.form
  have FTH := Lib.hid fH
  clear fH
  simp only [cellsNodesOut]
  have X15 := Lib.hid hx
  clear hx ac_S ac_G
  have ac_S := (Q_S.out.ext (X13.out.trans (X14.out.trans X15.out))).cell
  have ac_G := (Q_G.out.ext (X13.out.trans (X14.out.trans X15.out))).cell
  have aa_S := fun ob : Obj => (Q_S.out.ext (Ext.alloc (X13.out.trans (X14.out.trans X15.out)) ob)).cell
  have aa_G := fun ob : Obj => (Q_G.out.ext (Ext.alloc (X13.out.trans (X14.out.trans X15.out)) ob)).cell
  go_wp2_with fail
  obtain ⟨WBH, BH, hW, hB, hxb, hbx⟩ : ∃ W B, W = w26.alloc (.cells #[.slice AH (bookCut l num fr).nodes.length cH, .int .i64 (bookCut l num fr).code] 68) ∧ B = w26.heap.size ∧ Ext w26 W ∧ Blk W B 68 #[.slice AH (bookCut l num fr).nodes.length cH, .int .i64 (bookCut l num fr).code] := ⟨_, _, rfl, rfl, (Ext.refl _).alloc _, Blk.new _ _ _⟩
  rw [← hW, ← hB]
  have HB_H : Hid (w26.heap.size ≤ BH) := Lib.hid (by omega)
  have Q_H := Lib.hid hbx
  have X16 := Lib.hid hxb
  clear hW hB hxb hbx
  refine (eqNodesOut_any (bookCut l num fr) (bookCut l num fr) _ _ _ (rel_NodesOut FTH.out (OwS.rd ((OH.out.ext (X16.out))))) (rel_NodesOut FTS.out (OwS.rd ((OS.out.ext (X13.out.trans (X14.out.trans (X15.out.trans X16.out)))))))).mono ?_
  rintro e w28 ⟨rfl, hx⟩
  have X17 := Lib.hid hx
  clear hx ac_S ac_G aa_S aa_G
  have ac_S := (Q_S.out.ext (X13.out.trans (X14.out.trans (X15.out.trans (X16.out.trans X17.out))))).cell
  have ac_G := (Q_G.out.ext (X13.out.trans (X14.out.trans (X15.out.trans (X16.out.trans X17.out))))).cell
  have ac_H := (Q_H.out.ext (X17.out)).cell
  go_wp2_with fail
  refine (heldNodesOut_any (S := fun b => b ∈ FG) (bookCut l num fr) _ 1 _ (OwS.rd ((OG.out.ext (X13.out.trans (X14.out.trans (X15.out.trans (X16.out.trans X17.out))))))) (by omega) (by have := BND.out; omega)).mono ?_
  rintro e w29 ⟨rfl, hx⟩
  have X18 := Lib.hid hx
  clear hx ac_S ac_G ac_H
  have ac_S := (Q_S.out.ext (X13.out.trans (X14.out.trans (X15.out.trans (X16.out.trans (X17.out.trans X18.out)))))).cell
  have ac_G := (Q_G.out.ext (X13.out.trans (X14.out.trans (X15.out.trans (X16.out.trans (X17.out.trans X18.out)))))).cell
  have ac_H := (Q_H.out.ext (X17.out.trans X18.out)).cell
  go_wp2_with fail
  go_ret
  exact ⟨rfl, (Z13.out.trans (X13.out.trans (X14.out.trans (X15.out.trans (X16.out.trans (X17.out.trans X18.out))))))⟩

set_option maxRecDepth 100000 in
theorem fnExactBookCut_lifted (os : Os) (started : os.Started) (H : Type) (enc : TypeId × Value → H) :
    ReturnsInHanded {} Try.checked os 12 .any (Rows.fnExactBookCutSpec.pre6 enc Try.prog Try.f12 Rows.fnExactBookCutRow.domain false) (Rows.fnExactBookCutSpec.post enc Try.prog Try.f12 false true false false) := by
  refine returnsInHanded_of_change (C := Try.checked) (show ownKnob Try.prog.godebug = none by kernel_rfl) started (by kernel_rfl) Try.func12
    (ChangeSpec.witness6 (enc := enc) (C := Try.checked) false ⟨#[], #[.slice none 0 0, .int .i64 0, .int .i64 0], []⟩ 8 (by kernel_rfl) (by kernel_rfl) (by kernel_rfl) (by kernel_rfl)) ?_
  intro W base args ds gs before hval0 hW hcnd _
  have hval : ∀ (j : Nat) t v, Try.f12.params[j]? = some t → args[j]? = some v → Value.okWide Try.prog W .any base t v := hval0
  have hW' := hW
  obtain ⟨p, q, hA0, hV, rfl, hfz, hnd⟩ := hW
  have hA : DataW.TrodAll enc Try.prog W 0 (fun _ => true) true Try.f12.params.toList args.toList ds p := hA0
  rw [Try.params12] at hA hval
  obtain ⟨v0, v1, v2, d0, d1, d2, p0, p1, p2, rfl, rfl, rfl, h0, h1, h2⟩ := trodAll_three hA
  obtain ⟨rfl, rfl⟩ := trodVars_none hV
  obtain ⟨fu0, hf0⟩ := h0
  obtain ⟨l1, u0, e0, rl1⟩ := opens_NodeS hf0
  obtain ⟨a0, len0, cap0, rfl⟩ := okWide_slice Try.underlying27 (hval 0 27 v0 rfl rfl)
  obtain rfl : u0 = _ := by simpa [Value.cells] using e0.symm
  clear hf0 e0
  obtain ⟨num1, rfl, rfl, rfl, wnum1⟩ := open_int Try.underlying2 (hval 1 2 v1 rfl rfl) h1
  have inum1 := i64_of_wf wnum1
  obtain ⟨fr1, rfl, rfl, rfl, wfr1⟩ := open_int Try.underlying2 (hval 2 2 v2 rfl rfl) h2
  have ifr1 := i64_of_wf wfr1
  clear hA0 hval0 hval hcnd
  refine (fnExactBookCut_walk l1 _ num1 fr1 W rl1 inum1 ifr1).mono fun e W2 ⟨he, hx⟩ => ?_
  subst he
  exact ⟨_, rfl, law_post (by kernel_rfl) (by kernel_rfl) Try.underlying4 (by intro t ht; rw [Try.params12] at ht; simp only [List.mem_cons, List.not_mem_nil, or_false] at ht; rcases ht with rfl | rfl | rfl <;> exact ⟨by kernel_rfl, of_decide_eq_true (by kernel_rfl)⟩) rfl rfl hW' hx⟩

theorem fnExactBookCut_holds : Rows.FnExactBookCutSaid :=
  OpenClaim.holds_of_wide 12 Try.f12 rfl rfl rfl rfl rfl rfl rfl ⟨rfl, rfl, rfl, rfl, rfl⟩ rfl rfl rfl rfl rfl (by kernel_rfl) Try.func12 fnExactBookCut_closed
    (of_decide_eq_true (by kernel_rfl)) (by unfold Func.isWrapper; rw [if_neg (of_decide_eq_false (by kernel_rfl))]; exact ⟨rfl, rfl⟩)
    (fun os started H enc _ => fnExactBookCut_lifted os started H enc)
end Go.Proofs.Ytalnbddpkkkpeaa

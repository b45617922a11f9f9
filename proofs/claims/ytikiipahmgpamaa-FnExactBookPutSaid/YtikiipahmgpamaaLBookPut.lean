/- The law FnExactBookPut: the program's BookPut and the reference's are equal; its row. Printed by wip/law.py. -/
import Derived.Test.YtikiipahmgpamaaKBookPut
import Derived.Test.YtikiipahmgpamaaBookPutB
import Derived.Test.YtikiipahmgpamaaGMarkS
import Derived.Test.YtikiipahmgpamaaGTo
import Derived.Test.YtikiipahmgpamaaGToO
import Derived.Test.YtikiipahmgpamaaGMark
import Derived.Test.YtikiipahmgpamaaGHeld
import Derived.Test.YtikiipahmgpamaaBox4
import Derived.Test.YtikiipahmgpamaaGEq
import Derived.Test.YtikiipahmgpamaaGSz
import Derived.Test.YtikiipahmgpamaaGOpen
import Derived.Deep.RegionHeld3
import Derived.ChangeMaps5
namespace Go.Proofs.Ytikiipahmgpamaa
open Go.ChangeShapes Go.WideShapes Go.ChangeAt Go.RowKit Go.ChangeMaps
attribute [local irreducible] wpQuiet

set_option maxHeartbeats 64000000 in
set_option maxRecDepth 100000 in
theorem fnExactBookPut_walk {S : Nat → Prop} (l : List Node) (vl : Value) (num : Int) (x : Span) (csx : List Value) (now : Int) (w : World) (hl : Rd ENode S w vl l) (inum : I64 num) (hx : ESpan.rel S w csx x) (inow : I64 now) :
    Calls Try.prog 3 #[vl, .int .i64 num, .agg csx.toArray, .int .i64 now] w fun e w' => e = .returned (.bool true) ∧ Ext w w' := by
  have h0 : (0 : Int) ≤ 1048576 := by decide
  have R_l := Lib.hid hl
  obtain ⟨A_l, c_l, rfl, l1_l, l2_l⟩ := hl.form
  unfold maxLen at l2_l
  clear hl
  have I_num := Lib.hid inum
  clear inum
  obtain ⟨rfl, hf_x⟩ := hx
  have F_x := Lib.hid hf_x
  clear hf_x
  simp only [cellsSpan]
  have I_now := Lib.hid inow
  clear inow
  go_enter Try.func3, Try.ntmps3
  go_upto_region 1 with (fail)
  obtain ⟨W0, B, hW, hB, hx0, hbox⟩ := box_new w #[.int .i64 x.from_, .int .i64 x.to_] 24
  rw [← hW, ← hB]
  have Q_x : Hid (Blk W0 B 24 #[.int .i64 x.from_, .int .i64 x.to_]) := Lib.hid (by rw [hW, hB]; exact Blk.new w _ _)
  clear hW hB hbox
  have X0 := Lib.hid hx0
  clear hx0
  have ac_x := (Q_x.out.ext (Ext.refl _)).cell
  by_cases hs_l : szNodeS l 1048576 < 0
  · go_wp2_with fail
    refine (szNodeS_any l _ 1048576 _ (R_l.out.ext (X0.out)) h0 (Int.le_refl _)).mono ?_
    rintro e w12 ⟨rfl, hx⟩
    have X1 := Lib.hid hx
    clear hx ac_x
    go_wp2_with fail
    go_ret
    exact ⟨rfl, (X0.out.trans X1.out)⟩
  have hp_l : 0 ≤ szNodeS l 1048576 := by omega
  have M_l := Lib.hid (small_szNodeS h0 (Int.le_refl _) hp_l)
  have hq_l : szNodeS l 1048576 ≤ 1048576 := by have := pays_szNodeS l 1048576 h0; have := h0; omega
  clear hs_l
  go_wp2_with fail
  refine (szNodeS_any l _ 1048576 _ (R_l.out.ext (X0.out)) h0 (Int.le_refl _)).mono ?_
  rintro e w12 ⟨rfl, hx⟩
  have X1 := Lib.hid hx
  clear hx ac_x
  generalize szNodeS l 1048576 = q_l at *
  have HP_l := Lib.hid hp_l
  have HQ_l := Lib.hid hq_l
  clear hq_l
  have M_x : Hid (SmSpan x) := Lib.hid trivial
  have ac_x := (Q_x.out.ext (X1.out)).cell
  go_wp2_with fail
  clear ac_x
  have al_x : ∀ V, Ext w12 V → ∀ i, V.cell? ⟨B, i, none⟩ = _ := fun V hx => (Q_x.out.ext (X1.out.trans hx)).cell
  go_upto_region 5 with (fail)
  go_cut [10] (fun p wx => ∃ (B : Nat) (cs : List Value) (F : List Nat), p = .pointer (some ⟨B, 0, none⟩) ∧ (∀ b ∈ F, w12.heap.size ≤ b) ∧ Blk wx B 28 cs.toArray ∧ ONodesOut.own wx cs (bookPut l num x now) F ∧ B ∉ F ∧ w12.heap.size ≤ B ∧ Ext w12 wx)
  case first =>
    have al_x : ∀ V, Ext w12 V → ∀ i, V.cell? ⟨B, i, none⟩ = _ := fun V hx => (Q_x.out.ext (X1.out.trans hx)).cell
    go_region_held3 (fun w' => Ext w12 w') (first | with_reducible exact XTS.out | with_reducible exact Ext.alloc XTS.out _ | with_reducible exact setCells_ext BH.out _ _ _ XTS.out | with_reducible exact setCells_ext (Ext.size XTS.out) _ _ _ (Ext.alloc XTS.out _) | exact (by repeat (first | with_reducible assumption | with_reducible exact Ext.refl _ | with_reducible refine Ext.alloc ?_ _ | with_reducible refine Ext.drew ?_ | with_reducible refine Ext.trans ?_ hx1 | with_reducible refine Ext.trans ?_ hx2 | with_reducible refine Ext.trans ?_ hx3))) (first | (go_at_call 11; (with_reducible refine (toNodeS_any (S := S) l _ _ (R_l.out.ext (X0.out.trans (X1.out.trans (by assumption)))) M_l.out).mono ?_); rintro e w13_1 ⟨u1, rfl, r1, hx1⟩; obtain ⟨A1, c1, rfl, -⟩ := Rd.form r1; have R1 := Lib.hid r1; clear r1; (first | ((first | (with_reducible have bxx := box_new3 (bw := w12) hx1 (by repeat (first | with_reducible assumption | with_reducible exact Ext.refl _ | with_reducible refine Ext.alloc ?_ _ | with_reducible refine Ext.drew ?_))) | (with_reducible have bxx := box_new4 (bw := w12) hx1 (by repeat (first | with_reducible assumption | with_reducible exact Ext.refl _ | with_reducible refine Ext.alloc ?_ _ | with_reducible refine Ext.drew ?_)))); (try simp only [drew_size] at bxx); obtain ⟨bx, bh, bl⟩ := bxx; have BX := Lib.hid bx; have BH := Lib.hid bh; clear bx bh bl) | ((with_reducible have bx := Blk.ext BX.out hx1); have BX := Lib.hid bx; clear bx) | skip)) | (go_at_call 12; (with_reducible refine (toSpan_any (S := S) x _ _ (rel_Span F_x.out) M_x.out).mono ?_); rintro e w13_2 ⟨_, rfl, ⟨rfl, f2⟩, hx2⟩; clear f2; simp only [cellsSpan]; (first | ((first | (with_reducible have bxx := box_new3 (bw := w12) hx2 (by repeat (first | with_reducible assumption | with_reducible exact Ext.refl _ | with_reducible refine Ext.alloc ?_ _ | with_reducible refine Ext.drew ?_ | with_reducible refine Ext.trans ?_ hx1))) | (with_reducible have bxx := box_new4 (bw := w12) hx2 (by repeat (first | with_reducible assumption | with_reducible exact Ext.refl _ | with_reducible refine Ext.alloc ?_ _ | with_reducible refine Ext.drew ?_ | with_reducible refine Ext.trans ?_ hx1)))); (try simp only [drew_size] at bxx); obtain ⟨bx, bh, bl⟩ := bxx; have BX := Lib.hid bx; have BH := Lib.hid bh; clear bx bh bl) | ((with_reducible have bx := Blk.ext BX.out hx2); have BX := Lib.hid bx; clear bx) | skip)) | (go_at_call 10; (with_reducible refine (specBookPut_any l num x now _ _ (by first | exact R1.out | exact R1.out.ext (by repeat (first | with_reducible assumption | with_reducible exact Ext.refl _ | with_reducible refine Ext.alloc ?_ _ | with_reducible refine Ext.drew ?_ | with_reducible refine Ext.trans ?_ hx1 | with_reducible refine Ext.trans ?_ hx2))) F_x.out).mono ?_); rintro e w13 ⟨csS, FS, rfl, oS, gS, hx3⟩; have LS := ENodesOut.len (ONodesOut.rel oS); have O1 := ENodesOut.one (ONodesOut.rel oS); simp only [ENodesOut] at LS; have OS := Lib.hid oS; have XTS : Hid (Ext w12 w13) := Lib.hid (Ext.trans (by assumption) hx3); have GXS : Hid (∀ b ∈ FS, w12.heap.size ≤ b) := Lib.hid (fun b hb => Nat.le_trans (Ext.size (by assumption)) (gS b hb)); (first | ((first | (with_reducible have bxx := box_new3 (bw := w12) hx3 (by repeat (first | with_reducible assumption | with_reducible exact Ext.refl _ | with_reducible refine Ext.alloc ?_ _ | with_reducible refine Ext.drew ?_ | with_reducible refine Ext.trans ?_ hx1 | with_reducible refine Ext.trans ?_ hx2))) | (with_reducible have bxx := box_new4 (bw := w12) hx3 (by repeat (first | with_reducible assumption | with_reducible exact Ext.refl _ | with_reducible refine Ext.alloc ?_ _ | with_reducible refine Ext.drew ?_ | with_reducible refine Ext.trans ?_ hx1 | with_reducible refine Ext.trans ?_ hx2)))); (try simp only [drew_size] at bxx); obtain ⟨bx, bh, bl⟩ := bxx; have NB := Lib.hid (fun b hb => Nat.lt_of_lt_of_le bl (gS b hb)); have BX := Lib.hid bx; have BH := Lib.hid bh; clear bx bh bl; have hst := store_shut (P := Try.prog) (n := 2) LS O1 _ _ (BX.out.there)) | (have NB := Lib.hid (fun b hb => Nat.lt_of_lt_of_le BX.out.lt (gS b hb)); (with_reducible have bx := Blk.ext BX.out hx3); have BX := Lib.hid bx; clear bx; have hst := store_shut (P := Try.prog) (n := 2) LS O1 _ _ (BX.out.there)) | (have hst := fun (C : Array Value) (T : TypeId) (h : C.size = 2) => store_shut (P := Try.prog) LS O1 _ _ (there_alloc (V := w13) (T := T) h))); clear gS O1 oS))
    all_goals clear al_x
    all_goals (go_wp2_with fail; go_meet; first
      | exact ⟨_, csS, FS, rfl, GXS.out, box_pre BX.out (by rw [LS]; rfl) OS.out BH.out NB.out XTS.out⟩
      | exact ⟨_, csS, FS, rfl, GXS.out, box_post (by rw [LS]; rfl) OS.out XTS.out⟩)
  case rest =>
    generalize wc = WBS at hcut ⊢
    obtain ⟨BS, csS, FS, rfl, hg, hbx, ⟨uS, rfl, hft, ho⟩, hnb, hb, hx⟩ := hcut
    obtain ⟨AS, cS, rfl, -⟩ := OwS.form ho
    have Q_S : Hid (Blk WBS BS 28 #[.slice AS (bookPut l num x now).nodes.length cS, .int .i64 (bookPut l num x now).code]) := Lib.hid hbx
    have OS := Lib.hid ho
    have FTS := Lib.hid hft
    have GES := Lib.hid hg
    have HB_S := Lib.hid hb
    have NBS := Lib.hid hnb
    have X2 := Lib.hid hx
    clear hbx ho hft hg hb hnb hx
    have ac_x := (Q_x.out.ext (X1.out.trans X2.out)).cell
    have ac_S := (Q_S.out.ext (Ext.refl _)).cell
    go_wp2_with fail
    refine (toNodeS_own (S := S) l _ _ (R_l.out.ext (X0.out.trans (X1.out.trans X2.out))) M_l.out).mono ?_
    rintro e w14 ⟨vxl, Fxl, rfl, oxl, gxl, hx⟩
    have X3 := Lib.hid hx
    clear hx ac_x ac_S
    have GExl := Lib.hid gxl
    have Oxl := Lib.hid oxl
    clear gxl oxl
    obtain ⟨Axl, cxl, rfl, -⟩ := Oxl.out.form
    have ac_x := (Q_x.out.ext (X1.out.trans (X2.out.trans X3.out))).cell
    have ac_S := (Q_S.out.ext (X3.out)).cell
    go_wp2_with fail
    refine (toSpan_any (S := S) x _ _ (rel_Span F_x.out) M_x.out).mono ?_
    rintro e w15 ⟨_, rfl, ⟨rfl, f4⟩, hx⟩
    have X4 := Lib.hid hx
    clear hx ac_x ac_S
    clear f4
    simp only [cellsSpan]
    have ac_x := (Q_x.out.ext (X1.out.trans (X2.out.trans (X3.out.trans X4.out)))).cell
    have ac_S := (Q_S.out.ext (X3.out.trans X4.out)).cell
    go_wp2_with fail
    refine (bookPut_any l num x now _ _ (OwS.rd ((Oxl.out.ext (X4.out)))) F_x.out).mono ?_
    rintro e w16 ⟨csG, FG, rfl, ⟨uG, rfl, fG, oG⟩, gG, hx⟩
    have GEG := Lib.hid gG
    have OG := Lib.hid oG
    clear gG oG
    obtain ⟨AG, cG, rfl, -⟩ := OG.out.form
    have FTG := Lib.hid fG
    clear fG
    simp only [cellsNodesOut]
    have X5 := Lib.hid hx
    clear hx ac_x ac_S
    have ac_x := (Q_x.out.ext (X1.out.trans (X2.out.trans (X3.out.trans (X4.out.trans X5.out))))).cell
    have ac_S := (Q_S.out.ext (X3.out.trans (X4.out.trans X5.out))).cell
    have aa_x := fun ob : Obj => (Q_x.out.ext (Ext.alloc (X1.out.trans (X2.out.trans (X3.out.trans (X4.out.trans X5.out)))) ob)).cell
    have aa_S := fun ob : Obj => (Q_S.out.ext (Ext.alloc (X3.out.trans (X4.out.trans X5.out)) ob)).cell
    go_wp2_with fail
    obtain ⟨WBG, BG, hW, hB, hxb, hbx⟩ : ∃ W B, W = w16.alloc (.cells #[.slice AG (bookPut l num x now).nodes.length cG, .int .i64 (bookPut l num x now).code] 28) ∧ B = w16.heap.size ∧ Ext w16 W ∧ Blk W B 28 #[.slice AG (bookPut l num x now).nodes.length cG, .int .i64 (bookPut l num x now).code] := ⟨_, _, rfl, rfl, (Ext.refl _).alloc _, Blk.new _ _ _⟩
    rw [← hW, ← hB]
    have HB_G : Hid (w16.heap.size ≤ BG) := Lib.hid (by omega)
    have Q_G := Lib.hid hbx
    have X6 := Lib.hid hxb
    clear hW hB hxb hbx
    refine (eqNodesOut_any (bookPut l num x now) (bookPut l num x now) _ _ _ (rel_NodesOut FTG.out (OwS.rd ((OG.out.ext (X6.out))))) (rel_NodesOut FTS.out (OwS.rd ((OS.out.ext (X3.out.trans (X4.out.trans (X5.out.trans X6.out)))))))).mono ?_
    rintro e w18 ⟨rfl, hx⟩
    have X7 := Lib.hid hx
    clear hx ac_x ac_S aa_x aa_S
    have ac_x := (Q_x.out.ext (X1.out.trans (X2.out.trans (X3.out.trans (X4.out.trans (X5.out.trans (X6.out.trans X7.out))))))).cell
    have ac_S := (Q_S.out.ext (X3.out.trans (X4.out.trans (X5.out.trans (X6.out.trans X7.out))))).cell
    have ac_G := (Q_G.out.ext (X7.out)).cell
    go_wp2_with fail
    refine (toNodeS_any (S := S) l _ _ (R_l.out.ext (X0.out.trans (X1.out.trans (X2.out.trans (X3.out.trans (X4.out.trans (X5.out.trans (X6.out.trans X7.out)))))))) M_l.out).mono ?_
    rintro e w19 ⟨u5, rfl, r5, hx⟩
    have X8 := Lib.hid hx
    clear hx ac_x ac_S ac_G
    obtain ⟨A5, c5, rfl, -⟩ := Rd.form r5
    have R5 := Lib.hid r5
    clear r5
    have ac_x := (Q_x.out.ext (X1.out.trans (X2.out.trans (X3.out.trans (X4.out.trans (X5.out.trans (X6.out.trans (X7.out.trans X8.out)))))))).cell
    have ac_S := (Q_S.out.ext (X3.out.trans (X4.out.trans (X5.out.trans (X6.out.trans (X7.out.trans X8.out)))))).cell
    have ac_G := (Q_G.out.ext (X7.out.trans X8.out)).cell
    go_wp2_with fail
    refine (eqNodeS_any l l _ _ _ (OwS.rd ((Oxl.out.ext (X4.out.trans (X5.out.trans (X6.out.trans (X7.out.trans X8.out))))))) (R5.out.ext (Ext.refl _))).mono ?_
    rintro e w20 ⟨rfl, hx⟩
    have X9 := Lib.hid hx
    clear hx ac_x ac_S ac_G
    have LS := Lib.hid OS.out.lt
    have Lxl := Lib.hid Oxl.out.lt
    have LG := Lib.hid OG.out.lt
    have DS_xl : Hid (∀ b ∈ FS, b ∉ Fxl) := Lib.hid (fun b h1 h2 => absurd (Nat.lt_of_lt_of_le (LS.out b h1) (Ext.size (Ext.refl _))) (Nat.not_lt.2 (GExl.out b h2)))
    have DS_G : Hid (∀ b ∈ FS, b ∉ FG) := Lib.hid (fun b h1 h2 => absurd (Nat.lt_of_lt_of_le (LS.out b h1) (Ext.size (X3.out.trans X4.out))) (Nat.not_lt.2 (GEG.out b h2)))
    have Dxl_S : Hid (∀ b ∈ Fxl, b ∉ FS) := Lib.hid (fun b h1 h2 => absurd (Nat.lt_of_lt_of_le (LS.out b h2) (Ext.size (Ext.refl _))) (Nat.not_lt.2 (GExl.out b h1)))
    have Dxl_G : Hid (∀ b ∈ Fxl, b ∉ FG) := Lib.hid (fun b h1 h2 => absurd (Nat.lt_of_lt_of_le (Lxl.out b h1) (Ext.size X4.out)) (Nat.not_lt.2 (GEG.out b h2)))
    have DG_S : Hid (∀ b ∈ FG, b ∉ FS) := Lib.hid (fun b h1 h2 => absurd (Nat.lt_of_lt_of_le (LS.out b h2) (Ext.size (X3.out.trans X4.out))) (Nat.not_lt.2 (GEG.out b h1)))
    have DG_xl : Hid (∀ b ∈ FG, b ∉ Fxl) := Lib.hid (fun b h1 h2 => absurd (Nat.lt_of_lt_of_le (Lxl.out b h2) (Ext.size X4.out)) (Nat.not_lt.2 (GEG.out b h1)))
    have GZS : Hid (∀ b ∈ FS, w.heap.size ≤ b) := Lib.hid (fun b hb => Nat.le_trans (Ext.size (X0.out.trans X1.out)) (GES.out b hb))
    have GZxl : Hid (∀ b ∈ Fxl, w.heap.size ≤ b) := Lib.hid (fun b hb => Nat.le_trans (Ext.size (X0.out.trans (X1.out.trans X2.out))) (GExl.out b hb))
    have GZG : Hid (∀ b ∈ FG, w.heap.size ≤ b) := Lib.hid (fun b hb => Nat.le_trans (Ext.size (X0.out.trans (X1.out.trans (X2.out.trans (X3.out.trans X4.out))))) (GEG.out b hb))
    have Nx_S : Hid (B ∉ FS) := Lib.hid (fun hb => absurd (Nat.lt_of_lt_of_le Q_x.out.lt (Ext.size X1.out)) (Nat.not_lt.2 (GES.out _ hb)))
    have Nx_xl : Hid (B ∉ Fxl) := Lib.hid (fun hb => absurd (Nat.lt_of_lt_of_le Q_x.out.lt (Ext.size (X1.out.trans X2.out))) (Nat.not_lt.2 (GExl.out _ hb)))
    have Nx_G : Hid (B ∉ FG) := Lib.hid (fun hb => absurd (Nat.lt_of_lt_of_le Q_x.out.lt (Ext.size (X1.out.trans (X2.out.trans (X3.out.trans X4.out))))) (Nat.not_lt.2 (GEG.out _ hb)))
    have NS_S : Hid (BS ∉ FS) := NBS
    have NS_xl : Hid (BS ∉ Fxl) := Lib.hid (fun hb => absurd (Nat.lt_of_lt_of_le Q_S.out.lt (Ext.size (Ext.refl _))) (Nat.not_lt.2 (GExl.out _ hb)))
    have NS_G : Hid (BS ∉ FG) := Lib.hid (fun hb => absurd (Nat.lt_of_lt_of_le Q_S.out.lt (Ext.size (X3.out.trans X4.out))) (Nat.not_lt.2 (GEG.out _ hb)))
    have NG_S : Hid (BG ∉ FS) := Lib.hid (fun hb => absurd (Nat.lt_of_lt_of_le (LS.out _ hb) (Ext.size (X3.out.trans (X4.out.trans X5.out)))) (Nat.not_lt.2 HB_G.out))
    have NG_xl : Hid (BG ∉ Fxl) := Lib.hid (fun hb => absurd (Nat.lt_of_lt_of_le (Lxl.out _ hb) (Ext.size (X4.out.trans X5.out))) (Nat.not_lt.2 HB_G.out))
    have NG_G : Hid (BG ∉ FG) := Lib.hid (fun hb => absurd (Nat.lt_of_lt_of_le (LG.out _ hb) (Ext.size (Ext.refl _))) (Nat.not_lt.2 HB_G.out))
    have BND : Hid (1 + ((cntL cntNode l : Nat) : Int) ≤ 1125899906842624 ∧ 1 + ((cntL cntNode (bookPut l num x now).nodes : Nat) : Int) ≤ 1125899906842624) := Lib.hid (bookPut_bound M_l.out)
    have hc_l := Int.natCast_nonneg (cntL cntNode l)
    have hc_R := Int.natCast_nonneg (cntL cntNode ((bookPut l num x now).nodes))
    have ac_x := (Q_x.out.ext (X1.out.trans (X2.out.trans (X3.out.trans (X4.out.trans (X5.out.trans (X6.out.trans (X7.out.trans (X8.out.trans X9.out))))))))).cell
    have ac_S := (Q_S.out.ext (X3.out.trans (X4.out.trans (X5.out.trans (X6.out.trans (X7.out.trans (X8.out.trans X9.out))))))).cell
    have ac_G := (Q_G.out.ext (X7.out.trans (X8.out.trans X9.out))).cell
    go_wp2_with fail
    refine (markNodeS_any _ _ Fxl _ _ (Oxl.out.ext (X4.out.trans (X5.out.trans (X6.out.trans (X7.out.trans (X8.out.trans X9.out)))))) (by omega) (by have := BND.out; omega)).mono ?_
    rintro e w21 ⟨rfl, om, km⟩
    have K10 := Lib.hid km
    have OM := Lib.hid om
    clear om km ac_x ac_S ac_G
    replace OS := Lib.hid (OwS.kept (OS.out.ext (X3.out.trans (X4.out.trans (X5.out.trans (X6.out.trans (X7.out.trans (X8.out.trans X9.out))))))) K10.out DS_xl.out)
    replace OG := Lib.hid (OwS.kept (OG.out.ext (X6.out.trans (X7.out.trans (X8.out.trans X9.out)))) K10.out DG_xl.out)
    have Z11 : Hid (Ext w w21) := Lib.hid (Kept.ext (X0.out.trans (X1.out.trans (X2.out.trans (X3.out.trans (X4.out.trans (X5.out.trans (X6.out.trans (X7.out.trans (X8.out.trans X9.out))))))))) K10.out GZxl.out)
    replace Q_x : Hid (Blk w21 B 24 #[.int .i64 x.from_, .int .i64 x.to_]) := Lib.hid ((K10.out.block _ (Blk.lt (Q_x.out.ext (X1.out.trans (X2.out.trans (X3.out.trans (X4.out.trans (X5.out.trans (X6.out.trans (X7.out.trans (X8.out.trans X9.out)))))))))) Nx_xl.out).trans (Q_x.out.ext (X1.out.trans (X2.out.trans (X3.out.trans (X4.out.trans (X5.out.trans (X6.out.trans (X7.out.trans (X8.out.trans X9.out))))))))))
    replace Q_S : Hid (Blk w21 BS 28 #[.slice AS (bookPut l num x now).nodes.length cS, .int .i64 (bookPut l num x now).code]) := Lib.hid ((K10.out.block _ (Blk.lt (Q_S.out.ext (X3.out.trans (X4.out.trans (X5.out.trans (X6.out.trans (X7.out.trans (X8.out.trans X9.out)))))))) NS_xl.out).trans (Q_S.out.ext (X3.out.trans (X4.out.trans (X5.out.trans (X6.out.trans (X7.out.trans (X8.out.trans X9.out))))))))
    replace Q_G : Hid (Blk w21 BG 28 #[.slice AG (bookPut l num x now).nodes.length cG, .int .i64 (bookPut l num x now).code]) := Lib.hid ((K10.out.block _ (Blk.lt (Q_G.out.ext (X7.out.trans (X8.out.trans X9.out)))) NG_xl.out).trans (Q_G.out.ext (X7.out.trans (X8.out.trans X9.out))))
    replace Oxl := OM
    clear OM
    have ac_x := (Q_x.out.ext (Ext.refl _)).cell
    have ac_S := (Q_S.out.ext (Ext.refl _)).cell
    have ac_G := (Q_G.out.ext (Ext.refl _)).cell
    go_wp2_with fail
    refine (eqNodesOut_any (bookPut l num x now) (bookPut l num x now) _ _ _ (rel_NodesOut FTG.out (OwS.rd (OG.out))) (rel_NodesOut FTS.out (OwS.rd (OS.out)))).mono ?_
    rintro e w22 ⟨rfl, hx⟩
    have X11 := Lib.hid hx
    clear hx ac_x ac_S ac_G
    have ac_x := (Q_x.out.ext (X11.out)).cell
    have ac_S := (Q_S.out.ext (X11.out)).cell
    have ac_G := (Q_G.out.ext (X11.out)).cell
    go_wp2_with fail
    refine (markNodesOut_any (bookPut l num x now) _ FG _ _ (OG.out.ext (X11.out)) (by omega) (by have := BND.out; omega)).mono ?_
    rintro e w23 ⟨rfl, om, km⟩
    have K12 := Lib.hid km
    have OM := Lib.hid om
    clear om km ac_x ac_S ac_G
    replace OS := Lib.hid (OwS.kept (OS.out.ext (X11.out)) K12.out DS_G.out)
    replace Oxl := Lib.hid (OwS.kept (Oxl.out.ext (X11.out)) K12.out Dxl_G.out)
    have Z13 : Hid (Ext w w23) := Lib.hid (Kept.ext (Z11.out.trans X11.out) K12.out GZG.out)
    replace Q_x : Hid (Blk w23 B 24 #[.int .i64 x.from_, .int .i64 x.to_]) := Lib.hid ((K12.out.block _ (Blk.lt (Q_x.out.ext (X11.out))) Nx_G.out).trans (Q_x.out.ext (X11.out)))
    replace Q_S : Hid (Blk w23 BS 28 #[.slice AS (bookPut l num x now).nodes.length cS, .int .i64 (bookPut l num x now).code]) := Lib.hid ((K12.out.block _ (Blk.lt (Q_S.out.ext (X11.out))) NS_G.out).trans (Q_S.out.ext (X11.out)))
    replace Q_G : Hid (Blk w23 BG 28 #[.slice AG (bookPut l num x now).nodes.length cG, .int .i64 (bookPut l num x now).code]) := Lib.hid ((K12.out.block _ (Blk.lt (Q_G.out.ext (X11.out))) NG_G.out).trans (Q_G.out.ext (X11.out)))
    replace OG := OM
    clear OM
    have ac_x := (Q_x.out.ext (Ext.refl _)).cell
    have ac_S := (Q_S.out.ext (Ext.refl _)).cell
    have ac_G := (Q_G.out.ext (Ext.refl _)).cell
    go_wp2_with fail
    refine (heldNodesOut_any (S := fun b => b ∈ FG) (bookPut l num x now) _ 1 _ (OwS.rd (OG.out)) (by omega) (by have := BND.out; omega)).mono ?_
    rintro e w24 ⟨rfl, hx⟩
    have X13 := Lib.hid hx
    clear hx ac_x ac_S ac_G
    have ac_x := (Q_x.out.ext (X13.out)).cell
    have ac_S := (Q_S.out.ext (X13.out)).cell
    have ac_G := (Q_G.out.ext (X13.out)).cell
    go_wp2_with fail
    clear ac_x ac_S ac_G
    have al_x : ∀ V, Ext w24 V → ∀ i, V.cell? ⟨B, i, none⟩ = _ := fun V hx => (Q_x.out.ext (X13.out.trans hx)).cell
    have al_S : ∀ V, Ext w24 V → ∀ i, V.cell? ⟨BS, i, none⟩ = _ := fun V hx => (Q_S.out.ext (X13.out.trans hx)).cell
    have al_G : ∀ V, Ext w24 V → ∀ i, V.cell? ⟨BG, i, none⟩ = _ := fun V hx => (Q_G.out.ext (X13.out.trans hx)).cell
    go_upto_region 24 with (fail)
    go_cut [16] (fun p wx => ∃ (B : Nat) (cs : List Value) (F : List Nat), p = .pointer (some ⟨B, 0, none⟩) ∧ (∀ b ∈ F, w24.heap.size ≤ b) ∧ Blk wx B 28 cs.toArray ∧ ONodesOut.own wx cs (bookPut l num x now) F ∧ B ∉ F ∧ w24.heap.size ≤ B ∧ Ext w24 wx)
    case first =>
      have al_x : ∀ V, Ext w24 V → ∀ i, V.cell? ⟨B, i, none⟩ = _ := fun V hx => (Q_x.out.ext (X13.out.trans hx)).cell
      have al_S : ∀ V, Ext w24 V → ∀ i, V.cell? ⟨BS, i, none⟩ = _ := fun V hx => (Q_S.out.ext (X13.out.trans hx)).cell
      have al_G : ∀ V, Ext w24 V → ∀ i, V.cell? ⟨BG, i, none⟩ = _ := fun V hx => (Q_G.out.ext (X13.out.trans hx)).cell
      go_region_held3 (fun w' => Ext w24 w') (first | with_reducible exact XTH.out | with_reducible exact Ext.alloc XTH.out _ | with_reducible exact setCells_ext BH.out _ _ _ XTH.out | with_reducible exact setCells_ext (Ext.size XTH.out) _ _ _ (Ext.alloc XTH.out _) | exact (by repeat (first | with_reducible assumption | with_reducible exact Ext.refl _ | with_reducible refine Ext.alloc ?_ _ | with_reducible refine Ext.drew ?_ | with_reducible refine Ext.trans ?_ hx6 | with_reducible refine Ext.trans ?_ hx7 | with_reducible refine Ext.trans ?_ hx8))) (first | (go_at_call 11; (with_reducible refine (toNodeS_any (S := S) l _ _ (R_l.out.ext (Z13.out.trans (X13.out.trans (by assumption)))) M_l.out).mono ?_); rintro e w25_6 ⟨u6, rfl, r6, hx6⟩; obtain ⟨A6, c6, rfl, -⟩ := Rd.form r6; have R6 := Lib.hid r6; clear r6; (first | ((first | (with_reducible have bxx := box_new3 (bw := w24) hx6 (by repeat (first | with_reducible assumption | with_reducible exact Ext.refl _ | with_reducible refine Ext.alloc ?_ _ | with_reducible refine Ext.drew ?_))) | (with_reducible have bxx := box_new4 (bw := w24) hx6 (by repeat (first | with_reducible assumption | with_reducible exact Ext.refl _ | with_reducible refine Ext.alloc ?_ _ | with_reducible refine Ext.drew ?_)))); (try simp only [drew_size] at bxx); obtain ⟨bx, bh, bl⟩ := bxx; have BX := Lib.hid bx; have BH := Lib.hid bh; clear bx bh bl) | ((with_reducible have bx := Blk.ext BX.out hx6); have BX := Lib.hid bx; clear bx) | skip)) | (go_at_call 12; (with_reducible refine (toSpan_any (S := S) x _ _ (rel_Span F_x.out) M_x.out).mono ?_); rintro e w25_7 ⟨_, rfl, ⟨rfl, f7⟩, hx7⟩; clear f7; simp only [cellsSpan]; (first | ((first | (with_reducible have bxx := box_new3 (bw := w24) hx7 (by repeat (first | with_reducible assumption | with_reducible exact Ext.refl _ | with_reducible refine Ext.alloc ?_ _ | with_reducible refine Ext.drew ?_ | with_reducible refine Ext.trans ?_ hx6))) | (with_reducible have bxx := box_new4 (bw := w24) hx7 (by repeat (first | with_reducible assumption | with_reducible exact Ext.refl _ | with_reducible refine Ext.alloc ?_ _ | with_reducible refine Ext.drew ?_ | with_reducible refine Ext.trans ?_ hx6)))); (try simp only [drew_size] at bxx); obtain ⟨bx, bh, bl⟩ := bxx; have BX := Lib.hid bx; have BH := Lib.hid bh; clear bx bh bl) | ((with_reducible have bx := Blk.ext BX.out hx7); have BX := Lib.hid bx; clear bx) | skip)) | (go_at_call 13; (with_reducible refine (bookPut_any l num x now _ _ (by first | exact R6.out | exact R6.out.ext (by repeat (first | with_reducible assumption | with_reducible exact Ext.refl _ | with_reducible refine Ext.alloc ?_ _ | with_reducible refine Ext.drew ?_ | with_reducible refine Ext.trans ?_ hx6 | with_reducible refine Ext.trans ?_ hx7))) F_x.out).mono ?_); rintro e w25 ⟨csH, FH, rfl, oH, gH, hx8⟩; have LS := ENodesOut.len (ONodesOut.rel oH); have O1 := ENodesOut.one (ONodesOut.rel oH); simp only [ENodesOut] at LS; have OH := Lib.hid oH; have XTH : Hid (Ext w24 w25) := Lib.hid (Ext.trans (by assumption) hx8); have GXH : Hid (∀ b ∈ FH, w24.heap.size ≤ b) := Lib.hid (fun b hb => Nat.le_trans (Ext.size (by assumption)) (gH b hb)); (first | ((first | (with_reducible have bxx := box_new3 (bw := w24) hx8 (by repeat (first | with_reducible assumption | with_reducible exact Ext.refl _ | with_reducible refine Ext.alloc ?_ _ | with_reducible refine Ext.drew ?_ | with_reducible refine Ext.trans ?_ hx6 | with_reducible refine Ext.trans ?_ hx7))) | (with_reducible have bxx := box_new4 (bw := w24) hx8 (by repeat (first | with_reducible assumption | with_reducible exact Ext.refl _ | with_reducible refine Ext.alloc ?_ _ | with_reducible refine Ext.drew ?_ | with_reducible refine Ext.trans ?_ hx6 | with_reducible refine Ext.trans ?_ hx7)))); (try simp only [drew_size] at bxx); obtain ⟨bx, bh, bl⟩ := bxx; have NB := Lib.hid (fun b hb => Nat.lt_of_lt_of_le bl (gH b hb)); have BX := Lib.hid bx; have BH := Lib.hid bh; clear bx bh bl; have hst := store_shut (P := Try.prog) (n := 2) LS O1 _ _ (BX.out.there)) | (have NB := Lib.hid (fun b hb => Nat.lt_of_lt_of_le BX.out.lt (gH b hb)); (with_reducible have bx := Blk.ext BX.out hx8); have BX := Lib.hid bx; clear bx; have hst := store_shut (P := Try.prog) (n := 2) LS O1 _ _ (BX.out.there)) | (have hst := fun (C : Array Value) (T : TypeId) (h : C.size = 2) => store_shut (P := Try.prog) LS O1 _ _ (there_alloc (V := w25) (T := T) h))); clear gH O1 oH))
      all_goals clear al_x al_S al_G
      all_goals (go_wp2_with fail; go_meet; first
        | exact ⟨_, csH, FH, rfl, GXH.out, box_pre BX.out (by rw [LS]; rfl) OH.out BH.out NB.out XTH.out⟩
        | exact ⟨_, csH, FH, rfl, GXH.out, box_post (by rw [LS]; rfl) OH.out XTH.out⟩)
    case rest =>
      generalize wc = WBH at hcut ⊢
      obtain ⟨BH, csH, FH, rfl, hg, hbx, ⟨uH, rfl, hft, ho⟩, hnb, hb, hx⟩ := hcut
      obtain ⟨AH, cH, rfl, -⟩ := OwS.form ho
      have Q_H : Hid (Blk WBH BH 28 #[.slice AH (bookPut l num x now).nodes.length cH, .int .i64 (bookPut l num x now).code]) := Lib.hid hbx
      have OH := Lib.hid ho
      have FTH := Lib.hid hft
      have GEH := Lib.hid hg
      have HB_H := Lib.hid hb
      have NBH := Lib.hid hnb
      have X14 := Lib.hid hx
      clear hbx ho hft hg hb hnb hx
      have ac_x := (Q_x.out.ext (X13.out.trans X14.out)).cell
      have ac_S := (Q_S.out.ext (X13.out.trans X14.out)).cell
      have ac_G := (Q_G.out.ext (X13.out.trans X14.out)).cell
      have ac_H := (Q_H.out.ext (Ext.refl _)).cell
      go_wp2_with fail
      refine (eqNodesOut_any (bookPut l num x now) (bookPut l num x now) _ _ _ (rel_NodesOut FTH.out (OwS.rd (OH.out))) (rel_NodesOut FTS.out (OwS.rd ((OS.out.ext (X13.out.trans X14.out)))))).mono ?_
      rintro e w26 ⟨rfl, hx⟩
      have X15 := Lib.hid hx
      clear hx ac_x ac_S ac_G ac_H
      have ac_x := (Q_x.out.ext (X13.out.trans (X14.out.trans X15.out))).cell
      have ac_S := (Q_S.out.ext (X13.out.trans (X14.out.trans X15.out))).cell
      have ac_G := (Q_G.out.ext (X13.out.trans (X14.out.trans X15.out))).cell
      have ac_H := (Q_H.out.ext (X15.out)).cell
      go_wp2_with fail
      refine (heldNodesOut_any (S := fun b => b ∈ FG) (bookPut l num x now) _ 1 _ (OwS.rd ((OG.out.ext (X13.out.trans (X14.out.trans X15.out))))) (by omega) (by have := BND.out; omega)).mono ?_
      rintro e w27 ⟨rfl, hx⟩
      have X16 := Lib.hid hx
      clear hx ac_x ac_S ac_G ac_H
      have ac_x := (Q_x.out.ext (X13.out.trans (X14.out.trans (X15.out.trans X16.out)))).cell
      have ac_S := (Q_S.out.ext (X13.out.trans (X14.out.trans (X15.out.trans X16.out)))).cell
      have ac_G := (Q_G.out.ext (X13.out.trans (X14.out.trans (X15.out.trans X16.out)))).cell
      have ac_H := (Q_H.out.ext (X15.out.trans X16.out)).cell
      go_wp2_with fail
      go_ret
      exact ⟨rfl, (Z13.out.trans (X13.out.trans (X14.out.trans (X15.out.trans X16.out))))⟩

set_option maxRecDepth 100000 in
theorem fnExactBookPut_lifted (os : Os) (started : os.Started) (H : Type) (enc : TypeId × Value → H) :
    ReturnsInHanded {} Try.checked os 3 .any (Rows.fnExactBookPutSpec.pre6 enc Try.prog Try.f3 Rows.fnExactBookPutRow.domain false) (Rows.fnExactBookPutSpec.post enc Try.prog Try.f3 false true false false) := by
  refine returnsInHanded_of_change (C := Try.checked) (show ownKnob Try.prog.godebug = none by kernel_rfl) started (by kernel_rfl) Try.func3
    (ChangeSpec.witness6 (enc := enc) (C := Try.checked) false ⟨#[], #[.slice none 0 0, .int .i64 0, .agg #[.int .i64 0, .int .i64 0], .int .i64 0], []⟩ 8 (by kernel_rfl) (by kernel_rfl) (by kernel_rfl) (by kernel_rfl)) ?_
  intro W base args ds gs before hval0 hW hcnd _
  have hval : ∀ (j : Nat) t v, Try.f3.params[j]? = some t → args[j]? = some v → Value.okWide Try.prog W .any base t v := hval0
  have hW' := hW
  obtain ⟨p, q, hA0, hV, rfl, hfz, hnd⟩ := hW
  have hA : DataW.TrodAll enc Try.prog W 0 (fun _ => true) true Try.f3.params.toList args.toList ds p := hA0
  rw [Try.params3] at hA hval
  obtain ⟨v0, v1, v2, v3, d0, d1, d2, d3, p0, p1, p2, p3, rfl, rfl, rfl, h0, h1, h2, h3⟩ := trodAll_four hA
  obtain ⟨rfl, rfl⟩ := trodVars_none hV
  obtain ⟨fu0, hf0⟩ := h0
  obtain ⟨l1, u0, e0, rl1⟩ := opens_NodeS hf0
  obtain ⟨a0, len0, cap0, rfl⟩ := okWide_slice Try.underlying22 (hval 0 22 v0 rfl rfl)
  obtain rfl : u0 = _ := by simpa [Value.cells] using e0.symm
  clear hf0 e0
  obtain ⟨num1, rfl, rfl, rfl, wnum1⟩ := open_int Try.underlying2 (hval 1 2 v1 rfl rfl) h1
  have inum1 := i64_of_wf wnum1
  obtain ⟨fu2, hf2⟩ := h2
  obtain ⟨x1, rx1⟩ := opens_Span hf2
  obtain ⟨⟨cs2⟩, rfl, hsz2⟩ := okWide_struct Try.underlying24 (hval 2 24 v2 rfl rfl)
  simp only [Value.cells] at rx1
  clear hf2 hsz2
  obtain ⟨now1, rfl, rfl, rfl, wnow1⟩ := open_int Try.underlying2 (hval 3 2 v3 rfl rfl) h3
  have inow1 := i64_of_wf wnow1
  clear hA0 hval0 hval hcnd
  refine (fnExactBookPut_walk l1 _ num1 x1 _ now1 W rl1 inum1 rx1 inow1).mono fun e W2 ⟨he, hx⟩ => ?_
  subst he
  exact ⟨_, rfl, law_post (by kernel_rfl) (by kernel_rfl) Try.underlying4 (by intro t ht; rw [Try.params3] at ht; simp only [List.mem_cons, List.not_mem_nil, or_false] at ht; rcases ht with rfl | rfl | rfl | rfl <;> exact ⟨by kernel_rfl, of_decide_eq_true (by kernel_rfl)⟩) rfl rfl hW' hx⟩

theorem fnExactBookPut_holds : Rows.FnExactBookPutSaid :=
  OpenClaim.holds_of_wide 3 Try.f3 rfl rfl rfl rfl rfl rfl rfl ⟨rfl, rfl, rfl, rfl, rfl⟩ rfl rfl rfl rfl rfl (by kernel_rfl) Try.func3 fnExactBookPut_closed
    (of_decide_eq_true (by kernel_rfl)) (by unfold Func.isWrapper; rw [if_neg (of_decide_eq_false (by kernel_rfl))]; exact ⟨rfl, rfl⟩)
    (fun os started H enc _ => fnExactBookPut_lifted os started H enc)
end Go.Proofs.Ytikiipahmgpamaa

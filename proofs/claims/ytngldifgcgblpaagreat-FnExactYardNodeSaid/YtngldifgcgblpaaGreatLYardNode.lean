/- The law FnExactYardNode: the program's YardNode and the reference's are equal; its row. The conditions: none. Printed by wip/lawx.py. -/
import Derived.Test.YtngldifgcgblpaaGreatKYardNode
import Derived.Test.YtngldifgcgblpaaGreatYardTt
import Derived.Test.YtngldifgcgblpaaGreatYardUi
import Derived.Test.YtngldifgcgblpaaGreatNodeC
import Derived.Deep.RegionHeld3
import Derived.Test.YtngldifgcgblpaaGreatYardLb
import Derived.Test.YtngldifgcgblpaaGreatGYardE
import Derived.Test.YtngldifgcgblpaaGreatCounts
import Derived.Test.YtngldifgcgblpaaGreatLib
import Derived.Test.YtngldifgcgblpaaGreatOwn
import Derived.Deep.MidRow
import Derived.ChangeMaps5
import Derived.Test.YtngldifgcgblpaaGreatCb
import Derived.Test.YtngldifgcgblpaaGreatCe
import Derived.Test.YtngldifgcgblpaaGreatCm
namespace Go.Proofs.YtngldifgcgblpaaGreat
open Go.ChangeShapes Go.WideShapes Go.ChangeAt Go.RowKit Go.ChangeMaps
attribute [local irreducible] wpQuiet

set_option maxHeartbeats 64000000 in
set_option maxRecDepth 100000 in
theorem fnExactYardNode_walk {S : Nat → Prop} (y : Yard) (csy : List Value) (num : Int) (sta : Int) (w : World) (hy : EYard.rel S w csy y) (inum : I64 num) (ista : I64 sta) :
    Calls Tryz.prog 9 #[.agg csy.toArray, .int .i64 num, .int .i64 sta] w fun e w' => e = .returned (.bool true) ∧ Ext w w' := by
  have h0 : (0 : Int) ≤ 1048576 := by decide
  obtain ⟨v1, v2, v3, v4, v5, v6, rfl, hf, h1, h2, h3, h4, h5, h6⟩ := hy
  obtain ⟨A1, c1, rfl, -⟩ := h1.form
  obtain ⟨A2, c2, rfl, -⟩ := h2.form
  obtain ⟨A3, c3, rfl, -⟩ := h3.form
  obtain ⟨A4, c4, rfl, -⟩ := h4.form
  obtain ⟨A5, c5, rfl, -⟩ := h5.form
  obtain ⟨A6, c6, rfl, -⟩ := h6.form
  have FY := Lib.hid hf
  have R1 := Lib.hid h1
  have R2 := Lib.hid h2
  have R3 := Lib.hid h3
  have R4 := Lib.hid h4
  have R5 := Lib.hid h5
  have R6 := Lib.hid h6
  clear hf h1 h2 h3 h4 h5 h6
  have I_num := Lib.hid inum
  clear inum
  have I_sta := Lib.hid ista
  clear ista
  simp only [cellsYard]
  have BNG0 := cnt_down y num sta
  obtain ⟨m, hm⟩ : ∃ m, nodeDown y num sta = m := ⟨_, rfl⟩
  rw [hm] at BNG0
  obtain ⟨N, hN⟩ : ∃ N, cntsYardOut m = N := ⟨_, rfl⟩
  rw [hN] at BNG0
  obtain ⟨N6, hN6⟩ : ∃ N, cnt6 y = N := ⟨_, rfl⟩
  have BNG := Lib.hid BNG0
  have HM := Lib.hid hm
  have HNN := Lib.hid hN
  have HN6 := Lib.hid hN6
  clear BNG0 hm hN hN6
  go_enter Tryz.func9, Tryz.ntmps9
  go_upto_region 1 with (fail)
  obtain ⟨W0, B, hW, hB, hx0, b0⟩ : ∃ W B, W = w.alloc (.cells #[.slice A1 y.config.nodes.length c1, .slice A2 y.config.pairs.length c2, .slice A3 y.config.quotas.length c3, .int .i64 y.config.half, .slice A4 y.nodes.length c4, .slice A5 y.tasks.length c5, .slice A6 y.uses.length c6, .int .i64 y.now] 31) ∧ B = w.heap.size ∧ Ext w W ∧ Blk W B 31 #[.slice A1 y.config.nodes.length c1, .slice A2 y.config.pairs.length c2, .slice A3 y.config.quotas.length c3, .int .i64 y.config.half, .slice A4 y.nodes.length c4, .slice A5 y.tasks.length c5, .slice A6 y.uses.length c6, .int .i64 y.now] := ⟨_, _, rfl, rfl, (Ext.refl _).alloc _, Blk.new _ _ _⟩
  rw [← hW, ← hB]
  have QA : Hid (Blk W0 B 31 #[.slice A1 y.config.nodes.length c1, .slice A2 y.config.pairs.length c2, .slice A3 y.config.quotas.length c3, .int .i64 y.config.half, .slice A4 y.nodes.length c4, .slice A5 y.tasks.length c5, .slice A6 y.uses.length c6, .int .i64 y.now]) := Lib.hid b0
  have X := Lib.hid hx0
  clear hW hB hx0 b0
  have ac := QA.out.cell
  by_cases hs : szYard y 1048576 < 0
  · go_wp2_with fail
    refine (szYard_any y _ 1048576 _ (rel_Yard FY.out (R1.out.ext X.out) (R2.out.ext X.out) (R3.out.ext X.out) (R4.out.ext X.out) (R5.out.ext X.out) (R6.out.ext X.out)) h0 (Int.le_refl _)).mono ?_
    rintro e w1 ⟨rfl, hx⟩
    have X1 := Lib.hid (X.out.trans hx)
    clear hx ac
    go_wp2_with fail
    go_ret
    exact ⟨rfl, X1.out⟩
  have hp : 0 ≤ szYard y 1048576 := by omega
  have M := Lib.hid (small_szYard h0 (Int.le_refl _) hp)
  clear hs
  go_wp2_with fail
  refine (szYard_any y _ 1048576 _ (rel_Yard FY.out (R1.out.ext X.out) (R2.out.ext X.out) (R3.out.ext X.out) (R4.out.ext X.out) (R5.out.ext X.out) (R6.out.ext X.out)) h0 (Int.le_refl _)).mono ?_
  rintro e w1 ⟨rfl, hx⟩
  generalize szYard y 1048576 = q at *
  replace QA := Lib.hid (QA.out.ext hx)
  replace X := Lib.hid (X.out.trans hx)
  clear hx ac
  have ac := QA.out.cell
  go_upto_region 6 with (first | (go_at_call 15; (with_reducible refine (toYard_any (S := S) y _ _ (rel_Yard FY.out (R1.out.ext X.out) (R2.out.ext X.out) (R3.out.ext X.out) (R4.out.ext X.out) (R5.out.ext X.out) (R6.out.ext X.out)) M.out).mono ?_); rintro e wa ⟨csT, rfl, rT, hxa⟩; have RT := Lib.hid rT; clear rT) | (go_at_call 33; (with_reducible refine (specYardNode_any y num sta _ _ RT.out).mono ?_); rintro e w2 ⟨csS, FS, rfl, oS, gS, hx2⟩; rw [HM.out] at oS; obtain ⟨uS1, uS2, uS3, uS4, uS5, uS6, fS1, fS2, fS3, fS4, fS5, fS6, rfl, ftS, oS1, oS2, oS3, oS4, oS5, oS6, hFS, hnS⟩ := oS; obtain ⟨AS1, cS1, rfl, -⟩ := OwS.form oS1; obtain ⟨AS2, cS2, rfl, -⟩ := OwS.form oS2; obtain ⟨AS3, cS3, rfl, -⟩ := OwS.form oS3; obtain ⟨AS4, cS4, rfl, -⟩ := OwS.form oS4; obtain ⟨AS5, cS5, rfl, -⟩ := OwS.form oS5; obtain ⟨AS6, cS6, rfl, -⟩ := OwS.form oS6; have OS : Hid (OYardOut.own w2 [.slice AS1 m.yard.config.nodes.length cS1, .slice AS2 m.yard.config.pairs.length cS2, .slice AS3 m.yard.config.quotas.length cS3, .int .i64 m.yard.config.half, .slice AS4 m.yard.nodes.length cS4, .slice AS5 m.yard.tasks.length cS5, .slice AS6 m.yard.uses.length cS6, .int .i64 m.yard.now, .int .i64 m.id, .int .i64 m.code] m FS) := Lib.hid ⟨_, _, _, _, _, _, fS1, fS2, fS3, fS4, fS5, fS6, rfl, ftS, oS1, oS2, oS3, oS4, oS5, oS6, hFS, hnS⟩; have GS : Hid (∀ b ∈ FS, w1.heap.size ≤ b) := Lib.hid (fun b hb => Nat.le_trans (Ext.size hxa) (gS b hb)); clear ftS oS1 oS2 oS3 oS4 oS5 oS6 hFS hnS gS; simp only [cellsYardOut]))
  clear ac RT
  have XT := hxa.trans hx2
  clear hxa hx2
  have NN0 := OYardOut.lt OS.out
  have LL0 := XT.size
  obtain ⟨WS, BS, hW, hB, hx4, bx⟩ : ∃ W B, W = w2.alloc (.cells #[.slice AS1 m.yard.config.nodes.length cS1, .slice AS2 m.yard.config.pairs.length cS2, .slice AS3 m.yard.config.quotas.length cS3, .int .i64 m.yard.config.half, .slice AS4 m.yard.nodes.length cS4, .slice AS5 m.yard.tasks.length cS5, .slice AS6 m.yard.uses.length cS6, .int .i64 m.yard.now, .int .i64 m.id, .int .i64 m.code] 46) ∧ B = w2.heap.size ∧ Ext w2 W ∧ Blk W B 46 #[.slice AS1 m.yard.config.nodes.length cS1, .slice AS2 m.yard.config.pairs.length cS2, .slice AS3 m.yard.config.quotas.length cS3, .int .i64 m.yard.config.half, .slice AS4 m.yard.nodes.length cS4, .slice AS5 m.yard.tasks.length cS5, .slice AS6 m.yard.uses.length cS6, .int .i64 m.yard.now, .int .i64 m.id, .int .i64 m.code] := ⟨_, _, rfl, rfl, (Ext.refl _).alloc _, Blk.new _ _ _⟩
  rw [← hW, ← hB]
  have QS := Lib.hid bx
  have ES : Hid (BS = w2.heap.size) := Lib.hid hB
  replace OS := Lib.hid (ownx OS.out hx4)
  have XN := XT.trans hx4
  clear hW hB hx4 bx XT
  have NSS : Hid (BS ∉ FS) := Lib.hid (fun hb => absurd (NN0 _ hb) (by rw [ES.out]; exact Nat.lt_irrefl _))
  have LS : Hid (w1.heap.size ≤ BS) := Lib.hid (by rw [ES.out]; exact LL0)
  clear NN0 LL0
  replace QA := Lib.hid (QA.out.ext XN)
  replace X := Lib.hid (X.out.trans XN)
  clear XN
  have ac := QA.out.cell
  go_upto_region 7 with (go_at_call 15; (with_reducible refine (toYard_own (S := S) y _ _ (rel_Yard FY.out (R1.out.ext X.out) (R2.out.ext X.out) (R3.out.ext X.out) (R4.out.ext X.out) (R5.out.ext X.out) (R6.out.ext X.out)) M.out).mono ?_); rintro e w3 ⟨csx, FX, rfl, ⟨y1, y2, y3, y4, y5, y6, F1, F2, F3, F4, F5, F6, rfl, fx, o1, o2, o3, o4, o5, o6, hF, hn⟩, gX, hx⟩; obtain ⟨E1, e1, rfl, -⟩ := OwS.form o1; obtain ⟨E2, e2, rfl, -⟩ := OwS.form o2; obtain ⟨E3, e3, rfl, -⟩ := OwS.form o3; obtain ⟨E4, e4, rfl, -⟩ := OwS.form o4; obtain ⟨E5, e5, rfl, -⟩ := OwS.form o5; obtain ⟨E6, e6, rfl, -⟩ := OwS.form o6; have OX : Hid (OYard.own w3 [.slice E1 y.config.nodes.length e1, .slice E2 y.config.pairs.length e2, .slice E3 y.config.quotas.length e3, .int .i64 y.config.half, .slice E4 y.nodes.length e4, .slice E5 y.tasks.length e5, .slice E6 y.uses.length e6, .int .i64 y.now] y FX) := Lib.hid ⟨_, _, _, _, _, _, F1, F2, F3, F4, F5, F6, rfl, fx, o1, o2, o3, o4, o5, o6, hF, hn⟩; have GX := Lib.hid gX; have H3 := Lib.hid hx; clear fx o1 o2 o3 o4 o5 o6 hF hn gX hx; simp only [cellsYard])
  have DSX : Hid (∀ b ∈ FS, b ∉ FX) := Lib.hid (fun b h1 h2 => absurd (OYardOut.lt OS.out b h1) (Nat.not_lt.2 (GX.out b h2)))
  have NQAX : Hid (B ∉ FX) := Lib.hid (fun hb => absurd QA.out.lt (Nat.not_lt.2 (GX.out _ hb)))
  have NSX : Hid (BS ∉ FX) := Lib.hid (fun hb => absurd QS.out.lt (Nat.not_lt.2 (GX.out _ hb)))
  have GXw : Hid (∀ b ∈ FX, w.heap.size ≤ b) := Lib.hid (fun b hb => Nat.le_trans X.out.size (GX.out b hb))
  have XN := H3.out
  clear ac H3
  replace QA := Lib.hid (QA.out.ext XN)
  replace QS := Lib.hid (QS.out.ext XN)
  replace X := Lib.hid (X.out.trans XN)
  replace OS := Lib.hid (ownx OS.out XN)
  clear XN
  obtain ⟨WX, BX, hW, hB, hx4, bx⟩ : ∃ W B, W = w3.alloc (.cells #[.slice E1 y.config.nodes.length e1, .slice E2 y.config.pairs.length e2, .slice E3 y.config.quotas.length e3, .int .i64 y.config.half, .slice E4 y.nodes.length e4, .slice E5 y.tasks.length e5, .slice E6 y.uses.length e6, .int .i64 y.now] 44) ∧ B = w3.heap.size ∧ Ext w3 W ∧ Blk W B 44 #[.slice E1 y.config.nodes.length e1, .slice E2 y.config.pairs.length e2, .slice E3 y.config.quotas.length e3, .int .i64 y.config.half, .slice E4 y.nodes.length e4, .slice E5 y.tasks.length e5, .slice E6 y.uses.length e6, .int .i64 y.now] := ⟨_, _, rfl, rfl, (Ext.refl _).alloc _, Blk.new _ _ _⟩
  rw [← hW, ← hB]
  have QX := Lib.hid bx
  have EX : Hid (BX = w3.heap.size) := Lib.hid hB
  have XN := hx4
  clear hW hB hx4 bx
  replace QA := Lib.hid (QA.out.ext XN)
  replace QS := Lib.hid (QS.out.ext XN)
  replace X := Lib.hid (X.out.trans XN)
  replace OS := Lib.hid (ownx OS.out XN)
  replace OX := Lib.hid (ownx OX.out XN)
  clear XN
  have ac := QX.out.cell
  go_upto_region 8 with (go_at_call 34; (with_reducible refine (yardNode_any (S := fun b => b ∈ FX) y num sta _ _ (OYard.rel OX.out)).mono ?_); rintro e w5 ⟨csG, FG, rfl, oG, gG, hx5⟩; rw [HM.out] at oG; obtain ⟨uG1, uG2, uG3, uG4, uG5, uG6, fG1, fG2, fG3, fG4, fG5, fG6, rfl, ftG, oG1, oG2, oG3, oG4, oG5, oG6, hFG, hnG⟩ := oG; obtain ⟨AG1, cG1, rfl, -⟩ := OwS.form oG1; obtain ⟨AG2, cG2, rfl, -⟩ := OwS.form oG2; obtain ⟨AG3, cG3, rfl, -⟩ := OwS.form oG3; obtain ⟨AG4, cG4, rfl, -⟩ := OwS.form oG4; obtain ⟨AG5, cG5, rfl, -⟩ := OwS.form oG5; obtain ⟨AG6, cG6, rfl, -⟩ := OwS.form oG6; have OG : Hid (OYardOut.own w5 [.slice AG1 m.yard.config.nodes.length cG1, .slice AG2 m.yard.config.pairs.length cG2, .slice AG3 m.yard.config.quotas.length cG3, .int .i64 m.yard.config.half, .slice AG4 m.yard.nodes.length cG4, .slice AG5 m.yard.tasks.length cG5, .slice AG6 m.yard.uses.length cG6, .int .i64 m.yard.now, .int .i64 m.id, .int .i64 m.code] m FG) := Lib.hid ⟨_, _, _, _, _, _, fG1, fG2, fG3, fG4, fG5, fG6, rfl, ftG, oG1, oG2, oG3, oG4, oG5, oG6, hFG, hnG⟩; have GG : Hid (∀ b ∈ FG, WX.heap.size ≤ b) := Lib.hid (gG); clear ftG oG1 oG2 oG3 oG4 oG5 oG6 hFG hnG gG; simp only [cellsYardOut])
  clear ac
  have XT := hx5
  clear hx5
  have NN0 := OYardOut.lt OG.out
  have LL0 := XT.size
  obtain ⟨WG, BG, hW, hB, hx4, bx⟩ : ∃ W B, W = w5.alloc (.cells #[.slice AG1 m.yard.config.nodes.length cG1, .slice AG2 m.yard.config.pairs.length cG2, .slice AG3 m.yard.config.quotas.length cG3, .int .i64 m.yard.config.half, .slice AG4 m.yard.nodes.length cG4, .slice AG5 m.yard.tasks.length cG5, .slice AG6 m.yard.uses.length cG6, .int .i64 m.yard.now, .int .i64 m.id, .int .i64 m.code] 46) ∧ B = w5.heap.size ∧ Ext w5 W ∧ Blk W B 46 #[.slice AG1 m.yard.config.nodes.length cG1, .slice AG2 m.yard.config.pairs.length cG2, .slice AG3 m.yard.config.quotas.length cG3, .int .i64 m.yard.config.half, .slice AG4 m.yard.nodes.length cG4, .slice AG5 m.yard.tasks.length cG5, .slice AG6 m.yard.uses.length cG6, .int .i64 m.yard.now, .int .i64 m.id, .int .i64 m.code] := ⟨_, _, rfl, rfl, (Ext.refl _).alloc _, Blk.new _ _ _⟩
  rw [← hW, ← hB]
  have QG := Lib.hid bx
  have EG : Hid (BG = w5.heap.size) := Lib.hid hB
  replace OG := Lib.hid (ownx OG.out hx4)
  have XN := XT.trans hx4
  clear hW hB hx4 bx XT
  have NGG : Hid (BG ∉ FG) := Lib.hid (fun hb => absurd (NN0 _ hb) (by rw [EG.out]; exact Nat.lt_irrefl _))
  have LG : Hid (WX.heap.size ≤ BG) := Lib.hid (by rw [EG.out]; exact LL0)
  clear NN0 LL0
  have DGX : Hid (∀ b ∈ FG, b ∉ FX) := Lib.hid (fun b h1 h2 => absurd (OYard.lt OX.out b h2) (Nat.not_lt.2 (GG.out b h1)))
  have DSG : Hid (∀ b ∈ FS, b ∉ FG) := Lib.hid (fun b h1 h2 => absurd (OYardOut.lt OS.out b h1) (Nat.not_lt.2 (GG.out b h2)))
  have NSG : Hid (BS ∉ FG) := Lib.hid (fun hb => absurd QS.out.lt (Nat.not_lt.2 (GG.out _ hb)))
  have NGX : Hid (BG ∉ FX) := Lib.hid (fun hb => absurd (OYard.lt OX.out _ hb) (Nat.not_lt.2 LG.out))
  have GGw : Hid (∀ b ∈ FG, w.heap.size ≤ b) := Lib.hid (fun b hb => Nat.le_trans X.out.size (GG.out b hb))
  have NQAG : Hid (B ∉ FG) := Lib.hid (fun hb => absurd QA.out.lt (Nat.not_lt.2 (GG.out _ hb)))
  replace QA := Lib.hid (QA.out.ext XN)
  replace QS := Lib.hid (QS.out.ext XN)
  replace QX := Lib.hid (QX.out.ext XN)
  replace X := Lib.hid (X.out.trans XN)
  replace OS := Lib.hid (ownx OS.out XN)
  replace OX := Lib.hid (ownx OX.out XN)
  clear XN
  have sc := QS.out.cell
  have gc := QG.out.cell
  go_upto_region 10 with (go_at_call 18; (with_reducible refine (eqYardOut_any m m _ _ _ (OYardOut.rel OG.out) (OYardOut.rel OS.out)).mono ?_); rintro e w6 ⟨rfl, hx⟩; have H := Lib.hid hx; clear hx)
  have XN := H.out
  clear sc gc H
  replace QA := Lib.hid (QA.out.ext XN)
  replace QS := Lib.hid (QS.out.ext XN)
  replace QX := Lib.hid (QX.out.ext XN)
  replace QG := Lib.hid (QG.out.ext XN)
  replace X := Lib.hid (X.out.trans XN)
  replace OS := Lib.hid (ownx OS.out XN)
  replace OX := Lib.hid (ownx OX.out XN)
  replace OG := Lib.hid (ownx OG.out XN)
  clear XN
  have al_a : ∀ V, Ext w6 V → ∀ i, V.cell? ⟨B, i, none⟩ = _ := fun V hx => (QA.out.ext hx).cell
  have al_x : ∀ V, Ext w6 V → ∀ i, V.cell? ⟨BX, i, none⟩ = _ := fun V hx => (QX.out.ext hx).cell
  go_region_held3 (fun V => Ext w6 V) (first | exact Ext.refl _ | exact (Ext.refl _).drew | assumption | exact Ext.alloc (by assumption) _ | exact Ext.trans (by assumption) hx40 | exact Ext.trans (by assumption) hx42) (first | (go_at_call 15; (with_reducible refine (toYard_any (S := S) y _ _ (rel_Yard FY.out (R1.out.ext (X.out.trans (by assumption))) (R2.out.ext (X.out.trans (by assumption))) (R3.out.ext (X.out.trans (by assumption))) (R4.out.ext (X.out.trans (by assumption))) (R5.out.ext (X.out.trans (by assumption))) (R6.out.ext (X.out.trans (by assumption)))) M.out).mono ?_); rintro e wa40 ⟨csT, rfl, rT, hx40⟩; have RT := Lib.hid rT; clear rT) | (go_at_call 19; (with_reducible refine (eqYard_any y y _ _ _ (OYard.rel (ownx OX.out (by assumption))) (by first | exact RT.out | exact rel_ext RT.out (by assumption))).mono ?_); rintro e w7 ⟨rfl, hx42⟩))
  all_goals clear al_a al_x
  have XN : Ext w6 w7 := by first | assumption | exact Ext.drew (by assumption)
  clear RT
  replace QA := Lib.hid (QA.out.ext XN)
  replace QS := Lib.hid (QS.out.ext XN)
  replace QX := Lib.hid (QX.out.ext XN)
  replace QG := Lib.hid (QG.out.ext XN)
  replace X := Lib.hid (X.out.trans XN)
  replace OS := Lib.hid (ownx OS.out XN)
  replace OX := Lib.hid (ownx OX.out XN)
  replace OG := Lib.hid (ownx OG.out XN)
  clear XN
  have hcx : (0 : Int) ≤ (N6 : Int) := Int.natCast_nonneg _
  have BND : Hid (1 + (N6 : Int) ≤ 1125899906842624) := Lib.hid (by rw [← HN6.out]; exact cnt6_room M.out)
  have hcg : (0 : Int) ≤ (N : Int) := Int.natCast_nonneg _
  have xc := QX.out.cell
  go_upto_region 14 with (go_at_call 20; (with_reducible refine (markYard_is y _ FX N6 1 _ OX.out HN6.out (by decide) BND.out).mono ?_); rintro e w8 ⟨rfl, k8⟩; have K8 := Lib.hid k8; clear k8)
  clear xc
  replace OS := Lib.hid (ownk OS.out K8.out DSX.out)
  replace OG := Lib.hid (ownk OG.out K8.out DGX.out)
  replace QA : Hid (Blk w8 B 31 #[.slice A1 y.config.nodes.length c1, .slice A2 y.config.pairs.length c2, .slice A3 y.config.quotas.length c3, .int .i64 y.config.half, .slice A4 y.nodes.length c4, .slice A5 y.tasks.length c5, .slice A6 y.uses.length c6, .int .i64 y.now]) := Lib.hid ((K8.out.block _ QA.out.lt NQAX.out).trans QA.out)
  replace QS : Hid (Blk w8 BS 46 #[.slice AS1 m.yard.config.nodes.length cS1, .slice AS2 m.yard.config.pairs.length cS2, .slice AS3 m.yard.config.quotas.length cS3, .int .i64 m.yard.config.half, .slice AS4 m.yard.nodes.length cS4, .slice AS5 m.yard.tasks.length cS5, .slice AS6 m.yard.uses.length cS6, .int .i64 m.yard.now, .int .i64 m.id, .int .i64 m.code]) := Lib.hid ((K8.out.block BS QS.out.lt NSX.out).trans QS.out)
  replace QG : Hid (Blk w8 BG 46 #[.slice AG1 m.yard.config.nodes.length cG1, .slice AG2 m.yard.config.pairs.length cG2, .slice AG3 m.yard.config.quotas.length cG3, .int .i64 m.yard.config.half, .slice AG4 m.yard.nodes.length cG4, .slice AG5 m.yard.tasks.length cG5, .slice AG6 m.yard.uses.length cG6, .int .i64 m.yard.now, .int .i64 m.id, .int .i64 m.code]) := Lib.hid ((K8.out.block BG QG.out.lt NGX.out).trans QG.out)
  replace X : Hid (Ext w w8) := Lib.hid (K8.out.ext X.out GXw.out)
  clear OX QX
  have hk1 : ¬ (1 + (N6 : Int) < 0) := by omega
  have sc := QS.out.cell
  have gc := QG.out.cell
  go_upto_region 16 with (go_at_call 18; (with_reducible refine (eqYardOut_any m m _ _ _ (OYardOut.rel OG.out) (OYardOut.rel OS.out)).mono ?_); rintro e w9 ⟨rfl, hx⟩; have H := Lib.hid hx; clear hx)
  have XN := H.out
  clear sc gc H
  replace QA := Lib.hid (QA.out.ext XN)
  replace QS := Lib.hid (QS.out.ext XN)
  replace QG := Lib.hid (QG.out.ext XN)
  replace X := Lib.hid (X.out.trans XN)
  replace OS := Lib.hid (ownx OS.out XN)
  replace OG := Lib.hid (ownx OG.out XN)
  clear XN
  have gc := QG.out.cell
  go_upto_region 18 with (go_at_call 21; (with_reducible refine (markYardOut_is m _ FG N 1 _ OG.out HNN.out (by decide) BNG.out).mono ?_); rintro e w10 ⟨rfl, om, km⟩; have K10 := Lib.hid km; have OM := Lib.hid om; clear om km)
  clear gc
  replace OS := Lib.hid (ownk OS.out K10.out DSG.out)
  replace QA : Hid (Blk w10 B 31 #[.slice A1 y.config.nodes.length c1, .slice A2 y.config.pairs.length c2, .slice A3 y.config.quotas.length c3, .int .i64 y.config.half, .slice A4 y.nodes.length c4, .slice A5 y.tasks.length c5, .slice A6 y.uses.length c6, .int .i64 y.now]) := Lib.hid ((K10.out.block _ QA.out.lt NQAG.out).trans QA.out)
  replace QS : Hid (Blk w10 BS 46 #[.slice AS1 m.yard.config.nodes.length cS1, .slice AS2 m.yard.config.pairs.length cS2, .slice AS3 m.yard.config.quotas.length cS3, .int .i64 m.yard.config.half, .slice AS4 m.yard.nodes.length cS4, .slice AS5 m.yard.tasks.length cS5, .slice AS6 m.yard.uses.length cS6, .int .i64 m.yard.now, .int .i64 m.id, .int .i64 m.code]) := Lib.hid ((K10.out.block BS QS.out.lt NSG.out).trans QS.out)
  replace QG : Hid (Blk w10 BG 46 #[.slice AG1 m.yard.config.nodes.length cG1, .slice AG2 m.yard.config.pairs.length cG2, .slice AG3 m.yard.config.quotas.length cG3, .int .i64 m.yard.config.half, .slice AG4 m.yard.nodes.length cG4, .slice AG5 m.yard.tasks.length cG5, .slice AG6 m.yard.uses.length cG6, .int .i64 m.yard.now, .int .i64 m.id, .int .i64 m.code]) := Lib.hid ((K10.out.block BG QG.out.lt NGG.out).trans QG.out)
  replace X : Hid (Ext w w10) := Lib.hid (K10.out.ext X.out GGw.out)
  clear OG
  have gc := QG.out.cell
  go_upto_region 24 with (go_at_call 22; (with_reducible refine (heldYardOut_is (S1 := fun b => b ∈ FG) m _ N 1 _ OM.out HNN.out (by decide) BNG.out).mono ?_); rintro e w11 ⟨rfl, hx⟩; have H := Lib.hid hx; clear hx)
  have XN := H.out
  clear gc H
  replace QA := Lib.hid (QA.out.ext XN)
  replace QS := Lib.hid (QS.out.ext XN)
  replace QG := Lib.hid (QG.out.ext XN)
  replace X := Lib.hid (X.out.trans XN)
  replace OS := Lib.hid (ownx OS.out XN)
  replace OM := Lib.hid (rel_ext OM.out XN)
  clear XN
  have ac := QA.out.cell
  go_upto_region 25 with (first | (go_at_call 15; (with_reducible refine (toYard_any (S := S) y _ _ (rel_Yard FY.out (R1.out.ext X.out) (R2.out.ext X.out) (R3.out.ext X.out) (R4.out.ext X.out) (R5.out.ext X.out) (R6.out.ext X.out)) M.out).mono ?_); rintro e wc ⟨csT, rfl, rT, hxc⟩; have RT := Lib.hid rT; clear rT) | (go_at_call 34; (with_reducible refine (yardNode_any y num sta _ _ RT.out).mono ?_); rintro e w12 ⟨csH, FH, rfl, oH, gH, hx12⟩; rw [HM.out] at oH; obtain ⟨uH1, uH2, uH3, uH4, uH5, uH6, fH1, fH2, fH3, fH4, fH5, fH6, rfl, ftH, oH1, oH2, oH3, oH4, oH5, oH6, hFH, hnH⟩ := oH; obtain ⟨AH1, cH1, rfl, -⟩ := OwS.form oH1; obtain ⟨AH2, cH2, rfl, -⟩ := OwS.form oH2; obtain ⟨AH3, cH3, rfl, -⟩ := OwS.form oH3; obtain ⟨AH4, cH4, rfl, -⟩ := OwS.form oH4; obtain ⟨AH5, cH5, rfl, -⟩ := OwS.form oH5; obtain ⟨AH6, cH6, rfl, -⟩ := OwS.form oH6; have OH : Hid (OYardOut.own w12 [.slice AH1 m.yard.config.nodes.length cH1, .slice AH2 m.yard.config.pairs.length cH2, .slice AH3 m.yard.config.quotas.length cH3, .int .i64 m.yard.config.half, .slice AH4 m.yard.nodes.length cH4, .slice AH5 m.yard.tasks.length cH5, .slice AH6 m.yard.uses.length cH6, .int .i64 m.yard.now, .int .i64 m.id, .int .i64 m.code] m FH) := Lib.hid ⟨_, _, _, _, _, _, fH1, fH2, fH3, fH4, fH5, fH6, rfl, ftH, oH1, oH2, oH3, oH4, oH5, oH6, hFH, hnH⟩; have GH : Hid (∀ b ∈ FH, w11.heap.size ≤ b) := Lib.hid (fun b hb => Nat.le_trans (Ext.size hxc) (gH b hb)); clear ftH oH1 oH2 oH3 oH4 oH5 oH6 hFH hnH gH; simp only [cellsYardOut]))
  clear ac RT
  have XT := hxc.trans hx12
  clear hxc hx12
  have NN0 := OYardOut.lt OH.out
  have LL0 := XT.size
  obtain ⟨WH, BH, hW, hB, hx4, bx⟩ : ∃ W B, W = w12.alloc (.cells #[.slice AH1 m.yard.config.nodes.length cH1, .slice AH2 m.yard.config.pairs.length cH2, .slice AH3 m.yard.config.quotas.length cH3, .int .i64 m.yard.config.half, .slice AH4 m.yard.nodes.length cH4, .slice AH5 m.yard.tasks.length cH5, .slice AH6 m.yard.uses.length cH6, .int .i64 m.yard.now, .int .i64 m.id, .int .i64 m.code] 46) ∧ B = w12.heap.size ∧ Ext w12 W ∧ Blk W B 46 #[.slice AH1 m.yard.config.nodes.length cH1, .slice AH2 m.yard.config.pairs.length cH2, .slice AH3 m.yard.config.quotas.length cH3, .int .i64 m.yard.config.half, .slice AH4 m.yard.nodes.length cH4, .slice AH5 m.yard.tasks.length cH5, .slice AH6 m.yard.uses.length cH6, .int .i64 m.yard.now, .int .i64 m.id, .int .i64 m.code] := ⟨_, _, rfl, rfl, (Ext.refl _).alloc _, Blk.new _ _ _⟩
  rw [← hW, ← hB]
  have QH := Lib.hid bx
  have EH : Hid (BH = w12.heap.size) := Lib.hid hB
  replace OH := Lib.hid (ownx OH.out hx4)
  have XN := XT.trans hx4
  clear hW hB hx4 bx XT
  have NHH : Hid (BH ∉ FH) := Lib.hid (fun hb => absurd (NN0 _ hb) (by rw [EH.out]; exact Nat.lt_irrefl _))
  have LH : Hid (w11.heap.size ≤ BH) := Lib.hid (by rw [EH.out]; exact LL0)
  clear NN0 LL0
  replace QS := Lib.hid (QS.out.ext XN)
  replace QG := Lib.hid (QG.out.ext XN)
  replace X := Lib.hid (X.out.trans XN)
  replace OS := Lib.hid (ownx OS.out XN)
  replace OM := Lib.hid (rel_ext OM.out XN)
  clear XN
  have sc := QS.out.cell
  have kc := QH.out.cell
  go_upto_region 27 with (go_at_call 18; (with_reducible refine (eqYardOut_any m m _ _ _ (OYardOut.rel OH.out) (OYardOut.rel OS.out)).mono ?_); rintro e w13 ⟨rfl, hx⟩; have H := Lib.hid hx; clear hx)
  have XN := H.out
  clear sc kc H
  replace QG := Lib.hid (QG.out.ext XN)
  replace X := Lib.hid (X.out.trans XN)
  replace OM := Lib.hid (rel_ext OM.out XN)
  clear XN
  have gc := QG.out.cell
  go_wp2_with (go_at_call 22; (with_reducible refine (heldYardOut_is (S1 := fun b => b ∈ FG) m _ N 1 _ OM.out HNN.out (by decide) BNG.out).mono ?_); rintro e w14 ⟨rfl, hx⟩; have X14 := Lib.hid (X.out.trans hx); clear hx)
  go_ret
  exact ⟨rfl, X14.out⟩

set_option maxRecDepth 100000 in
theorem fnExactYardNode_lifted (os : Os) (started : os.Started) (H : Type) (enc : TypeId × Value → H) :
    ReturnsInHanded {} Tryz.checked os 9 .any (Rows.fnExactYardNodeSpec.pre6 enc Tryz.prog Tryz.f9 Rows.fnExactYardNodeRow.domain false) (Rows.fnExactYardNodeSpec.post enc Tryz.prog Tryz.f9 false true false false) := by
  refine returnsInHanded_of_change (C := Tryz.checked) (show ownKnob Tryz.prog.godebug = none by kernel_rfl) started (by kernel_rfl) Tryz.func9
    (ChangeSpec.witness6 (enc := enc) (C := Tryz.checked) false ⟨#[], #[.agg #[.slice none 0 0, .slice none 0 0, .slice none 0 0, .int .i64 0, .slice none 0 0, .slice none 0 0, .slice none 0 0, .int .i64 0], .int .i64 0, .int .i64 0], []⟩ 8 (by kernel_rfl) (by kernel_rfl) (by kernel_rfl) (by kernel_rfl)) ?_
  intro W base args ds gs before hval0 hW hcnd _
  have hval : ∀ (j : Nat) t v, Tryz.f9.params[j]? = some t → args[j]? = some v → Value.okWide Tryz.prog W .any base t v := hval0
  have hW' := hW
  obtain ⟨p, q, hA0, hV, rfl, hfz, hnd⟩ := hW
  have hA : DataW.TrodAll enc Tryz.prog W 0 (fun _ => true) true Tryz.f9.params.toList args.toList ds p := hA0
  rw [Tryz.params9] at hA hval
  obtain ⟨v0, v1, v2, d0, d1, d2, p0, p1, p2, rfl, rfl, rfl, h0, h1, h2⟩ := trodAll_three hA
  obtain ⟨rfl, rfl⟩ := trodVars_none hV
  obtain ⟨fu0, hf0⟩ := h0
  obtain ⟨y1, ry1⟩ := opens_Yard hf0
  obtain ⟨⟨cs0⟩, rfl, hsz0⟩ := okWide_struct Tryz.underlying31 (hval 0 31 v0 rfl rfl)
  simp only [Value.cells] at ry1
  clear hf0 hsz0
  obtain ⟨num1, rfl, rfl, rfl, wnum1⟩ := open_int Tryz.underlying2 (hval 1 2 v1 rfl rfl) h1
  have inum1 := i64_of_wf wnum1
  obtain ⟨sta1, rfl, rfl, rfl, wsta1⟩ := open_int Tryz.underlying2 (hval 2 2 v2 rfl rfl) h2
  have ista1 := i64_of_wf wsta1
  clear hA0 hval0 hval hcnd
  refine (fnExactYardNode_walk y1 _ num1 sta1 W ry1 inum1 ista1).mono fun e W2 ⟨he, hx⟩ => ?_
  subst he
  exact ⟨_, rfl, law_post (by kernel_rfl) (by kernel_rfl) Tryz.underlying4 (by intro t ht; rw [Tryz.params9] at ht; simp only [List.mem_cons, List.not_mem_nil, or_false] at ht; rcases ht with rfl | rfl | rfl <;> exact ⟨by kernel_rfl, of_decide_eq_true (by kernel_rfl)⟩) rfl rfl hW' hx⟩

theorem fnExactYardNode_holds : Rows.FnExactYardNodeSaid :=
  OpenClaim.holds_of_wide 9 Tryz.f9 rfl rfl rfl rfl rfl rfl rfl ⟨rfl, rfl, rfl, rfl, rfl⟩ rfl rfl rfl rfl rfl (by kernel_rfl) Tryz.func9 fnExactYardNode_closed
    (of_decide_eq_true (by kernel_rfl)) (by unfold Func.isWrapper; rw [if_neg (of_decide_eq_false (by kernel_rfl))]; exact ⟨rfl, rfl⟩)
    (fun os started H enc _ => fnExactYardNode_lifted os started H enc)
end Go.Proofs.YtngldifgcgblpaaGreat

/- The law FnExactYardNew: the program's YardNew and the reference's are equal; its row. The conditions: none. Printed by wip/lawy.py. -/
import Derived.Test.YtocomclenbhhaaaGreatKYardNew
import Derived.Test.YtocomclenbhhaaaGreatYardW
import Derived.Test.YtocomclenbhhaaaGreatYardK
import Derived.Test.YtocomclenbhhaaaGreatGYardT
import Derived.Test.YtocomclenbhhaaaGreatGYardE
import Derived.Test.YtocomclenbhhaaaGreatCounts
import Derived.Deep.RegionHeld3
import Derived.ChangeMaps5
namespace Go.Proofs.YtocomclenbhhaaaGreat
open Go.ChangeShapes Go.WideShapes Go.ChangeAt Go.RowKit Go.ChangeMaps
attribute [local irreducible] wpQuiet

theorem cnt3_roomY {c : Config} (h : SmConfig c) : 1 + ((cnt3 c : Nat) : Int) ≤ 1125899906842624 := by
  obtain ⟨h1, h2, h3⟩ := h
  have a1 := cnt_all (n := cntL cntLabel) (c := 1048576 * 2) (l := c.nodes) fun l hl => by
    have := cnt_all (n := cntLabel) (c := 2) (l := l) fun _ _ => Nat.le_refl _
    have := (h1.2 l hl).1
    omega
  have a2 := cnt_all (n := cntPair) (c := 5) (l := c.pairs) fun _ _ => Nat.le_refl _
  have a3 := cnt_all (n := cntQuota) (c := 3) (l := c.quotas) fun _ _ => Nat.le_refl _
  have b1 := h1.1
  have b2 := h2.1
  have b3 := h3.1
  unfold cnt3
  omega
theorem cnt_yardNew (c : Config) : 1 + ((cntsYardOut (yardNew c) : Nat) : Int) ≤ 1125899906842624 := by
  unfold yardNew
  split
  · rename_i h
    have hn := new_bound (c.nodes.length : Int)
    have hc := config_clear h
    have h' := h
    simp only [configRight, pairsOk, quotasOk, Bool.and_eq_true, decide_eq_true_eq] at h'
    have hl := (clear_length hc).2
    have a1 := cnt_all (n := cntL cntLabel) (c := 8) (l := c.nodes) fun l hl => by
      have := cnt_all (n := cntLabel) (c := 2) (l := l) fun _ _ => Nat.le_refl _
      have := (chain_length (clear_chain hc l hl)).2
      omega
    have a2 := cnt_all (n := cntPair) (c := 5) (l := c.pairs) fun _ _ => Nat.le_refl _
    have a3 := cnt_all (n := cntQuota) (c := 3) (l := c.quotas) fun _ _ => Nat.le_refl _
    have a4 : cntL cntNode (nodesNew (c.nodes.length : Int)) ≤ 6 := by
      unfold nodesNew
      split
      · have := cnt_all (n := cntNode) (c := 1) (l := List.replicate (c.nodes.length : Int).toNat (⟨1, []⟩ : Node)) fun x hx => by rw [List.eq_of_mem_replicate hx]; exact Nat.le_refl _
        simp only [List.length_replicate, Int.toNat_natCast] at this
        simp only [Int.toNat_natCast]
        omega
      · exact Nat.zero_le _
    have b2 := h'.2.1.2.1
    have b3 := h'.2.2.1
    have e5 : cntL cntTask ([] : List Task) = 0 := rfl
    have e6 : cntL cntUse ([] : List Use) = 0 := rfl
    simp only [cntsYardOut]
    omega
  · decide
set_option maxHeartbeats 64000000 in
set_option maxRecDepth 100000 in
theorem fnExactYardNew_walk {S : Nat → Prop} (c : Config) (csc : List Value) (w : World) (hc : EConfig.rel S w csc c) :
    Calls Tryz.prog 3 #[.agg csc.toArray] w fun e w' => e = .returned (.bool true) ∧ Ext w w' := by
  have h0 : (0 : Int) ≤ 1048576 := by decide
  obtain ⟨v1, v2, v3, rfl, hf, h1, h2, h3⟩ := hc
  obtain ⟨A1, c1, rfl, -⟩ := h1.form
  obtain ⟨A2, c2, rfl, -⟩ := h2.form
  obtain ⟨A3, c3, rfl, -⟩ := h3.form
  have FC := Lib.hid hf
  have R1 := Lib.hid h1
  have R2 := Lib.hid h2
  have R3 := Lib.hid h3
  clear hf h1 h2 h3
  simp only [cellsConfig]
  have BNG0 := cnt_yardNew c
  obtain ⟨m, hm⟩ : ∃ m, yardNew c = m := ⟨_, rfl⟩
  rw [hm] at BNG0
  obtain ⟨N, hN⟩ : ∃ N, cntsYardOut m = N := ⟨_, rfl⟩
  rw [hN] at BNG0
  have BNG := Lib.hid BNG0
  have HM := Lib.hid hm
  have HNN := Lib.hid hN
  clear BNG0 hm hN
  go_enter Tryz.func3, Tryz.ntmps3
  go_upto_region 1 with (fail)
  obtain ⟨W0, B, hW, hB, hx0, b0⟩ : ∃ W B, W = w.alloc (.cells #[.slice A1 c.nodes.length c1, .slice A2 c.pairs.length c2, .slice A3 c.quotas.length c3, .int .i64 c.half] 26) ∧ B = w.heap.size ∧ Ext w W ∧ Blk W B 26 #[.slice A1 c.nodes.length c1, .slice A2 c.pairs.length c2, .slice A3 c.quotas.length c3, .int .i64 c.half] := ⟨_, _, rfl, rfl, (Ext.refl _).alloc _, Blk.new _ _ _⟩
  rw [← hW, ← hB]
  have QA := Lib.hid b0
  have X := Lib.hid hx0
  clear hW hB hx0 b0
  have ac := QA.out.cell
  by_cases hs : szConfig c 1048576 < 0
  · go_wp2_with fail
    refine (szConfig_any c _ 1048576 _ (rel_Config FC.out (R1.out.ext X.out) (R2.out.ext X.out) (R3.out.ext X.out)) h0 (Int.le_refl _)).mono ?_
    rintro e w1 ⟨rfl, hx⟩
    have X1 := Lib.hid (X.out.trans hx)
    clear hx ac
    go_wp2_with fail
    go_ret
    exact ⟨rfl, X1.out⟩
  have hp : 0 ≤ szConfig c 1048576 := by omega
  have M := Lib.hid (small_szConfig h0 (Int.le_refl _) hp)
  clear hs
  go_wp2_with fail
  refine (szConfig_any c _ 1048576 _ (rel_Config FC.out (R1.out.ext X.out) (R2.out.ext X.out) (R3.out.ext X.out)) h0 (Int.le_refl _)).mono ?_
  rintro e w1 ⟨rfl, hx⟩
  generalize szConfig c 1048576 = q at *
  replace QA := Lib.hid (QA.out.ext hx)
  replace X := Lib.hid (X.out.trans hx)
  clear hx ac
  have ac := QA.out.cell
  go_upto_region 6 with (first | (go_at_call 8; (with_reducible refine (toConfig_any (S := S) c _ _ (rel_Config FC.out (R1.out.ext X.out) (R2.out.ext X.out) (R3.out.ext X.out)) M.out).mono ?_); rintro e wa ⟨_, rfl, ⟨u1, u2, u3, rfl, ff, r1, r2, r3⟩, hxa⟩; clear ff; simp only [cellsConfig]; obtain ⟨D1, d1, rfl, -⟩ := Rd.form r1; obtain ⟨D2, d2, rfl, -⟩ := Rd.form r2; obtain ⟨D3, d3, rfl, -⟩ := Rd.form r3; have U1 := Lib.hid r1; have U2 := Lib.hid r2; have U3 := Lib.hid r3; clear r1 r2 r3) | (go_at_call 7; (with_reducible refine (specYardNew_any c _ _ (rel_Config FC.out U1.out U2.out U3.out)).mono ?_); rintro e w2 ⟨csS, FS, rfl, oS, gS, hx2⟩; rw [HM.out] at oS; obtain ⟨uS1, uS2, uS3, uS4, uS5, uS6, fS1, fS2, fS3, fS4, fS5, fS6, rfl, ftS, oS1, oS2, oS3, oS4, oS5, oS6, hFS, hnS⟩ := oS; obtain ⟨AS1, cS1, rfl, -⟩ := OwS.form oS1; obtain ⟨AS2, cS2, rfl, -⟩ := OwS.form oS2; obtain ⟨AS3, cS3, rfl, -⟩ := OwS.form oS3; obtain ⟨AS4, cS4, rfl, -⟩ := OwS.form oS4; obtain ⟨AS5, cS5, rfl, -⟩ := OwS.form oS5; obtain ⟨AS6, cS6, rfl, -⟩ := OwS.form oS6; have OS : Hid (OYardOut.own w2 [.slice AS1 m.yard.config.nodes.length cS1, .slice AS2 m.yard.config.pairs.length cS2, .slice AS3 m.yard.config.quotas.length cS3, .int .i64 m.yard.config.half, .slice AS4 m.yard.nodes.length cS4, .slice AS5 m.yard.tasks.length cS5, .slice AS6 m.yard.uses.length cS6, .int .i64 m.yard.now, .int .i64 m.id, .int .i64 m.code] m FS) := Lib.hid ⟨_, _, _, _, _, _, fS1, fS2, fS3, fS4, fS5, fS6, rfl, ftS, oS1, oS2, oS3, oS4, oS5, oS6, hFS, hnS⟩; have GS : Hid (∀ b ∈ FS, w1.heap.size ≤ b) := Lib.hid (fun b hb => Nat.le_trans (Ext.size hxa) (gS b hb)); clear ftS oS1 oS2 oS3 oS4 oS5 oS6 hFS hnS gS; simp only [cellsYardOut]))
  clear ac U1 U2 U3
  have XN := hxa.trans hx2
  clear hxa hx2
  replace QA := Lib.hid (QA.out.ext XN)
  replace X := Lib.hid (X.out.trans XN)
  clear XN
  obtain ⟨WS, BS, hW, hB, hx4, bx⟩ : ∃ W B, W = w2.alloc (.cells #[.slice AS1 m.yard.config.nodes.length cS1, .slice AS2 m.yard.config.pairs.length cS2, .slice AS3 m.yard.config.quotas.length cS3, .int .i64 m.yard.config.half, .slice AS4 m.yard.nodes.length cS4, .slice AS5 m.yard.tasks.length cS5, .slice AS6 m.yard.uses.length cS6, .int .i64 m.yard.now, .int .i64 m.id, .int .i64 m.code] 39) ∧ B = w2.heap.size ∧ Ext w2 W ∧ Blk W B 39 #[.slice AS1 m.yard.config.nodes.length cS1, .slice AS2 m.yard.config.pairs.length cS2, .slice AS3 m.yard.config.quotas.length cS3, .int .i64 m.yard.config.half, .slice AS4 m.yard.nodes.length cS4, .slice AS5 m.yard.tasks.length cS5, .slice AS6 m.yard.uses.length cS6, .int .i64 m.yard.now, .int .i64 m.id, .int .i64 m.code] := ⟨_, _, rfl, rfl, (Ext.refl _).alloc _, Blk.new _ _ _⟩
  rw [← hW, ← hB]
  have QS := Lib.hid bx
  have ES : Hid (BS = w2.heap.size) := Lib.hid hB
  have XN := hx4
  clear hW hB hx4 bx
  replace QA := Lib.hid (QA.out.ext XN)
  replace X := Lib.hid (X.out.trans XN)
  replace OS := Lib.hid (ownx OS.out XN)
  clear XN
  have ac := QA.out.cell
  go_upto_region 7 with (go_at_call 8; (with_reducible refine (toConfig_own (S := S) c _ _ (rel_Config FC.out (R1.out.ext X.out) (R2.out.ext X.out) (R3.out.ext X.out)) M.out).mono ?_); rintro e w3 ⟨csx, FX, rfl, ⟨y1, y2, y3, F1, F2, F3, rfl, fx, o1, o2, o3, hF, hn⟩, gX, hx⟩; obtain ⟨E1, e1, rfl, -⟩ := o1.form; obtain ⟨E2, e2, rfl, -⟩ := o2.form; obtain ⟨E3, e3, rfl, -⟩ := o3.form; have OX : Hid (OConfig.own w3 [.slice E1 c.nodes.length e1, .slice E2 c.pairs.length e2, .slice E3 c.quotas.length e3, .int .i64 c.half] c FX) := Lib.hid ⟨_, _, _, F1, F2, F3, rfl, fx, o1, o2, o3, hF, hn⟩; have GX := Lib.hid gX; have H3 := Lib.hid hx; clear fx o1 o2 o3 hF hn gX hx; simp only [cellsConfig])
  have DSX : Hid (∀ b ∈ FS, b ∉ FX) := Lib.hid (fun b h1 h2 => absurd (OYardOut.lt OS.out b h1) (Nat.not_lt.2 (GX.out b h2)))
  have NAX : Hid (B ∉ FX) := Lib.hid (fun hb => absurd QA.out.lt (Nat.not_lt.2 (GX.out _ hb)))
  have NSX : Hid (BS ∉ FX) := Lib.hid (fun hb => absurd QS.out.lt (Nat.not_lt.2 (GX.out _ hb)))
  have GXw : Hid (∀ b ∈ FX, w.heap.size ≤ b) := Lib.hid (fun b hb => Nat.le_trans X.out.size (GX.out b hb))
  have XN := H3.out
  clear ac H3
  replace QA := Lib.hid (QA.out.ext XN)
  replace QS := Lib.hid (QS.out.ext XN)
  replace X := Lib.hid (X.out.trans XN)
  replace OS := Lib.hid (ownx OS.out XN)
  clear XN
  obtain ⟨WX, BX, hW, hB, hx4, bx⟩ : ∃ W B, W = w3.alloc (.cells #[.slice E1 c.nodes.length e1, .slice E2 c.pairs.length e2, .slice E3 c.quotas.length e3, .int .i64 c.half] 32) ∧ B = w3.heap.size ∧ Ext w3 W ∧ Blk W B 32 #[.slice E1 c.nodes.length e1, .slice E2 c.pairs.length e2, .slice E3 c.quotas.length e3, .int .i64 c.half] := ⟨_, _, rfl, rfl, (Ext.refl _).alloc _, Blk.new _ _ _⟩
  rw [← hW, ← hB]
  have QX := Lib.hid bx
  have EX : Hid (BX = w3.heap.size) := Lib.hid hB
  have XN := hx4
  clear hW hB hx4 bx
  replace QA := Lib.hid (QA.out.ext XN)
  replace QS := Lib.hid (QS.out.ext XN)
  replace X := Lib.hid (X.out.trans XN)
  replace OS := Lib.hid (ownx OS.out XN)
  replace OX := Lib.hid (ownx OX.out XN)
  clear XN
  have xc := QX.out.cell
  go_upto_region 8 with ((go_at_call 9; (with_reducible refine (yardNew_any (S := fun b => b ∈ FX) c _ _ (OConfig.rel OX.out)).mono ?_); rintro e w5 ⟨csG, FG, rfl, oG, gG, hx5⟩; rw [HM.out] at oG; obtain ⟨uG1, uG2, uG3, uG4, uG5, uG6, fG1, fG2, fG3, fG4, fG5, fG6, rfl, ftG, oG1, oG2, oG3, oG4, oG5, oG6, hFG, hnG⟩ := oG; obtain ⟨AG1, cG1, rfl, -⟩ := OwS.form oG1; obtain ⟨AG2, cG2, rfl, -⟩ := OwS.form oG2; obtain ⟨AG3, cG3, rfl, -⟩ := OwS.form oG3; obtain ⟨AG4, cG4, rfl, -⟩ := OwS.form oG4; obtain ⟨AG5, cG5, rfl, -⟩ := OwS.form oG5; obtain ⟨AG6, cG6, rfl, -⟩ := OwS.form oG6; have OG : Hid (OYardOut.own w5 [.slice AG1 m.yard.config.nodes.length cG1, .slice AG2 m.yard.config.pairs.length cG2, .slice AG3 m.yard.config.quotas.length cG3, .int .i64 m.yard.config.half, .slice AG4 m.yard.nodes.length cG4, .slice AG5 m.yard.tasks.length cG5, .slice AG6 m.yard.uses.length cG6, .int .i64 m.yard.now, .int .i64 m.id, .int .i64 m.code] m FG) := Lib.hid ⟨_, _, _, _, _, _, fG1, fG2, fG3, fG4, fG5, fG6, rfl, ftG, oG1, oG2, oG3, oG4, oG5, oG6, hFG, hnG⟩; have GG : Hid (∀ b ∈ FG, WX.heap.size ≤ b) := Lib.hid (gG); clear ftG oG1 oG2 oG3 oG4 oG5 oG6 hFG hnG gG; simp only [cellsYardOut]))
  have DGX : Hid (∀ b ∈ FG, b ∉ FX) := Lib.hid (fun b h1 h2 => absurd (OConfig.lt OX.out b h2) (Nat.not_lt.2 (GG.out b h1)))
  have DSG : Hid (∀ b ∈ FS, b ∉ FG) := Lib.hid (fun b h1 h2 => absurd (OYardOut.lt OS.out b h1) (Nat.not_lt.2 (GG.out b h2)))
  have NAG : Hid (B ∉ FG) := Lib.hid (fun hb => absurd QA.out.lt (Nat.not_lt.2 (GG.out _ hb)))
  have NSG : Hid (BS ∉ FG) := Lib.hid (fun hb => absurd QS.out.lt (Nat.not_lt.2 (GG.out _ hb)))
  have GGw : Hid (∀ b ∈ FG, w.heap.size ≤ b) := Lib.hid (fun b hb => Nat.le_trans X.out.size (GG.out b hb))
  have XN := hx5
  clear xc hx5
  replace QA := Lib.hid (QA.out.ext XN)
  replace QS := Lib.hid (QS.out.ext XN)
  replace QX := Lib.hid (QX.out.ext XN)
  replace X := Lib.hid (X.out.trans XN)
  replace OS := Lib.hid (ownx OS.out XN)
  replace OX := Lib.hid (ownx OX.out XN)
  clear XN
  have NGX : Hid (w5.heap.size ∉ FX) := Lib.hid (fun hb => absurd (OConfig.lt OX.out _ hb) (Nat.lt_irrefl _))
  have NGG : Hid (w5.heap.size ∉ FG) := Lib.hid (fun hb => absurd (OYardOut.lt OG.out _ hb) (Nat.lt_irrefl _))
  obtain ⟨WG, BG, hW, hB, hx4, bx⟩ : ∃ W B, W = w5.alloc (.cells #[.slice AG1 m.yard.config.nodes.length cG1, .slice AG2 m.yard.config.pairs.length cG2, .slice AG3 m.yard.config.quotas.length cG3, .int .i64 m.yard.config.half, .slice AG4 m.yard.nodes.length cG4, .slice AG5 m.yard.tasks.length cG5, .slice AG6 m.yard.uses.length cG6, .int .i64 m.yard.now, .int .i64 m.id, .int .i64 m.code] 39) ∧ B = w5.heap.size ∧ Ext w5 W ∧ Blk W B 39 #[.slice AG1 m.yard.config.nodes.length cG1, .slice AG2 m.yard.config.pairs.length cG2, .slice AG3 m.yard.config.quotas.length cG3, .int .i64 m.yard.config.half, .slice AG4 m.yard.nodes.length cG4, .slice AG5 m.yard.tasks.length cG5, .slice AG6 m.yard.uses.length cG6, .int .i64 m.yard.now, .int .i64 m.id, .int .i64 m.code] := ⟨_, _, rfl, rfl, (Ext.refl _).alloc _, Blk.new _ _ _⟩
  rw [← hW, ← hB]
  have QG := Lib.hid bx
  have EG : Hid (BG = w5.heap.size) := Lib.hid hB
  have XN := hx4
  clear hW hB hx4 bx
  replace QA := Lib.hid (QA.out.ext XN)
  replace QS := Lib.hid (QS.out.ext XN)
  replace QX := Lib.hid (QX.out.ext XN)
  replace X := Lib.hid (X.out.trans XN)
  replace OS := Lib.hid (ownx OS.out XN)
  replace OX := Lib.hid (ownx OX.out XN)
  replace OG := Lib.hid (ownx OG.out XN)
  clear XN
  rw [← EG.out] at NGX NGG
  have sc := QS.out.cell
  have gc := QG.out.cell
  go_upto_region 10 with (go_at_call 10; (with_reducible refine (eqYardOut_any m m _ _ _ (OYardOut.rel OG.out) (OYardOut.rel OS.out)).mono ?_); rintro e w6 ⟨rfl, hx⟩; have H := Lib.hid hx; clear hx)
  have XN := H.out
  clear sc gc H
  replace QA := Lib.hid (QA.out.ext XN)
  replace QS := Lib.hid (QS.out.ext XN)
  replace QX := Lib.hid (QX.out.ext XN)
  replace QG := Lib.hid (QG.out.ext XN)
  replace X := Lib.hid (X.out.trans XN)
  replace OS := Lib.hid (ownx OS.out XN)
  replace OX := Lib.hid (ownx OX.out XN)
  replace OG := Lib.hid (ownx OG.out XN)
  clear XN
  have al_a : ∀ V, Ext w6 V → ∀ i, V.cell? ⟨B, i, none⟩ = _ := fun V hx => (QA.out.ext hx).cell
  have al_x : ∀ V, Ext w6 V → ∀ i, V.cell? ⟨BX, i, none⟩ = _ := fun V hx => (QX.out.ext hx).cell
  go_region_held3 (fun V => Ext w6 V) (first | exact Ext.refl _ | exact (Ext.refl _).drew | assumption | exact Ext.alloc (by assumption) _ | exact Ext.trans (by assumption) hx40 | exact Ext.trans (by assumption) hx42) (first | (go_at_call 8; (with_reducible refine (toConfig_any (S := S) c _ _ (rel_Config FC.out (R1.out.ext (X.out.trans (by assumption))) (R2.out.ext (X.out.trans (by assumption))) (R3.out.ext (X.out.trans (by assumption)))) M.out).mono ?_); rintro e wa40 ⟨_, rfl, ⟨u1, u2, u3, rfl, ff, r1, r2, r3⟩, hx40⟩; clear ff; simp only [cellsConfig]; obtain ⟨D1, d1, rfl, -⟩ := Rd.form r1; obtain ⟨D2, d2, rfl, -⟩ := Rd.form r2; obtain ⟨D3, d3, rfl, -⟩ := Rd.form r3; have U1 := Lib.hid r1; have U2 := Lib.hid r2; have U3 := Lib.hid r3; clear r1 r2 r3) | (go_at_call 11; (with_reducible refine (eqConfig_any c c _ _ _ (OConfig.rel (ownx OX.out (by assumption))) (rel_Config FC.out (by first | exact U1.out | exact U1.out.ext (by assumption)) (by first | exact U2.out | exact U2.out.ext (by assumption)) (by first | exact U3.out | exact U3.out.ext (by assumption)))).mono ?_); rintro e w7 ⟨rfl, hx42⟩))
  all_goals clear al_a al_x
  have XN : Ext w6 w7 := by first | assumption | exact Ext.drew (by assumption)
  replace QA := Lib.hid (QA.out.ext XN)
  replace QS := Lib.hid (QS.out.ext XN)
  replace QX := Lib.hid (QX.out.ext XN)
  replace QG := Lib.hid (QG.out.ext XN)
  replace X := Lib.hid (X.out.trans XN)
  replace OS := Lib.hid (ownx OS.out XN)
  replace OX := Lib.hid (ownx OX.out XN)
  replace OG := Lib.hid (ownx OG.out XN)
  clear XN
  have hcx : (0 : Int) ≤ (cnt3 c : Nat) := Int.natCast_nonneg _
  have BND : Hid (1 + ((cnt3 c : Nat) : Int) ≤ 1125899906842624) := Lib.hid (cnt3_roomY M.out)
  have hcg : (0 : Int) ≤ (N : Int) := Int.natCast_nonneg _
  have xc := QX.out.cell
  go_upto_region 14 with (go_at_call 12; (with_reducible refine (markConfig_any c _ FX 1 _ OX.out (by decide) BND.out).mono ?_); rintro e w8 ⟨rfl, k8⟩; have K8 := Lib.hid k8; clear k8)
  clear xc
  replace OS := Lib.hid (ownk OS.out K8.out DSX.out)
  replace OG := Lib.hid (ownk OG.out K8.out DGX.out)
  replace QA : Hid (Blk w8 B 26 #[.slice A1 c.nodes.length c1, .slice A2 c.pairs.length c2, .slice A3 c.quotas.length c3, .int .i64 c.half]) := Lib.hid ((K8.out.block B QA.out.lt NAX.out).trans QA.out)
  replace QS : Hid (Blk w8 BS 39 #[.slice AS1 m.yard.config.nodes.length cS1, .slice AS2 m.yard.config.pairs.length cS2, .slice AS3 m.yard.config.quotas.length cS3, .int .i64 m.yard.config.half, .slice AS4 m.yard.nodes.length cS4, .slice AS5 m.yard.tasks.length cS5, .slice AS6 m.yard.uses.length cS6, .int .i64 m.yard.now, .int .i64 m.id, .int .i64 m.code]) := Lib.hid ((K8.out.block BS QS.out.lt NSX.out).trans QS.out)
  replace QG : Hid (Blk w8 BG 39 #[.slice AG1 m.yard.config.nodes.length cG1, .slice AG2 m.yard.config.pairs.length cG2, .slice AG3 m.yard.config.quotas.length cG3, .int .i64 m.yard.config.half, .slice AG4 m.yard.nodes.length cG4, .slice AG5 m.yard.tasks.length cG5, .slice AG6 m.yard.uses.length cG6, .int .i64 m.yard.now, .int .i64 m.id, .int .i64 m.code]) := Lib.hid ((K8.out.block BG QG.out.lt NGX.out).trans QG.out)
  replace X : Hid (Ext w w8) := Lib.hid (K8.out.ext X.out GXw.out)
  clear OX QX
  have hk1 : ¬ (1 + ((cnt3 c : Nat) : Int) < 0) := by omega
  have sc := QS.out.cell
  have gc := QG.out.cell
  go_upto_region 16 with (go_at_call 10; (with_reducible refine (eqYardOut_any m m _ _ _ (OYardOut.rel OG.out) (OYardOut.rel OS.out)).mono ?_); rintro e w9 ⟨rfl, hx⟩; have H := Lib.hid hx; clear hx)
  have XN := H.out
  clear sc gc H
  replace QA := Lib.hid (QA.out.ext XN)
  replace QS := Lib.hid (QS.out.ext XN)
  replace QG := Lib.hid (QG.out.ext XN)
  replace X := Lib.hid (X.out.trans XN)
  replace OS := Lib.hid (ownx OS.out XN)
  replace OG := Lib.hid (ownx OG.out XN)
  clear XN
  have gc := QG.out.cell
  go_upto_region 18 with (go_at_call 13; (with_reducible refine (markYardOut_is m _ FG N 1 _ OG.out HNN.out (by decide) BNG.out).mono ?_); rintro e w10 ⟨rfl, om, km⟩; have K10 := Lib.hid km; have OM := Lib.hid om; clear om km)
  clear gc
  replace OS := Lib.hid (ownk OS.out K10.out DSG.out)
  replace QA : Hid (Blk w10 B 26 #[.slice A1 c.nodes.length c1, .slice A2 c.pairs.length c2, .slice A3 c.quotas.length c3, .int .i64 c.half]) := Lib.hid ((K10.out.block B QA.out.lt NAG.out).trans QA.out)
  replace QS : Hid (Blk w10 BS 39 #[.slice AS1 m.yard.config.nodes.length cS1, .slice AS2 m.yard.config.pairs.length cS2, .slice AS3 m.yard.config.quotas.length cS3, .int .i64 m.yard.config.half, .slice AS4 m.yard.nodes.length cS4, .slice AS5 m.yard.tasks.length cS5, .slice AS6 m.yard.uses.length cS6, .int .i64 m.yard.now, .int .i64 m.id, .int .i64 m.code]) := Lib.hid ((K10.out.block BS QS.out.lt NSG.out).trans QS.out)
  replace QG : Hid (Blk w10 BG 39 #[.slice AG1 m.yard.config.nodes.length cG1, .slice AG2 m.yard.config.pairs.length cG2, .slice AG3 m.yard.config.quotas.length cG3, .int .i64 m.yard.config.half, .slice AG4 m.yard.nodes.length cG4, .slice AG5 m.yard.tasks.length cG5, .slice AG6 m.yard.uses.length cG6, .int .i64 m.yard.now, .int .i64 m.id, .int .i64 m.code]) := Lib.hid ((K10.out.block BG QG.out.lt NGG.out).trans QG.out)
  replace X : Hid (Ext w w10) := Lib.hid (K10.out.ext X.out GGw.out)
  clear OG
  have gc := QG.out.cell
  go_upto_region 24 with (go_at_call 14; (with_reducible refine (heldYardOut_is (S1 := fun b => b ∈ FG) m _ N 1 _ OM.out HNN.out (by decide) BNG.out).mono ?_); rintro e w11 ⟨rfl, hx⟩; have H := Lib.hid hx; clear hx)
  have XN := H.out
  clear gc H
  replace QA := Lib.hid (QA.out.ext XN)
  replace QS := Lib.hid (QS.out.ext XN)
  replace QG := Lib.hid (QG.out.ext XN)
  replace X := Lib.hid (X.out.trans XN)
  replace OS := Lib.hid (ownx OS.out XN)
  replace OM := Lib.hid (rel_ext OM.out XN)
  clear XN
  have ac := QA.out.cell
  go_upto_region 25 with (first | (go_at_call 8; (with_reducible refine (toConfig_any (S := S) c _ _ (rel_Config FC.out (R1.out.ext X.out) (R2.out.ext X.out) (R3.out.ext X.out)) M.out).mono ?_); rintro e wc ⟨_, rfl, ⟨u1, u2, u3, rfl, ff, r1, r2, r3⟩, hxc⟩; clear ff; simp only [cellsConfig]; obtain ⟨D1, d1, rfl, -⟩ := Rd.form r1; obtain ⟨D2, d2, rfl, -⟩ := Rd.form r2; obtain ⟨D3, d3, rfl, -⟩ := Rd.form r3; have U1 := Lib.hid r1; have U2 := Lib.hid r2; have U3 := Lib.hid r3; clear r1 r2 r3) | (go_at_call 9; (with_reducible refine (yardNew_any c _ _ (rel_Config FC.out U1.out U2.out U3.out)).mono ?_); rintro e w12 ⟨csH, FH, rfl, oH, gH, hx12⟩; rw [HM.out] at oH; obtain ⟨uH1, uH2, uH3, uH4, uH5, uH6, fH1, fH2, fH3, fH4, fH5, fH6, rfl, ftH, oH1, oH2, oH3, oH4, oH5, oH6, hFH, hnH⟩ := oH; obtain ⟨AH1, cH1, rfl, -⟩ := OwS.form oH1; obtain ⟨AH2, cH2, rfl, -⟩ := OwS.form oH2; obtain ⟨AH3, cH3, rfl, -⟩ := OwS.form oH3; obtain ⟨AH4, cH4, rfl, -⟩ := OwS.form oH4; obtain ⟨AH5, cH5, rfl, -⟩ := OwS.form oH5; obtain ⟨AH6, cH6, rfl, -⟩ := OwS.form oH6; have OH : Hid (OYardOut.own w12 [.slice AH1 m.yard.config.nodes.length cH1, .slice AH2 m.yard.config.pairs.length cH2, .slice AH3 m.yard.config.quotas.length cH3, .int .i64 m.yard.config.half, .slice AH4 m.yard.nodes.length cH4, .slice AH5 m.yard.tasks.length cH5, .slice AH6 m.yard.uses.length cH6, .int .i64 m.yard.now, .int .i64 m.id, .int .i64 m.code] m FH) := Lib.hid ⟨_, _, _, _, _, _, fH1, fH2, fH3, fH4, fH5, fH6, rfl, ftH, oH1, oH2, oH3, oH4, oH5, oH6, hFH, hnH⟩; have GH : Hid (∀ b ∈ FH, w11.heap.size ≤ b) := Lib.hid (fun b hb => Nat.le_trans (Ext.size hxc) (gH b hb)); clear ftH oH1 oH2 oH3 oH4 oH5 oH6 hFH hnH gH; simp only [cellsYardOut]))
  clear ac U1 U2 U3
  have XN := hxc.trans hx12
  clear hxc hx12
  replace QS := Lib.hid (QS.out.ext XN)
  replace QG := Lib.hid (QG.out.ext XN)
  replace X := Lib.hid (X.out.trans XN)
  replace OS := Lib.hid (ownx OS.out XN)
  replace OM := Lib.hid (rel_ext OM.out XN)
  clear XN
  obtain ⟨WH, BH, hW, hB, hx4, bx⟩ : ∃ W B, W = w12.alloc (.cells #[.slice AH1 m.yard.config.nodes.length cH1, .slice AH2 m.yard.config.pairs.length cH2, .slice AH3 m.yard.config.quotas.length cH3, .int .i64 m.yard.config.half, .slice AH4 m.yard.nodes.length cH4, .slice AH5 m.yard.tasks.length cH5, .slice AH6 m.yard.uses.length cH6, .int .i64 m.yard.now, .int .i64 m.id, .int .i64 m.code] 39) ∧ B = w12.heap.size ∧ Ext w12 W ∧ Blk W B 39 #[.slice AH1 m.yard.config.nodes.length cH1, .slice AH2 m.yard.config.pairs.length cH2, .slice AH3 m.yard.config.quotas.length cH3, .int .i64 m.yard.config.half, .slice AH4 m.yard.nodes.length cH4, .slice AH5 m.yard.tasks.length cH5, .slice AH6 m.yard.uses.length cH6, .int .i64 m.yard.now, .int .i64 m.id, .int .i64 m.code] := ⟨_, _, rfl, rfl, (Ext.refl _).alloc _, Blk.new _ _ _⟩
  rw [← hW, ← hB]
  have QH := Lib.hid bx
  have EH : Hid (BH = w12.heap.size) := Lib.hid hB
  have XN := hx4
  clear hW hB hx4 bx
  replace QS := Lib.hid (QS.out.ext XN)
  replace QG := Lib.hid (QG.out.ext XN)
  replace X := Lib.hid (X.out.trans XN)
  replace OS := Lib.hid (ownx OS.out XN)
  replace OM := Lib.hid (rel_ext OM.out XN)
  replace OH := Lib.hid (ownx OH.out XN)
  clear XN
  have sc := QS.out.cell
  have kc := QH.out.cell
  go_upto_region 27 with (go_at_call 10; (with_reducible refine (eqYardOut_any m m _ _ _ (OYardOut.rel OH.out) (OYardOut.rel OS.out)).mono ?_); rintro e w13 ⟨rfl, hx⟩; have H := Lib.hid hx; clear hx)
  have XN := H.out
  clear sc kc H
  replace QG := Lib.hid (QG.out.ext XN)
  replace X := Lib.hid (X.out.trans XN)
  replace OM := Lib.hid (rel_ext OM.out XN)
  clear XN
  have gc := QG.out.cell
  go_wp2_with (go_at_call 14; (with_reducible refine (heldYardOut_is (S1 := fun b => b ∈ FG) m _ N 1 _ OM.out HNN.out (by decide) BNG.out).mono ?_); rintro e w14 ⟨rfl, hx⟩; have X14 := Lib.hid (X.out.trans hx); clear hx)
  go_ret
  exact ⟨rfl, X14.out⟩

set_option maxRecDepth 100000 in
theorem fnExactYardNew_lifted (os : Os) (started : os.Started) (H : Type) (enc : TypeId × Value → H) :
    ReturnsInHanded {} Tryz.checked os 3 .any (Rows.fnExactYardNewSpec.pre6 enc Tryz.prog Tryz.f3 Rows.fnExactYardNewRow.domain false) (Rows.fnExactYardNewSpec.post enc Tryz.prog Tryz.f3 false true false false) := by
  refine returnsInHanded_of_change (C := Tryz.checked) (show ownKnob Tryz.prog.godebug = none by kernel_rfl) started (by kernel_rfl) Tryz.func3
    (ChangeSpec.witness6 (enc := enc) (C := Tryz.checked) false ⟨#[], #[.agg #[.slice none 0 0, .slice none 0 0, .slice none 0 0, .int .i64 0]], []⟩ 8 (by kernel_rfl) (by kernel_rfl) (by kernel_rfl) (by kernel_rfl)) ?_
  intro W base args ds gs before hval0 hW hcnd _
  have hval : ∀ (j : Nat) t v, Tryz.f3.params[j]? = some t → args[j]? = some v → Value.okWide Tryz.prog W .any base t v := hval0
  have hW' := hW
  obtain ⟨p, q, hA0, hV, rfl, hfz, hnd⟩ := hW
  have hA : DataW.TrodAll enc Tryz.prog W 0 (fun _ => true) true Tryz.f3.params.toList args.toList ds p := hA0
  rw [Tryz.params3] at hA hval
  obtain ⟨v0, d0, rfl, rfl, h0⟩ := trodAll_one hA
  obtain ⟨rfl, rfl⟩ := trodVars_none hV
  obtain ⟨fu0, hf0⟩ := h0
  obtain ⟨cc, rcc⟩ := opens_Config hf0
  obtain ⟨⟨cs0⟩, rfl, hsz0⟩ := okWide_struct Tryz.underlying26 (hval 0 26 v0 rfl rfl)
  simp only [Value.cells] at rcc
  clear hf0 hsz0
  clear hA0 hval0 hval hcnd
  refine (fnExactYardNew_walk cc _ W rcc).mono fun e W2 ⟨he, hx⟩ => ?_
  subst he
  exact ⟨_, rfl, law_post (by kernel_rfl) (by kernel_rfl) Tryz.underlying4 (by intro t ht; rw [Tryz.params3] at ht; simp only [List.mem_cons, List.not_mem_nil, or_false] at ht; rcases ht with rfl <;> exact ⟨by kernel_rfl, of_decide_eq_true (by kernel_rfl)⟩) rfl rfl hW' hx⟩

theorem fnExactYardNew_holds : Rows.FnExactYardNewSaid :=
  OpenClaim.holds_of_wide 3 Tryz.f3 rfl rfl rfl rfl rfl rfl rfl ⟨rfl, rfl, rfl, rfl, rfl⟩ rfl rfl rfl rfl rfl (by kernel_rfl) Tryz.func3 fnExactYardNew_closed
    (of_decide_eq_true (by kernel_rfl)) (by unfold Func.isWrapper; rw [if_neg (of_decide_eq_false (by kernel_rfl))]; exact ⟨rfl, rfl⟩)
    (fun os started H enc _ => fnExactYardNew_lifted os started H enc)
end Go.Proofs.YtocomclenbhhaaaGreat

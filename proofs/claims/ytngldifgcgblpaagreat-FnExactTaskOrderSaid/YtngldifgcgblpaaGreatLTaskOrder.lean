/- TaskOrder of the reference; the bound of what its result counts. Printed by wip/lawt.py. The law FnExactTaskOrder: the program's TaskOrder and the reference's are equal; its row. The conditions: none. Printed by wip/lawt.py. -/
import Derived.Test.YtngldifgcgblpaaGreatOrderS
import Derived.Test.YtngldifgcgblpaaGreatYardLb
import Derived.Test.YtngldifgcgblpaaGreatYardTs
import Derived.Test.YtngldifgcgblpaaGreatKTaskOrder
import Derived.Test.YtngldifgcgblpaaGreatGYardE
import Derived.Deep.RegionHeld3
import Derived.ChangeMaps5
namespace Go.Proofs.YtngldifgcgblpaaGreat
open Go.RowKit
attribute [local irreducible] wpQuiet

theorem cnt_order (y : Yard) : 1 + ((cntL cntTask (orderY y) : Nat) : Int) ≤ 1125899906842624 := by
  unfold orderY
  split
  · rename_i hr
    have h0 := few_tasks (right_tasks hr)
    have h1 := List.length_filter_le (goesT y) y.tasks
    have h2 : (orderT y).length ≤ 96 := by rw [orderT, sortL_length]; omega
    have h3 := cnt_all (n := cntTask) (c := 1013) (l := orderT y) fun x hm => by
      have h4 := cnt_all (n := cntInt) (c := 1) (l := x.nodes) fun _ _ => Nat.le_refl _
      obtain ⟨c1, c2, c3, c4, c5, c6⟩ := tight_yard hr
      have h5 := c5 x (List.mem_filter.1 (sortL_mem.1 hm)).1
      unfold cntTask
      omega
    omega
  · decide
set_option maxHeartbeats 8000000 in
set_option maxRecDepth 100000 in
theorem specTaskOrder_any {S : Nat → Prop} (y : Yard) (cs : List Value) (w : World) (h : EYard.rel S w cs y) :
    Calls Tryz.prog 38 #[.agg cs.toArray] w (RetO OTask 87 (orderY y) w) := by
  have H := Lib.hid h
  obtain ⟨v1, v2, v3, v4, v5, v6, rfl, hf, h1, h2, h3, h4, h5, h6⟩ := h
  obtain ⟨A1, c1, rfl, -⟩ := h1.form
  obtain ⟨A2, c2, rfl, -⟩ := h2.form
  obtain ⟨A3, c3, rfl, -⟩ := h3.form
  obtain ⟨A4, c4, rfl, -⟩ := h4.form
  obtain ⟨A5, c5, rfl, -⟩ := h5.form
  obtain ⟨A6, c6, rfl, -⟩ := h6.form
  clear hf h1 h2 h3 h4 h5 h6
  have HYR : Hid (∀ V, Ext w V → EYard.rel S V [.slice A1 y.config.nodes.length c1, .slice A2 y.config.pairs.length c2, .slice A3 y.config.quotas.length c3, .int .i64 y.config.half, .slice A4 y.nodes.length c4, .slice A5 y.tasks.length c5, .slice A6 y.uses.length c6, .int .i64 y.now] y) := Lib.hid fun V hV => EYard.keep (hV.same _) H.out
  obtain ⟨t, ht⟩ : ∃ t, yardRight y = t := ⟨_, rfl⟩
  have HT := Lib.hid ht
  clear ht
  simp only [cellsYard]
  go_enter Tryz.func38, Tryz.ntmps38
  go_upto_region 1 with (fail)
  obtain ⟨W, B, hW, hB, hx0, a0⟩ : ∃ W B, W = w.alloc (.cells #[.slice A1 y.config.nodes.length c1, .slice A2 y.config.pairs.length c2, .slice A3 y.config.quotas.length c3, .int .i64 y.config.half, .slice A4 y.nodes.length c4, .slice A5 y.tasks.length c5, .slice A6 y.uses.length c6, .int .i64 y.now] 44) ∧ B = w.heap.size ∧ Ext w W ∧ Blk W B 44 #[.slice A1 y.config.nodes.length c1, .slice A2 y.config.pairs.length c2, .slice A3 y.config.quotas.length c3, .int .i64 y.config.half, .slice A4 y.nodes.length c4, .slice A5 y.tasks.length c5, .slice A6 y.uses.length c6, .int .i64 y.now] := ⟨_, _, rfl, rfl, (Ext.refl w).alloc _, Blk.new _ _ _⟩
  rw [← hW, ← hB]
  have X := Lib.hid hx0
  have QA := Lib.hid a0
  clear hW hB hx0 a0
  have qa := QA.out.cell
  cases t with
  | false =>
    go_wp2_with (go_at_call 82; (with_reducible refine (specYardRight_is (S := S) y _ _ (HYR.out _ X.out) _ HT.out).mono ?_); rintro e w7 ⟨rfl, hx7⟩; have X7 := Lib.hid (X.out.trans hx7); clear hx7)
    go_ret
    exact ⟨_, [], rfl, by rw [orderY, if_neg (by simp [HT.out])]; exact OwS.nil _, fun b hb => absurd hb (by simp), X7.out.alloc _⟩
  | true =>
    go_wp2_with (first
      | (go_at_call 82; (with_reducible refine (specYardRight_is (S := S) y _ _ (HYR.out _ X.out) _ HT.out).mono ?_); rintro e w7 ⟨rfl, hx7⟩; replace X := Lib.hid (X.out.trans hx7); replace QA := Lib.hid (QA.out.ext hx7); clear hx7 qa; have qa := QA.out.cell)
      | (go_at_call 96; (with_reducible refine (l14Order_any (S := S) y _ _ (HYR.out _ X.out) HT.out).mono ?_); rintro e w8 ⟨v8, F8, rfl, o8, g8, hx8⟩; have O8 := Lib.hid o8; have G8 := Lib.hid g8; have X8 := Lib.hid (X.out.trans hx8); clear o8 g8 hx8))
    go_ret
    exact ⟨_, F8, rfl, by rw [orderY, if_pos HT.out]; exact O8.out, fun b hb => Nat.le_trans X.out.size (G8.out b hb), X8.out⟩
end Go.Proofs.YtngldifgcgblpaaGreat

namespace Go.Proofs.YtngldifgcgblpaaGreat
open Go.ChangeShapes Go.WideShapes Go.ChangeAt Go.RowKit Go.ChangeMaps
attribute [local irreducible] wpQuiet

set_option maxHeartbeats 64000000 in
set_option maxRecDepth 100000 in
theorem fnExactTaskOrder_walk {S : Nat → Prop} (y : Yard) (csy : List Value) (w : World) (hy : EYard.rel S w csy y) :
    Calls Tryz.prog 11 #[.agg csy.toArray] w fun e w' => e = .returned (.bool true) ∧ Ext w w' := by
  have h0 : (0 : Int) ≤ 1048576 := by decide
  obtain ⟨v1, v2, v3, v4, v5, v6, rfl, hf, h1, h2, h3, h4, h5, h6⟩ := hy
  obtain ⟨A1, c1, rfl, -⟩ := h1.form
  obtain ⟨A2, c2, rfl, -⟩ := h2.form
  obtain ⟨A3, c3, rfl, -⟩ := h3.form
  obtain ⟨A4, c4, rfl, -⟩ := h4.form
  obtain ⟨A5, c5, rfl, -⟩ := h5.form
  obtain ⟨A6, c6, rfl, -⟩ := h6.form
  have FY := Lib.hid hf
  have R1 := Lib.hid h1
  have R2 := Lib.hid h2
  have R3 := Lib.hid h3
  have R4 := Lib.hid h4
  have R5 := Lib.hid h5
  have R6 := Lib.hid h6
  clear hf h1 h2 h3 h4 h5 h6
  simp only [cellsYard]
  have BNG0 := cnt_order y
  obtain ⟨m, hm⟩ : ∃ m, orderY y = m := ⟨_, rfl⟩
  rw [hm] at BNG0
  obtain ⟨N6, hN6⟩ : ∃ N, cnt6 y = N := ⟨_, rfl⟩
  have BNG := Lib.hid BNG0
  have HM := Lib.hid hm
  have HN6 := Lib.hid hN6
  clear BNG0 hm hN6
  go_enter Tryz.func11, Tryz.ntmps11
  go_upto_region 1 with (fail)
  obtain ⟨W0, B, hW, hB, hx0, b0⟩ : ∃ W B, W = w.alloc (.cells #[.slice A1 y.config.nodes.length c1, .slice A2 y.config.pairs.length c2, .slice A3 y.config.quotas.length c3, .int .i64 y.config.half, .slice A4 y.nodes.length c4, .slice A5 y.tasks.length c5, .slice A6 y.uses.length c6, .int .i64 y.now] 31) ∧ B = w.heap.size ∧ Ext w W ∧ Blk W B 31 #[.slice A1 y.config.nodes.length c1, .slice A2 y.config.pairs.length c2, .slice A3 y.config.quotas.length c3, .int .i64 y.config.half, .slice A4 y.nodes.length c4, .slice A5 y.tasks.length c5, .slice A6 y.uses.length c6, .int .i64 y.now] := ⟨_, _, rfl, rfl, (Ext.refl _).alloc _, Blk.new _ _ _⟩
  rw [← hW, ← hB]
  have QA : Hid (Blk W0 B 31 #[.slice A1 y.config.nodes.length c1, .slice A2 y.config.pairs.length c2, .slice A3 y.config.quotas.length c3, .int .i64 y.config.half, .slice A4 y.nodes.length c4, .slice A5 y.tasks.length c5, .slice A6 y.uses.length c6, .int .i64 y.now]) := Lib.hid b0
  have X := Lib.hid hx0
  clear hW hB hx0 b0
  have ac := QA.out.cell
  by_cases hs : szYard y 1048576 < 0
  · go_wp2_with fail
    refine (szYard_any y _ 1048576 _ (rel_Yard FY.out (R1.out.ext X.out) (R2.out.ext X.out) (R3.out.ext X.out) (R4.out.ext X.out) (R5.out.ext X.out) (R6.out.ext X.out)) h0 (Int.le_refl _)).mono ?_
    rintro e w1 ⟨rfl, hx⟩
    have X1 := Lib.hid (X.out.trans hx)
    clear hx ac
    go_wp2_with fail
    go_ret
    exact ⟨rfl, X1.out⟩
  have hp : 0 ≤ szYard y 1048576 := by omega
  have M := Lib.hid (small_szYard h0 (Int.le_refl _) hp)
  clear hs
  go_wp2_with fail
  refine (szYard_any y _ 1048576 _ (rel_Yard FY.out (R1.out.ext X.out) (R2.out.ext X.out) (R3.out.ext X.out) (R4.out.ext X.out) (R5.out.ext X.out) (R6.out.ext X.out)) h0 (Int.le_refl _)).mono ?_
  rintro e w1 ⟨rfl, hx⟩
  generalize szYard y 1048576 = q at *
  replace QA := Lib.hid (QA.out.ext hx)
  replace X := Lib.hid (X.out.trans hx)
  clear hx ac
  have ac := QA.out.cell
  go_upto_region 6 with (first | (go_at_call 15; (with_reducible refine (toYard_any (S := S) y _ _ (rel_Yard FY.out (R1.out.ext X.out) (R2.out.ext X.out) (R3.out.ext X.out) (R4.out.ext X.out) (R5.out.ext X.out) (R6.out.ext X.out)) M.out).mono ?_); rintro e wa ⟨csT, rfl, rT, hxa⟩; have RT := Lib.hid rT; clear rT) | (go_at_call 38; (with_reducible refine (specTaskOrder_any y _ _ RT.out).mono ?_); rintro e w2 ⟨vS, FS, rfl, oS, gS, hx2⟩; rw [HM.out] at oS; obtain ⟨AS, cS, rfl, -⟩ := OwS.form oS; have OS := Lib.hid oS; have GS : Hid (∀ b ∈ FS, w1.heap.size ≤ b) := Lib.hid (fun b hb => Nat.le_trans (Ext.size hxa) (gS b hb)); clear oS gS))
  clear ac RT
  have XN := hxa.trans hx2
  clear hxa hx2
  replace QA := Lib.hid (QA.out.ext XN)
  replace X := Lib.hid (X.out.trans XN)
  clear XN
  have ac := QA.out.cell
  go_upto_region 7 with (go_at_call 15; (with_reducible refine (toYard_own (S := S) y _ _ (rel_Yard FY.out (R1.out.ext X.out) (R2.out.ext X.out) (R3.out.ext X.out) (R4.out.ext X.out) (R5.out.ext X.out) (R6.out.ext X.out)) M.out).mono ?_); rintro e w3 ⟨csx, FX, rfl, ⟨y1, y2, y3, y4, y5, y6, F1, F2, F3, F4, F5, F6, rfl, fx, o1, o2, o3, o4, o5, o6, hF, hn⟩, gX, hx⟩; obtain ⟨E1, e1, rfl, -⟩ := OwS.form o1; obtain ⟨E2, e2, rfl, -⟩ := OwS.form o2; obtain ⟨E3, e3, rfl, -⟩ := OwS.form o3; obtain ⟨E4, e4, rfl, -⟩ := OwS.form o4; obtain ⟨E5, e5, rfl, -⟩ := OwS.form o5; obtain ⟨E6, e6, rfl, -⟩ := OwS.form o6; have OX : Hid (OYard.own w3 [.slice E1 y.config.nodes.length e1, .slice E2 y.config.pairs.length e2, .slice E3 y.config.quotas.length e3, .int .i64 y.config.half, .slice E4 y.nodes.length e4, .slice E5 y.tasks.length e5, .slice E6 y.uses.length e6, .int .i64 y.now] y FX) := Lib.hid ⟨_, _, _, _, _, _, F1, F2, F3, F4, F5, F6, rfl, fx, o1, o2, o3, o4, o5, o6, hF, hn⟩; have GX := Lib.hid gX; have H3 := Lib.hid hx; clear fx o1 o2 o3 o4 o5 o6 hF hn gX hx; simp only [cellsYard])
  have DSX : Hid (∀ b ∈ FS, b ∉ FX) := Lib.hid (fun b h1 h2 => absurd (OS.out.lt b h1) (Nat.not_lt.2 (GX.out b h2)))
  have NAX : Hid (B ∉ FX) := Lib.hid (fun hb => absurd QA.out.lt (Nat.not_lt.2 (GX.out _ hb)))
  have GXw : Hid (∀ b ∈ FX, w.heap.size ≤ b) := Lib.hid (fun b hb => Nat.le_trans X.out.size (GX.out b hb))
  have XN := H3.out
  clear ac H3
  replace QA := Lib.hid (QA.out.ext XN)
  replace X := Lib.hid (X.out.trans XN)
  replace OS := Lib.hid (OS.out.ext XN)
  clear XN
  obtain ⟨WX, BX, hW, hB, hx4, bx⟩ : ∃ W B, W = w3.alloc (.cells #[.slice E1 y.config.nodes.length e1, .slice E2 y.config.pairs.length e2, .slice E3 y.config.quotas.length e3, .int .i64 y.config.half, .slice E4 y.nodes.length e4, .slice E5 y.tasks.length e5, .slice E6 y.uses.length e6, .int .i64 y.now] 44) ∧ B = w3.heap.size ∧ Ext w3 W ∧ Blk W B 44 #[.slice E1 y.config.nodes.length e1, .slice E2 y.config.pairs.length e2, .slice E3 y.config.quotas.length e3, .int .i64 y.config.half, .slice E4 y.nodes.length e4, .slice E5 y.tasks.length e5, .slice E6 y.uses.length e6, .int .i64 y.now] := ⟨_, _, rfl, rfl, (Ext.refl _).alloc _, Blk.new _ _ _⟩
  rw [← hW, ← hB]
  have QX := Lib.hid bx
  have XN := hx4
  clear hW hB hx4 bx
  replace QA := Lib.hid (QA.out.ext XN)
  replace X := Lib.hid (X.out.trans XN)
  replace OS := Lib.hid (OS.out.ext XN)
  replace OX := Lib.hid (ownx OX.out XN)
  clear XN
  have ac := QX.out.cell
  go_upto_region 8 with (go_at_call 39; (with_reducible refine (implTaskOrder_any (S := fun b => b ∈ FX) y _ _ (OYard.rel OX.out)).mono ?_); rintro e w5 ⟨vG, FG, rfl, oG, gG, hx5⟩; rw [HM.out] at oG; obtain ⟨AG, cG, rfl, -⟩ := OwS.form oG; have OG := Lib.hid oG; have GG : Hid (∀ b ∈ FG, WX.heap.size ≤ b) := Lib.hid (gG); clear oG gG)
  have DGX : Hid (∀ b ∈ FG, b ∉ FX) := Lib.hid (fun b h1 h2 => absurd (OYard.lt OX.out b h2) (Nat.not_lt.2 (GG.out b h1)))
  have DSG : Hid (∀ b ∈ FS, b ∉ FG) := Lib.hid (fun b h1 h2 => absurd (OS.out.lt b h1) (Nat.not_lt.2 (GG.out b h2)))
  have NAG : Hid (B ∉ FG) := Lib.hid (fun hb => absurd QA.out.lt (Nat.not_lt.2 (GG.out _ hb)))
  have GGw : Hid (∀ b ∈ FG, w.heap.size ≤ b) := Lib.hid (fun b hb => Nat.le_trans X.out.size (GG.out b hb))
  have XN := hx5
  clear ac hx5
  replace QA := Lib.hid (QA.out.ext XN)
  replace QX := Lib.hid (QX.out.ext XN)
  replace X := Lib.hid (X.out.trans XN)
  replace OS := Lib.hid (OS.out.ext XN)
  replace OX := Lib.hid (ownx OX.out XN)
  clear XN
  go_upto_region 10 with (go_at_call 40; (with_reducible refine (eqTaskS_any m m _ _ _ OG.out.rd OS.out.rd).mono ?_); rintro e w6 ⟨rfl, hx⟩; have H := Lib.hid hx; clear hx)
  have XN := H.out
  clear H
  replace QA := Lib.hid (QA.out.ext XN)
  replace QX := Lib.hid (QX.out.ext XN)
  replace X := Lib.hid (X.out.trans XN)
  replace OS := Lib.hid (OS.out.ext XN)
  replace OX := Lib.hid (ownx OX.out XN)
  replace OG := Lib.hid (OG.out.ext XN)
  clear XN
  have al_a : ∀ V, Ext w6 V → ∀ i, V.cell? ⟨B, i, none⟩ = _ := fun V hx => (QA.out.ext hx).cell
  have al_x : ∀ V, Ext w6 V → ∀ i, V.cell? ⟨BX, i, none⟩ = _ := fun V hx => (QX.out.ext hx).cell
  go_region_held3 (fun V => Ext w6 V) (first | exact Ext.refl _ | exact (Ext.refl _).drew | assumption | exact Ext.alloc (by assumption) _ | exact Ext.trans (by assumption) hx40 | exact Ext.trans (by assumption) hx42) (first | (go_at_call 15; (with_reducible refine (toYard_any (S := S) y _ _ (rel_Yard FY.out (R1.out.ext (X.out.trans (by assumption))) (R2.out.ext (X.out.trans (by assumption))) (R3.out.ext (X.out.trans (by assumption))) (R4.out.ext (X.out.trans (by assumption))) (R5.out.ext (X.out.trans (by assumption))) (R6.out.ext (X.out.trans (by assumption)))) M.out).mono ?_); rintro e wa40 ⟨csT, rfl, rT, hx40⟩; have RT := Lib.hid rT; clear rT) | (go_at_call 19; (with_reducible refine (eqYard_any y y _ _ _ (OYard.rel (ownx OX.out (by assumption))) (by first | exact RT.out | exact rel_ext RT.out (by assumption))).mono ?_); rintro e w7 ⟨rfl, hx42⟩))
  all_goals clear al_a al_x
  have XN : Ext w6 w7 := by first | assumption | exact Ext.drew (by assumption)
  clear RT
  replace QA := Lib.hid (QA.out.ext XN)
  replace QX := Lib.hid (QX.out.ext XN)
  replace X := Lib.hid (X.out.trans XN)
  replace OS := Lib.hid (OS.out.ext XN)
  replace OX := Lib.hid (ownx OX.out XN)
  replace OG := Lib.hid (OG.out.ext XN)
  clear XN
  have hcx : (0 : Int) ≤ (N6 : Int) := Int.natCast_nonneg _
  have BND : Hid (1 + (N6 : Int) ≤ 1125899906842624) := Lib.hid (by rw [← HN6.out]; exact cnt6_room M.out)
  have xc := QX.out.cell
  go_upto_region 14 with (go_at_call 20; (with_reducible refine (markYard_is y _ FX N6 1 _ OX.out HN6.out (by decide) BND.out).mono ?_); rintro e w8 ⟨rfl, k8⟩; have K8 := Lib.hid k8; clear k8)
  clear xc
  replace OS := Lib.hid (OS.out.kept K8.out DSX.out)
  replace OG := Lib.hid (OG.out.kept K8.out DGX.out)
  replace QA : Hid (Blk w8 B 31 #[.slice A1 y.config.nodes.length c1, .slice A2 y.config.pairs.length c2, .slice A3 y.config.quotas.length c3, .int .i64 y.config.half, .slice A4 y.nodes.length c4, .slice A5 y.tasks.length c5, .slice A6 y.uses.length c6, .int .i64 y.now]) := Lib.hid ((K8.out.block _ QA.out.lt NAX.out).trans QA.out)
  replace X : Hid (Ext w w8) := Lib.hid (K8.out.ext X.out GXw.out)
  clear OX QX
  have hk1 : ¬ (1 + (N6 : Int) < 0) := by omega
  go_upto_region 16 with (go_at_call 40; (with_reducible refine (eqTaskS_any m m _ _ _ OG.out.rd OS.out.rd).mono ?_); rintro e w9 ⟨rfl, hx⟩; have H := Lib.hid hx; clear hx)
  have XN := H.out
  clear H
  replace QA := Lib.hid (QA.out.ext XN)
  replace X := Lib.hid (X.out.trans XN)
  replace OS := Lib.hid (OS.out.ext XN)
  replace OG := Lib.hid (OG.out.ext XN)
  clear XN
  have hcg : (0 : Int) ≤ ((cntL cntTask m : Nat) : Int) := Int.natCast_nonneg _
  go_upto_region 18 with (go_at_call 41; (with_reducible refine (markTaskS_any m _ FG 1 _ OG.out (by decide) BNG.out).mono ?_); rintro e w10 ⟨rfl, om, km⟩; have K10 := Lib.hid km; have OM := Lib.hid om; clear om km)
  replace OS := Lib.hid (OS.out.kept K10.out DSG.out)
  replace QA : Hid (Blk w10 B 31 #[.slice A1 y.config.nodes.length c1, .slice A2 y.config.pairs.length c2, .slice A3 y.config.quotas.length c3, .int .i64 y.config.half, .slice A4 y.nodes.length c4, .slice A5 y.tasks.length c5, .slice A6 y.uses.length c6, .int .i64 y.now]) := Lib.hid ((K10.out.block _ QA.out.lt NAG.out).trans QA.out)
  replace X : Hid (Ext w w10) := Lib.hid (K10.out.ext X.out GGw.out)
  clear OG
  go_upto_region 24 with (go_at_call 42; (with_reducible refine (heldTaskS_any (S := fun b => b ∈ FG) m _ 1 _ OM.out.rd (by decide) BNG.out).mono ?_); rintro e w11 ⟨rfl, hx⟩; have H := Lib.hid hx; clear hx)
  have XN := H.out
  clear H
  replace QA := Lib.hid (QA.out.ext XN)
  replace X := Lib.hid (X.out.trans XN)
  replace OS := Lib.hid (OS.out.ext XN)
  replace OM := Lib.hid (OM.out.ext XN)
  clear XN
  have ac := QA.out.cell
  go_upto_region 25 with (first | (go_at_call 15; (with_reducible refine (toYard_any (S := S) y _ _ (rel_Yard FY.out (R1.out.ext X.out) (R2.out.ext X.out) (R3.out.ext X.out) (R4.out.ext X.out) (R5.out.ext X.out) (R6.out.ext X.out)) M.out).mono ?_); rintro e wc ⟨csT, rfl, rT, hxc⟩; have RT := Lib.hid rT; clear rT) | (go_at_call 39; (with_reducible refine (implTaskOrder_any y _ _ RT.out).mono ?_); rintro e w12 ⟨vH, FH, rfl, oH, gH, hx12⟩; rw [HM.out] at oH; obtain ⟨AH, cH, rfl, -⟩ := OwS.form oH; have OH := Lib.hid oH; have GH : Hid (∀ b ∈ FH, w11.heap.size ≤ b) := Lib.hid (fun b hb => Nat.le_trans (Ext.size hxc) (gH b hb)); clear oH gH))
  clear ac RT
  have XN := hxc.trans hx12
  clear hxc hx12
  replace X := Lib.hid (X.out.trans XN)
  replace OS := Lib.hid (OS.out.ext XN)
  replace OM := Lib.hid (OM.out.ext XN)
  clear XN
  go_upto_region 27 with (go_at_call 40; (with_reducible refine (eqTaskS_any m m _ _ _ OH.out.rd OS.out.rd).mono ?_); rintro e w13 ⟨rfl, hx⟩; have H := Lib.hid hx; clear hx)
  have XN := H.out
  clear H
  replace X := Lib.hid (X.out.trans XN)
  replace OM := Lib.hid (OM.out.ext XN)
  clear XN
  go_wp2_with (go_at_call 42; (with_reducible refine (heldTaskS_any (S := fun b => b ∈ FG) m _ 1 _ OM.out.rd (by decide) BNG.out).mono ?_); rintro e w14 ⟨rfl, hx⟩; have X14 := Lib.hid (X.out.trans hx); clear hx)
  go_ret
  exact ⟨rfl, X14.out⟩

set_option maxRecDepth 100000 in
theorem fnExactTaskOrder_lifted (os : Os) (started : os.Started) (H : Type) (enc : TypeId × Value → H) :
    ReturnsInHanded {} Tryz.checked os 11 .any (Rows.fnExactTaskOrderSpec.pre6 enc Tryz.prog Tryz.f11 Rows.fnExactTaskOrderRow.domain false) (Rows.fnExactTaskOrderSpec.post enc Tryz.prog Tryz.f11 false true false false) := by
  refine returnsInHanded_of_change (C := Tryz.checked) (show ownKnob Tryz.prog.godebug = none by kernel_rfl) started (by kernel_rfl) Tryz.func11
    (ChangeSpec.witness6 (enc := enc) (C := Tryz.checked) false ⟨#[], #[.agg #[.slice none 0 0, .slice none 0 0, .slice none 0 0, .int .i64 0, .slice none 0 0, .slice none 0 0, .slice none 0 0, .int .i64 0]], []⟩ 8 (by kernel_rfl) (by kernel_rfl) (by kernel_rfl) (by kernel_rfl)) ?_
  intro W base args ds gs before hval0 hW hcnd _
  have hval : ∀ (j : Nat) t v, Tryz.f11.params[j]? = some t → args[j]? = some v → Value.okWide Tryz.prog W .any base t v := hval0
  have hW' := hW
  obtain ⟨p, q, hA0, hV, rfl, hfz, hnd⟩ := hW
  have hA : DataW.TrodAll enc Tryz.prog W 0 (fun _ => true) true Tryz.f11.params.toList args.toList ds p := hA0
  rw [Tryz.params11] at hA hval
  obtain ⟨v0, d0, rfl, rfl, h0⟩ := trodAll_one hA
  obtain ⟨rfl, rfl⟩ := trodVars_none hV
  obtain ⟨fu0, hf0⟩ := h0
  obtain ⟨y1, ry1⟩ := opens_Yard hf0
  obtain ⟨⟨cs0⟩, rfl, hsz0⟩ := okWide_struct Tryz.underlying31 (hval 0 31 v0 rfl rfl)
  simp only [Value.cells] at ry1
  clear hf0 hsz0
  clear hA0 hval0 hval hcnd
  refine (fnExactTaskOrder_walk y1 _ W ry1).mono fun e W2 ⟨he, hx⟩ => ?_
  subst he
  exact ⟨_, rfl, law_post (by kernel_rfl) (by kernel_rfl) Tryz.underlying4 (by intro t ht; rw [Tryz.params11] at ht; simp only [List.mem_cons, List.not_mem_nil, or_false] at ht; rcases ht with rfl <;> exact ⟨by kernel_rfl, of_decide_eq_true (by kernel_rfl)⟩) rfl rfl hW' hx⟩

theorem fnExactTaskOrder_holds : Rows.FnExactTaskOrderSaid :=
  OpenClaim.holds_of_wide 11 Tryz.f11 rfl rfl rfl rfl rfl rfl rfl ⟨rfl, rfl, rfl, rfl, rfl⟩ rfl rfl rfl rfl rfl (by kernel_rfl) Tryz.func11 fnExactTaskOrder_closed
    (of_decide_eq_true (by kernel_rfl)) (by unfold Func.isWrapper; rw [if_neg (of_decide_eq_false (by kernel_rfl))]; exact ⟨rfl, rfl⟩)
    (fun os started H enc _ => fnExactTaskOrder_lifted os started H enc)
end Go.Proofs.YtngldifgcgblpaaGreat

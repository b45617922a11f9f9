/- The law FnExactClearFor: the program's ClearFor and the reference's are equal; its row. The conditions: none. Printed by wip/lawc.py. -/
import Derived.Test.YtdhcbbbmajjehaaKClearFor
import Derived.Test.YtdhcbbbmajjehaaConfW
import Derived.Test.YtdhcbbbmajjehaaGTo
import Derived.Test.YtdhcbbbmajjehaaGToO
import Derived.Test.YtdhcbbbmajjehaaGMarkC
import Derived.Test.YtdhcbbbmajjehaaCounts
import Derived.Test.YtdhcbbbmajjehaaGHeld
import Derived.Test.YtdhcbbbmajjehaaGEq
import Derived.Test.YtdhcbbbmajjehaaGSz
import Derived.Test.YtdhcbbbmajjehaaGOpen
import Derived.Deep.RegionHeld3
import Derived.ChangeMaps5
namespace Go.Proofs.Ytdhcbbbmajjehaa
open Go.ChangeShapes Go.WideShapes Go.ChangeAt Go.RowKit Go.ChangeMaps
attribute [local irreducible] wpQuiet

theorem clearFor_length (c : Config) (a : Label) : (clearFor c a).length ≤ 6 := by
  unfold clearFor
  split
  · rename_i h
    have h1 := clearOf_length c.nodes a c.nodes.length
    have h2 := clear_length (config_clear h)
    omega
  · simp
theorem cnt3_small {c : Config} (h : SmConfig c) : 1 + ((cnt3 c : Nat) : Int) ≤ 1125899906842624 := by
  obtain ⟨h1, h2, h3⟩ := h
  have a1 := cnt_all (n := cntL cntLabel) (c := 1048576 * 2) (l := c.nodes) fun l hl => by
    have := cnt_all (n := cntLabel) (c := 2) (l := l) fun _ _ => Nat.le_refl _
    have := (h1.2 l hl).1
    omega
  have a2 := cnt_all (n := cntPair) (c := 5) (l := c.pairs) fun _ _ => Nat.le_refl _
  have a3 := cnt_all (n := cntQuota) (c := 3) (l := c.quotas) fun _ _ => Nat.le_refl _
  have b1 := h1.1
  have b2 := h2.1
  have b3 := h3.1
  unfold cnt3
  omega
theorem cntInt_clear (c : Config) (a : Label) : cntL cntInt (clearFor c a) ≤ 6 := by
  have h := clearFor_length c a
  have a := cnt_all (n := cntInt) (c := 1) (l := clearFor c a) fun _ _ => Nat.le_refl _
  omega

set_option maxHeartbeats 64000000 in
set_option maxRecDepth 100000 in
theorem fnExactClearFor_walk {S : Nat → Prop} (c : Config) (csc : List Value) (lab : Label) (cslab : List Value) (w : World) (hc : EConfig.rel S w csc c) (hlab : ELabel.rel S w cslab lab) :
    Calls Try.prog 6 #[.agg csc.toArray, .agg cslab.toArray] w fun e w' => e = .returned (.bool true) ∧ Ext w w' := by
  have h0 : (0 : Int) ≤ 1048576 := by decide
  obtain ⟨v1, v2, v3, rfl, hf, h1, h2, h3⟩ := hc
  obtain ⟨rfl, hfl⟩ := hlab
  obtain ⟨A1, c1, rfl, -⟩ := h1.form
  obtain ⟨A2, c2, rfl, -⟩ := h2.form
  obtain ⟨A3, c3, rfl, -⟩ := h3.form
  have FC := Lib.hid hf
  have FL := Lib.hid hfl
  have R1 := Lib.hid h1
  have R2 := Lib.hid h2
  have R3 := Lib.hid h3
  clear hf hfl h1 h2 h3
  simp only [cellsConfig, cellsLabel]
  go_enter Try.func6, Try.ntmps6
  go_upto_region 1 with (fail)
  obtain ⟨W0, B, hW, hB, hx0, b0, b1⟩ := boxes2 w #[.slice A1 c.nodes.length c1, .slice A2 c.pairs.length c2, .slice A3 c.quotas.length c3, .int .i64 c.half] #[.int .i64 lab.level, .int .i64 lab.set] 80 81
  rw [← hW, ← hB]
  have QA := Lib.hid b0
  have QB := Lib.hid b1
  have X := Lib.hid hx0
  clear hW hB hx0 b0 b1
  have ac := QA.out.cell
  by_cases hs : szConfig c 1048576 < 0
  · go_wp2_with fail
    refine (szConfig_any c _ 1048576 _ (rel_Config FC.out (R1.out.ext X.out) (R2.out.ext X.out) (R3.out.ext X.out)) h0 (Int.le_refl _)).mono ?_
    rintro e w1 ⟨rfl, hx⟩
    have X1 := Lib.hid (X.out.trans hx)
    clear hx ac
    go_wp2_with fail
    go_ret
    exact ⟨rfl, X1.out⟩
  have hp : 0 ≤ szConfig c 1048576 := by omega
  have M := Lib.hid (small_szConfig h0 (Int.le_refl _) hp)
  clear hs
  go_wp2_with fail
  refine (szConfig_any c _ 1048576 _ (rel_Config FC.out (R1.out.ext X.out) (R2.out.ext X.out) (R3.out.ext X.out)) h0 (Int.le_refl _)).mono ?_
  rintro e w1 ⟨rfl, hx⟩
  generalize szConfig c 1048576 = q at *
  replace QA := Lib.hid (QA.out.ext hx)
  replace QB := Lib.hid (QB.out.ext hx)
  replace X := Lib.hid (X.out.trans hx)
  clear hx ac
  have ML : Hid (SmLabel lab) := Lib.hid trivial
  go_upto_region 5 with (fail)
  have al_a : ∀ V, Ext w1 V → ∀ i, V.cell? ⟨B, i, none⟩ = _ := fun V hx => (QA.out.ext hx).cell
  have al_b : ∀ V, Ext w1 V → ∀ i, V.cell? ⟨B + 1, i, none⟩ = _ := fun V hx => (QB.out.ext hx).cell
  go_region_held3 (fun V => Ext w1 V) (first | exact Ext.refl _ | exact (Ext.refl _).drew | assumption | exact Ext.alloc (by assumption) _ | exact Ext.trans (by assumption) hx20 | exact Ext.trans (by assumption) hx21 | exact Ext.trans (by assumption) hx22) (first | (go_at_call 55; (with_reducible refine (toConfig_any (S := S) c _ _ (rel_Config FC.out (R1.out.ext (X.out.trans (by assumption))) (R2.out.ext (X.out.trans (by assumption))) (R3.out.ext (X.out.trans (by assumption)))) M.out).mono ?_); rintro e wa20 ⟨_, rfl, ⟨u1, u2, u3, rfl, ff, r1, r2, r3⟩, hx20⟩; clear ff; simp only [cellsConfig]; obtain ⟨D1, d1, rfl, -⟩ := Rd.form r1; obtain ⟨D2, d2, rfl, -⟩ := Rd.form r2; obtain ⟨D3, d3, rfl, -⟩ := Rd.form r3; have U1 := Lib.hid r1; have U2 := Lib.hid r2; have U3 := Lib.hid r3; clear r1 r2 r3) | (go_at_call 56; (with_reducible refine (toLabel_any (S := S) lab _ _ (rel_Label FL.out) ML.out).mono ?_); rintro e wb20 ⟨_, rfl, ⟨rfl, ff⟩, hx21⟩; clear ff; simp only [cellsLabel]) | (go_at_call 54; (with_reducible refine (specClearFor_any c _ lab _ (rel_Config FC.out (by first | exact U1.out | exact U1.out.ext (by assumption)) (by first | exact U2.out | exact U2.out.ext (by assumption)) (by first | exact U3.out | exact U3.out.ext (by assumption)))).mono ?_); rintro e w2 ⟨vS, FS, rfl, oS, gS, hx22⟩; have OS := Lib.hid oS; have GS : Hid (∀ b ∈ FS, w1.heap.size ≤ b) := Lib.hid (fun b hb => Nat.le_trans (Ext.size (by assumption)) (gS b hb)); clear oS gS))
  all_goals clear al_a al_b
  have XN : Ext w1 w2 := by first | assumption | exact Ext.drew (by assumption)
  replace QA := Lib.hid (QA.out.ext XN)
  replace QB := Lib.hid (QB.out.ext XN)
  replace X := Lib.hid (X.out.trans XN)
  clear XN
  obtain ⟨AS, cS, rfl, -⟩ := OS.out.form
  have ac := QA.out.cell
  go_upto_region 7 with (go_at_call 55; (with_reducible refine (toConfig_own (S := S) c _ _ (rel_Config FC.out (R1.out.ext X.out) (R2.out.ext X.out) (R3.out.ext X.out)) M.out).mono ?_); rintro e w3 ⟨csx, FX, rfl, ⟨y1, y2, y3, F1, F2, F3, rfl, fx, o1, o2, o3, hF, hn⟩, gX, hx⟩; obtain ⟨E1, e1, rfl, -⟩ := o1.form; obtain ⟨E2, e2, rfl, -⟩ := o2.form; obtain ⟨E3, e3, rfl, -⟩ := o3.form; have OX : Hid (OConfig.own w3 [.slice E1 c.nodes.length e1, .slice E2 c.pairs.length e2, .slice E3 c.quotas.length e3, .int .i64 c.half] c FX) := Lib.hid ⟨_, _, _, F1, F2, F3, rfl, fx, o1, o2, o3, hF, hn⟩; have GX := Lib.hid gX; have H3 := Lib.hid hx; clear fx o1 o2 o3 hF hn gX hx; simp only [cellsConfig])
  have DSX0 : Hid (∀ b ∈ FS, b ∉ FX) := Lib.hid (fun b h1 h2 => absurd (OS.out.lt b h1) (Nat.not_lt.2 (GX.out b h2)))
  have NAX : Hid (B ∉ FX) := Lib.hid (fun hb => absurd QA.out.lt (Nat.not_lt.2 (GX.out _ hb)))
  have NBX : Hid (B + 1 ∉ FX) := Lib.hid (fun hb => absurd QB.out.lt (Nat.not_lt.2 (GX.out _ hb)))
  have GXw : Hid (∀ b ∈ FX, w.heap.size ≤ b) := Lib.hid (fun b hb => Nat.le_trans X.out.size (GX.out b hb))
  have XN := H3.out
  clear ac H3
  replace QA := Lib.hid (QA.out.ext XN)
  replace QB := Lib.hid (QB.out.ext XN)
  replace X := Lib.hid (X.out.trans XN)
  replace OS := Lib.hid (OS.out.ext XN)
  clear XN
  obtain ⟨W4, BX, hW, hB, hx4, bx⟩ : ∃ W B, W = w3.alloc (.cells #[.slice E1 c.nodes.length e1, .slice E2 c.pairs.length e2, .slice E3 c.quotas.length e3, .int .i64 c.half] 88) ∧ B = w3.heap.size ∧ Ext w3 W ∧ Blk W B 88 #[.slice E1 c.nodes.length e1, .slice E2 c.pairs.length e2, .slice E3 c.quotas.length e3, .int .i64 c.half] := ⟨_, _, rfl, rfl, (Ext.refl _).alloc _, Blk.new _ _ _⟩
  rw [← hW, ← hB]
  have QX := Lib.hid bx
  have NX : Hid (BX ∉ FX) := Lib.hid (fun hb => absurd (OConfig.lt OX.out BX hb) (by omega))
  have XN := hx4
  clear hW hB hx4 bx
  replace QA := Lib.hid (QA.out.ext XN)
  replace QB := Lib.hid (QB.out.ext XN)
  replace X := Lib.hid (X.out.trans XN)
  replace OS := Lib.hid (OS.out.ext XN)
  replace OX := Lib.hid (ownx OX.out XN)
  clear XN
  have al_b : ∀ V, Ext W4 V → ∀ i, V.cell? ⟨B + 1, i, none⟩ = _ := fun V hx => (QB.out.ext hx).cell
  have al_x : ∀ V, Ext W4 V → ∀ i, V.cell? ⟨BX, i, none⟩ = _ := fun V hx => (QX.out.ext hx).cell
  go_region_held3 (fun V => Ext W4 V) (first | exact Ext.refl _ | exact (Ext.refl _).drew | assumption | exact Ext.alloc (by assumption) _ | exact Ext.trans (by assumption) hx30 | exact Ext.trans (by assumption) hx31 | exact Ext.trans (by assumption) hx32) (first | (go_at_call 56; (with_reducible refine (toLabel_any (S := S) lab _ _ (rel_Label FL.out) ML.out).mono ?_); rintro e wb30 ⟨_, rfl, ⟨rfl, ff⟩, hx31⟩; clear ff; simp only [cellsLabel]) | (go_at_call 57; (with_reducible refine (clearFor_any (S := fun b => b ∈ FX) c _ lab _ (OConfig.rel (ownx OX.out (by assumption)))).mono ?_); rintro e w5 ⟨vG, FG, rfl, oG, gG, hx32⟩; have OG := Lib.hid oG; have GG : Hid (∀ b ∈ FG, W4.heap.size ≤ b) := Lib.hid (fun b hb => Nat.le_trans (Ext.size (by assumption)) (gG b hb)); clear oG gG))
  have DGX0 : Hid (∀ b ∈ FG, b ∉ FX) := Lib.hid (fun b h1 h2 => absurd (OConfig.lt OX.out b h2) (Nat.not_lt.2 (GG.out b h1)))
  have DSG0 : Hid (∀ b ∈ FS, b ∉ FG) := Lib.hid (fun b h1 h2 => absurd (OS.out.lt b h1) (Nat.not_lt.2 (GG.out b h2)))
  have NAG : Hid (B ∉ FG) := Lib.hid (fun hb => absurd QA.out.lt (Nat.not_lt.2 (GG.out _ hb)))
  have NBG : Hid (B + 1 ∉ FG) := Lib.hid (fun hb => absurd QB.out.lt (Nat.not_lt.2 (GG.out _ hb)))
  have GGw : Hid (∀ b ∈ FG, w.heap.size ≤ b) := Lib.hid (fun b hb => Nat.le_trans X.out.size (GG.out b hb))
  all_goals clear al_b al_x
  have XN : Ext W4 w5 := by first | assumption | exact Ext.drew (by assumption)
  replace QA := Lib.hid (QA.out.ext XN)
  replace QB := Lib.hid (QB.out.ext XN)
  replace X := Lib.hid (X.out.trans XN)
  replace OS := Lib.hid (OS.out.ext XN)
  replace OX := Lib.hid (ownx OX.out XN)
  replace QX := Lib.hid (QX.out.ext XN)
  clear XN
  obtain ⟨AG, cG, rfl, -⟩ := OG.out.form
  go_upto_region 10 with (go_at_call 58; (with_reducible refine (eqInt64S_any _ _ _ _ _ OG.out.rd OS.out.rd).mono ?_); rintro e w6 ⟨rfl, hx⟩; have H6 := Lib.hid hx; clear hx)
  have XN := H6.out
  clear H6
  replace QA := Lib.hid (QA.out.ext XN)
  replace QB := Lib.hid (QB.out.ext XN)
  replace X := Lib.hid (X.out.trans XN)
  replace OS := Lib.hid (OS.out.ext XN)
  replace OX := Lib.hid (ownx OX.out XN)
  replace QX := Lib.hid (QX.out.ext XN)
  replace OG := Lib.hid (OG.out.ext XN)
  clear XN
  have al_a : ∀ V, Ext w6 V → ∀ i, V.cell? ⟨B, i, none⟩ = _ := fun V hx => (QA.out.ext hx).cell
  have al_x : ∀ V, Ext w6 V → ∀ i, V.cell? ⟨BX, i, none⟩ = _ := fun V hx => (QX.out.ext hx).cell
  go_region_held3 (fun V => Ext w6 V) (first | exact Ext.refl _ | exact (Ext.refl _).drew | assumption | exact Ext.alloc (by assumption) _ | exact Ext.trans (by assumption) hx40 | exact Ext.trans (by assumption) hx41 | exact Ext.trans (by assumption) hx42) (first | (go_at_call 55; (with_reducible refine (toConfig_any (S := S) c _ _ (rel_Config FC.out (R1.out.ext (X.out.trans (by assumption))) (R2.out.ext (X.out.trans (by assumption))) (R3.out.ext (X.out.trans (by assumption)))) M.out).mono ?_); rintro e wa40 ⟨_, rfl, ⟨u1, u2, u3, rfl, ff, r1, r2, r3⟩, hx40⟩; clear ff; simp only [cellsConfig]; obtain ⟨D1, d1, rfl, -⟩ := Rd.form r1; obtain ⟨D2, d2, rfl, -⟩ := Rd.form r2; obtain ⟨D3, d3, rfl, -⟩ := Rd.form r3; have U1 := Lib.hid r1; have U2 := Lib.hid r2; have U3 := Lib.hid r3; clear r1 r2 r3) | (go_at_call 59; (with_reducible refine (eqConfig_any c c _ _ _ (OConfig.rel (ownx OX.out (by assumption))) (rel_Config FC.out (by first | exact U1.out | exact U1.out.ext (by assumption)) (by first | exact U2.out | exact U2.out.ext (by assumption)) (by first | exact U3.out | exact U3.out.ext (by assumption)))).mono ?_); rintro e w7 ⟨rfl, hx42⟩))
  all_goals clear al_a al_x
  have XN : Ext w6 w7 := by first | assumption | exact Ext.drew (by assumption)
  replace QA := Lib.hid (QA.out.ext XN)
  replace QB := Lib.hid (QB.out.ext XN)
  replace X := Lib.hid (X.out.trans XN)
  replace OS := Lib.hid (OS.out.ext XN)
  replace OX := Lib.hid (ownx OX.out XN)
  replace QX := Lib.hid (QX.out.ext XN)
  replace OG := Lib.hid (OG.out.ext XN)
  clear XN
  have hcx : (0 : Int) ≤ (cnt3 c : Nat) := Int.natCast_nonneg _
  have BND : Hid (1 + ((cnt3 c : Nat) : Int) ≤ 1125899906842624) := Lib.hid (cnt3_small M.out)
  have BNG : Hid (1 + ((cntL cntInt (clearFor c lab) : Nat) : Int) ≤ 1125899906842624) := Lib.hid (by have := cntInt_clear c lab; omega)
  have hcg : (0 : Int) ≤ (cntL cntInt (clearFor c lab) : Nat) := Int.natCast_nonneg _
  have DSX : Hid (∀ b ∈ FS, b ∉ FX) := DSX0
  have DGX : Hid (∀ b ∈ FG, b ∉ FX) := DGX0
  have DSG : Hid (∀ b ∈ FS, b ∉ FG) := DSG0
  have xc := QX.out.cell
  go_upto_region 14 with (go_at_call 60; (with_reducible refine (markConfig_any c _ FX 1 _ OX.out (by decide) BND.out).mono ?_); rintro e w8 ⟨rfl, k8⟩; have K8 := Lib.hid k8; clear k8)
  clear xc
  replace OS := Lib.hid (OS.out.kept K8.out DSX.out)
  replace OG := Lib.hid (OG.out.kept K8.out DGX.out)
  replace QA : Hid (Blk w8 B 80 #[.slice A1 c.nodes.length c1, .slice A2 c.pairs.length c2, .slice A3 c.quotas.length c3, .int .i64 c.half]) := Lib.hid ((K8.out.block B QA.out.lt NAX.out).trans QA.out)
  replace QB : Hid (Blk w8 (B + 1) 81 #[.int .i64 lab.level, .int .i64 lab.set]) := Lib.hid ((K8.out.block (B + 1) QB.out.lt NBX.out).trans QB.out)
  replace X : Hid (Ext w w8) := Lib.hid (K8.out.ext X.out GXw.out)
  clear OX QX
  have hk1 : ¬ (1 + ((cnt3 c : Nat) : Int) < 0) := by omega
  go_upto_region 16 with (go_at_call 58; (with_reducible refine (eqInt64S_any _ _ _ _ _ OG.out.rd OS.out.rd).mono ?_); rintro e w9 ⟨rfl, hx⟩; have H9 := Lib.hid hx; clear hx)
  have XN := H9.out
  clear H9
  replace QA := Lib.hid (QA.out.ext XN)
  replace QB := Lib.hid (QB.out.ext XN)
  replace X := Lib.hid (X.out.trans XN)
  replace OS := Lib.hid (OS.out.ext XN)
  replace OG := Lib.hid (OG.out.ext XN)
  clear XN
  go_upto_region 18 with (go_at_call 61; (with_reducible refine (markInt64S_any _ _ FG 1 _ OG.out (by decide) BNG.out).mono ?_); rintro e w10 ⟨rfl, om, km⟩; have K10 := Lib.hid km; have OM := Lib.hid om; clear om km)
  replace OS := Lib.hid (OS.out.kept K10.out DSG.out)
  replace QA : Hid (Blk w10 B 80 #[.slice A1 c.nodes.length c1, .slice A2 c.pairs.length c2, .slice A3 c.quotas.length c3, .int .i64 c.half]) := Lib.hid ((K10.out.block B QA.out.lt NAG.out).trans QA.out)
  replace QB : Hid (Blk w10 (B + 1) 81 #[.int .i64 lab.level, .int .i64 lab.set]) := Lib.hid ((K10.out.block (B + 1) QB.out.lt NBG.out).trans QB.out)
  replace X : Hid (Ext w w10) := Lib.hid (K10.out.ext X.out GGw.out)
  clear OG
  go_upto_region 24 with (go_at_call 62; (with_reducible refine (heldInt64S_any (S := fun b => b ∈ FG) (clearFor c lab) _ 1 _ OM.out.rd (by decide) BNG.out).mono ?_); rintro e w11 ⟨rfl, hx⟩; have H11 := Lib.hid hx; clear hx)
  have XN := H11.out
  clear H11
  replace QA := Lib.hid (QA.out.ext XN)
  replace QB := Lib.hid (QB.out.ext XN)
  replace X := Lib.hid (X.out.trans XN)
  replace OS := Lib.hid (OS.out.ext XN)
  replace OM := Lib.hid (OM.out.ext XN)
  clear XN
  have al_a : ∀ V, Ext w11 V → ∀ i, V.cell? ⟨B, i, none⟩ = _ := fun V hx => (QA.out.ext hx).cell
  have al_b : ∀ V, Ext w11 V → ∀ i, V.cell? ⟨B + 1, i, none⟩ = _ := fun V hx => (QB.out.ext hx).cell
  go_region_held3 (fun V => Ext w11 V) (first | exact Ext.refl _ | exact (Ext.refl _).drew | assumption | exact Ext.alloc (by assumption) _ | exact Ext.trans (by assumption) hx50 | exact Ext.trans (by assumption) hx51 | exact Ext.trans (by assumption) hx52) (first | (go_at_call 55; (with_reducible refine (toConfig_any (S := S) c _ _ (rel_Config FC.out (R1.out.ext (X.out.trans (by assumption))) (R2.out.ext (X.out.trans (by assumption))) (R3.out.ext (X.out.trans (by assumption)))) M.out).mono ?_); rintro e wa50 ⟨_, rfl, ⟨u1, u2, u3, rfl, ff, r1, r2, r3⟩, hx50⟩; clear ff; simp only [cellsConfig]; obtain ⟨D1, d1, rfl, -⟩ := Rd.form r1; obtain ⟨D2, d2, rfl, -⟩ := Rd.form r2; obtain ⟨D3, d3, rfl, -⟩ := Rd.form r3; have U1 := Lib.hid r1; have U2 := Lib.hid r2; have U3 := Lib.hid r3; clear r1 r2 r3) | (go_at_call 56; (with_reducible refine (toLabel_any (S := S) lab _ _ (rel_Label FL.out) ML.out).mono ?_); rintro e wb50 ⟨_, rfl, ⟨rfl, ff⟩, hx51⟩; clear ff; simp only [cellsLabel]) | (go_at_call 57; (with_reducible refine (clearFor_any c _ lab _ (rel_Config FC.out (by first | exact U1.out | exact U1.out.ext (by assumption)) (by first | exact U2.out | exact U2.out.ext (by assumption)) (by first | exact U3.out | exact U3.out.ext (by assumption)))).mono ?_); rintro e w12 ⟨vH, FH, rfl, oH, gH, hx52⟩; have OH := Lib.hid oH; clear oH gH))
  all_goals clear al_a al_b
  have XN : Ext w11 w12 := by first | assumption | exact Ext.drew (by assumption)
  replace X := Lib.hid (X.out.trans XN)
  replace OS := Lib.hid (OS.out.ext XN)
  replace OM := Lib.hid (OM.out.ext XN)
  clear XN
  obtain ⟨AH, cH, rfl, -⟩ := OH.out.form
  go_upto_region 27 with (go_at_call 58; (with_reducible refine (eqInt64S_any _ _ _ _ _ OH.out.rd OS.out.rd).mono ?_); rintro e w13 ⟨rfl, hx⟩; have H13 := Lib.hid hx; clear hx)
  have XN := H13.out
  clear H13
  replace X := Lib.hid (X.out.trans XN)
  replace OM := Lib.hid (OM.out.ext XN)
  clear XN
  go_wp2_with (go_at_call 62; (with_reducible refine (heldInt64S_any (S := fun b => b ∈ FG) (clearFor c lab) _ 1 _ OM.out.rd (by decide) BNG.out).mono ?_); rintro e w14 ⟨rfl, hx⟩; have X14 := Lib.hid (X.out.trans hx); clear hx)
  go_ret
  exact ⟨rfl, X14.out⟩

set_option maxRecDepth 100000 in
theorem fnExactClearFor_lifted (os : Os) (started : os.Started) (H : Type) (enc : TypeId × Value → H) :
    ReturnsInHanded {} Try.checked os 6 .any (Rows.fnExactClearForSpec.pre6 enc Try.prog Try.f6 Rows.fnExactClearForRow.domain false) (Rows.fnExactClearForSpec.post enc Try.prog Try.f6 false true false false) := by
  refine returnsInHanded_of_change (C := Try.checked) (show ownKnob Try.prog.godebug = none by kernel_rfl) started (by kernel_rfl) Try.func6
    (ChangeSpec.witness6 (enc := enc) (C := Try.checked) false ⟨#[], #[.agg #[.slice none 0 0, .slice none 0 0, .slice none 0 0, .int .i64 0], .agg #[.int .i64 0, .int .i64 0]], []⟩ 8 (by kernel_rfl) (by kernel_rfl) (by kernel_rfl) (by kernel_rfl)) ?_
  intro W base args ds gs before hval0 hW hcnd _
  have hval : ∀ (j : Nat) t v, Try.f6.params[j]? = some t → args[j]? = some v → Value.okWide Try.prog W .any base t v := hval0
  have hW' := hW
  obtain ⟨p, q, hA0, hV, rfl, hfz, hnd⟩ := hW
  have hA : DataW.TrodAll enc Try.prog W 0 (fun _ => true) true Try.f6.params.toList args.toList ds p := hA0
  rw [Try.params6] at hA hval
  obtain ⟨v0, v1, d0, d1, p0, p1, rfl, rfl, rfl, h0, h1⟩ := trodAll_two hA
  obtain ⟨rfl, rfl⟩ := trodVars_none hV
  obtain ⟨fu0, hf0⟩ := h0
  obtain ⟨cc, rcc⟩ := opens_Config hf0
  obtain ⟨⟨cs0⟩, rfl, hsz0⟩ := okWide_struct Try.underlying80 (hval 0 80 v0 rfl rfl)
  simp only [Value.cells] at rcc
  clear hf0 hsz0
  obtain ⟨fu1, hf1⟩ := h1
  obtain ⟨ll, rll⟩ := opens_Label hf1
  obtain ⟨⟨cs1⟩, rfl, hsz1⟩ := okWide_struct Try.underlying81 (hval 1 81 v1 rfl rfl)
  simp only [Value.cells] at rll
  clear hf1 hsz1
  clear hA0 hval0 hval hcnd
  refine (fnExactClearFor_walk cc _ ll _ W rcc rll).mono fun e W2 ⟨he, hx⟩ => ?_
  subst he
  exact ⟨_, rfl, law_post (by kernel_rfl) (by kernel_rfl) Try.underlying4 (by intro t ht; rw [Try.params6] at ht; simp only [List.mem_cons, List.not_mem_nil, or_false] at ht; rcases ht with rfl | rfl <;> exact ⟨by kernel_rfl, of_decide_eq_true (by kernel_rfl)⟩) rfl rfl hW' hx⟩

theorem fnExactClearFor_holds : Rows.FnExactClearForSaid :=
  OpenClaim.holds_of_wide 6 Try.f6 rfl rfl rfl rfl rfl rfl rfl ⟨rfl, rfl, rfl, rfl, rfl⟩ rfl rfl rfl rfl rfl (by kernel_rfl) Try.func6 fnExactClearFor_closed
    (of_decide_eq_true (by kernel_rfl)) (by unfold Func.isWrapper; rw [if_neg (of_decide_eq_false (by kernel_rfl))]; exact ⟨rfl, rfl⟩)
    (fun os started H enc _ => fnExactClearFor_lifted os started H enc)
end Go.Proofs.Ytdhcbbbmajjehaa

/- What the laws YardCancel, YardFinish, YardFree, YardHold need, and no others. Laid by wip/split.py. -/
import Derived.Test.YtngldifgcgblpaaGreatYardCp
import Derived.Test.YtngldifgcgblpaaGreatYardS
import Derived.Test.YtngldifgcgblpaaGreatNodeC
import Derived.Test.YtngldifgcgblpaaGreatCopies
import Derived.Test.YtngldifgcgblpaaGreatCounts
import Derived.Test.YtngldifgcgblpaaGreatGYardT
import Derived.Test.YtngldifgcgblpaaGreatYardTt
import Derived.Test.YtngldifgcgblpaaGreatYardLb
import Derived.Test.YtngldifgcgblpaaGreatCa
import Derived.Test.YtngldifgcgblpaaGreatCb
import Derived.Test.YtngldifgcgblpaaGreatCc
namespace Go.Proofs.YtngldifgcgblpaaGreat
open Go.RowKit
attribute [local irreducible] wpQuiet
def turnY (y : Yard) (a : Label) (n s : Int) (may : Task → Bool) : YardOut :=
  if findCode y a n ≠ 0 then illY (findCode y a n) else if may (nth y.tasks (taskIx y.tasks a n).toNat) = false then illY 10 else ⟨setTask y (taskIx y.tasks a n).toNat s, 0, 0⟩
end Go.Proofs.YtngldifgcgblpaaGreat
namespace Go.Proofs.YtngldifgcgblpaaGreat
open Go.RowKit
attribute [local irreducible] wpQuiet
end Go.Proofs.YtngldifgcgblpaaGreat
namespace Go.Proofs.YtngldifgcgblpaaGreat
open Go.RowKit
attribute [local irreducible] wpQuiet
theorem turn_ill {y : Yard} {a : Label} {n s c : Int} {may : Task → Bool} (h : findCode y a n = c) (hc : ¬ c = 0) : turnY y a n s may = illY c := by rw [turnY, h, if_pos hc]
theorem turn_state {y : Yard} {a : Label} {n s : Int} {may : Task → Bool} {d : Nat} (h : findCode y a n = 0) (hd : taskIx y.tasks a n = (d : Int)) (hm : may (nth y.tasks d) = false) : turnY y a n s may = illY 10 := by
  rw [turnY, h, if_neg (by simp), hd, Int.toNat_natCast, if_pos hm]
theorem turn_done {y : Yard} {a : Label} {n s : Int} {may : Task → Bool} {d : Nat} (h : findCode y a n = 0) (hd : taskIx y.tasks a n = (d : Int)) (hm : may (nth y.tasks d) = true) : turnY y a n s may = ⟨setTask y d s, 0, 0⟩ := by
  rw [turnY, h, if_neg (by simp), hd, Int.toNat_natCast, if_neg (by simp [hm])]
set_option maxHeartbeats 16000000 in
set_option maxRecDepth 100000 in
theorem turn_any {S : Nat → Prop} (y : Yard) (cs : List Value) (a : Label) (n s : Int) (may : Task → Bool) (f : Nat) (caps : Array Value) (w : World) (h : EYard.rel S w cs y) (hs : I64 s) (hcall : ∀ (args : Array Value) (W : World), (callFunc f args).run Tryz.prog W = .ok (.enter f args) W)
    (hm : ∀ (cs : List Value) (x : Task) (V : World), Ext w V → ETask.rel S V cs x → Calls Tryz.prog f (#[.agg cs.toArray] ++ caps) V fun e w' => e = .returned (.bool (may x)) ∧ Ext V w') :
    Calls Tryz.prog 60 #[.agg cs.toArray, .agg #[.int .i64 a.level, .int .i64 a.set], .int .i64 n, .int .i64 s, .func (.func f) #[] caps] w (RetOS OYardOut (turnY y a n s may) w) := by
  obtain ⟨v1, v2, v3, v4, v5, v6, rfl, hf, h1, h2, h3, h4, h5, h6⟩ := h
  obtain ⟨A1, c1, rfl, -⟩ := h1.form
  obtain ⟨A2, c2, rfl, -⟩ := h2.form
  obtain ⟨A3, c3, rfl, -⟩ := h3.form
  obtain ⟨A4, c4, rfl, -⟩ := h4.form
  have H5 := Lib.hid h5
  obtain ⟨A5, c5, rfl, l5, m5, hk5⟩ := h5.open_
  unfold maxLen at m5
  obtain ⟨A6, c6, rfl, -⟩ := h6.form
  have HF := Lib.hid hf
  have HFC : Hid (FitConfig y.config) := Lib.hid hf.1
  have H1 := Lib.hid h1
  have H2 := Lib.hid h2
  have H3 := Lib.hid h3
  have H4 := Lib.hid h4
  have H6 := Lib.hid h6
  have K5 := Lib.hid hk5
  have HSI := Lib.hid hs
  have HM := Lib.hid hm
  clear hf h1 h2 h3 h4 h5 h6 hk5 hs hm
  simp only [cellsYard]
  obtain ⟨code, hco⟩ : ∃ c, findCode y a n = c := ⟨_, rfl⟩
  have HCO := Lib.hid hco
  have HCI : Hid (I64 code) := Lib.hid (by rw [← hco]; exact code_fit)
  clear hco
  go_enter Tryz.func60, Tryz.ntmps60
  go_upto_region 1 with (fail)
  obtain ⟨W, B, hW, hB, hx0, a0, b0, r0⟩ := boxes3 w #[.slice A1 y.config.nodes.length c1, .slice A2 y.config.pairs.length c2, .slice A3 y.config.quotas.length c3, .int .i64 y.config.half, .slice A4 y.nodes.length c4, .slice A5 y.tasks.length c5, .slice A6 y.uses.length c6, .int .i64 y.now] #[.int .i64 a.level, .int .i64 a.set] #[.slice none 0 0, .slice none 0 0, .slice none 0 0, .int .i64 0, .slice none 0 0, .slice none 0 0, .slice none 0 0, .int .i64 0, .int .i64 0, .int .i64 0] 44 49 46
  rw [← hW, ← hB]
  have HB : Hid (w.heap.size ≤ B + 1 + 1) := Lib.hid (by omega)
  have QA := Lib.hid a0
  have QB := Lib.hid b0
  have QR := Lib.hid r0
  have X := Lib.hid hx0
  clear hW hB hx0 a0 b0 r0
  have qa := QA.out.cell
  have qb := QB.out.cell
  by_cases hz : code = 0
  case neg =>
    have HE : Hid (turnY y a n s may = illY code) := Lib.hid (turn_ill HCO.out hz)
    go_upto_region 5 with (go_at_call 78; (with_reducible refine (find_any (S := S) y _ a n _ (rel_Yard HF.out (H1.out.ext X.out) (H2.out.ext X.out) (H3.out.ext X.out) (H4.out.ext X.out) (H5.out.ext X.out) (H6.out.ext X.out)) code _ HCO.out rfl).mono ?_); rintro e w7 ⟨rfl, hx7⟩; have H7 := Lib.hid hx7; clear hx7 qa qb)
    have R7 := Lib.hid (QR.out.ext H7.out)
    have Y7 := Lib.hid (X.out.trans H7.out)
    clear hz
    go_wp2_with (refine wpList_store_mid rfl 46 _ _ rfl (B + 1 + 1) 0 #[.slice none 0 0, .slice none 0 0, .slice none 0 0, .int .i64 0, .slice none 0 0, .slice none 0 0, .slice none 0 0, .int .i64 0, .int .i64 0, .int .i64 code] rfl rfl (Blk.there (t := 46) (cs := #[.slice none 0 0, .slice none 0 0, .slice none 0 0, .int .i64 0, .slice none 0 0, .slice none 0 0, .slice none 0 0, .int .i64 0, .int .i64 0, .int .i64 0]) R7.out) (by kernel_rfl) (all_oneCell_toArray (cs := [.slice none 0 0, .slice none 0 0, .slice none 0 0, .int .i64 0, .slice none 0 0, .slice none 0 0, .slice none 0 0, .int .i64 0, .int .i64 0, .int .i64 code]) (by simp [Value.oneCell'])) ?_)
    exact bodyPost_ret (v := .agg #[.slice none 0 0, .slice none 0 0, .slice none 0 0, .int .i64 0, .slice none 0 0, .slice none 0 0, .slice none 0 0, .int .i64 0, .int .i64 0, .int .i64 code]) (results_blk Tryz.results60 rfl (Blk.setAll (t := 46) (cs := #[.slice none 0 0, .slice none 0 0, .slice none 0 0, .int .i64 0, .slice none 0 0, .slice none 0 0, .slice none 0 0, .int .i64 0, .int .i64 0, .int .i64 0]) (vs := #[.slice none 0 0, .slice none 0 0, .slice none 0 0, .int .i64 0, .slice none 0 0, .slice none 0 0, .slice none 0 0, .int .i64 0, .int .i64 0, .int .i64 code]) R7.out rfl) Tryz.underlying46 rfl (by kernel_rfl)) rfl ⟨_, [], rfl, by rw [HE.out]; exact own_ill _ _ (by exact HCI.out), fun b hb => absurd hb (by simp), setCells_ext HB.out _ _ _ Y7.out⟩
  case pos =>
    subst hz
    obtain ⟨d, hd, hi⟩ := find_ix HCO.out
    have HI := Lib.hid hi
    have HKI : Hid ((if (0 : Int) = 0 then taskIx y.tasks a n else 0) = (d : Int)) := Lib.hid (by rw [if_pos rfl, hi])
    have hd1 : (d : Int) < (y.tasks.length : Int) := by omega
    have hd0 : (0 : Int) ≤ (d : Int) := Int.natCast_nonneg _
    have HD := Lib.hid hd
    have HR := Lib.hid (find_right HCO.out).1
    clear hi
    go_upto_region 2 with (go_at_call 78; (with_reducible refine (find_any (S := S) y _ a n _ (rel_Yard HF.out (H1.out.ext X.out) (H2.out.ext X.out) (H3.out.ext X.out) (H4.out.ext X.out) (H5.out.ext X.out) (H6.out.ext X.out)) 0 (d : Int) HCO.out HKI.out).mono ?_); rintro e w7 ⟨rfl, hx7⟩; have H7 := Lib.hid hx7; clear hx7 qa qb)
    replace QA := Lib.hid (QA.out.ext H7.out)
    replace QR := Lib.hid (QR.out.ext H7.out)
    replace X := Lib.hid (X.out.trans H7.out)
    have q5 : w7.cell? ⟨B, 5, none⟩ = some (.slice A5 y.tasks.length c5) := QA.out.cell 5
    obtain ⟨b, o, cs, rfl, _, ⟨vt, rfl, hft, hrt⟩, hc⟩ := K5.out d hd
    obtain ⟨AT, cT, rfl, -⟩ := hrt.form
    have hxx := X.out
    have z0 := Ext.some hxx (hc 0 _ rfl)
    have z1 := Ext.some hxx (hc 1 _ rfl)
    have z2 := Ext.some hxx (hc 2 _ rfl)
    have z3 := Ext.some hxx (hc 3 _ rfl)
    have z4 := Ext.some hxx (hc 4 _ rfl)
    have z5 := Ext.some hxx (hc 5 _ rfl)
    have z6 := Ext.some hxx (hc 6 _ rfl)
    have z7 := Ext.some hxx (hc 7 _ rfl)
    have z8 := Ext.some hxx (hc 8 _ rfl)
    have z9 := Ext.some hxx (hc 9 _ rfl)
    have z10 := Ext.some hxx (hc 10 _ rfl)
    have z11 := Ext.some hxx (hc 11 _ rfl)
    have z12 := Ext.some hxx (hc 12 _ rfl)
    have z13 := Ext.some hxx (hc 13 _ rfl)
    simp only [ETask, Nat.add_zero] at z0 z1 z2 z3 z4 z5 z6 z7 z8 z9 z10 z11 z12 z13
    have HFT := Lib.hid hft
    have HRT := Lib.hid (hrt.ext X.out)
    clear hc hft hrt hxx
    obtain ⟨m, hmm⟩ : ∃ m, may (nth y.tasks d) = m := ⟨_, rfl⟩
    have MM := Lib.hid hmm
    clear hmm
    cases m with
    | false =>
      have HE : Hid (turnY y a n s may = illY 10) := Lib.hid (turn_state HCO.out HI.out MM.out)
      go_upto_region 5 with ((with_reducible refine (HM.out _ (nth y.tasks d) _ X.out (rel_Task HFT.out HRT.out)).mono ?_); rintro e w8 ⟨rfl, hx8⟩; rw [MM.out]; have H8 := Lib.hid hx8; clear hx8 q5 z0 z1 z2 z3 z4 z5 z6 z7 z8 z9 z10 z11 z12 z13)
      have R7 := Lib.hid (QR.out.ext H8.out)
      have Y7 := Lib.hid (X.out.trans H8.out)
      go_wp2_with (refine wpList_store_mid rfl 46 _ _ rfl (B + 1 + 1) 0 #[.slice none 0 0, .slice none 0 0, .slice none 0 0, .int .i64 0, .slice none 0 0, .slice none 0 0, .slice none 0 0, .int .i64 0, .int .i64 0, .int .i64 10] rfl rfl (Blk.there (t := 46) (cs := #[.slice none 0 0, .slice none 0 0, .slice none 0 0, .int .i64 0, .slice none 0 0, .slice none 0 0, .slice none 0 0, .int .i64 0, .int .i64 0, .int .i64 0]) R7.out) (by kernel_rfl) (all_oneCell_toArray (cs := [.slice none 0 0, .slice none 0 0, .slice none 0 0, .int .i64 0, .slice none 0 0, .slice none 0 0, .slice none 0 0, .int .i64 0, .int .i64 0, .int .i64 10]) (by simp [Value.oneCell'])) ?_)
      exact bodyPost_ret (v := .agg #[.slice none 0 0, .slice none 0 0, .slice none 0 0, .int .i64 0, .slice none 0 0, .slice none 0 0, .slice none 0 0, .int .i64 0, .int .i64 0, .int .i64 10]) (results_blk Tryz.results60 rfl (Blk.setAll (t := 46) (cs := #[.slice none 0 0, .slice none 0 0, .slice none 0 0, .int .i64 0, .slice none 0 0, .slice none 0 0, .slice none 0 0, .int .i64 0, .int .i64 0, .int .i64 0]) (vs := #[.slice none 0 0, .slice none 0 0, .slice none 0 0, .int .i64 0, .slice none 0 0, .slice none 0 0, .slice none 0 0, .int .i64 0, .int .i64 0, .int .i64 10]) R7.out rfl) Tryz.underlying46 rfl (by kernel_rfl)) rfl ⟨_, [], rfl, by rw [HE.out]; exact own_ill _ _ (by unfold I64; decide), fun b hb => absurd hb (by simp), setCells_ext HB.out _ _ _ Y7.out⟩
    | true =>
      have HE : Hid (turnY y a n s may = ⟨setTask y d s, 0, 0⟩) := Lib.hid (turn_done HCO.out HI.out MM.out)
      have HFW := Lib.hid (few_yard HR.out)
      go_upto_region 6 with ((with_reducible refine (HM.out _ (nth y.tasks d) _ X.out (rel_Task HFT.out HRT.out)).mono ?_); rintro e w8 ⟨rfl, hx8⟩; rw [MM.out]; have H8 := Lib.hid hx8; clear hx8 q5 z0 z1 z2 z3 z4 z5 z6 z7 z8 z9 z10 z11 z12 z13)
      replace QA := Lib.hid (QA.out.ext H8.out)
      replace QR := Lib.hid (QR.out.ext H8.out)
      replace X := Lib.hid (X.out.trans H8.out)
      have qa := QA.out.cell
      go_upto_region 7 with (go_at_call 80; (with_reducible refine (copyYard_own (S := S) y _ _ (rel_Yard HF.out (H1.out.ext X.out) (H2.out.ext X.out) (H3.out.ext X.out) (H4.out.ext X.out) (H5.out.ext X.out) (H6.out.ext X.out)) HFW.out).mono ?_); rintro e w9 ⟨cs9, G9, rfl, ⟨u1, u2, u3, u4, u5, u6, G1, G2, G3, G4, G5, G6, rfl, -, o1, o2, o3, o4, o5, o6, hG, hn⟩, g9, hx9⟩; obtain ⟨p1, k1, rfl, -⟩ := OwS.form o1; obtain ⟨p2, k2, rfl, -⟩ := OwS.form o2; obtain ⟨p3, k3, rfl, -⟩ := OwS.form o3; obtain ⟨p4, k4, rfl, -⟩ := OwS.form o4; obtain ⟨p5, k5, rfl, -⟩ := OwS.form o5; obtain ⟨p6, k6, rfl, -⟩ := OwS.form o6; have O1 := Lib.hid o1; have O2 := Lib.hid o2; have O3 := Lib.hid o3; have O4 := Lib.hid o4; have O5 := Lib.hid o5; have O6 := Lib.hid o6; have HG := Lib.hid hG; have HN := Lib.hid hn; have Z9 := Lib.hid g9; have H9 := Lib.hid hx9; clear o1 o2 o3 o4 o5 o6 hG hn g9 hx9 qa; simp only [cellsYard])
      obtain ⟨W9, B9, hW9, hB9, hx9, b9⟩ : ∃ W B, W = w9.alloc (.cells #[.slice p1 y.config.nodes.length k1, .slice p2 y.config.pairs.length k2, .slice p3 y.config.quotas.length k3, .int .i64 y.config.half, .slice p4 y.nodes.length k4, .slice p5 y.tasks.length k5, .slice p6 y.uses.length k6, .int .i64 y.now] 44) ∧ B = w9.heap.size ∧ Ext w9 W ∧ Blk W B 44 #[.slice p1 y.config.nodes.length k1, .slice p2 y.config.pairs.length k2, .slice p3 y.config.quotas.length k3, .int .i64 y.config.half, .slice p4 y.nodes.length k4, .slice p5 y.tasks.length k5, .slice p6 y.uses.length k6, .int .i64 y.now] := ⟨_, _, rfl, rfl, (Ext.refl w9).alloc _, Blk.new _ _ _⟩
      rw [← hW9, ← hB9]
      have E9 := Lib.hid hB9
      have Q9 := Lib.hid b9
      have X9 := Lib.hid hx9
      clear hW9 hB9 hx9 b9
      obtain ⟨BT, cT5, w1v, w2v, w3v, hv5, hBF, hfz, t1, t2, t3, F5', p5o, hF5⟩ := turn_rows (s := s) (O5.out.ext X9.out) HD.out HSI.out
      injection hv5 with e1 _ e2
      subst e1 e2
      have HBF := Lib.hid hBF
      have P5 := Lib.hid p5o
      have HF5 := Lib.hid hF5
      have LT : Hid (BT < w9.heap.size) := Lib.hid (O5.out.lt BT hBF)
      have N9 : Hid (B9 ≠ BT) := Lib.hid (by have := E9.out; have := LT.out; omega)
      have GE : Hid (∀ b ∈ G1 ++ (G2 ++ (G3 ++ (G4 ++ (G5 ++ G6)))), w8.heap.size ≤ b) := Lib.hid (by rw [← HG.out]; exact Z9.out)
      have NR : Hid (B + 1 + 1 ≠ BT) := Lib.hid (by have := GE.out BT (by simp [hBF]); have := QR.out.lt; omega)
      clear hBF p5o hF5
      have XO : Hid (Ext w9 W9) := X9
      have RO := Lib.hid (QR.out.ext (H9.out.trans X9.out))
      have QO := Q9
      have q9 := Q9.out.cell
      go_upto_region 8 with (go_at_call 81; (with_reducible refine (clearY_any BT (d * 14) s _ _ _ _ hfz t1 t2 t3).mono ?_); rintro e w10 ⟨rfl, rfl⟩)
      clear hfz t1 t2 t3 q9
      obtain ⟨W10, hW10⟩ : ∃ V, V = W9.setCells BT (d * 14 + 11) [.int .i64 s, .int .i64 0, .slice none 0 0] := ⟨_, rfl⟩
      have KW : Hid (Kept [BT] W9 W10) := Lib.hid (by rw [hW10]; exact Kept.setCells (by simp) _ _ _ (Kept.refl _ _))
      have PO : Hid (OwS OTask 87 W10 (.slice (some ⟨BT, 0, none⟩) y.tasks.length k5) (y.tasks.set d (withTask (nth y.tasks d) s)) F5') := Lib.hid (by rw [hW10]; exact P5.out)
      rw [← hW10]
      clear hW10
      have Q10 : Hid (Blk W10 B9 44 _) := Lib.hid ((KW.out.block B9 QO.out.lt (fun hm => N9.out (List.mem_singleton.1 hm))).trans QO.out)
      have R10 : Hid (Blk W10 (B + 1 + 1) 46 #[.slice none 0 0, .slice none 0 0, .slice none 0 0, .int .i64 0, .slice none 0 0, .slice none 0 0, .slice none 0 0, .int .i64 0, .int .i64 0, .int .i64 0]) := Lib.hid ((KW.out.block (B + 1 + 1) RO.out.lt (fun hm => NR.out (List.mem_singleton.1 hm))).trans RO.out)
      have q10 := Q10.out.cell
      go_wp2_with (refine wpList_store_mid rfl 46 _ _ rfl (B + 1 + 1) 0 (List.toArray [.slice p1 y.config.nodes.length k1, .slice p2 y.config.pairs.length k2, .slice p3 y.config.quotas.length k3, .int .i64 y.config.half, .slice p4 y.nodes.length k4, .slice (some ⟨BT, 0, none⟩) y.tasks.length k5, .slice p6 y.uses.length k6, .int .i64 y.now, .int .i64 0, .int .i64 0]) rfl rfl (Blk.there (t := 46) (cs := #[.slice none 0 0, .slice none 0 0, .slice none 0 0, .int .i64 0, .slice none 0 0, .slice none 0 0, .slice none 0 0, .int .i64 0, .int .i64 0, .int .i64 0]) R10.out) (by kernel_rfl) (all_oneCell_toArray (cs := [.slice p1 y.config.nodes.length k1, .slice p2 y.config.pairs.length k2, .slice p3 y.config.quotas.length k3, .int .i64 y.config.half, .slice p4 y.nodes.length k4, .slice (some ⟨BT, 0, none⟩) y.tasks.length k5, .slice p6 y.uses.length k6, .int .i64 y.now, .int .i64 0, .int .i64 0]) (by simp [Value.oneCell'])) ?_)
      have OW := own_turn HF.out (O1.out.ext XO.out) (O2.out.ext XO.out) (O3.out.ext XO.out) (O4.out.ext XO.out) (O6.out.ext XO.out) PO.out KW.out HBF.out (by rw [← HG.out]; exact HN.out) HF5.out
      have szR := QR.out.lt
      have szX := XO.out.size
      have far : ∀ b ∈ G1 ++ (G2 ++ (G3 ++ (G4 ++ (F5' ++ G6)))), b ∉ [B + 1 + 1] := fun b hb hm => by
        have := set_ge GE.out HF5.out (by have := H9.out.size; omega) b hb
        have := List.mem_singleton.1 hm
        omega
      exact bodyPost_ret (v := .agg (List.toArray [.slice p1 y.config.nodes.length k1, .slice p2 y.config.pairs.length k2, .slice p3 y.config.quotas.length k3, .int .i64 y.config.half, .slice p4 y.nodes.length k4, .slice (some ⟨BT, 0, none⟩) y.tasks.length k5, .slice p6 y.uses.length k6, .int .i64 y.now, .int .i64 0, .int .i64 0])) (results_blk Tryz.results60 rfl (Blk.setAll (t := 46) (cs := #[.slice none 0 0, .slice none 0 0, .slice none 0 0, .int .i64 0, .slice none 0 0, .slice none 0 0, .slice none 0 0, .int .i64 0, .int .i64 0, .int .i64 0]) (vs := List.toArray [.slice p1 y.config.nodes.length k1, .slice p2 y.config.pairs.length k2, .slice p3 y.config.quotas.length k3, .int .i64 y.config.half, .slice p4 y.nodes.length k4, .slice (some ⟨BT, 0, none⟩) y.tasks.length k5, .slice p6 y.uses.length k6, .int .i64 y.now, .int .i64 0, .int .i64 0]) R10.out rfl) Tryz.underlying46 rfl (by kernel_rfl)) rfl
        ⟨_, G1 ++ (G2 ++ (G3 ++ (G4 ++ (F5' ++ G6)))), rfl, by rw [HE.out]; exact ownk (own_out (y := setTask y d s) OW) (Kept.setCells (F := [B + 1 + 1]) (by simp) _ _ _ (Kept.refl _ _)) far,
          fun b hb => Nat.le_trans X.out.size (set_ge GE.out HF5.out (by have := H9.out.size; omega) b hb),
          setCells_ext HB.out _ _ _ (Kept.ext (X.out.trans (H9.out.trans XO.out)) KW.out (fun b hb => by rw [List.mem_singleton.1 hb]; exact Nat.le_trans X.out.size (GE.out BT (by simp [HBF.out]))))⟩
end Go.Proofs.YtngldifgcgblpaaGreat
namespace Go.Proofs.YtngldifgcgblpaaGreat
open Go.RowKit
attribute [local irreducible] wpQuiet
end Go.Proofs.YtngldifgcgblpaaGreat
namespace Go.Proofs.YtngldifgcgblpaaGreat
open Go.RowKit
attribute [local irreducible] wpQuiet
theorem cnt_turn (y : Yard) (a : Label) (n s : Int) (may : Task → Bool) : 1 + ((cntsYardOut (turnY y a n s may) : Nat) : Int) ≤ 1125899906842624 := by
  unfold turnY
  split
  · exact cnt_ill _
  split
  · exact cnt_ill _
  rename_i h1 h2
  obtain ⟨h3, -, -⟩ := find_right (y := y) (a := a) (n := n) (by omega)
  obtain ⟨c1, c2, c3, c4, c5, c6⟩ := tight_yard h3
  refine cnt_tight (o := ⟨setTask y (taskIx y.tasks a n).toNat s, 0, 0⟩) c1 c2 c3 (by show (y.tasks.set _ _).length ≤ _; rw [List.length_set]; omega) (fun x hx => ?_) (by show y.uses.length ≤ _; omega)
  rcases List.mem_or_eq_of_mem_set hx with hx | rfl
  · exact c5 x hx
  · exact Nat.zero_le _
end Go.Proofs.YtngldifgcgblpaaGreat

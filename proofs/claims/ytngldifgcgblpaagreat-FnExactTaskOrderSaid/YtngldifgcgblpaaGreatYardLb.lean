/- A yard's copy for a law, with memory of its own. Printed by wip/toyown.py. What a law about a yard counts: the marks of a yard, the bounds of what comes back. -/
import Derived.Test.YtngldifgcgblpaaGreatGYardT
import Derived.Test.YtngldifgcgblpaaGreatCounts
import Derived.Test.YtngldifgcgblpaaGreatYardTt
namespace Go.Proofs.YtngldifgcgblpaaGreat
open Go.RowKit
attribute [local irreducible] wpQuiet
set_option maxHeartbeats 8000000 in
set_option maxRecDepth 50000 in
theorem toYard_own {S : Nat → Prop} (x : Yard) (cs : List Value) (w : World) (h : EYard.rel S w cs x) (hs : SmYard x) :
    Calls Tryz.prog 15 #[.agg cs.toArray] w (RetOS OYard x w) := by
  obtain ⟨v1, v2, v3, v4, v5, v6, rfl, hi, h1, h2, h3, h4, h5, h6⟩ := h
  have HI := Lib.hid hi
  have H1 := Lib.hid h1
  have H2 := Lib.hid h2
  have H3 := Lib.hid h3
  have H4 := Lib.hid h4
  have H5 := Lib.hid h5
  have H6 := Lib.hid h6
  clear hi h1 h2 h3 h4 h5 h6
  simp only [cellsYard]
  go_enter Tryz.func15, Tryz.ntmps15
  have HS := Lib.hid hs
  clear hs
  go_wp2_with fail
  obtain ⟨W, B, hW, hB, hx0, a0, r0, o0⟩ := boxes3 w #[v1, v2, v3, .int .i64 x.config.half, v4, v5, v6, .int .i64 x.now] #[.slice none 0 0, .slice none 0 0, .slice none 0 0, .int .i64 0, .slice none 0 0, .slice none 0 0, .slice none 0 0, .int .i64 0] #[.slice none 0 0, .slice none 0 0, .slice none 0 0, .int .i64 0, .slice none 0 0, .slice none 0 0, .slice none 0 0, .int .i64 0] 31 44 44
  rw [← hW, ← hB]
  have HB := Lib.hid hB
  clear hW hB
  have a_0 := Lib.hid a0
  have r_0 := Lib.hid r0
  have o_0 := Lib.hid o0
  have X_0 := Lib.hid hx0
  clear a0 r0 o0 hx0
  refine (toConfig_own x.config [v1, v2, v3, .int .i64 x.config.half] _ (S := S) ⟨v1, v2, v3, rfl, (by have hf := HI.out; simp only [FitYard] at hf; simp only [FitConfig, hf]), H1.out.ext (by repeat (first | with_reducible exact X_0.out | refine Ext.setCell ?_ (by show w.heap.size ≤ B + 1 + 1; rw [← HB.out]; omega) _)), H2.out.ext (by repeat (first | with_reducible exact X_0.out | refine Ext.setCell ?_ (by show w.heap.size ≤ B + 1 + 1; rw [← HB.out]; omega) _)), H3.out.ext (by repeat (first | with_reducible exact X_0.out | refine Ext.setCell ?_ (by show w.heap.size ≤ B + 1 + 1; rw [← HB.out]; omega) _))⟩ (by have h := HS.out; simp only [SmYard] at h; first | exact h | exact h.1 | exact h.2 | exact h.2.1 | exact h.2.2 | exact h.2.2.1 | exact h.2.2.2 | exact h.2.2.2.1 | exact h.2.2.2.2)).mono ?_
  rintro e w1 ⟨csx, FX, rfl, ⟨u1, u2, u3, F1, F2, F3, rfl, _, q1, q2, q3, hFX, hnX⟩, gX, hx⟩
  have g1 : ∀ b ∈ F1, _ := fun b hb => gX b (by rw [hFX]; simp [hb])
  have g2 : ∀ b ∈ F2, _ := fun b hb => gX b (by rw [hFX]; simp [hb])
  have g3 : ∀ b ∈ F3, _ := fun b hb => gX b (by rw [hFX]; simp [hb])
  obtain ⟨e12, e13, e23⟩ := apart3 (F1 := F1) (F2 := F2) (F3 := F3) (by rw [← hFX]; exact hnX)
  have D1_2 : Hid (∀ b ∈ F1, b ∉ F2) := Lib.hid (fun b h1 h2 => e12 b h2 h1)
  have D1_3 : Hid (∀ b ∈ F1, b ∉ F3) := Lib.hid (fun b h1 h2 => e13 b h2 h1)
  have D2_3 : Hid (∀ b ∈ F2, b ∉ F3) := Lib.hid (fun b h1 h2 => e23 b h2 h1)
  clear e12 e13 e23 hFX hnX gX
  simp only [cellsConfig]
  obtain ⟨p1, k1, rfl, -⟩ := q1.form
  have Q1 := Lib.hid q1
  have L1 : Hid (∀ b ∈ F1, B + 1 + 1 < b) := Lib.hid (fun b hb => Nat.lt_of_lt_of_le (by have hl := (show Blk _ _ _ _ from o_0.out).lt; exact hl) (g1 b hb))
  clear g1
  clear q1
  obtain ⟨p2, k2, rfl, -⟩ := q2.form
  have Q2 := Lib.hid q2
  have L2 : Hid (∀ b ∈ F2, B + 1 + 1 < b) := Lib.hid (fun b hb => Nat.lt_of_lt_of_le (by have hl := (show Blk _ _ _ _ from o_0.out).lt; exact hl) (g2 b hb))
  clear g2
  clear q2
  obtain ⟨p3, k3, rfl, -⟩ := q3.form
  have Q3 := Lib.hid q3
  have L3 : Hid (∀ b ∈ F3, B + 1 + 1 < b) := Lib.hid (fun b hb => Nat.lt_of_lt_of_le (by have hl := (show Blk _ _ _ _ from o_0.out).lt; exact hl) (g3 b hb))
  clear g3
  clear q3
  have a_1 : Hid (Blk w1 B 31 #[v1, v2, v3, .int .i64 x.config.half, v4, v5, v6, .int .i64 x.now]) := Lib.hid (Blk.ext (by repeat (first | with_reducible exact a_0.out | refine Blk.far ?_ (by simp <;> omega) _)) hx)
  have r_1 : Hid (Blk w1 (B + 1) 44 #[.slice none 0 0, .slice none 0 0, .slice none 0 0, .int .i64 0, .slice none 0 0, .slice none 0 0, .slice none 0 0, .int .i64 0]) := Lib.hid (Blk.ext (by repeat (first | with_reducible exact r_0.out | refine Blk.far ?_ (by simp <;> omega) _)) hx)
  have o_1 : Hid (Blk w1 (B + 1 + 1) 44 #[.slice none 0 0, .slice none 0 0, .slice none 0 0, .int .i64 0, .slice none 0 0, .slice none 0 0, .slice none 0 0, .int .i64 0]) := Lib.hid (Blk.ext (by simpa using o_0.out) hx)
  have X_1 : Hid (Ext w w1) := Lib.hid (Ext.trans (by repeat (first | with_reducible exact X_0.out | refine Ext.setCell ?_ (by show w.heap.size ≤ B + 1 + 1; rw [← HB.out]; omega) _)) hx)
  clear hx
  have ac := a_1.out.cell
  have oc := o_1.out.cell
  have of := o_1.out.frozen
  clear a_0 r_0 o_0 X_0
  go_wp2_with fail
  refine (toNodeS_own x.nodes v4 _ (H4.out.ext (by repeat (first | with_reducible exact X_1.out | refine Ext.setCell ?_ (by show w.heap.size ≤ B + 1 + 1; rw [← HB.out]; omega) _))) (by have h := HS.out; simp only [SmYard] at h; first | exact h | exact h.1 | exact h.2 | exact h.2.1 | exact h.2.2 | exact h.2.2.1 | exact h.2.2.2 | exact h.2.2.2.1 | exact h.2.2.2.2)).mono ?_
  rintro e w2 ⟨u4, F4, rfl, q4, g4, hx⟩
  obtain ⟨p4, k4, rfl, -⟩ := q4.form
  have Q4 := Lib.hid q4
  have L4 : Hid (∀ b ∈ F4, B + 1 + 1 < b) := Lib.hid (fun b hb => Nat.lt_of_lt_of_le (by have hl := (show Blk _ _ _ _ from ((((o_1.out.set_ 0 (.slice p1 x.config.nodes.length k1)).set_ 1 (.slice p2 x.config.pairs.length k2)).set_ 2 (.slice p3 x.config.quotas.length k3)).set_ 3 (.int .i64 x.config.half))).lt; exact hl) (g4 b hb))
  have D1_4 : Hid (∀ b ∈ F1, b ∉ F4) := Lib.hid (fun b h1 h2 => by have a := Q1.out.lt b h1; have c := g4 b h2; (try simp only [World.setCell, Array.size_modify] at c); omega)
  have D2_4 : Hid (∀ b ∈ F2, b ∉ F4) := Lib.hid (fun b h1 h2 => by have a := Q2.out.lt b h1; have c := g4 b h2; (try simp only [World.setCell, Array.size_modify] at c); omega)
  have D3_4 : Hid (∀ b ∈ F3, b ∉ F4) := Lib.hid (fun b h1 h2 => by have a := Q3.out.lt b h1; have c := g4 b h2; (try simp only [World.setCell, Array.size_modify] at c); omega)
  clear g4
  clear q4
  have a_2 : Hid (Blk w2 B 31 #[v1, v2, v3, .int .i64 x.config.half, v4, v5, v6, .int .i64 x.now]) := Lib.hid (Blk.ext (by repeat (first | with_reducible exact a_1.out | refine Blk.far ?_ (by simp <;> omega) _)) hx)
  have r_2 : Hid (Blk w2 (B + 1) 44 #[.slice none 0 0, .slice none 0 0, .slice none 0 0, .int .i64 0, .slice none 0 0, .slice none 0 0, .slice none 0 0, .int .i64 0]) := Lib.hid (Blk.ext (by repeat (first | with_reducible exact r_1.out | refine Blk.far ?_ (by simp <;> omega) _)) hx)
  have o_2 : Hid (Blk w2 (B + 1 + 1) 44 #[.slice p1 x.config.nodes.length k1, .slice p2 x.config.pairs.length k2, .slice p3 x.config.quotas.length k3, .int .i64 x.config.half, .slice none 0 0, .slice none 0 0, .slice none 0 0, .int .i64 0]) := Lib.hid (Blk.ext (by simpa using ((((o_1.out.set_ 0 (.slice p1 x.config.nodes.length k1)).set_ 1 (.slice p2 x.config.pairs.length k2)).set_ 2 (.slice p3 x.config.quotas.length k3)).set_ 3 (.int .i64 x.config.half))) hx)
  have X_2 : Hid (Ext w w2) := Lib.hid (Ext.trans (by repeat (first | with_reducible exact X_1.out | refine Ext.setCell ?_ (by show w.heap.size ≤ B + 1 + 1; rw [← HB.out]; omega) _)) hx)
  replace Q1 := Lib.hid (OwS.ext (Q1.out.kept (G := [B + 1, B + 1 + 1]) (by repeat (first | with_reducible exact Kept.refl _ _ | refine Kept.setCell ?_ (by simp) _)) (fun b hb => by have := L1.out b hb; simp; omega)) hx)
  replace Q2 := Lib.hid (OwS.ext (Q2.out.kept (G := [B + 1, B + 1 + 1]) (by repeat (first | with_reducible exact Kept.refl _ _ | refine Kept.setCell ?_ (by simp) _)) (fun b hb => by have := L2.out b hb; simp; omega)) hx)
  replace Q3 := Lib.hid (OwS.ext (Q3.out.kept (G := [B + 1, B + 1 + 1]) (by repeat (first | with_reducible exact Kept.refl _ _ | refine Kept.setCell ?_ (by simp) _)) (fun b hb => by have := L3.out b hb; simp; omega)) hx)
  clear hx ac oc of
  have ac := a_2.out.cell
  have oc := o_2.out.cell
  have of := o_2.out.frozen
  clear a_1 r_1 o_1 X_1
  go_wp2_with fail
  refine (toTaskS_own x.tasks v5 _ (H5.out.ext (by repeat (first | with_reducible exact X_2.out | refine Ext.setCell ?_ (by show w.heap.size ≤ B + 1 + 1; rw [← HB.out]; omega) _))) (by have h := HS.out; simp only [SmYard] at h; first | exact h | exact h.1 | exact h.2 | exact h.2.1 | exact h.2.2 | exact h.2.2.1 | exact h.2.2.2 | exact h.2.2.2.1 | exact h.2.2.2.2)).mono ?_
  rintro e w3 ⟨u5, F5, rfl, q5, g5, hx⟩
  obtain ⟨p5, k5, rfl, -⟩ := q5.form
  have Q5 := Lib.hid q5
  have L5 : Hid (∀ b ∈ F5, B + 1 + 1 < b) := Lib.hid (fun b hb => Nat.lt_of_lt_of_le (by have hl := (show Blk _ _ _ _ from (o_2.out.set_ 4 (.slice p4 x.nodes.length k4))).lt; exact hl) (g5 b hb))
  have D1_5 : Hid (∀ b ∈ F1, b ∉ F5) := Lib.hid (fun b h1 h2 => by have a := Q1.out.lt b h1; have c := g5 b h2; (try simp only [World.setCell, Array.size_modify] at c); omega)
  have D2_5 : Hid (∀ b ∈ F2, b ∉ F5) := Lib.hid (fun b h1 h2 => by have a := Q2.out.lt b h1; have c := g5 b h2; (try simp only [World.setCell, Array.size_modify] at c); omega)
  have D3_5 : Hid (∀ b ∈ F3, b ∉ F5) := Lib.hid (fun b h1 h2 => by have a := Q3.out.lt b h1; have c := g5 b h2; (try simp only [World.setCell, Array.size_modify] at c); omega)
  have D4_5 : Hid (∀ b ∈ F4, b ∉ F5) := Lib.hid (fun b h1 h2 => by have a := Q4.out.lt b h1; have c := g5 b h2; (try simp only [World.setCell, Array.size_modify] at c); omega)
  clear g5
  clear q5
  have a_3 : Hid (Blk w3 B 31 #[v1, v2, v3, .int .i64 x.config.half, v4, v5, v6, .int .i64 x.now]) := Lib.hid (Blk.ext (by repeat (first | with_reducible exact a_2.out | refine Blk.far ?_ (by simp <;> omega) _)) hx)
  have r_3 : Hid (Blk w3 (B + 1) 44 #[.slice none 0 0, .slice none 0 0, .slice none 0 0, .int .i64 0, .slice none 0 0, .slice none 0 0, .slice none 0 0, .int .i64 0]) := Lib.hid (Blk.ext (by repeat (first | with_reducible exact r_2.out | refine Blk.far ?_ (by simp <;> omega) _)) hx)
  have o_3 : Hid (Blk w3 (B + 1 + 1) 44 #[.slice p1 x.config.nodes.length k1, .slice p2 x.config.pairs.length k2, .slice p3 x.config.quotas.length k3, .int .i64 x.config.half, .slice p4 x.nodes.length k4, .slice none 0 0, .slice none 0 0, .int .i64 0]) := Lib.hid (Blk.ext (by simpa using (o_2.out.set_ 4 (.slice p4 x.nodes.length k4))) hx)
  have X_3 : Hid (Ext w w3) := Lib.hid (Ext.trans (by repeat (first | with_reducible exact X_2.out | refine Ext.setCell ?_ (by show w.heap.size ≤ B + 1 + 1; rw [← HB.out]; omega) _)) hx)
  replace Q1 := Lib.hid (OwS.ext (Q1.out.kept (G := [B + 1, B + 1 + 1]) (by repeat (first | with_reducible exact Kept.refl _ _ | refine Kept.setCell ?_ (by simp) _)) (fun b hb => by have := L1.out b hb; simp; omega)) hx)
  replace Q2 := Lib.hid (OwS.ext (Q2.out.kept (G := [B + 1, B + 1 + 1]) (by repeat (first | with_reducible exact Kept.refl _ _ | refine Kept.setCell ?_ (by simp) _)) (fun b hb => by have := L2.out b hb; simp; omega)) hx)
  replace Q3 := Lib.hid (OwS.ext (Q3.out.kept (G := [B + 1, B + 1 + 1]) (by repeat (first | with_reducible exact Kept.refl _ _ | refine Kept.setCell ?_ (by simp) _)) (fun b hb => by have := L3.out b hb; simp; omega)) hx)
  replace Q4 := Lib.hid (OwS.ext (Q4.out.kept (G := [B + 1, B + 1 + 1]) (by repeat (first | with_reducible exact Kept.refl _ _ | refine Kept.setCell ?_ (by simp) _)) (fun b hb => by have := L4.out b hb; simp; omega)) hx)
  clear hx ac oc of
  have ac := a_3.out.cell
  have oc := o_3.out.cell
  have of := o_3.out.frozen
  clear a_2 r_2 o_2 X_2
  go_wp2_with fail
  refine (toUseS_own x.uses v6 _ (H6.out.ext (by repeat (first | with_reducible exact X_3.out | refine Ext.setCell ?_ (by show w.heap.size ≤ B + 1 + 1; rw [← HB.out]; omega) _))) (by have h := HS.out; simp only [SmYard] at h; first | exact h | exact h.1 | exact h.2 | exact h.2.1 | exact h.2.2 | exact h.2.2.1 | exact h.2.2.2 | exact h.2.2.2.1 | exact h.2.2.2.2)).mono ?_
  rintro e w4 ⟨u6, F6, rfl, q6, g6, hx⟩
  obtain ⟨p6, k6, rfl, -⟩ := q6.form
  have Q6 := Lib.hid q6
  have L6 : Hid (∀ b ∈ F6, B + 1 + 1 < b) := Lib.hid (fun b hb => Nat.lt_of_lt_of_le (by have hl := (show Blk _ _ _ _ from (o_3.out.set_ 5 (.slice p5 x.tasks.length k5))).lt; exact hl) (g6 b hb))
  have D1_6 : Hid (∀ b ∈ F1, b ∉ F6) := Lib.hid (fun b h1 h2 => by have a := Q1.out.lt b h1; have c := g6 b h2; (try simp only [World.setCell, Array.size_modify] at c); omega)
  have D2_6 : Hid (∀ b ∈ F2, b ∉ F6) := Lib.hid (fun b h1 h2 => by have a := Q2.out.lt b h1; have c := g6 b h2; (try simp only [World.setCell, Array.size_modify] at c); omega)
  have D3_6 : Hid (∀ b ∈ F3, b ∉ F6) := Lib.hid (fun b h1 h2 => by have a := Q3.out.lt b h1; have c := g6 b h2; (try simp only [World.setCell, Array.size_modify] at c); omega)
  have D4_6 : Hid (∀ b ∈ F4, b ∉ F6) := Lib.hid (fun b h1 h2 => by have a := Q4.out.lt b h1; have c := g6 b h2; (try simp only [World.setCell, Array.size_modify] at c); omega)
  have D5_6 : Hid (∀ b ∈ F5, b ∉ F6) := Lib.hid (fun b h1 h2 => by have a := Q5.out.lt b h1; have c := g6 b h2; (try simp only [World.setCell, Array.size_modify] at c); omega)
  clear g6
  clear q6
  have a_4 : Hid (Blk w4 B 31 #[v1, v2, v3, .int .i64 x.config.half, v4, v5, v6, .int .i64 x.now]) := Lib.hid (Blk.ext (by repeat (first | with_reducible exact a_3.out | refine Blk.far ?_ (by simp <;> omega) _)) hx)
  have r_4 : Hid (Blk w4 (B + 1) 44 #[.slice none 0 0, .slice none 0 0, .slice none 0 0, .int .i64 0, .slice none 0 0, .slice none 0 0, .slice none 0 0, .int .i64 0]) := Lib.hid (Blk.ext (by repeat (first | with_reducible exact r_3.out | refine Blk.far ?_ (by simp <;> omega) _)) hx)
  have o_4 : Hid (Blk w4 (B + 1 + 1) 44 #[.slice p1 x.config.nodes.length k1, .slice p2 x.config.pairs.length k2, .slice p3 x.config.quotas.length k3, .int .i64 x.config.half, .slice p4 x.nodes.length k4, .slice p5 x.tasks.length k5, .slice none 0 0, .int .i64 0]) := Lib.hid (Blk.ext (by simpa using (o_3.out.set_ 5 (.slice p5 x.tasks.length k5))) hx)
  have X_4 : Hid (Ext w w4) := Lib.hid (Ext.trans (by repeat (first | with_reducible exact X_3.out | refine Ext.setCell ?_ (by show w.heap.size ≤ B + 1 + 1; rw [← HB.out]; omega) _)) hx)
  replace Q1 := Lib.hid (OwS.ext (Q1.out.kept (G := [B + 1, B + 1 + 1]) (by repeat (first | with_reducible exact Kept.refl _ _ | refine Kept.setCell ?_ (by simp) _)) (fun b hb => by have := L1.out b hb; simp; omega)) hx)
  replace Q2 := Lib.hid (OwS.ext (Q2.out.kept (G := [B + 1, B + 1 + 1]) (by repeat (first | with_reducible exact Kept.refl _ _ | refine Kept.setCell ?_ (by simp) _)) (fun b hb => by have := L2.out b hb; simp; omega)) hx)
  replace Q3 := Lib.hid (OwS.ext (Q3.out.kept (G := [B + 1, B + 1 + 1]) (by repeat (first | with_reducible exact Kept.refl _ _ | refine Kept.setCell ?_ (by simp) _)) (fun b hb => by have := L3.out b hb; simp; omega)) hx)
  replace Q4 := Lib.hid (OwS.ext (Q4.out.kept (G := [B + 1, B + 1 + 1]) (by repeat (first | with_reducible exact Kept.refl _ _ | refine Kept.setCell ?_ (by simp) _)) (fun b hb => by have := L4.out b hb; simp; omega)) hx)
  replace Q5 := Lib.hid (OwS.ext (Q5.out.kept (G := [B + 1, B + 1 + 1]) (by repeat (first | with_reducible exact Kept.refl _ _ | refine Kept.setCell ?_ (by simp) _)) (fun b hb => by have := L5.out b hb; simp; omega)) hx)
  clear hx ac oc of
  have ac := a_4.out.cell
  have oc := o_4.out.cell
  have of := o_4.out.frozen
  clear a_3 r_3 o_3 X_3
  go_wp2_with (first
    | (refine wpList_load_mid rfl 44 _ rfl (B + 1 + 1) 0 rfl [.slice p1 x.config.nodes.length k1, .slice p2 x.config.pairs.length k2, .slice p3 x.config.quotas.length k3, .int .i64 x.config.half, .slice p4 x.nodes.length k4, .slice p5 x.tasks.length k5, .slice p6 x.uses.length k6, .int .i64 x.now] _ ?hl Tryz.underlying44 rfl (by kernel_rfl) ?_)
    | (refine wpList_store_mid rfl 44 _ _ rfl (B + 1) 0 #[.slice p1 x.config.nodes.length k1, .slice p2 x.config.pairs.length k2, .slice p3 x.config.quotas.length k3, .int .i64 x.config.half, .slice p4 x.nodes.length k4, .slice p5 x.tasks.length k5, .slice p6 x.uses.length k6, .int .i64 x.now] rfl rfl ?ht (by kernel_rfl) ?ho ?_))
  case hl => exact Blk.range (t := 44) (cs := #[.slice p1 x.config.nodes.length k1, .slice p2 x.config.pairs.length k2, .slice p3 x.config.quotas.length k3, .int .i64 x.config.half, .slice p4 x.nodes.length k4, .slice p5 x.tasks.length k5, .slice p6 x.uses.length k6, .int .i64 x.now]) (by simpa using ((o_4.out.set_ 6 (.slice p6 x.uses.length k6)).set_ 7 (.int .i64 x.now)))
  case ht => exact Blk.there (t := 44) (cs := #[.slice none 0 0, .slice none 0 0, .slice none 0 0, .int .i64 0, .slice none 0 0, .slice none 0 0, .slice none 0 0, .int .i64 0]) (by repeat (first | with_reducible exact r_4.out | refine Blk.far ?_ (by simp <;> omega) _))
  case ho => exact all_oneCell_toArray (cs := [.slice p1 x.config.nodes.length k1, .slice p2 x.config.pairs.length k2, .slice p3 x.config.quotas.length k3, .int .i64 x.config.half, .slice p4 x.nodes.length k4, .slice p5 x.tasks.length k5, .slice p6 x.uses.length k6, .int .i64 x.now]) (by simp [Value.oneCell'])
  exact bodyPost_ret (v := .agg #[.slice p1 x.config.nodes.length k1, .slice p2 x.config.pairs.length k2, .slice p3 x.config.quotas.length k3, .int .i64 x.config.half, .slice p4 x.nodes.length k4, .slice p5 x.tasks.length k5, .slice p6 x.uses.length k6, .int .i64 x.now]) (results_blk Tryz.results15 rfl (Blk.setAll (t := 44) (cs := #[.slice none 0 0, .slice none 0 0, .slice none 0 0, .int .i64 0, .slice none 0 0, .slice none 0 0, .slice none 0 0, .int .i64 0]) (vs := #[.slice p1 x.config.nodes.length k1, .slice p2 x.config.pairs.length k2, .slice p3 x.config.quotas.length k3, .int .i64 x.config.half, .slice p4 x.nodes.length k4, .slice p5 x.tasks.length k5, .slice p6 x.uses.length k6, .int .i64 x.now]) (by repeat (first | with_reducible exact r_4.out | refine Blk.far ?_ (by simp <;> omega) _)) rfl) Tryz.underlying44 rfl (by kernel_rfl)) rfl ⟨_, F1 ++ (F2 ++ (F3 ++ (F4 ++ (F5 ++ F6)))), rfl, ⟨_, _, _, _, _, _, F1, F2, F3, F4, F5, F6, rfl, HI.out, (Q1.out.kept (G := [B + 1, B + 1 + 1]) (Kept.setCells (by simp) _ _ _ (by repeat (first | with_reducible exact Kept.refl _ _ | refine Kept.setCell ?_ (by simp) _))) (fun b hb => by have := L1.out b hb; simp; omega)), (Q2.out.kept (G := [B + 1, B + 1 + 1]) (Kept.setCells (by simp) _ _ _ (by repeat (first | with_reducible exact Kept.refl _ _ | refine Kept.setCell ?_ (by simp) _))) (fun b hb => by have := L2.out b hb; simp; omega)), (Q3.out.kept (G := [B + 1, B + 1 + 1]) (Kept.setCells (by simp) _ _ _ (by repeat (first | with_reducible exact Kept.refl _ _ | refine Kept.setCell ?_ (by simp) _))) (fun b hb => by have := L3.out b hb; simp; omega)), (Q4.out.kept (G := [B + 1, B + 1 + 1]) (Kept.setCells (by simp) _ _ _ (by repeat (first | with_reducible exact Kept.refl _ _ | refine Kept.setCell ?_ (by simp) _))) (fun b hb => by have := L4.out b hb; simp; omega)), (Q5.out.kept (G := [B + 1, B + 1 + 1]) (Kept.setCells (by simp) _ _ _ (by repeat (first | with_reducible exact Kept.refl _ _ | refine Kept.setCell ?_ (by simp) _))) (fun b hb => by have := L5.out b hb; simp; omega)), (Q6.out.kept (G := [B + 1, B + 1 + 1]) (Kept.setCells (by simp) _ _ _ (by repeat (first | with_reducible exact Kept.refl _ _ | refine Kept.setCell ?_ (by simp) _))) (fun b hb => by have := L6.out b hb; simp; omega)), rfl, (nodup_two Q1.out.nodup (nodup_two Q2.out.nodup (nodup_two Q3.out.nodup (nodup_two Q4.out.nodup (nodup_two Q5.out.nodup Q6.out.nodup (fun b hb hm => by (try simp only [List.mem_append] at hm); exact D5_6.out b hb hm)) (fun b hb hm => by (try simp only [List.mem_append] at hm); rcases hm with hm | hm <;> first | exact D4_5.out b hb hm | exact D4_6.out b hb hm)) (fun b hb hm => by (try simp only [List.mem_append] at hm); rcases hm with hm | hm | hm <;> first | exact D3_4.out b hb hm | exact D3_5.out b hb hm | exact D3_6.out b hb hm)) (fun b hb hm => by (try simp only [List.mem_append] at hm); rcases hm with hm | hm | hm | hm <;> first | exact D2_3.out b hb hm | exact D2_4.out b hb hm | exact D2_5.out b hb hm | exact D2_6.out b hb hm)) (fun b hb hm => by (try simp only [List.mem_append] at hm); rcases hm with hm | hm | hm | hm | hm <;> first | exact D1_2.out b hb hm | exact D1_3.out b hb hm | exact D1_4.out b hb hm | exact D1_5.out b hb hm | exact D1_6.out b hb hm))⟩, fun b hb => (by rw [← HB.out]; simp only [List.mem_append] at hb; rcases hb with hb | hb | hb | hb | hb | hb <;> first | (have := L1.out b hb; omega) | (have := L2.out b hb; omega) | (have := L3.out b hb; omega) | (have := L4.out b hb; omega) | (have := L5.out b hb; omega) | (have := L6.out b hb; omega)), setCells_ext (by rw [← HB.out]; omega) _ _ _ (by repeat (first | with_reducible exact X_4.out | refine Ext.setCell ?_ (by show w.heap.size ≤ B + 1 + 1; rw [← HB.out]; omega) _))⟩
end Go.Proofs.YtngldifgcgblpaaGreat
namespace Go.Proofs.YtngldifgcgblpaaGreat
open Go.RowKit
attribute [local irreducible] wpQuiet
def cnt6 (y : Yard) : Nat := cntL (cntL cntLabel) y.config.nodes + cntL cntPair y.config.pairs + cntL cntQuota y.config.quotas + cntL cntNode y.nodes + cntL cntTask y.tasks + cntL cntUse y.uses
theorem cnt6_room {y : Yard} (h : SmYard y) : 1 + ((cnt6 y : Nat) : Int) ≤ 1125899906842624 := by
  obtain ⟨⟨h1, h2, h3⟩, h4, h5, h6⟩ := h
  have a1 := cnt_all (n := cntL cntLabel) (c := 1048576 * 2) (l := y.config.nodes) fun l hl => by
    have := cnt_all (n := cntLabel) (c := 2) (l := l) fun _ _ => Nat.le_refl _
    have := (h1.2 l hl).1
    omega
  have a2 := cnt_all (n := cntPair) (c := 5) (l := y.config.pairs) fun _ _ => Nat.le_refl _
  have a3 := cnt_all (n := cntQuota) (c := 3) (l := y.config.quotas) fun _ _ => Nat.le_refl _
  have a4 := cnt_all (n := cntNode) (c := 1 + 1048576 * 2) (l := y.nodes) fun x hx => by
    have := cnt_all (n := cntSpan) (c := 2) (l := x.books) fun _ _ => Nat.le_refl _
    have := (h4.2 x hx).1
    unfold cntNode
    omega
  have a5 := cnt_all (n := cntTask) (c := 13 + 1048576 * 1) (l := y.tasks) fun x hx => by
    have := cnt_all (n := cntInt) (c := 1) (l := x.nodes) fun _ _ => Nat.le_refl _
    have := (h5.2 x hx).2.2.1
    unfold cntTask
    omega
  have a6 := cnt_all (n := cntUse) (c := 4) (l := y.uses) fun _ _ => Nat.le_refl _
  have b1 := h1.1
  have b2 := h2.1
  have b3 := h3.1
  have b4 := h4.1
  have b5 := h5.1
  have b6 := h6.1
  unfold cnt6
  omega
theorem markYard_is (x : Yard) (cs : List Value) (F : List Nat) (n : Nat) (q : Int) (w : World) (h : OYard.own w cs x F) (hn : cnt6 x = n) (h0 : 0 ≤ q) (hb : q + (n : Int) ≤ 1125899906842624) :
    Calls Tryz.prog 20 #[.agg cs.toArray, .int .i64 q] w fun e w' => e = .returned (.int .i64 (q + (n : Int))) ∧ Kept F w w' := by
  obtain ⟨v1, v2, v3, v4, v5, v6, F1, F2, F3, F4, F5, F6, rfl, hf, o1, o2, o3, o4, o5, o6, rfl, hd⟩ := h
  unfold cnt6 at hn
  refine (markYard_own x v1 v2 v3 v4 v5 v6 F1 F2 F3 F4 F5 F6 _ _ _ _ _ _ q w o1 o2 o3 o4 o5 o6 rfl rfl rfl rfl rfl rfl hd h0 (by omega)).mono ?_
  rintro e w' ⟨rfl, -, -, -, -, -, -, hk⟩
  refine ⟨?_, hk⟩
  rw [show q + (n : Int) = q + ((cntL (cntL cntLabel) x.config.nodes : Nat) : Int) + ((cntL cntPair x.config.pairs : Nat) : Int) + ((cntL cntQuota x.config.quotas : Nat) : Int) + ((cntL cntNode x.nodes : Nat) : Int) + ((cntL cntTask x.tasks : Nat) : Int) + ((cntL cntUse x.uses : Nat) : Int) by omega]
theorem cnt_tight {o : YardOut} (h : configRight o.yard.config = true) (hn : o.yard.nodes.length ≤ 1000) (hb : ∀ x ∈ o.yard.nodes, x.books.length ≤ 1000) (ht : o.yard.tasks.length ≤ 100000) (hx : ∀ x ∈ o.yard.tasks, x.nodes.length ≤ 1000) (hu : o.yard.uses.length ≤ 100000) : 1 + ((cntsYardOut o : Nat) : Int) ≤ 1125899906842624 := by
  have hc := config_clear h
  have h' := h
  simp only [configRight, pairsOk, quotasOk, Bool.and_eq_true, decide_eq_true_eq] at h'
  have hl := (clear_length hc).2
  have a1 := cnt_all (n := cntL cntLabel) (c := 8) (l := o.yard.config.nodes) fun l hl => by
    have := cnt_all (n := cntLabel) (c := 2) (l := l) fun _ _ => Nat.le_refl _
    have := (chain_length (clear_chain hc l hl)).2
    omega
  have a2 := cnt_all (n := cntPair) (c := 5) (l := o.yard.config.pairs) fun _ _ => Nat.le_refl _
  have a3 := cnt_all (n := cntQuota) (c := 3) (l := o.yard.config.quotas) fun _ _ => Nat.le_refl _
  have a4 := cnt_all (n := cntNode) (c := 2001) (l := o.yard.nodes) fun x hx => by
    have := cnt_all (n := cntSpan) (c := 2) (l := x.books) fun _ _ => Nat.le_refl _
    have := hb x hx
    unfold cntNode
    omega
  have a5 := cnt_all (n := cntTask) (c := 1013) (l := o.yard.tasks) fun x hm => by
    have := cnt_all (n := cntInt) (c := 1) (l := x.nodes) fun _ _ => Nat.le_refl _
    have := hx x hm
    unfold cntTask
    omega
  have a6 := cnt_all (n := cntUse) (c := 4) (l := o.yard.uses) fun _ _ => Nat.le_refl _
  have b2 := h'.2.1.2.1
  have b3 := h'.2.2.1
  simp only [cntsYardOut]
  omega
theorem cnt_ill (c : Int) : 1 + ((cntsYardOut (illY c) : Nat) : Int) ≤ 1125899906842624 := by
  rw [show cntsYardOut (illY c) = 0 from rfl]
  decide
theorem mem_nth {α : Type} [Inhabited α] {l : List α} {x : α} (h : x ∈ l) : ∃ k, k < l.length ∧ nth l k = x := by
  obtain ⟨k, hk, e⟩ := List.mem_iff_getElem.1 h
  exact ⟨k, hk, by rw [nth_eq hk]; exact e⟩
/-- A valid yard is small. -/
theorem tight_yard {y : Yard} (h : yardRight y = true) : configRight y.config = true ∧ y.nodes.length ≤ 1000 ∧ (∀ x ∈ y.nodes, x.books.length ≤ 1000) ∧ y.tasks.length ≤ 96 ∧ (∀ x ∈ y.tasks, x.nodes.length ≤ 1000) ∧ y.uses.length ≤ 1000 := by
  have ht := right_tasks h
  refine ⟨right_config h, ?_⟩
  simp only [yardRight, yardHead, Bool.and_eq_true] at h
  have hn := h.1.1.1.1.1.1.2
  have hu := h.1.1.1.1.2
  refine ⟨by have := nodesRight_length hn; omega, fun x hx => ?_, few_tasks ht, fun x hx => ?_, ?_⟩
  · obtain ⟨k, hk, rfl⟩ := mem_nth hx
    have := (nodesRight_books hn hk).1
    omega
  · obtain ⟨k, hk, rfl⟩ := mem_nth hx
    have h := all_right ht hk
    simp only [taskRight, isWorkB, isB, placeOk, Bool.and_eq_true, decide_eq_true_eq] at h
    split at h <;> simp only [Bool.and_eq_true, decide_eq_true_eq] at h <;> omega
  · simp only [usesRight, Bool.and_eq_true, decide_eq_true_eq] at hu
    omega
end Go.Proofs.YtngldifgcgblpaaGreat

/- The walks of NodeSet, the program's and the reference's. Printed by wip/nodeset.py. -/
import Derived.Test.YtbdicafambkhdaaNodeC
namespace Go.Proofs.Ytbdicafambkhdaa
open Go.RowKit
attribute [local irreducible] wpQuiet

set_option maxHeartbeats 8000000 in
set_option maxRecDepth 100000 in
theorem nodeSet_any {S : Nat → Prop} (l : List Node) (n st : Int) (v : Value) (w : World) (h : Rd ENode S w v l) :
    Calls Try.prog 10 #[v, .int .i64 n, .int .i64 st] w (RetOS ONodesOut (nodeSet l n st) w) := by
  have HR := Lib.hid h
  obtain ⟨A, c, rfl, h1, h2, hk⟩ := h.open_
  unfold maxLen at h2
  have HK := Lib.hid hk
  clear h hk
  go_enter Try.func10, Try.ntmps10
  go_upto_region 1 with (fail)
  obtain ⟨W, R, hW, hB, hx0, b0⟩ : ∃ W B, W = w.alloc (.cells #[.slice none 0 0, .int .i64 0] 29) ∧ B = w.heap.size ∧ Ext w W ∧ Blk W B 29 #[.slice none 0 0, .int .i64 0] := ⟨_, _, rfl, rfl, (Ext.refl w).alloc _, Blk.new _ _ _⟩
  rw [← hW, ← hB]
  have HRB : Hid (w.heap.size ≤ R) := Lib.hid (by omega)
  have R0 := Lib.hid b0
  have X0 := Lib.hid hx0
  clear hW hB hx0 b0
  by_cases hl : 400 < l.length
  · have HE : Hid (nodeSet l n st = ⟨[], 2⟩) := Lib.hid (by rw [nodeSet, if_pos hl])
    go_wp2_with (first | (refine wpList_store_mid rfl 29 _ _ rfl R 0 #[.slice none 0 0, .int .i64 2] rfl rfl (Blk.there (t := 29) (cs := #[.slice none 0 0, .int .i64 0]) R0.out) (by kernel_rfl) (all_oneCell_toArray (cs := [.slice none 0 0, .int .i64 2]) (by simp [Value.oneCell'])) ?_))
    exact bodyPost_ret (v := .agg #[.slice none 0 0, .int .i64 2]) (results_blk Try.results10 rfl (Blk.setAll (t := 29) (cs := #[.slice none 0 0, .int .i64 0]) (vs := #[.slice none 0 0, .int .i64 2]) R0.out rfl) Try.underlying29 rfl (by kernel_rfl)) rfl ⟨_, [], rfl, ⟨.slice none 0 0, by rw [HE.out]; rfl, by rw [HE.out]; simp [FitNodesOut, I64], by rw [HE.out]; exact OwS.nil _⟩, fun b hb => absurd hb (by simp), setCells_ext HRB.out _ _ _ X0.out⟩
  have hl2 : l.length ≤ 400 := by omega
  cases ht : nodesRight l with
  | false =>
    have HE : Hid (nodeSet l n st = ⟨[], 1⟩) := Lib.hid (by rw [nodeSet, if_neg hl, if_pos (.inl ht)])
    clear hl
    go_wp2_with (first | (go_at_call 13; (with_reducible refine (nodesRight_any (S := S) l _ _ (HR.out.ext X0.out)).mono ?_); rintro e w1 ⟨rfl, hx1⟩; have X1 := Lib.hid (X0.out.trans hx1); have R1 := Lib.hid (R0.out.ext hx1); clear hx1) | (refine wpList_store_mid rfl 29 _ _ rfl R 0 #[.slice none 0 0, .int .i64 1] rfl rfl (Blk.there (t := 29) (cs := #[.slice none 0 0, .int .i64 0]) R1.out) (by kernel_rfl) (all_oneCell_toArray (cs := [.slice none 0 0, .int .i64 1]) (by simp [Value.oneCell'])) ?_))
    exact bodyPost_ret (v := .agg #[.slice none 0 0, .int .i64 1]) (results_blk Try.results10 rfl (Blk.setAll (t := 29) (cs := #[.slice none 0 0, .int .i64 0]) (vs := #[.slice none 0 0, .int .i64 1]) R1.out rfl) Try.underlying29 rfl (by kernel_rfl)) rfl ⟨_, [], rfl, ⟨.slice none 0 0, by rw [HE.out]; rfl, by rw [HE.out]; simp [FitNodesOut, I64], by rw [HE.out]; exact OwS.nil _⟩, fun b hb => absurd hb (by simp), setCells_ext HRB.out _ _ _ X1.out⟩
  | true =>
  cases hs : stateOk st with
  | false =>
    have HE : Hid (nodeSet l n st = ⟨[], 1⟩) := Lib.hid (by rw [nodeSet, if_neg hl, if_pos (.inr hs)])
    clear hl
    go_wp2_with (first | (go_at_call 13; (with_reducible refine (nodesRight_any (S := S) l _ _ (HR.out.ext X0.out)).mono ?_); rintro e w1 ⟨rfl, hx1⟩; have X1 := Lib.hid (X0.out.trans hx1); have R1 := Lib.hid (R0.out.ext hx1); clear hx1) | (go_at_call 69; refine (isNodeState_any _ _).mono ?_; rintro e w' ⟨rfl, rfl⟩) | (refine wpList_store_mid rfl 29 _ _ rfl R 0 #[.slice none 0 0, .int .i64 1] rfl rfl (Blk.there (t := 29) (cs := #[.slice none 0 0, .int .i64 0]) R1.out) (by kernel_rfl) (all_oneCell_toArray (cs := [.slice none 0 0, .int .i64 1]) (by simp [Value.oneCell'])) ?_))
    exact bodyPost_ret (v := .agg #[.slice none 0 0, .int .i64 1]) (results_blk Try.results10 rfl (Blk.setAll (t := 29) (cs := #[.slice none 0 0, .int .i64 0]) (vs := #[.slice none 0 0, .int .i64 1]) R1.out rfl) Try.underlying29 rfl (by kernel_rfl)) rfl ⟨_, [], rfl, ⟨.slice none 0 0, by rw [HE.out]; rfl, by rw [HE.out]; simp [FitNodesOut, I64], by rw [HE.out]; exact OwS.nil _⟩, fun b hb => absurd hb (by simp), setCells_ext HRB.out _ _ _ X1.out⟩
  | true =>
  cases hn : isNode l n with
  | false =>
    have HE : Hid (nodeSet l n st = ⟨[], 6⟩) := Lib.hid (by rw [nodeSet, if_neg hl, if_neg (by simp [ht, hs]), if_pos hn])
    clear hl
    go_wp2_with (first | (go_at_call 13; (with_reducible refine (nodesRight_any (S := S) l _ _ (HR.out.ext X0.out)).mono ?_); rintro e w1 ⟨rfl, hx1⟩; have X1 := Lib.hid (X0.out.trans hx1); have R1 := Lib.hid (R0.out.ext hx1); clear hx1) | (go_at_call 69; refine (isNodeState_any _ _).mono ?_; rintro e w' ⟨rfl, rfl⟩) | (go_at_call 56; refine (isNodeOf_any l n _ _ _ hl2).mono ?_; rintro e w' ⟨rfl, rfl⟩) | (refine wpList_store_mid rfl 29 _ _ rfl R 0 #[.slice none 0 0, .int .i64 6] rfl rfl (Blk.there (t := 29) (cs := #[.slice none 0 0, .int .i64 0]) R1.out) (by kernel_rfl) (all_oneCell_toArray (cs := [.slice none 0 0, .int .i64 6]) (by simp [Value.oneCell'])) ?_))
    exact bodyPost_ret (v := .agg #[.slice none 0 0, .int .i64 6]) (results_blk Try.results10 rfl (Blk.setAll (t := 29) (cs := #[.slice none 0 0, .int .i64 0]) (vs := #[.slice none 0 0, .int .i64 6]) R1.out rfl) Try.underlying29 rfl (by kernel_rfl)) rfl ⟨_, [], rfl, ⟨.slice none 0 0, by rw [HE.out]; rfl, by rw [HE.out]; simp [FitNodesOut, I64], by rw [HE.out]; exact OwS.nil _⟩, fun b hb => absurd hb (by simp), setCells_ext HRB.out _ _ _ X1.out⟩
  | true =>
  obtain ⟨d, rfl, hd⟩ := isNode_nat hn
  obtain ⟨b, q, cs, rfl, _, ⟨v1, rfl, hfit, hrd⟩, hc⟩ := HK.out d hd
  have hd0 : (0 : Int) ≤ (d : Int) := Int.natCast_nonneg _
  have hdl : (d : Int) < (l.length : Int) := by omega
  have CE : Hid (∀ V, Ext w V → V.cell? ⟨b, q + d * 2, none⟩ = some (.int .i64 (nth l d).state)) := Lib.hid fun V hV => by have := Ext.some hV (hc 0 _ rfl); simpa [ENode] using this
  clear hc hrd
  by_cases he : (nth l d).state = st
  · have HE : Hid (nodeSet l (d : Int) st = ⟨[], 10⟩) := Lib.hid (by rw [nodeSet, if_neg hl, if_neg (by simp [ht, hs]), if_neg (by simp [hn]), Int.toNat_natCast, if_pos he])
    clear hl
    go_wp2_with (first | (go_at_call 13; (with_reducible refine (nodesRight_any (S := S) l _ _ (HR.out.ext X0.out)).mono ?_); rintro e w1 ⟨rfl, hx1⟩; have X1 := Lib.hid (X0.out.trans hx1); have R1 := Lib.hid (R0.out.ext hx1); clear hx1; have ce := CE.out _ X1.out) | (go_at_call 69; refine (isNodeState_any _ _).mono ?_; rintro e w' ⟨rfl, rfl⟩) | (go_at_call 56; refine (isNodeOf_any l (d : Int) _ _ _ hl2).mono ?_; rintro e w' ⟨rfl, rfl⟩) | (refine wpList_store_mid rfl 29 _ _ rfl R 0 #[.slice none 0 0, .int .i64 10] rfl rfl (Blk.there (t := 29) (cs := #[.slice none 0 0, .int .i64 0]) R1.out) (by kernel_rfl) (all_oneCell_toArray (cs := [.slice none 0 0, .int .i64 10]) (by simp [Value.oneCell'])) ?_))
    exact bodyPost_ret (v := .agg #[.slice none 0 0, .int .i64 10]) (results_blk Try.results10 rfl (Blk.setAll (t := 29) (cs := #[.slice none 0 0, .int .i64 0]) (vs := #[.slice none 0 0, .int .i64 10]) R1.out rfl) Try.underlying29 rfl (by kernel_rfl)) rfl ⟨_, [], rfl, ⟨.slice none 0 0, by rw [HE.out]; rfl, by rw [HE.out]; simp [FitNodesOut, I64], by rw [HE.out]; exact OwS.nil _⟩, fun b hb => absurd hb (by simp), setCells_ext HRB.out _ _ _ X1.out⟩
  have HE : Hid (nodeSet l (d : Int) st = ⟨l.set d { nth l d with state := st }, 0⟩) := Lib.hid (by rw [nodeSet, if_neg hl, if_neg (by simp [ht, hs]), if_neg (by simp [hn]), Int.toNat_natCast, if_neg he])
  have HS : Hid (∀ k, k < l.length → (nth l k).books.length ≤ 1000000000) := Lib.hid fun k hk => by have := (nodesRight_books ht hk).1; omega
  have HSt := Lib.hid hs
  clear hl
  go_upto_region 10 with (first | (go_at_call 13; (with_reducible refine (nodesRight_any (S := S) l _ _ (HR.out.ext X0.out)).mono ?_); rintro e w1 ⟨rfl, hx1⟩; have X1 := Lib.hid (X0.out.trans hx1); have R1 := Lib.hid (R0.out.ext hx1); clear hx1; have ce := CE.out _ X1.out) | (go_at_call 69; refine (isNodeState_any _ _).mono ?_; rintro e w' ⟨rfl, rfl⟩) | (go_at_call 56; refine (isNodeOf_any l (d : Int) _ _ _ hl2).mono ?_; rintro e w' ⟨rfl, rfl⟩) | (go_at_call 58; (with_reducible refine (copyNodes_any (S := S) l _ _ (HR.out.ext X1.out) (by omega) HS.out).mono ?_); rintro e w2 ⟨v2, F2, rfl, o2, g2, hx2⟩))
  have LF2 := Lib.hid o2.lt
  obtain ⟨B2, cc, G, cs2, hv2, hlc, hcm, hBF, hBG, hGF, ho, hc2, hfz, hth, hrow, hset⟩ := o2.at2 (k := d) hd
  subst hv2
  obtain ⟨u1, rfl, hfit2, q1⟩ := ho
  have e0 := hc2 0 _ rfl
  have z0 := hfz (d * 2)
  simp only [ENode, Nat.add_zero] at e0
  obtain ⟨W3, hW3⟩ : ∃ W3, W3 = w2.setCell ⟨B2, d * 2, none⟩ (.int .i64 st) := ⟨_, rfl⟩
  have HN : Hid (∃ F', OwS ONode 42 W3 (.slice (some ⟨B2, 0, none⟩) l.length cc) (l.set d { nth l d with state := st }) F' ∧ ∀ b ∈ F', b ∈ F2 ∨ w2.heap.size ≤ b) := Lib.hid (by
    rw [hW3]
    refine hset _ _ [.int .i64 st, u1] G (Kept.setCell (Kept.refl _ _) (by simp) _) (RowBut.setCell hrow (by simp [ENode]) (by simp [ENode]) _) ⟨u1, rfl, fit_state HSt.out, q1.kept (G := [B2]) (Kept.setCell (Kept.refl _ _) (by simp) _) (fun b hb => by simp; intro e; exact hBG (e ▸ hb))⟩ (fun b hb => .inl hb) ?_
    exact range_front (a := [.int .i64 (nth l d).state]) (a' := [.int .i64 st]) (b := [u1]) hc2 rfl (by have := there_sub (i := 0) (m := 1) hth (by simp [ENode]); simpa [ENode] using this))
  have X3 : Hid (Ext w W3) := Lib.hid (by rw [hW3]; exact (X1.out.trans hx2).setCell (Nat.le_trans X1.out.size (g2 _ hBF)) _)
  have hR : R < w1.heap.size := R1.out.lt
  have R3 : Hid (Blk W3 R 29 #[.slice none 0 0, .int .i64 0]) := Lib.hid (by rw [hW3]; exact (R1.out.ext hx2).far (by simp only; have := g2 _ hBF; omega) _)
  have HF2 : Hid (∀ b ∈ F2, w1.heap.size ≤ b) := Lib.hid g2
  have HX2 : Hid (w1.heap.size ≤ w2.heap.size) := Lib.hid hx2.size
  have HX1 : Hid (w.heap.size ≤ w1.heap.size) := Lib.hid X1.out.size
  clear o2 g2 hx2 hset hrow hth hc2 q1 hBF hBG hGF hlc hcm
  go_upto_region 11 with (fail)
  rw [← hW3]
  clear hW3 e0 z0 hfz
  obtain ⟨F3, o3, f3⟩ := HN.out
  have O3 := Lib.hid o3
  have G3 : Hid (∀ b ∈ F3, w1.heap.size ≤ b) := Lib.hid fun b hb => by rcases f3 b hb with h | h; exact HF2.out b h; exact Nat.le_trans HX2.out h
  clear o3 f3
  go_wp2_with (refine wpList_store_mid rfl 29 _ _ rfl R 0 #[.slice (some ⟨B2, 0, none⟩) l.length cc, .int .i64 0] rfl rfl (Blk.there (t := 29) (cs := #[.slice none 0 0, .int .i64 0]) R3.out) (by kernel_rfl) (all_oneCell_toArray (cs := [.slice (some ⟨B2, 0, none⟩) l.length cc, .int .i64 0]) (by simp [Value.oneCell'])) ?_)
  exact bodyPost_ret (v := .agg #[.slice (some ⟨B2, 0, none⟩) l.length cc, .int .i64 0]) (results_blk Try.results10 rfl (Blk.setAll (t := 29) (cs := #[.slice none 0 0, .int .i64 0]) (vs := #[.slice (some ⟨B2, 0, none⟩) l.length cc, .int .i64 0]) R3.out rfl) Try.underlying29 rfl (by kernel_rfl)) rfl ⟨_, F3, rfl, ⟨.slice (some ⟨B2, 0, none⟩) l.length cc, by rw [HE.out]; rfl, by rw [HE.out]; simp [FitNodesOut, I64], by rw [HE.out]; exact O3.out.kept (G := [R]) (Kept.setCells (by simp) _ _ _ (Kept.refl _ _)) (fun b hb => by have := G3.out b hb; simp; omega)⟩, fun b hb => Nat.le_trans HX1.out (G3.out b hb), setCells_ext HRB.out _ _ _ X3.out⟩

set_option maxHeartbeats 8000000 in
set_option maxRecDepth 100000 in
theorem specNodeSet_any {S : Nat → Prop} (l : List Node) (n st : Int) (v : Value) (w : World) (h : Rd ENode S w v l) :
    Calls Try.prog 11 #[v, .int .i64 n, .int .i64 st] w (RetOS ONodesOut (nodeSet l n st) w) := by
  have HR := Lib.hid h
  obtain ⟨A, c, rfl, h1, h2, hk⟩ := h.open_
  unfold maxLen at h2
  have HK := Lib.hid hk
  clear h hk
  go_enter Try.func11, Try.ntmps11
  go_upto_region 1 with (fail)
  obtain ⟨W, R, hW, hB, hx0, b0⟩ : ∃ W B, W = w.alloc (.cells #[.slice none 0 0, .int .i64 0] 29) ∧ B = w.heap.size ∧ Ext w W ∧ Blk W B 29 #[.slice none 0 0, .int .i64 0] := ⟨_, _, rfl, rfl, (Ext.refl w).alloc _, Blk.new _ _ _⟩
  rw [← hW, ← hB]
  have HRB : Hid (w.heap.size ≤ R) := Lib.hid (by omega)
  have R0 := Lib.hid b0
  have X0 := Lib.hid hx0
  clear hW hB hx0 b0
  by_cases hl : 400 < l.length
  · have HE : Hid (nodeSet l n st = ⟨[], 2⟩) := Lib.hid (by rw [nodeSet, if_pos hl])
    go_wp2_with (first | (go_at_call 60; refine (l10Ill_any _ _).mono ?_; rintro e wi ⟨rfl, hxi⟩; have XI := Lib.hid (X0.out.trans hxi); have RI := Lib.hid (R0.out.ext hxi); clear hxi) | (refine wpList_store_mid rfl 29 _ _ rfl R 0 #[.slice none 0 0, .int .i64 2] rfl rfl (Blk.there (t := 29) (cs := #[.slice none 0 0, .int .i64 0]) RI.out) (by kernel_rfl) (all_oneCell_toArray (cs := [.slice none 0 0, .int .i64 2]) (by simp [Value.oneCell'])) ?_))
    exact bodyPost_ret (v := .agg #[.slice none 0 0, .int .i64 2]) (results_blk Try.results11 rfl (Blk.setAll (t := 29) (cs := #[.slice none 0 0, .int .i64 0]) (vs := #[.slice none 0 0, .int .i64 2]) RI.out rfl) Try.underlying29 rfl (by kernel_rfl)) rfl ⟨_, [], rfl, ⟨.slice none 0 0, by rw [HE.out]; rfl, by rw [HE.out]; simp [FitNodesOut, I64], by rw [HE.out]; exact OwS.nil _⟩, fun b hb => absurd hb (by simp), setCells_ext HRB.out _ _ _ XI.out⟩
  have hl2 : l.length ≤ 400 := by omega
  cases ht : nodesRight l with
  | false =>
    have HE : Hid (nodeSet l n st = ⟨[], 1⟩) := Lib.hid (by rw [nodeSet, if_neg hl, if_pos (.inl ht)])
    clear hl
    go_wp2_with (first | (go_at_call 14; (with_reducible refine (specNodesRight_any (S := S) l _ _ (HR.out.ext X0.out)).mono ?_); rintro e w1 ⟨rfl, hx1⟩; have X1 := Lib.hid (X0.out.trans hx1); have R1 := Lib.hid (R0.out.ext hx1); clear hx1) | (go_at_call 60; refine (l10Ill_any _ _).mono ?_; rintro e wi ⟨rfl, hxi⟩; have XI := Lib.hid (X1.out.trans hxi); have RI := Lib.hid (R1.out.ext hxi); clear hxi) | (refine wpList_store_mid rfl 29 _ _ rfl R 0 #[.slice none 0 0, .int .i64 1] rfl rfl (Blk.there (t := 29) (cs := #[.slice none 0 0, .int .i64 0]) RI.out) (by kernel_rfl) (all_oneCell_toArray (cs := [.slice none 0 0, .int .i64 1]) (by simp [Value.oneCell'])) ?_))
    exact bodyPost_ret (v := .agg #[.slice none 0 0, .int .i64 1]) (results_blk Try.results11 rfl (Blk.setAll (t := 29) (cs := #[.slice none 0 0, .int .i64 0]) (vs := #[.slice none 0 0, .int .i64 1]) RI.out rfl) Try.underlying29 rfl (by kernel_rfl)) rfl ⟨_, [], rfl, ⟨.slice none 0 0, by rw [HE.out]; rfl, by rw [HE.out]; simp [FitNodesOut, I64], by rw [HE.out]; exact OwS.nil _⟩, fun b hb => absurd hb (by simp), setCells_ext HRB.out _ _ _ XI.out⟩
  | true =>
  cases hs : stateOk st with
  | false =>
    have HE : Hid (nodeSet l n st = ⟨[], 1⟩) := Lib.hid (by rw [nodeSet, if_neg hl, if_pos (.inr hs)])
    clear hl
    go_wp2_with (first | (go_at_call 14; (with_reducible refine (specNodesRight_any (S := S) l _ _ (HR.out.ext X0.out)).mono ?_); rintro e w1 ⟨rfl, hx1⟩; have X1 := Lib.hid (X0.out.trans hx1); have R1 := Lib.hid (R0.out.ext hx1); clear hx1) | (go_at_call 70; refine (l10State_any _ _).mono ?_; rintro e w' ⟨rfl, rfl⟩) | (go_at_call 60; refine (l10Ill_any _ _).mono ?_; rintro e wi ⟨rfl, hxi⟩; have XI := Lib.hid (X1.out.trans hxi); have RI := Lib.hid (R1.out.ext hxi); clear hxi) | (refine wpList_store_mid rfl 29 _ _ rfl R 0 #[.slice none 0 0, .int .i64 1] rfl rfl (Blk.there (t := 29) (cs := #[.slice none 0 0, .int .i64 0]) RI.out) (by kernel_rfl) (all_oneCell_toArray (cs := [.slice none 0 0, .int .i64 1]) (by simp [Value.oneCell'])) ?_))
    exact bodyPost_ret (v := .agg #[.slice none 0 0, .int .i64 1]) (results_blk Try.results11 rfl (Blk.setAll (t := 29) (cs := #[.slice none 0 0, .int .i64 0]) (vs := #[.slice none 0 0, .int .i64 1]) RI.out rfl) Try.underlying29 rfl (by kernel_rfl)) rfl ⟨_, [], rfl, ⟨.slice none 0 0, by rw [HE.out]; rfl, by rw [HE.out]; simp [FitNodesOut, I64], by rw [HE.out]; exact OwS.nil _⟩, fun b hb => absurd hb (by simp), setCells_ext HRB.out _ _ _ XI.out⟩
  | true =>
  cases hn : isNode l n with
  | false =>
    have HE : Hid (nodeSet l n st = ⟨[], 6⟩) := Lib.hid (by rw [nodeSet, if_neg hl, if_neg (by simp [ht, hs]), if_pos hn])
    clear hl
    go_wp2_with (first | (go_at_call 14; (with_reducible refine (specNodesRight_any (S := S) l _ _ (HR.out.ext X0.out)).mono ?_); rintro e w1 ⟨rfl, hx1⟩; have X1 := Lib.hid (X0.out.trans hx1); have R1 := Lib.hid (R0.out.ext hx1); clear hx1) | (go_at_call 70; refine (l10State_any _ _).mono ?_; rintro e w' ⟨rfl, rfl⟩) | (go_at_call 63; refine (l10Place_any l n _ _ _ hl2).mono ?_; rintro e w' ⟨rfl, rfl⟩) | (go_at_call 60; refine (l10Ill_any _ _).mono ?_; rintro e wi ⟨rfl, hxi⟩; have XI := Lib.hid (X1.out.trans hxi); have RI := Lib.hid (R1.out.ext hxi); clear hxi) | (refine wpList_store_mid rfl 29 _ _ rfl R 0 #[.slice none 0 0, .int .i64 6] rfl rfl (Blk.there (t := 29) (cs := #[.slice none 0 0, .int .i64 0]) RI.out) (by kernel_rfl) (all_oneCell_toArray (cs := [.slice none 0 0, .int .i64 6]) (by simp [Value.oneCell'])) ?_))
    exact bodyPost_ret (v := .agg #[.slice none 0 0, .int .i64 6]) (results_blk Try.results11 rfl (Blk.setAll (t := 29) (cs := #[.slice none 0 0, .int .i64 0]) (vs := #[.slice none 0 0, .int .i64 6]) RI.out rfl) Try.underlying29 rfl (by kernel_rfl)) rfl ⟨_, [], rfl, ⟨.slice none 0 0, by rw [HE.out]; rfl, by rw [HE.out]; simp [FitNodesOut, I64], by rw [HE.out]; exact OwS.nil _⟩, fun b hb => absurd hb (by simp), setCells_ext HRB.out _ _ _ XI.out⟩
  | true =>
  obtain ⟨d, rfl, hd⟩ := isNode_nat hn
  obtain ⟨b, q, cs, rfl, _, ⟨v1, rfl, hfit, hrd⟩, hc⟩ := HK.out d hd
  have hd0 : (0 : Int) ≤ (d : Int) := Int.natCast_nonneg _
  have hdl : (d : Int) < (l.length : Int) := by omega
  have CE : Hid (∀ V, Ext w V → V.cell? ⟨b, q + d * 2, none⟩ = some (.int .i64 (nth l d).state)) := Lib.hid fun V hV => by have := Ext.some hV (hc 0 _ rfl); simpa [ENode] using this
  clear hc hrd
  by_cases he : (nth l d).state = st
  · have HE : Hid (nodeSet l (d : Int) st = ⟨[], 10⟩) := Lib.hid (by rw [nodeSet, if_neg hl, if_neg (by simp [ht, hs]), if_neg (by simp [hn]), Int.toNat_natCast, if_pos he])
    clear hl
    go_wp2_with (first | (go_at_call 14; (with_reducible refine (specNodesRight_any (S := S) l _ _ (HR.out.ext X0.out)).mono ?_); rintro e w1 ⟨rfl, hx1⟩; have X1 := Lib.hid (X0.out.trans hx1); have R1 := Lib.hid (R0.out.ext hx1); clear hx1; have ce := CE.out _ X1.out) | (go_at_call 70; refine (l10State_any _ _).mono ?_; rintro e w' ⟨rfl, rfl⟩) | (go_at_call 63; refine (l10Place_any l (d : Int) _ _ _ hl2).mono ?_; rintro e w' ⟨rfl, rfl⟩) | (go_at_call 60; refine (l10Ill_any _ _).mono ?_; rintro e wi ⟨rfl, hxi⟩; have XI := Lib.hid (X1.out.trans hxi); have RI := Lib.hid (R1.out.ext hxi); clear hxi) | (refine wpList_store_mid rfl 29 _ _ rfl R 0 #[.slice none 0 0, .int .i64 10] rfl rfl (Blk.there (t := 29) (cs := #[.slice none 0 0, .int .i64 0]) RI.out) (by kernel_rfl) (all_oneCell_toArray (cs := [.slice none 0 0, .int .i64 10]) (by simp [Value.oneCell'])) ?_))
    exact bodyPost_ret (v := .agg #[.slice none 0 0, .int .i64 10]) (results_blk Try.results11 rfl (Blk.setAll (t := 29) (cs := #[.slice none 0 0, .int .i64 0]) (vs := #[.slice none 0 0, .int .i64 10]) RI.out rfl) Try.underlying29 rfl (by kernel_rfl)) rfl ⟨_, [], rfl, ⟨.slice none 0 0, by rw [HE.out]; rfl, by rw [HE.out]; simp [FitNodesOut, I64], by rw [HE.out]; exact OwS.nil _⟩, fun b hb => absurd hb (by simp), setCells_ext HRB.out _ _ _ XI.out⟩
  have HE : Hid (nodeSet l (d : Int) st = ⟨l.set d { nth l d with state := st }, 0⟩) := Lib.hid (by rw [nodeSet, if_neg hl, if_neg (by simp [ht, hs]), if_neg (by simp [hn]), Int.toNat_natCast, if_neg he])
  have HS : Hid (∀ k, k < l.length → (nth l k).books.length ≤ 1000000000) := Lib.hid fun k hk => by have := (nodesRight_books ht hk).1; omega
  have HSt := Lib.hid hs
  clear hl
  go_upto_region 10 with (first | (go_at_call 14; (with_reducible refine (specNodesRight_any (S := S) l _ _ (HR.out.ext X0.out)).mono ?_); rintro e w1 ⟨rfl, hx1⟩; have X1 := Lib.hid (X0.out.trans hx1); have R1 := Lib.hid (R0.out.ext hx1); clear hx1; have ce := CE.out _ X1.out) | (go_at_call 70; refine (l10State_any _ _).mono ?_; rintro e w' ⟨rfl, rfl⟩) | (go_at_call 63; refine (l10Place_any l (d : Int) _ _ _ hl2).mono ?_; rintro e w' ⟨rfl, rfl⟩) | (go_at_call 65; (with_reducible refine (l10Copy_any (S := S) l _ _ (HR.out.ext X1.out) (by omega) HS.out).mono ?_); rintro e w2 ⟨v2, F2, rfl, o2, g2, hx2⟩))
  have LF2 := Lib.hid o2.lt
  obtain ⟨B2, cc, G, cs2, hv2, hlc, hcm, hBF, hBG, hGF, ho, hc2, hfz, hth, hrow, hset⟩ := o2.at2 (k := d) hd
  subst hv2
  obtain ⟨u1, rfl, hfit2, q1⟩ := ho
  have e0 := hc2 0 _ rfl
  have z0 := hfz (d * 2)
  simp only [ENode, Nat.add_zero] at e0
  obtain ⟨W3, hW3⟩ : ∃ W3, W3 = w2.setCell ⟨B2, d * 2, none⟩ (.int .i64 st) := ⟨_, rfl⟩
  have HN : Hid (∃ F', OwS ONode 42 W3 (.slice (some ⟨B2, 0, none⟩) l.length cc) (l.set d { nth l d with state := st }) F' ∧ ∀ b ∈ F', b ∈ F2 ∨ w2.heap.size ≤ b) := Lib.hid (by
    rw [hW3]
    refine hset _ _ [.int .i64 st, u1] G (Kept.setCell (Kept.refl _ _) (by simp) _) (RowBut.setCell hrow (by simp [ENode]) (by simp [ENode]) _) ⟨u1, rfl, fit_state HSt.out, q1.kept (G := [B2]) (Kept.setCell (Kept.refl _ _) (by simp) _) (fun b hb => by simp; intro e; exact hBG (e ▸ hb))⟩ (fun b hb => .inl hb) ?_
    exact range_front (a := [.int .i64 (nth l d).state]) (a' := [.int .i64 st]) (b := [u1]) hc2 rfl (by have := there_sub (i := 0) (m := 1) hth (by simp [ENode]); simpa [ENode] using this))
  have X3 : Hid (Ext w W3) := Lib.hid (by rw [hW3]; exact (X1.out.trans hx2).setCell (Nat.le_trans X1.out.size (g2 _ hBF)) _)
  have hR : R < w1.heap.size := R1.out.lt
  have R3 : Hid (Blk W3 R 29 #[.slice none 0 0, .int .i64 0]) := Lib.hid (by rw [hW3]; exact (R1.out.ext hx2).far (by simp only; have := g2 _ hBF; omega) _)
  have HF2 : Hid (∀ b ∈ F2, w1.heap.size ≤ b) := Lib.hid g2
  have HX2 : Hid (w1.heap.size ≤ w2.heap.size) := Lib.hid hx2.size
  have HX1 : Hid (w.heap.size ≤ w1.heap.size) := Lib.hid X1.out.size
  clear o2 g2 hx2 hset hrow hth hc2 q1 hBF hBG hGF hlc hcm
  go_upto_region 11 with (fail)
  rw [← hW3]
  clear hW3 e0 z0 hfz
  obtain ⟨F3, o3, f3⟩ := HN.out
  have O3 := Lib.hid o3
  have G3 : Hid (∀ b ∈ F3, w1.heap.size ≤ b) := Lib.hid fun b hb => by rcases f3 b hb with h | h; exact HF2.out b h; exact Nat.le_trans HX2.out h
  clear o3 f3
  go_wp2_with (refine wpList_store_mid rfl 29 _ _ rfl R 0 #[.slice (some ⟨B2, 0, none⟩) l.length cc, .int .i64 0] rfl rfl (Blk.there (t := 29) (cs := #[.slice none 0 0, .int .i64 0]) R3.out) (by kernel_rfl) (all_oneCell_toArray (cs := [.slice (some ⟨B2, 0, none⟩) l.length cc, .int .i64 0]) (by simp [Value.oneCell'])) ?_)
  exact bodyPost_ret (v := .agg #[.slice (some ⟨B2, 0, none⟩) l.length cc, .int .i64 0]) (results_blk Try.results11 rfl (Blk.setAll (t := 29) (cs := #[.slice none 0 0, .int .i64 0]) (vs := #[.slice (some ⟨B2, 0, none⟩) l.length cc, .int .i64 0]) R3.out rfl) Try.underlying29 rfl (by kernel_rfl)) rfl ⟨_, F3, rfl, ⟨.slice (some ⟨B2, 0, none⟩) l.length cc, by rw [HE.out]; rfl, by rw [HE.out]; simp [FitNodesOut, I64], by rw [HE.out]; exact O3.out.kept (G := [R]) (Kept.setCells (by simp) _ _ _ (Kept.refl _ _)) (fun b hb => by have := G3.out b hb; simp; omega)⟩, fun b hb => Nat.le_trans HX1.out (G3.out b hb), setCells_ext HRB.out _ _ _ X3.out⟩

end Go.Proofs.Ytbdicafambkhdaa

/- What the functions on nodes compute, in plain Lean. Small functions on nodes. Copies of nodes, with reservations of their own. Printed by wip/nodec.py. -/
import Derived.Test.YtngldifgcgblpaaGreatNodes
import Derived.Test.YtngldifgcgblpaaGreatOwn2
import Derived.Test.YtngldifgcgblpaaGreatClones
import Derived.Deep.RegionHeld3
namespace Go.Proofs.YtngldifgcgblpaaGreat
open Go.RowKit
theorem nodesRight_length {l : List Node} (h : nodesRight l = true) : 1 ≤ l.length ∧ l.length ≤ 6 := by
  simp only [nodesRight, Bool.and_eq_true] at h
  have := isB_true h.1
  omega
theorem nodesRight_node {l : List Node} (h : nodesRight l = true) {k : Nat} (hk : k < l.length) : nodeOk (nth l k) = true := by
  simp only [nodesRight, Bool.and_eq_true, List.all_eq_true] at h
  exact h.2 _ (nth_mem hk)
theorem nodesRight_books {l : List Node} (h : nodesRight l = true) {k : Nat} (hk : k < l.length) : (nth l k).books.length ≤ 4 ∧ spansRight (nth l k).books = true := by
  have := nodesRight_node h hk
  simp only [nodeOk, Bool.and_eq_true, decide_eq_true_eq] at this
  exact this.2
end Go.Proofs.YtngldifgcgblpaaGreat
namespace Go.Proofs.YtngldifgcgblpaaGreat
open Go.RowKit
attribute [local irreducible] wpQuiet
end Go.Proofs.YtngldifgcgblpaaGreat
namespace Go.Proofs.YtngldifgcgblpaaGreat
open Go.RowKit
attribute [local irreducible] wpQuiet
set_option maxHeartbeats 8000000 in
set_option maxRecDepth 100000 in
theorem copyNodes_any {S : Nat → Prop} (l : List Node) (v : Value) (w : World) (h : Rd ENode S w v l) (hl : l.length ≤ 1000000) (hs : ∀ k, k < l.length → (nth l k).books.length ≤ 1000000000) :
    Calls Tryz.prog 158 #[v] w (RetO ONode 151 l w) := by
  obtain ⟨A, c, rfl, h1, h2, hk⟩ := h.open_
  unfold maxLen at h2
  have HK := Lib.hid hk
  have HS := Lib.hid hs
  clear hk h hs
  go_enter Tryz.func158, Tryz.ntmps158
  go_wp2_with fail
  obtain ⟨W, B, hW, hB, hx0, b0⟩ : ∃ W B, W = w.alloc (.cells #[] 151) ∧ B = w.heap.size ∧ Ext w W ∧ Blk W B 151 #[] := ⟨_, _, rfl, rfl, (Ext.refl w).alloc _, Blk.new _ _ _⟩
  rw [← hW, ← hB]
  have HB : Hid (w.heap.size ≤ B) := Lib.hid (by omega)
  have B0 := Lib.hid b0
  have X0 := Lib.hid hx0
  clear hW hB hx0 b0
  go_loopw [3, 9] (fun v i w' => ∃ (k : Nat) (F : List Nat), k ≤ l.length ∧ i = .int .i64 k ∧ OwS ONode 151 w' v (l.take k) F ∧ (∀ b ∈ F, w.heap.size ≤ b) ∧ Ext w w') (fun _ i _ => l.length - (intOf i).toNat)
  case atStart => exact ⟨0, [B], by omega, rfl, .inr ⟨B, 0, #[], [], rfl, B0.out, Nat.le_refl _, Nat.zero_le _, rfl, rfl, rfl, by simp, fun k hk => absurd hk (Nat.not_lt_zero _)⟩, fun b hb => by rw [List.mem_singleton.1 hb]; exact HB.out, X0.out⟩
  case round =>
    obtain ⟨k, F, hk1, rfl, hown, hF, hx⟩ := hrel
    have HO := Lib.hid hown
    have HF := Lib.hid hF
    have HX := Lib.hid hx
    have LF := Lib.hid hown.lt
    clear hown hF
    by_cases hlt : k < l.length
    · obtain ⟨b, q, cs, rfl, _, ⟨v1, rfl, hfit, hrd⟩, hc⟩ := HK.out k hlt
      obtain ⟨A1, d1, rfl, -⟩ := hrd.form
      have HBL : Hid (b < w.heap.size) := Lib.hid (World.block_lt_of_cell? w _ (hc 0 _ rfl))
      have c0 := Ext.some hx (hc 0 _ rfl)
      have c1 := Ext.some hx (hc 1 _ rfl)
      simp only [ENode, Nat.add_zero] at c0 c1
      have HFit := Lib.hid hfit
      have HRD := Lib.hid (hrd.ext hx)
      have HN := Lib.hid (HS.out k hlt)
      have HT := Lib.hid (take_succ_nth hlt)
      have ND0 := Lib.hid HO.out.nodup
      clear hc hfit hx hrd
      go_wp2_with fail
      obtain ⟨W5, B5, hW5, hB5, hx5, b5⟩ : ∃ W B, W = wr.alloc (.cells #[.int .i64 (nth l k).state, .slice A1 (nth l k).books.length d1] 151) ∧ B = wr.heap.size ∧ Ext wr W ∧ Blk W B 151 #[.int .i64 (nth l k).state, .slice A1 (nth l k).books.length d1] := ⟨_, _, rfl, rfl, (Ext.refl _).alloc _, Blk.new _ _ _⟩
      rw [← hW5, ← hB5]
      have hnF : B5 ∉ F := fun hb => by have := LF.out _ hb; omega
      have X5 := Lib.hid hx5
      have al0 : ∀ V, Kept F W5 V → V.cell? ⟨B5, 0, none⟩ = some (.int .i64 (nth l k).state) := fun V hV => hV.cell hnF (b5.cell 0)
      have al1 : ∀ V, Kept F W5 V → V.cell? ⟨B5, 1, none⟩ = some (.slice A1 (nth l k).books.length d1) := fun V hV => hV.cell hnF (b5.cell 1)
      clear hW5 hB5 hx5 b5 c0 c1
      go_region_held3 (fun w' => Kept F W5 w') (first | exact Kept.refl _ _ | exact Kept.of_ext (Ext.refl _).drew | assumption | exact Kept.trans (by assumption) (Kept.of_ext ((Ext.refl _).alloc _)) | exact Kept.trans (by assumption) (Kept.of_ext X1.out) | exact Kept.trans (by assumption) HKP.out | exact Kept.trans (by assumption) (Kept.of_ext (Ext.refl _).drew)) (first | (go_at_call 248; (with_reducible refine (cloneSpan_any (S := S) (nth l k).books _ _ (HRD.out.ext (by repeat (first | with_reducible exact X5.out | refine Ext.drew ?_ | refine Ext.alloc ?_ _))) HN.out).mono ?_); rintro e w1 ⟨u1, G1, rfl, q1, g1, hx1⟩; obtain ⟨p1, k1, rfl, -⟩ := OwS.form q1; have X1 := Lib.hid hx1; have X51 : Hid (Ext wr w1) := Lib.hid (Ext.trans (by repeat (first | with_reducible exact X5.out | refine Ext.drew ?_ | refine Ext.alloc ?_ _)) hx1); have Q1 := Lib.hid q1; have Z1 : Hid (∀ b ∈ G1, wr.heap.size ≤ b) := Lib.hid (fun b hb => Nat.le_trans (Ext.size (by repeat (first | with_reducible exact X5.out | refine Ext.drew ?_ | refine Ext.alloc ?_ _))) (g1 b hb)); have ND : Hid ((F ++ G1).Nodup) := Lib.hid (nodup_two ND0.out (OwS.nodup q1) (fun b h1 h2 => absurd (LF.out b h1) (Nat.not_lt.2 (Nat.le_trans (Ext.size (by repeat (first | with_reducible exact X5.out | refine Ext.drew ?_ | refine Ext.alloc ?_ _))) (g1 b h2))))); clear q1 g1 hx1) | (refine step_append_one (O := ONode) (T := 151) (l := l.take k) (F := F) (G := G1) (y := nth l k) (by rfl) _ _ 40 (by rfl) (.agg #[.int .i64 0, .slice none 0 0]) 2 32 Tryz.underlying40 (by kernel_rfl) rfl rfl (by rfl) (HO.out.ext (by repeat (first | with_reducible exact X51.out | refine Ext.drew ?_ | refine Ext.alloc ?_ _))) _ 0 1 (by rfl) ⟨.slice p1 (nth l k).books.length k1, by simp [cellsNode], HFit.out, Q1.out.ext (by repeat (first | with_reducible exact (Ext.refl w1) | refine Ext.drew ?_ | refine Ext.alloc ?_ _))⟩ (Blk.new _ _ _).range ND.out (by rw [List.length_take]; omega) (by decide) ?_; intro v' w9 F' how hkp hF'; have HOW := Lib.hid how; have HKP := Lib.hid hkp; have HFF := Lib.hid hF'; clear how hkp hF'))
      clear al0 al1
      go_wp2_with fail
      refine ⟨⟨k + 1, F', by omega, by go_num, by rw [HT.out]; exact HOW.out, fun b hb => match HFF.out b hb with | .inl h => HF.out b h | .inr (.inl h) => Nat.le_trans HX.out.size (Z1.out b h) | .inr (.inr h) => Nat.le_trans (Nat.le_trans HX.out.size X51.out.size) (Nat.le_trans (Ext.size (by first | exact Ext.refl _ | exact (Ext.refl _).alloc _ | exact ((Ext.refl _).drew).alloc _)) h), Kept.ext (HX.out.trans X5.out) (by assumption) HF.out⟩, ?_⟩
      simp [intOf]
      omega
    · obtain rfl : k = l.length := by omega
      go_wp2_with fail
      go_ret
      exact ⟨_, F, rfl, by have h := HO.out; rw [List.take_length] at h; exact h, HF.out, HX.out⟩
set_option maxHeartbeats 8000000 in
set_option maxRecDepth 100000 in
theorem l10Copy_any {S : Nat → Prop} (l : List Node) (v : Value) (w : World) (h : Rd ENode S w v l) (hl : l.length ≤ 1000000) (hs : ∀ k, k < l.length → (nth l k).books.length ≤ 1000000000) :
    Calls Tryz.prog 169 #[v] w (RetO ONode 151 l w) := by
  obtain ⟨A, c, rfl, h1, h2, hk⟩ := h.open_
  unfold maxLen at h2
  have HK := Lib.hid hk
  have HS := Lib.hid hs
  clear hk h hs
  go_enter Tryz.func169, Tryz.ntmps169
  go_wp2_with fail
  obtain ⟨W, B, hW, hB, hx0, b0⟩ : ∃ W B, W = w.alloc (.cells #[] 151) ∧ B = w.heap.size ∧ Ext w W ∧ Blk W B 151 #[] := ⟨_, _, rfl, rfl, (Ext.refl w).alloc _, Blk.new _ _ _⟩
  rw [← hW, ← hB]
  have HB : Hid (w.heap.size ≤ B) := Lib.hid (by omega)
  have B0 := Lib.hid b0
  have X0 := Lib.hid hx0
  clear hW hB hx0 b0
  go_loopw [3, 4] (fun v i w' => ∃ (k : Nat) (F : List Nat), k ≤ l.length ∧ i = .int .i64 k ∧ OwS ONode 151 w' v (l.take k) F ∧ (∀ b ∈ F, w.heap.size ≤ b) ∧ Ext w w') (fun _ i _ => l.length - (intOf i).toNat)
  case atStart => exact ⟨0, [B], by omega, rfl, .inr ⟨B, 0, #[], [], rfl, B0.out, Nat.le_refl _, Nat.zero_le _, rfl, rfl, rfl, by simp, fun k hk => absurd hk (Nat.not_lt_zero _)⟩, fun b hb => by rw [List.mem_singleton.1 hb]; exact HB.out, X0.out⟩
  case round =>
    obtain ⟨k, F, hk1, rfl, hown, hF, hx⟩ := hrel
    have HO := Lib.hid hown
    have HF := Lib.hid hF
    have HX := Lib.hid hx
    have LF := Lib.hid hown.lt
    clear hown hF
    by_cases hlt : k < l.length
    · obtain ⟨b, q, cs, rfl, _, ⟨v1, rfl, hfit, hrd⟩, hc⟩ := HK.out k hlt
      obtain ⟨A1, d1, rfl, -⟩ := hrd.form
      have HBL : Hid (b < w.heap.size) := Lib.hid (World.block_lt_of_cell? w _ (hc 0 _ rfl))
      have c0 := Ext.some hx (hc 0 _ rfl)
      have c1 := Ext.some hx (hc 1 _ rfl)
      simp only [ENode, Nat.add_zero] at c0 c1
      have HFit := Lib.hid hfit
      have HRD := Lib.hid (hrd.ext hx)
      have HN := Lib.hid (HS.out k hlt)
      have HT := Lib.hid (take_succ_nth hlt)
      have ND0 := Lib.hid HO.out.nodup
      clear hc hfit hx hrd
      go_wp2_with fail
      have hnF : b ∉ F := fun hb => by have := HF.out _ hb; have := HBL.out; omega
      have X5 : Hid (Ext wr wr) := Lib.hid (Ext.refl _)
      have al0 : ∀ V, Kept F wr V → V.cell? ⟨b, q + k * 2, none⟩ = some (.int .i64 (nth l k).state) := fun V hV => hV.cell hnF c0
      have al1 : ∀ V, Kept F wr V → V.cell? ⟨b, q + k * 2 + 1, none⟩ = some (.slice A1 (nth l k).books.length d1) := fun V hV => hV.cell hnF c1
      clear c0 c1
      go_region_held3 (fun w' => Kept F wr w') (first | exact Kept.refl _ _ | exact Kept.of_ext (Ext.refl _).drew | assumption | exact Kept.trans (by assumption) (Kept.of_ext ((Ext.refl _).alloc _)) | exact Kept.trans (by assumption) (Kept.of_ext X1.out) | exact Kept.trans (by assumption) HKP.out | exact Kept.trans (by assumption) (Kept.of_ext (Ext.refl _).drew)) (first | (refine step_append_flat (E := ESpan) (T := 63) (hfl := fun h => h) (l := []) (ys := (nth l k).books) (F := []) (S := S) (by rfl) _ _ 149 (by rfl) (.agg #[.int .i64 0, .int .i64 0]) 2 16 Tryz.underlying149 (by kernel_rfl) rfl rfl (by rfl) (OwS.nil _) (by rfl) (HRD.out.ext (by repeat (first | with_reducible exact (Ext.refl wr) | refine Ext.drew ?_ | refine Ext.alloc ?_ _))) (by have := HN.out; simp only [List.length_nil, maxLen]; omega) (by have := HN.out; simp only [List.length_nil]; omega) ?_; intro u1 w1 G1 q1 hkp1 hf1; have hx1 := hkp1.ext (Ext.refl _) (fun b hb => absurd hb (by simp)); simp only [List.nil_append] at q1; obtain ⟨p1, k1, rfl, -⟩ := OwS.form q1; have X1 := Lib.hid hx1; have X51 : Hid (Ext wr w1) := Lib.hid (Ext.trans (by repeat (first | with_reducible exact (Ext.refl wr) | refine Ext.drew ?_ | refine Ext.alloc ?_ _)) hx1); have Q1 : Hid (OwS OSpan 63 w1 _ (nth l k).books G1) := Lib.hid q1; have Z1 : Hid (∀ b ∈ G1, wr.heap.size ≤ b) := Lib.hid (fun b hb => Or.elim (hf1 b hb) (fun h => absurd h (by simp)) (fun h => Nat.le_trans (Ext.size (by repeat (first | with_reducible exact (Ext.refl wr) | refine Ext.drew ?_ | refine Ext.alloc ?_ _))) h)); have ND : Hid ((F ++ G1).Nodup) := Lib.hid (nodup_two ND0.out (OwS.nodup q1) (fun b h1 h2 => absurd (LF.out b h1) (Nat.not_lt.2 (Z1.out b h2)))); clear q1 hkp1 hf1 hx1) | (refine step_append_one (O := ONode) (T := 151) (l := l.take k) (F := F) (G := G1) (y := nth l k) (by rfl) _ _ 40 (by rfl) (.agg #[.int .i64 0, .slice none 0 0]) 2 32 Tryz.underlying40 (by kernel_rfl) rfl rfl (by rfl) (HO.out.ext (by repeat (first | with_reducible exact X51.out | refine Ext.drew ?_ | refine Ext.alloc ?_ _))) _ 0 1 (by rfl) ⟨.slice p1 (nth l k).books.length k1, by simp [cellsNode], HFit.out, Q1.out.ext (by repeat (first | with_reducible exact (Ext.refl w1) | refine Ext.drew ?_ | refine Ext.alloc ?_ _))⟩ (Blk.new _ _ _).range ND.out (by rw [List.length_take]; omega) (by decide) ?_; intro v' w9 F' how hkp hF'; have HOW := Lib.hid how; have HKP := Lib.hid hkp; have HFF := Lib.hid hF'; clear how hkp hF'))
      clear al0 al1
      go_wp2_with fail
      refine ⟨⟨k + 1, F', by omega, by go_num, by rw [HT.out]; exact HOW.out, fun b hb => match HFF.out b hb with | .inl h => HF.out b h | .inr (.inl h) => Nat.le_trans HX.out.size (Z1.out b h) | .inr (.inr h) => Nat.le_trans (Nat.le_trans HX.out.size X51.out.size) (Nat.le_trans (Ext.size (by first | exact Ext.refl _ | exact (Ext.refl _).alloc _ | exact ((Ext.refl _).drew).alloc _)) h), Kept.ext HX.out (by assumption) HF.out⟩, ?_⟩
      simp [intOf]
      omega
    · obtain rfl : k = l.length := by omega
      go_wp2_with fail
      go_ret
      exact ⟨_, F, rfl, by have h := HO.out; rw [List.take_length] at h; exact h, HF.out, HX.out⟩
end Go.Proofs.YtngldifgcgblpaaGreat

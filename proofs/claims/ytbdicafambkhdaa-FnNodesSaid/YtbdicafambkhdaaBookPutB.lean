/- The walks of BookPut, the program's and the reference's. Printed by wip/bookput.py. How many numbers the result of BookPut takes. -/
import Derived.Test.YtbdicafambkhdaaPut
import Derived.Deep.RegionLaw
import Derived.Test.YtbdicafambkhdaaNodeB
namespace Go.Proofs.Ytbdicafambkhdaa
open Go.RowKit
attribute [local irreducible] wpQuiet

def bookPut (l : List Node) (n : Int) (x : Span) (now : Int) : NodesOut :=
  if 400 < l.length then ⟨[], 2⟩
  else if (nodesRight l && spanRight x && nowOk now) = false then ⟨[], 1⟩
  else if isNode l n = false then ⟨[], 6⟩
  else if (decide (x.from_ ≤ now) || decide (now + 40 < x.to_)) = true then ⟨[], 8⟩
  else if freeOf (nth l n.toNat).books x = false then ⟨[], 7⟩
  else if (nth l n.toNat).books.length = 4 then ⟨[], 9⟩
  else ⟨l.set n.toNat { nth l n.toNat with books := spanIns (nth l n.toNat).books x }, 0⟩

set_option maxHeartbeats 8000000 in
set_option maxRecDepth 100000 in
theorem bookPut_any {S : Nat → Prop} (l : List Node) (n : Int) (x : Span) (now : Int) (v : Value) (w : World) (h : Rd ENode S w v l) (hf : FitSpan x) :
    Calls Try.prog 7 #[v, .int .i64 n, .agg #[.int .i64 x.from_, .int .i64 x.to_], .int .i64 now] w (RetOS ONodesOut (bookPut l n x now) w) := by
  have HR := Lib.hid h
  obtain ⟨A, c, rfl, h1, h2, hk⟩ := h.open_
  unfold maxLen at h2
  have HK := Lib.hid hk
  have HF := Lib.hid hf
  clear h hk hf
  go_enter Try.func7, Try.ntmps7
  go_upto_region 1 with (fail)
  obtain ⟨W, R, hW, hB, hRP, hx0, p0, b0⟩ : ∃ W R, W = (w.alloc (.cells #[.int .i64 x.from_, .int .i64 x.to_] 25)).alloc (.cells #[.slice none 0 0, .int .i64 0] 29) ∧ w.heap.size + 1 = R ∧ w.heap.size < R ∧ Ext w W ∧ Blk W w.heap.size 25 #[.int .i64 x.from_, .int .i64 x.to_] ∧ Blk W R 29 #[.slice none 0 0, .int .i64 0] := ⟨_, _, rfl, rfl, Nat.lt_succ_self _, (((Ext.refl w).alloc _).alloc _), (Blk.new w _ _).ext ((Ext.refl _).alloc _), by have h := Blk.new (w.alloc (.cells #[.int .i64 x.from_, .int .i64 x.to_] 25)) 29 #[.slice none 0 0, .int .i64 0]; simpa using h⟩
  rw [← hW]
  try rw [hB]
  have HRB : Hid (w.heap.size ≤ R) := Lib.hid (by omega)
  have HRP : Hid (w.heap.size < R) := Lib.hid hRP
  have R0 := Lib.hid b0
  have P0 := Lib.hid p0
  have X0 := Lib.hid hx0
  clear hW hB hRP hx0 b0 p0
  have p0 : W.cell? ⟨w.heap.size, 0, none⟩ = some (.int .i64 x.from_) := P0.out.cell 0; have p1 : W.cell? ⟨w.heap.size, 1, none⟩ = some (.int .i64 x.to_) := P0.out.cell 1
  by_cases hl : 400 < l.length
  · have HE : Hid (bookPut l n x now = ⟨[], 2⟩) := Lib.hid (by rw [bookPut, if_pos hl])
    go_wp2_with (first | (refine wpList_store_mid rfl 29 _ _ rfl R 0 #[.slice none 0 0, .int .i64 2] rfl rfl (Blk.there (t := 29) (cs := #[.slice none 0 0, .int .i64 0]) R0.out) (by kernel_rfl) (all_oneCell_toArray (cs := [.slice none 0 0, .int .i64 2]) (by simp [Value.oneCell'])) ?_))
    exact bodyPost_ret (v := .agg #[.slice none 0 0, .int .i64 2]) (results_blk Try.results7 rfl (Blk.setAll (t := 29) (cs := #[.slice none 0 0, .int .i64 0]) (vs := #[.slice none 0 0, .int .i64 2]) R0.out rfl) Try.underlying29 rfl (by kernel_rfl)) rfl ⟨_, [], rfl, ⟨.slice none 0 0, by rw [HE.out]; rfl, by rw [HE.out]; simp [FitNodesOut, I64], by rw [HE.out]; exact OwS.nil _⟩, fun b hb => absurd hb (by simp), setCells_ext HRB.out _ _ _ X0.out⟩
  have hl2 : l.length ≤ 400 := by omega
  cases ht : nodesRight l with
  | false =>
    have HE : Hid (bookPut l n x now = ⟨[], 1⟩) := Lib.hid (by rw [bookPut, if_neg hl, if_pos (by simp [ht])])
    clear hl
    go_wp2_with (first | (go_at_call 13; (with_reducible refine (nodesRight_any (S := S) l _ _ (HR.out.ext X0.out)).mono ?_); rintro e w1 ⟨rfl, hx1⟩; have X1 := Lib.hid (X0.out.trans hx1); have R1 := Lib.hid (R0.out.ext hx1); have P1 := Lib.hid (P0.out.ext hx1); clear hx1 p0 p1; have p0 : w1.cell? ⟨w.heap.size, 0, none⟩ = some (.int .i64 x.from_) := P1.out.cell 0; have p1 : w1.cell? ⟨w.heap.size, 1, none⟩ = some (.int .i64 x.to_) := P1.out.cell 1) | (refine wpList_store_mid rfl 29 _ _ rfl R 0 #[.slice none 0 0, .int .i64 1] rfl rfl (Blk.there (t := 29) (cs := #[.slice none 0 0, .int .i64 0]) R1.out) (by kernel_rfl) (all_oneCell_toArray (cs := [.slice none 0 0, .int .i64 1]) (by simp [Value.oneCell'])) ?_))
    exact bodyPost_ret (v := .agg #[.slice none 0 0, .int .i64 1]) (results_blk Try.results7 rfl (Blk.setAll (t := 29) (cs := #[.slice none 0 0, .int .i64 0]) (vs := #[.slice none 0 0, .int .i64 1]) R1.out rfl) Try.underlying29 rfl (by kernel_rfl)) rfl ⟨_, [], rfl, ⟨.slice none 0 0, by rw [HE.out]; rfl, by rw [HE.out]; simp [FitNodesOut, I64], by rw [HE.out]; exact OwS.nil _⟩, fun b hb => absurd hb (by simp), setCells_ext HRB.out _ _ _ X1.out⟩
  | true =>
  cases hs : spanRight x with
  | false =>
    have HE : Hid (bookPut l n x now = ⟨[], 1⟩) := Lib.hid (by rw [bookPut, if_neg hl, if_pos (by simp [ht, hs])])
    clear hl
    go_wp2_with (first | (go_at_call 13; (with_reducible refine (nodesRight_any (S := S) l _ _ (HR.out.ext X0.out)).mono ?_); rintro e w1 ⟨rfl, hx1⟩; have X1 := Lib.hid (X0.out.trans hx1); have R1 := Lib.hid (R0.out.ext hx1); have P1 := Lib.hid (P0.out.ext hx1); clear hx1 p0 p1; have p0 : w1.cell? ⟨w.heap.size, 0, none⟩ = some (.int .i64 x.from_) := P1.out.cell 0; have p1 : w1.cell? ⟨w.heap.size, 1, none⟩ = some (.int .i64 x.to_) := P1.out.cell 1) | (go_at_call 54; (with_reducible refine (spanRight_any x _).mono ?_); rintro e w2 ⟨rfl, hx2⟩; have X2 := Lib.hid (X1.out.trans hx2); have R2 := Lib.hid (R1.out.ext hx2); have P2 := Lib.hid (P1.out.ext hx2); clear hx2 p0 p1; have p0 : w2.cell? ⟨w.heap.size, 0, none⟩ = some (.int .i64 x.from_) := P2.out.cell 0; have p1 : w2.cell? ⟨w.heap.size, 1, none⟩ = some (.int .i64 x.to_) := P2.out.cell 1) | (refine wpList_store_mid rfl 29 _ _ rfl R 0 #[.slice none 0 0, .int .i64 1] rfl rfl (Blk.there (t := 29) (cs := #[.slice none 0 0, .int .i64 0]) R2.out) (by kernel_rfl) (all_oneCell_toArray (cs := [.slice none 0 0, .int .i64 1]) (by simp [Value.oneCell'])) ?_))
    exact bodyPost_ret (v := .agg #[.slice none 0 0, .int .i64 1]) (results_blk Try.results7 rfl (Blk.setAll (t := 29) (cs := #[.slice none 0 0, .int .i64 0]) (vs := #[.slice none 0 0, .int .i64 1]) R2.out rfl) Try.underlying29 rfl (by kernel_rfl)) rfl ⟨_, [], rfl, ⟨.slice none 0 0, by rw [HE.out]; rfl, by rw [HE.out]; simp [FitNodesOut, I64], by rw [HE.out]; exact OwS.nil _⟩, fun b hb => absurd hb (by simp), setCells_ext HRB.out _ _ _ X2.out⟩
  | true =>
  cases ho : nowOk now with
  | false =>
    have HE : Hid (bookPut l n x now = ⟨[], 1⟩) := Lib.hid (by rw [bookPut, if_neg hl, if_pos (by simp [ht, hs, ho])])
    clear hl
    go_wp2_with (first | (go_at_call 13; (with_reducible refine (nodesRight_any (S := S) l _ _ (HR.out.ext X0.out)).mono ?_); rintro e w1 ⟨rfl, hx1⟩; have X1 := Lib.hid (X0.out.trans hx1); have R1 := Lib.hid (R0.out.ext hx1); have P1 := Lib.hid (P0.out.ext hx1); clear hx1 p0 p1; have p0 : w1.cell? ⟨w.heap.size, 0, none⟩ = some (.int .i64 x.from_) := P1.out.cell 0; have p1 : w1.cell? ⟨w.heap.size, 1, none⟩ = some (.int .i64 x.to_) := P1.out.cell 1) | (go_at_call 54; (with_reducible refine (spanRight_any x _).mono ?_); rintro e w2 ⟨rfl, hx2⟩; have X2 := Lib.hid (X1.out.trans hx2); have R2 := Lib.hid (R1.out.ext hx2); have P2 := Lib.hid (P1.out.ext hx2); clear hx2 p0 p1; have p0 : w2.cell? ⟨w.heap.size, 0, none⟩ = some (.int .i64 x.from_) := P2.out.cell 0; have p1 : w2.cell? ⟨w.heap.size, 1, none⟩ = some (.int .i64 x.to_) := P2.out.cell 1) | (go_at_call 55; refine (isNow_any _ _).mono ?_; rintro e w' ⟨rfl, rfl⟩) | (refine wpList_store_mid rfl 29 _ _ rfl R 0 #[.slice none 0 0, .int .i64 1] rfl rfl (Blk.there (t := 29) (cs := #[.slice none 0 0, .int .i64 0]) R2.out) (by kernel_rfl) (all_oneCell_toArray (cs := [.slice none 0 0, .int .i64 1]) (by simp [Value.oneCell'])) ?_))
    exact bodyPost_ret (v := .agg #[.slice none 0 0, .int .i64 1]) (results_blk Try.results7 rfl (Blk.setAll (t := 29) (cs := #[.slice none 0 0, .int .i64 0]) (vs := #[.slice none 0 0, .int .i64 1]) R2.out rfl) Try.underlying29 rfl (by kernel_rfl)) rfl ⟨_, [], rfl, ⟨.slice none 0 0, by rw [HE.out]; rfl, by rw [HE.out]; simp [FitNodesOut, I64], by rw [HE.out]; exact OwS.nil _⟩, fun b hb => absurd hb (by simp), setCells_ext HRB.out _ _ _ X2.out⟩
  | true =>
  have hb1 : ¬ (nodesRight l && spanRight x && nowOk now) = false := by simp [ht, hs, ho]
  have hno := isB_true ho
  cases hn : isNode l n with
  | false =>
    have HE : Hid (bookPut l n x now = ⟨[], 6⟩) := Lib.hid (by rw [bookPut, if_neg hl, if_neg hb1, if_pos hn])
    clear hl
    go_wp2_with (first | (go_at_call 13; (with_reducible refine (nodesRight_any (S := S) l _ _ (HR.out.ext X0.out)).mono ?_); rintro e w1 ⟨rfl, hx1⟩; have X1 := Lib.hid (X0.out.trans hx1); have R1 := Lib.hid (R0.out.ext hx1); have P1 := Lib.hid (P0.out.ext hx1); clear hx1 p0 p1; have p0 : w1.cell? ⟨w.heap.size, 0, none⟩ = some (.int .i64 x.from_) := P1.out.cell 0; have p1 : w1.cell? ⟨w.heap.size, 1, none⟩ = some (.int .i64 x.to_) := P1.out.cell 1) | (go_at_call 54; (with_reducible refine (spanRight_any x _).mono ?_); rintro e w2 ⟨rfl, hx2⟩; have X2 := Lib.hid (X1.out.trans hx2); have R2 := Lib.hid (R1.out.ext hx2); have P2 := Lib.hid (P1.out.ext hx2); clear hx2 p0 p1; have p0 : w2.cell? ⟨w.heap.size, 0, none⟩ = some (.int .i64 x.from_) := P2.out.cell 0; have p1 : w2.cell? ⟨w.heap.size, 1, none⟩ = some (.int .i64 x.to_) := P2.out.cell 1) | (go_at_call 55; refine (isNow_any _ _).mono ?_; rintro e w' ⟨rfl, rfl⟩) | (go_at_call 56; refine (isNodeOf_any l n _ _ _ hl2).mono ?_; rintro e w' ⟨rfl, rfl⟩) | (refine wpList_store_mid rfl 29 _ _ rfl R 0 #[.slice none 0 0, .int .i64 6] rfl rfl (Blk.there (t := 29) (cs := #[.slice none 0 0, .int .i64 0]) R2.out) (by kernel_rfl) (all_oneCell_toArray (cs := [.slice none 0 0, .int .i64 6]) (by simp [Value.oneCell'])) ?_))
    exact bodyPost_ret (v := .agg #[.slice none 0 0, .int .i64 6]) (results_blk Try.results7 rfl (Blk.setAll (t := 29) (cs := #[.slice none 0 0, .int .i64 0]) (vs := #[.slice none 0 0, .int .i64 6]) R2.out rfl) Try.underlying29 rfl (by kernel_rfl)) rfl ⟨_, [], rfl, ⟨.slice none 0 0, by rw [HE.out]; rfl, by rw [HE.out]; simp [FitNodesOut, I64], by rw [HE.out]; exact OwS.nil _⟩, fun b hb => absurd hb (by simp), setCells_ext HRB.out _ _ _ X2.out⟩
  | true =>
  obtain ⟨d, rfl, hd⟩ := isNode_nat hn
  have hw40 : IntKind.i64.wrap (now + 40) = now + 40 := IntWalk.i64_in _ (by omega)
  by_cases hr1 : x.from_ ≤ now
  · have HE : Hid (bookPut l (d : Int) x now = ⟨[], 8⟩) := Lib.hid (by rw [bookPut, if_neg hl, if_neg hb1, if_neg (by simp [hn]), if_pos (by simp [hr1])])
    clear hl hb1
    go_wp2_with (first | (go_at_call 13; (with_reducible refine (nodesRight_any (S := S) l _ _ (HR.out.ext X0.out)).mono ?_); rintro e w1 ⟨rfl, hx1⟩; have X1 := Lib.hid (X0.out.trans hx1); have R1 := Lib.hid (R0.out.ext hx1); have P1 := Lib.hid (P0.out.ext hx1); clear hx1 p0 p1; have p0 : w1.cell? ⟨w.heap.size, 0, none⟩ = some (.int .i64 x.from_) := P1.out.cell 0; have p1 : w1.cell? ⟨w.heap.size, 1, none⟩ = some (.int .i64 x.to_) := P1.out.cell 1) | (go_at_call 54; (with_reducible refine (spanRight_any x _).mono ?_); rintro e w2 ⟨rfl, hx2⟩; have X2 := Lib.hid (X1.out.trans hx2); have R2 := Lib.hid (R1.out.ext hx2); have P2 := Lib.hid (P1.out.ext hx2); clear hx2 p0 p1; have p0 : w2.cell? ⟨w.heap.size, 0, none⟩ = some (.int .i64 x.from_) := P2.out.cell 0; have p1 : w2.cell? ⟨w.heap.size, 1, none⟩ = some (.int .i64 x.to_) := P2.out.cell 1) | (go_at_call 55; refine (isNow_any _ _).mono ?_; rintro e w' ⟨rfl, rfl⟩) | (go_at_call 56; refine (isNodeOf_any l (d : Int) _ _ _ hl2).mono ?_; rintro e w' ⟨rfl, rfl⟩) | (refine wpList_store_mid rfl 29 _ _ rfl R 0 #[.slice none 0 0, .int .i64 8] rfl rfl (Blk.there (t := 29) (cs := #[.slice none 0 0, .int .i64 0]) R2.out) (by kernel_rfl) (all_oneCell_toArray (cs := [.slice none 0 0, .int .i64 8]) (by simp [Value.oneCell'])) ?_))
    exact bodyPost_ret (v := .agg #[.slice none 0 0, .int .i64 8]) (results_blk Try.results7 rfl (Blk.setAll (t := 29) (cs := #[.slice none 0 0, .int .i64 0]) (vs := #[.slice none 0 0, .int .i64 8]) R2.out rfl) Try.underlying29 rfl (by kernel_rfl)) rfl ⟨_, [], rfl, ⟨.slice none 0 0, by rw [HE.out]; rfl, by rw [HE.out]; simp [FitNodesOut, I64], by rw [HE.out]; exact OwS.nil _⟩, fun b hb => absurd hb (by simp), setCells_ext HRB.out _ _ _ X2.out⟩
  by_cases hr2 : now + 40 < x.to_
  · have HE : Hid (bookPut l (d : Int) x now = ⟨[], 8⟩) := Lib.hid (by rw [bookPut, if_neg hl, if_neg hb1, if_neg (by simp [hn]), if_pos (by simp [hr2])])
    clear hl hb1
    go_wp2_with (first | (go_at_call 13; (with_reducible refine (nodesRight_any (S := S) l _ _ (HR.out.ext X0.out)).mono ?_); rintro e w1 ⟨rfl, hx1⟩; have X1 := Lib.hid (X0.out.trans hx1); have R1 := Lib.hid (R0.out.ext hx1); have P1 := Lib.hid (P0.out.ext hx1); clear hx1 p0 p1; have p0 : w1.cell? ⟨w.heap.size, 0, none⟩ = some (.int .i64 x.from_) := P1.out.cell 0; have p1 : w1.cell? ⟨w.heap.size, 1, none⟩ = some (.int .i64 x.to_) := P1.out.cell 1) | (go_at_call 54; (with_reducible refine (spanRight_any x _).mono ?_); rintro e w2 ⟨rfl, hx2⟩; have X2 := Lib.hid (X1.out.trans hx2); have R2 := Lib.hid (R1.out.ext hx2); have P2 := Lib.hid (P1.out.ext hx2); clear hx2 p0 p1; have p0 : w2.cell? ⟨w.heap.size, 0, none⟩ = some (.int .i64 x.from_) := P2.out.cell 0; have p1 : w2.cell? ⟨w.heap.size, 1, none⟩ = some (.int .i64 x.to_) := P2.out.cell 1) | (go_at_call 55; refine (isNow_any _ _).mono ?_; rintro e w' ⟨rfl, rfl⟩) | (go_at_call 56; refine (isNodeOf_any l (d : Int) _ _ _ hl2).mono ?_; rintro e w' ⟨rfl, rfl⟩) | (refine wpList_store_mid rfl 29 _ _ rfl R 0 #[.slice none 0 0, .int .i64 8] rfl rfl (Blk.there (t := 29) (cs := #[.slice none 0 0, .int .i64 0]) R2.out) (by kernel_rfl) (all_oneCell_toArray (cs := [.slice none 0 0, .int .i64 8]) (by simp [Value.oneCell'])) ?_))
    exact bodyPost_ret (v := .agg #[.slice none 0 0, .int .i64 8]) (results_blk Try.results7 rfl (Blk.setAll (t := 29) (cs := #[.slice none 0 0, .int .i64 0]) (vs := #[.slice none 0 0, .int .i64 8]) R2.out rfl) Try.underlying29 rfl (by kernel_rfl)) rfl ⟨_, [], rfl, ⟨.slice none 0 0, by rw [HE.out]; rfl, by rw [HE.out]; simp [FitNodesOut, I64], by rw [HE.out]; exact OwS.nil _⟩, fun b hb => absurd hb (by simp), setCells_ext HRB.out _ _ _ X2.out⟩
  have hb2 : ¬ (decide (x.from_ ≤ now) || decide (now + 40 < x.to_)) = true := by simp [hr1, hr2]
  obtain ⟨b, q, cs, rfl, _, ⟨v1, rfl, hfit, hrd⟩, hc⟩ := HK.out d hd
  obtain ⟨A1, d1, rfl, -⟩ := hrd.form
  have HRD := Lib.hid hrd
  have hd0 : (0 : Int) ≤ (d : Int) := Int.natCast_nonneg _
  have hdl : (d : Int) < (l.length : Int) := by omega
  have CE : Hid (∀ V, Ext w V → V.cell? ⟨b, q + d * 2 + 1, none⟩ = some (.slice A1 (nth l d).books.length d1)) := Lib.hid fun V hV => by have := Ext.some hV (hc 1 _ rfl); simpa [ENode] using this
  have HFit := Lib.hid hfit
  clear hc hrd hfit
  have HBk := Lib.hid (nodesRight_books ht hd)
  have HS : Hid (∀ k, k < l.length → (nth l k).books.length ≤ 1000000000) := Lib.hid fun k hk => by have := (nodesRight_books ht hk).1; omega
  have HSR := Lib.hid hs
  have HE0 : Hid (bookPut l (d : Int) x now = if freeOf (nth l d).books x = false then ⟨[], 7⟩ else if (nth l d).books.length = 4 then ⟨[], 9⟩ else ⟨l.set d { nth l d with books := spanIns (nth l d).books x }, 0⟩) := Lib.hid (by rw [bookPut, if_neg hl, if_neg hb1, if_neg (by simp [hn]), if_neg hb2, Int.toNat_natCast])
  clear hl hb1 hb2
  go_upto_region 9 with (first | (go_at_call 13; (with_reducible refine (nodesRight_any (S := S) l _ _ (HR.out.ext X0.out)).mono ?_); rintro e w1 ⟨rfl, hx1⟩; have X1 := Lib.hid (X0.out.trans hx1); have R1 := Lib.hid (R0.out.ext hx1); have P1 := Lib.hid (P0.out.ext hx1); clear hx1 p0 p1; have p0 : w1.cell? ⟨w.heap.size, 0, none⟩ = some (.int .i64 x.from_) := P1.out.cell 0; have p1 : w1.cell? ⟨w.heap.size, 1, none⟩ = some (.int .i64 x.to_) := P1.out.cell 1) | (go_at_call 54; (with_reducible refine (spanRight_any x _).mono ?_); rintro e w2 ⟨rfl, hx2⟩; have X2 := Lib.hid (X1.out.trans hx2); have R2 := Lib.hid (R1.out.ext hx2); have P2 := Lib.hid (P1.out.ext hx2); clear hx2 p0 p1; have p0 : w2.cell? ⟨w.heap.size, 0, none⟩ = some (.int .i64 x.from_) := P2.out.cell 0; have p1 : w2.cell? ⟨w.heap.size, 1, none⟩ = some (.int .i64 x.to_) := P2.out.cell 1) | (go_at_call 55; refine (isNow_any _ _).mono ?_; rintro e w' ⟨rfl, rfl⟩) | (go_at_call 56; refine (isNodeOf_any l (d : Int) _ _ _ hl2).mono ?_; rintro e w' ⟨rfl, rfl⟩))
  have ce := CE.out _ X2.out
  refine wp_region_ext (by kernel_rfl) (by kernel_rfl) ?_
  repeat (
    (refine wpQuiet_step (fun K hK => ?_)
     go_simp
     first
      | (refine hK _ ?_; clear hK K)
      | (apply Exists.intro
         refine ⟨fun w__ hx__ => ?_, hK _ ?_⟩
         · have ce__ := Ext.some hx__ ce; have p0__ := Ext.some hx__ p0; have p1__ := Ext.some hx__ p1; first | exact rfl | (go_simp; done) | (go_simp; exact rfl) | (go_at_call 57; exact ext_of hx__ (isFree_any (S := S) (nth l d).books x _ _ (HRD.out.ext (X2.out.trans hx__))))
         clear hK K)))
  refine wpQuiet_nil ?_
  intro w1 hx1
  have X3 := Lib.hid (X2.out.trans hx1)
  have R3 := Lib.hid (R2.out.ext hx1)
  have P3 := Lib.hid (P2.out.ext hx1)
  clear ce p0 p1
  have p0 : w1.cell? ⟨w.heap.size, 0, none⟩ = some (.int .i64 x.from_) := P3.out.cell 0; have p1 : w1.cell? ⟨w.heap.size, 1, none⟩ = some (.int .i64 x.to_) := P3.out.cell 1
  have ce := CE.out _ X3.out
  clear hx1
  cases hfr : freeOf (nth l d).books x with
  | false =>
    have HE : Hid (bookPut l (d : Int) x now = ⟨[], 7⟩) := Lib.hid (by rw [HE0.out, if_pos hfr])
    go_wp2_with (first | (refine wpList_store_mid rfl 29 _ _ rfl R 0 #[.slice none 0 0, .int .i64 7] rfl rfl (Blk.there (t := 29) (cs := #[.slice none 0 0, .int .i64 0]) R3.out) (by kernel_rfl) (all_oneCell_toArray (cs := [.slice none 0 0, .int .i64 7]) (by simp [Value.oneCell'])) ?_))
    exact bodyPost_ret (v := .agg #[.slice none 0 0, .int .i64 7]) (results_blk Try.results7 rfl (Blk.setAll (t := 29) (cs := #[.slice none 0 0, .int .i64 0]) (vs := #[.slice none 0 0, .int .i64 7]) R3.out rfl) Try.underlying29 rfl (by kernel_rfl)) rfl ⟨_, [], rfl, ⟨.slice none 0 0, by rw [HE.out]; rfl, by rw [HE.out]; simp [FitNodesOut, I64], by rw [HE.out]; exact OwS.nil _⟩, fun b hb => absurd hb (by simp), setCells_ext HRB.out _ _ _ X3.out⟩
  | true =>
  by_cases h4 : (nth l d).books.length = 4
  · have HE : Hid (bookPut l (d : Int) x now = ⟨[], 9⟩) := Lib.hid (by rw [HE0.out, if_neg (by simp [hfr]), if_pos h4])
    go_wp2_with (first | (refine wpList_store_mid rfl 29 _ _ rfl R 0 #[.slice none 0 0, .int .i64 9] rfl rfl (Blk.there (t := 29) (cs := #[.slice none 0 0, .int .i64 0]) R3.out) (by kernel_rfl) (all_oneCell_toArray (cs := [.slice none 0 0, .int .i64 9]) (by simp [Value.oneCell'])) ?_))
    exact bodyPost_ret (v := .agg #[.slice none 0 0, .int .i64 9]) (results_blk Try.results7 rfl (Blk.setAll (t := 29) (cs := #[.slice none 0 0, .int .i64 0]) (vs := #[.slice none 0 0, .int .i64 9]) R3.out rfl) Try.underlying29 rfl (by kernel_rfl)) rfl ⟨_, [], rfl, ⟨.slice none 0 0, by rw [HE.out]; rfl, by rw [HE.out]; simp [FitNodesOut, I64], by rw [HE.out]; exact OwS.nil _⟩, fun b hb => absurd hb (by simp), setCells_ext HRB.out _ _ _ X3.out⟩
  have HE : Hid (bookPut l (d : Int) x now = ⟨l.set d { nth l d with books := spanIns (nth l d).books x }, 0⟩) := Lib.hid (by rw [HE0.out, if_neg (by simp [hfr]), if_neg h4])
  have HFR := Lib.hid hfr
  have h44 : (nth l d).books.length < 4 := by have := HBk.out.1; omega
  have HL4 := Lib.hid h44
  clear hfr
  go_upto_region 14 with (go_at_call 58; (with_reducible refine (copyNodes_any (S := S) l _ _ (HR.out.ext X3.out) (by omega) HS.out).mono ?_); rintro e w4 ⟨v4, F4, rfl, o4, g4, hx4⟩)
  have HX4 := Lib.hid hx4
  have X4 := Lib.hid (X3.out.trans hx4)
  have R4 := Lib.hid (R3.out.ext hx4)
  have P4 := Lib.hid (P3.out.ext hx4)
  have G4 := Lib.hid g4
  have HRl := Lib.hid R3.out.lt
  have LF4 := Lib.hid o4.lt
  obtain ⟨B2, cc, G, cs2, hv2, hlc, hcm, hBF, hBG, hGF, ho2, hc2, hfz, hth, hrow, hset⟩ := o4.at2 (k := d) hd
  subst hv2
  obtain ⟨u1, rfl, hfit2, q1⟩ := ho2
  obtain ⟨p1_, k1, rfl, -⟩ := q1.form
  have e1 := hc2 1 _ rfl
  simp only [ENode] at e1
  have Q1 := Lib.hid q1
  have HC := Lib.hid hc2
  have HSET := Lib.hid hset
  have HROW := Lib.hid hrow
  have HBF := Lib.hid hBF
  have HBG := Lib.hid hBG
  have HGF := Lib.hid hGF
  have HBW := Lib.hid (blk_lt_of hrow)
  have HRB2 : Hid (R ≠ B2) := Lib.hid fun hb => by have a := G4.out _ hBF; have b := HRl.out; omega
  have hfz1 := hfz (d * 2 + 1)
  clear o4 g4 hx4 hset hrow hth hc2 q1 hBF hBG hGF hlc hcm hfz hfit2 ht ce p0 p1
  have p0 : w4.cell? ⟨w.heap.size, 0, none⟩ = some (.int .i64 x.from_) := P4.out.cell 0; have p1 : w4.cell? ⟨w.heap.size, 1, none⟩ = some (.int .i64 x.to_) := P4.out.cell 1
  have HXD : Hid (Ext w4 w4.drew) := Lib.hid (Ext.refl _).drew
  have HBW2 : Hid (w.heap.size ≤ B2) := Lib.hid (Nat.le_trans X3.out.size (G4.out _ HBF.out))
  have E1 := Lib.hid e1
  have HSR := Lib.hid hs
  go_region_law (first | (go_simp; go_at_call 59; (with_reducible refine (spanPut_any (S := fun b => b ∈ G) (nth l d).books x _ _ (Q1.out.rd.ext HXD.out) (by have := HL4.out; omega) HBk.out.2 HSR.out HFR.out HF.out).mono ?_); rintro e w5 ⟨v5, F5, rfl, o5, f5, hx5⟩; obtain ⟨A5, c5, rfl, -⟩ := o5.form; have O5 := Lib.hid o5; have F5h := Lib.hid f5; have XX5 := Lib.hid (HXD.out.trans hx5); have X5 := Lib.hid (X4.out.trans (HXD.out.trans hx5)); have e13 := Ext.some (HXD.out.trans hx5) E1.out; have f13 := (RowBut.kept HROW.out (Kept.of_ext (F := []) (HXD.out.trans hx5)) (by simp)).frozen (d * 2 + 1); clear o5 f5 hx5))
  all_goals
    have hB3 := RowBut.kept HROW.out (Kept.of_ext (F := []) XX5.out) (by simp)
    obtain ⟨W6, hW6⟩ : ∃ W6, W6 = w5.setCell ⟨B2, d * 2 + 1, none⟩ (.slice A5 (spanIns (nth l d).books x).length c5) := ⟨_, rfl⟩
    have HN : Hid (∃ F', OwS ONode 42 W6 (.slice (some ⟨B2, 0, none⟩) l.length cc) (l.set d { nth l d with books := spanIns (nth l d).books x }) F' ∧ ∀ b ∈ F', b ∈ F4 ∨ w4.heap.size ≤ b) := Lib.hid (by
      rw [hW6]
      refine HSET.out _ _ [.int .i64 (nth l d).state, .slice A5 (spanIns (nth l d).books x).length c5] F5 (Kept.setCell (Kept.of_ext XX5.out) (by simp) _) (RowBut.setCell hB3 (by simp [ENode]) (by simp [ENode]) _) ⟨_, rfl, HFit.out, O5.out.kept (G := [B2]) (Kept.setCell (Kept.refl _ _) (by simp) _) (fun b hb => by have a : w4.heap.size ≤ b := F5h.out b hb; have c := HBW.out; simp; omega)⟩ (fun b hb => .inr (F5h.out b hb)) ?_
      have hc3 : w5.rangeAt B2 (d * 2) ([.int .i64 (nth l d).state] ++ [.slice p1_ (nth l d).books.length k1]) := XX5.out.range HC.out
      exact range_back (a := [.int .i64 (nth l d).state]) hc3 (fun j hj => ⟨(by obtain rfl : j = 0 := (by simpa using hj); rw [show d * 2 + [Value.int IntKind.i64 (nth l d).state].length + 0 = d * 2 + 1 from rfl, hc3 1 _ rfl]; rfl), hB3.frozen _⟩))
    have X6 : Hid (Ext w W6) := Lib.hid (by rw [hW6]; exact X5.out.setCell HBW2.out _)
    have R6 : Hid (Blk W6 R 29 #[.slice none 0 0, .int .i64 0]) := Lib.hid (by rw [hW6]; exact Blk.far (R4.out.ext XX5.out) HRB2.out _)
    have HX3 := Lib.hid X3.out.size
    clear hB3 e13 f13 e1
    rw [← hW6]
    clear hW6
    obtain ⟨F6, o6, f6⟩ := HN.out
    have O6 := Lib.hid o6
    have G6 : Hid (∀ b ∈ F6, w1.heap.size ≤ b) := Lib.hid fun b hb => by rcases f6 b hb with h | h; exact G4.out b h; exact Nat.le_trans HX4.out.size h
    clear o6 f6
    go_wp2_with (refine wpList_store_mid rfl 29 _ _ rfl R 0 #[.slice (some ⟨B2, 0, none⟩) l.length cc, .int .i64 0] rfl rfl (Blk.there (t := 29) (cs := #[.slice none 0 0, .int .i64 0]) R6.out) (by kernel_rfl) (all_oneCell_toArray (cs := [.slice (some ⟨B2, 0, none⟩) l.length cc, .int .i64 0]) (by simp [Value.oneCell'])) ?_)
    exact bodyPost_ret (v := .agg #[.slice (some ⟨B2, 0, none⟩) l.length cc, .int .i64 0]) (results_blk Try.results7 rfl (Blk.setAll (t := 29) (cs := #[.slice none 0 0, .int .i64 0]) (vs := #[.slice (some ⟨B2, 0, none⟩) l.length cc, .int .i64 0]) R6.out rfl) Try.underlying29 rfl (by kernel_rfl)) rfl ⟨_, F6, rfl, ⟨.slice (some ⟨B2, 0, none⟩) l.length cc, by rw [HE.out]; rfl, by rw [HE.out]; simp [FitNodesOut, I64], by rw [HE.out]; exact O6.out.kept (G := [R]) (Kept.setCells (by simp) _ _ _ (Kept.refl _ _)) (fun b hb => by have := G6.out b hb; have := HRl.out; simp; omega)⟩, fun b hb => Nat.le_trans HX3.out (G6.out b hb), setCells_ext HRB.out _ _ _ X6.out⟩

set_option maxHeartbeats 8000000 in
set_option maxRecDepth 100000 in
theorem specBookPut_any {S : Nat → Prop} (l : List Node) (n : Int) (x : Span) (now : Int) (v : Value) (w : World) (h : Rd ENode S w v l) (hf : FitSpan x) :
    Calls Try.prog 8 #[v, .int .i64 n, .agg #[.int .i64 x.from_, .int .i64 x.to_], .int .i64 now] w (RetOS ONodesOut (bookPut l n x now) w) := by
  have HR := Lib.hid h
  obtain ⟨A, c, rfl, h1, h2, hk⟩ := h.open_
  unfold maxLen at h2
  have HK := Lib.hid hk
  have HF := Lib.hid hf
  clear h hk hf
  go_enter Try.func8, Try.ntmps8
  go_upto_region 1 with (fail)
  obtain ⟨W, R, hW, hB, hRP, hx0, p0, b0⟩ : ∃ W R, W = (w.alloc (.cells #[.int .i64 x.from_, .int .i64 x.to_] 25)).alloc (.cells #[.slice none 0 0, .int .i64 0] 29) ∧ w.heap.size + 1 = R ∧ w.heap.size < R ∧ Ext w W ∧ Blk W w.heap.size 25 #[.int .i64 x.from_, .int .i64 x.to_] ∧ Blk W R 29 #[.slice none 0 0, .int .i64 0] := ⟨_, _, rfl, rfl, Nat.lt_succ_self _, (((Ext.refl w).alloc _).alloc _), (Blk.new w _ _).ext ((Ext.refl _).alloc _), by have h := Blk.new (w.alloc (.cells #[.int .i64 x.from_, .int .i64 x.to_] 25)) 29 #[.slice none 0 0, .int .i64 0]; simpa using h⟩
  rw [← hW]
  try rw [hB]
  have HRB : Hid (w.heap.size ≤ R) := Lib.hid (by omega)
  have HRP : Hid (w.heap.size < R) := Lib.hid hRP
  have R0 := Lib.hid b0
  have P0 := Lib.hid p0
  have X0 := Lib.hid hx0
  clear hW hB hRP hx0 b0 p0
  have p0 : W.cell? ⟨w.heap.size, 0, none⟩ = some (.int .i64 x.from_) := P0.out.cell 0; have p1 : W.cell? ⟨w.heap.size, 1, none⟩ = some (.int .i64 x.to_) := P0.out.cell 1
  by_cases hl : 400 < l.length
  · have HE : Hid (bookPut l n x now = ⟨[], 2⟩) := Lib.hid (by rw [bookPut, if_pos hl])
    go_wp2_with (first | (go_at_call 60; refine (l10Ill_any _ _).mono ?_; rintro e wi ⟨rfl, hxi⟩; have XI := Lib.hid (X0.out.trans hxi); have RI := Lib.hid (R0.out.ext hxi); clear hxi) | (refine wpList_store_mid rfl 29 _ _ rfl R 0 #[.slice none 0 0, .int .i64 2] rfl rfl (Blk.there (t := 29) (cs := #[.slice none 0 0, .int .i64 0]) RI.out) (by kernel_rfl) (all_oneCell_toArray (cs := [.slice none 0 0, .int .i64 2]) (by simp [Value.oneCell'])) ?_))
    exact bodyPost_ret (v := .agg #[.slice none 0 0, .int .i64 2]) (results_blk Try.results8 rfl (Blk.setAll (t := 29) (cs := #[.slice none 0 0, .int .i64 0]) (vs := #[.slice none 0 0, .int .i64 2]) RI.out rfl) Try.underlying29 rfl (by kernel_rfl)) rfl ⟨_, [], rfl, ⟨.slice none 0 0, by rw [HE.out]; rfl, by rw [HE.out]; simp [FitNodesOut, I64], by rw [HE.out]; exact OwS.nil _⟩, fun b hb => absurd hb (by simp), setCells_ext HRB.out _ _ _ XI.out⟩
  have hl2 : l.length ≤ 400 := by omega
  cases ht : nodesRight l with
  | false =>
    have HE : Hid (bookPut l n x now = ⟨[], 1⟩) := Lib.hid (by rw [bookPut, if_neg hl, if_pos (by simp [ht])])
    clear hl
    go_wp2_with (first | (go_at_call 14; (with_reducible refine (specNodesRight_any (S := S) l _ _ (HR.out.ext X0.out)).mono ?_); rintro e w1 ⟨rfl, hx1⟩; have X1 := Lib.hid (X0.out.trans hx1); have R1 := Lib.hid (R0.out.ext hx1); have P1 := Lib.hid (P0.out.ext hx1); clear hx1 p0 p1; have p0 : w1.cell? ⟨w.heap.size, 0, none⟩ = some (.int .i64 x.from_) := P1.out.cell 0; have p1 : w1.cell? ⟨w.heap.size, 1, none⟩ = some (.int .i64 x.to_) := P1.out.cell 1) | (go_at_call 60; refine (l10Ill_any _ _).mono ?_; rintro e wi ⟨rfl, hxi⟩; have XI := Lib.hid (X1.out.trans hxi); have RI := Lib.hid (R1.out.ext hxi); clear hxi) | (refine wpList_store_mid rfl 29 _ _ rfl R 0 #[.slice none 0 0, .int .i64 1] rfl rfl (Blk.there (t := 29) (cs := #[.slice none 0 0, .int .i64 0]) RI.out) (by kernel_rfl) (all_oneCell_toArray (cs := [.slice none 0 0, .int .i64 1]) (by simp [Value.oneCell'])) ?_))
    exact bodyPost_ret (v := .agg #[.slice none 0 0, .int .i64 1]) (results_blk Try.results8 rfl (Blk.setAll (t := 29) (cs := #[.slice none 0 0, .int .i64 0]) (vs := #[.slice none 0 0, .int .i64 1]) RI.out rfl) Try.underlying29 rfl (by kernel_rfl)) rfl ⟨_, [], rfl, ⟨.slice none 0 0, by rw [HE.out]; rfl, by rw [HE.out]; simp [FitNodesOut, I64], by rw [HE.out]; exact OwS.nil _⟩, fun b hb => absurd hb (by simp), setCells_ext HRB.out _ _ _ XI.out⟩
  | true =>
  cases hs : spanRight x with
  | false =>
    have HE : Hid (bookPut l n x now = ⟨[], 1⟩) := Lib.hid (by rw [bookPut, if_neg hl, if_pos (by simp [ht, hs])])
    clear hl
    go_wp2_with (first | (go_at_call 14; (with_reducible refine (specNodesRight_any (S := S) l _ _ (HR.out.ext X0.out)).mono ?_); rintro e w1 ⟨rfl, hx1⟩; have X1 := Lib.hid (X0.out.trans hx1); have R1 := Lib.hid (R0.out.ext hx1); have P1 := Lib.hid (P0.out.ext hx1); clear hx1 p0 p1; have p0 : w1.cell? ⟨w.heap.size, 0, none⟩ = some (.int .i64 x.from_) := P1.out.cell 0; have p1 : w1.cell? ⟨w.heap.size, 1, none⟩ = some (.int .i64 x.to_) := P1.out.cell 1) | (go_at_call 61; (with_reducible refine (l03Span_any x _).mono ?_); rintro e w2 ⟨rfl, hx2⟩; have X2 := Lib.hid (X1.out.trans hx2); have R2 := Lib.hid (R1.out.ext hx2); have P2 := Lib.hid (P1.out.ext hx2); clear hx2 p0 p1; have p0 : w2.cell? ⟨w.heap.size, 0, none⟩ = some (.int .i64 x.from_) := P2.out.cell 0; have p1 : w2.cell? ⟨w.heap.size, 1, none⟩ = some (.int .i64 x.to_) := P2.out.cell 1) | (go_at_call 60; refine (l10Ill_any _ _).mono ?_; rintro e wi ⟨rfl, hxi⟩; have XI := Lib.hid (X2.out.trans hxi); have RI := Lib.hid (R2.out.ext hxi); clear hxi) | (refine wpList_store_mid rfl 29 _ _ rfl R 0 #[.slice none 0 0, .int .i64 1] rfl rfl (Blk.there (t := 29) (cs := #[.slice none 0 0, .int .i64 0]) RI.out) (by kernel_rfl) (all_oneCell_toArray (cs := [.slice none 0 0, .int .i64 1]) (by simp [Value.oneCell'])) ?_))
    exact bodyPost_ret (v := .agg #[.slice none 0 0, .int .i64 1]) (results_blk Try.results8 rfl (Blk.setAll (t := 29) (cs := #[.slice none 0 0, .int .i64 0]) (vs := #[.slice none 0 0, .int .i64 1]) RI.out rfl) Try.underlying29 rfl (by kernel_rfl)) rfl ⟨_, [], rfl, ⟨.slice none 0 0, by rw [HE.out]; rfl, by rw [HE.out]; simp [FitNodesOut, I64], by rw [HE.out]; exact OwS.nil _⟩, fun b hb => absurd hb (by simp), setCells_ext HRB.out _ _ _ XI.out⟩
  | true =>
  cases ho : nowOk now with
  | false =>
    have HE : Hid (bookPut l n x now = ⟨[], 1⟩) := Lib.hid (by rw [bookPut, if_neg hl, if_pos (by simp [ht, hs, ho])])
    clear hl
    go_wp2_with (first | (go_at_call 14; (with_reducible refine (specNodesRight_any (S := S) l _ _ (HR.out.ext X0.out)).mono ?_); rintro e w1 ⟨rfl, hx1⟩; have X1 := Lib.hid (X0.out.trans hx1); have R1 := Lib.hid (R0.out.ext hx1); have P1 := Lib.hid (P0.out.ext hx1); clear hx1 p0 p1; have p0 : w1.cell? ⟨w.heap.size, 0, none⟩ = some (.int .i64 x.from_) := P1.out.cell 0; have p1 : w1.cell? ⟨w.heap.size, 1, none⟩ = some (.int .i64 x.to_) := P1.out.cell 1) | (go_at_call 61; (with_reducible refine (l03Span_any x _).mono ?_); rintro e w2 ⟨rfl, hx2⟩; have X2 := Lib.hid (X1.out.trans hx2); have R2 := Lib.hid (R1.out.ext hx2); have P2 := Lib.hid (P1.out.ext hx2); clear hx2 p0 p1; have p0 : w2.cell? ⟨w.heap.size, 0, none⟩ = some (.int .i64 x.from_) := P2.out.cell 0; have p1 : w2.cell? ⟨w.heap.size, 1, none⟩ = some (.int .i64 x.to_) := P2.out.cell 1) | (go_at_call 62; refine (l03Now_any _ _).mono ?_; rintro e w' ⟨rfl, rfl⟩) | (go_at_call 60; refine (l10Ill_any _ _).mono ?_; rintro e wi ⟨rfl, hxi⟩; have XI := Lib.hid (X2.out.trans hxi); have RI := Lib.hid (R2.out.ext hxi); clear hxi) | (refine wpList_store_mid rfl 29 _ _ rfl R 0 #[.slice none 0 0, .int .i64 1] rfl rfl (Blk.there (t := 29) (cs := #[.slice none 0 0, .int .i64 0]) RI.out) (by kernel_rfl) (all_oneCell_toArray (cs := [.slice none 0 0, .int .i64 1]) (by simp [Value.oneCell'])) ?_))
    exact bodyPost_ret (v := .agg #[.slice none 0 0, .int .i64 1]) (results_blk Try.results8 rfl (Blk.setAll (t := 29) (cs := #[.slice none 0 0, .int .i64 0]) (vs := #[.slice none 0 0, .int .i64 1]) RI.out rfl) Try.underlying29 rfl (by kernel_rfl)) rfl ⟨_, [], rfl, ⟨.slice none 0 0, by rw [HE.out]; rfl, by rw [HE.out]; simp [FitNodesOut, I64], by rw [HE.out]; exact OwS.nil _⟩, fun b hb => absurd hb (by simp), setCells_ext HRB.out _ _ _ XI.out⟩
  | true =>
  have hb1 : ¬ (nodesRight l && spanRight x && nowOk now) = false := by simp [ht, hs, ho]
  have hno := isB_true ho
  cases hn : isNode l n with
  | false =>
    have HE : Hid (bookPut l n x now = ⟨[], 6⟩) := Lib.hid (by rw [bookPut, if_neg hl, if_neg hb1, if_pos hn])
    clear hl
    go_wp2_with (first | (go_at_call 14; (with_reducible refine (specNodesRight_any (S := S) l _ _ (HR.out.ext X0.out)).mono ?_); rintro e w1 ⟨rfl, hx1⟩; have X1 := Lib.hid (X0.out.trans hx1); have R1 := Lib.hid (R0.out.ext hx1); have P1 := Lib.hid (P0.out.ext hx1); clear hx1 p0 p1; have p0 : w1.cell? ⟨w.heap.size, 0, none⟩ = some (.int .i64 x.from_) := P1.out.cell 0; have p1 : w1.cell? ⟨w.heap.size, 1, none⟩ = some (.int .i64 x.to_) := P1.out.cell 1) | (go_at_call 61; (with_reducible refine (l03Span_any x _).mono ?_); rintro e w2 ⟨rfl, hx2⟩; have X2 := Lib.hid (X1.out.trans hx2); have R2 := Lib.hid (R1.out.ext hx2); have P2 := Lib.hid (P1.out.ext hx2); clear hx2 p0 p1; have p0 : w2.cell? ⟨w.heap.size, 0, none⟩ = some (.int .i64 x.from_) := P2.out.cell 0; have p1 : w2.cell? ⟨w.heap.size, 1, none⟩ = some (.int .i64 x.to_) := P2.out.cell 1) | (go_at_call 62; refine (l03Now_any _ _).mono ?_; rintro e w' ⟨rfl, rfl⟩) | (go_at_call 63; refine (l10Place_any l n _ _ _ hl2).mono ?_; rintro e w' ⟨rfl, rfl⟩) | (go_at_call 60; refine (l10Ill_any _ _).mono ?_; rintro e wi ⟨rfl, hxi⟩; have XI := Lib.hid (X2.out.trans hxi); have RI := Lib.hid (R2.out.ext hxi); clear hxi) | (refine wpList_store_mid rfl 29 _ _ rfl R 0 #[.slice none 0 0, .int .i64 6] rfl rfl (Blk.there (t := 29) (cs := #[.slice none 0 0, .int .i64 0]) RI.out) (by kernel_rfl) (all_oneCell_toArray (cs := [.slice none 0 0, .int .i64 6]) (by simp [Value.oneCell'])) ?_))
    exact bodyPost_ret (v := .agg #[.slice none 0 0, .int .i64 6]) (results_blk Try.results8 rfl (Blk.setAll (t := 29) (cs := #[.slice none 0 0, .int .i64 0]) (vs := #[.slice none 0 0, .int .i64 6]) RI.out rfl) Try.underlying29 rfl (by kernel_rfl)) rfl ⟨_, [], rfl, ⟨.slice none 0 0, by rw [HE.out]; rfl, by rw [HE.out]; simp [FitNodesOut, I64], by rw [HE.out]; exact OwS.nil _⟩, fun b hb => absurd hb (by simp), setCells_ext HRB.out _ _ _ XI.out⟩
  | true =>
  obtain ⟨d, rfl, hd⟩ := isNode_nat hn
  have hw40 : IntKind.i64.wrap (now + 40) = now + 40 := IntWalk.i64_in _ (by omega)
  by_cases hr1 : x.from_ ≤ now
  · have HE : Hid (bookPut l (d : Int) x now = ⟨[], 8⟩) := Lib.hid (by rw [bookPut, if_neg hl, if_neg hb1, if_neg (by simp [hn]), if_pos (by simp [hr1])])
    clear hl hb1
    go_wp2_with (first | (go_at_call 14; (with_reducible refine (specNodesRight_any (S := S) l _ _ (HR.out.ext X0.out)).mono ?_); rintro e w1 ⟨rfl, hx1⟩; have X1 := Lib.hid (X0.out.trans hx1); have R1 := Lib.hid (R0.out.ext hx1); have P1 := Lib.hid (P0.out.ext hx1); clear hx1 p0 p1; have p0 : w1.cell? ⟨w.heap.size, 0, none⟩ = some (.int .i64 x.from_) := P1.out.cell 0; have p1 : w1.cell? ⟨w.heap.size, 1, none⟩ = some (.int .i64 x.to_) := P1.out.cell 1) | (go_at_call 61; (with_reducible refine (l03Span_any x _).mono ?_); rintro e w2 ⟨rfl, hx2⟩; have X2 := Lib.hid (X1.out.trans hx2); have R2 := Lib.hid (R1.out.ext hx2); have P2 := Lib.hid (P1.out.ext hx2); clear hx2 p0 p1; have p0 : w2.cell? ⟨w.heap.size, 0, none⟩ = some (.int .i64 x.from_) := P2.out.cell 0; have p1 : w2.cell? ⟨w.heap.size, 1, none⟩ = some (.int .i64 x.to_) := P2.out.cell 1) | (go_at_call 62; refine (l03Now_any _ _).mono ?_; rintro e w' ⟨rfl, rfl⟩) | (go_at_call 63; refine (l10Place_any l (d : Int) _ _ _ hl2).mono ?_; rintro e w' ⟨rfl, rfl⟩) | (go_at_call 60; refine (l10Ill_any _ _).mono ?_; rintro e wi ⟨rfl, hxi⟩; have XI := Lib.hid (X2.out.trans hxi); have RI := Lib.hid (R2.out.ext hxi); clear hxi) | (refine wpList_store_mid rfl 29 _ _ rfl R 0 #[.slice none 0 0, .int .i64 8] rfl rfl (Blk.there (t := 29) (cs := #[.slice none 0 0, .int .i64 0]) RI.out) (by kernel_rfl) (all_oneCell_toArray (cs := [.slice none 0 0, .int .i64 8]) (by simp [Value.oneCell'])) ?_))
    exact bodyPost_ret (v := .agg #[.slice none 0 0, .int .i64 8]) (results_blk Try.results8 rfl (Blk.setAll (t := 29) (cs := #[.slice none 0 0, .int .i64 0]) (vs := #[.slice none 0 0, .int .i64 8]) RI.out rfl) Try.underlying29 rfl (by kernel_rfl)) rfl ⟨_, [], rfl, ⟨.slice none 0 0, by rw [HE.out]; rfl, by rw [HE.out]; simp [FitNodesOut, I64], by rw [HE.out]; exact OwS.nil _⟩, fun b hb => absurd hb (by simp), setCells_ext HRB.out _ _ _ XI.out⟩
  by_cases hr2 : now + 40 < x.to_
  · have HE : Hid (bookPut l (d : Int) x now = ⟨[], 8⟩) := Lib.hid (by rw [bookPut, if_neg hl, if_neg hb1, if_neg (by simp [hn]), if_pos (by simp [hr2])])
    clear hl hb1
    go_wp2_with (first | (go_at_call 14; (with_reducible refine (specNodesRight_any (S := S) l _ _ (HR.out.ext X0.out)).mono ?_); rintro e w1 ⟨rfl, hx1⟩; have X1 := Lib.hid (X0.out.trans hx1); have R1 := Lib.hid (R0.out.ext hx1); have P1 := Lib.hid (P0.out.ext hx1); clear hx1 p0 p1; have p0 : w1.cell? ⟨w.heap.size, 0, none⟩ = some (.int .i64 x.from_) := P1.out.cell 0; have p1 : w1.cell? ⟨w.heap.size, 1, none⟩ = some (.int .i64 x.to_) := P1.out.cell 1) | (go_at_call 61; (with_reducible refine (l03Span_any x _).mono ?_); rintro e w2 ⟨rfl, hx2⟩; have X2 := Lib.hid (X1.out.trans hx2); have R2 := Lib.hid (R1.out.ext hx2); have P2 := Lib.hid (P1.out.ext hx2); clear hx2 p0 p1; have p0 : w2.cell? ⟨w.heap.size, 0, none⟩ = some (.int .i64 x.from_) := P2.out.cell 0; have p1 : w2.cell? ⟨w.heap.size, 1, none⟩ = some (.int .i64 x.to_) := P2.out.cell 1) | (go_at_call 62; refine (l03Now_any _ _).mono ?_; rintro e w' ⟨rfl, rfl⟩) | (go_at_call 63; refine (l10Place_any l (d : Int) _ _ _ hl2).mono ?_; rintro e w' ⟨rfl, rfl⟩) | (go_at_call 60; refine (l10Ill_any _ _).mono ?_; rintro e wi ⟨rfl, hxi⟩; have XI := Lib.hid (X2.out.trans hxi); have RI := Lib.hid (R2.out.ext hxi); clear hxi) | (refine wpList_store_mid rfl 29 _ _ rfl R 0 #[.slice none 0 0, .int .i64 8] rfl rfl (Blk.there (t := 29) (cs := #[.slice none 0 0, .int .i64 0]) RI.out) (by kernel_rfl) (all_oneCell_toArray (cs := [.slice none 0 0, .int .i64 8]) (by simp [Value.oneCell'])) ?_))
    exact bodyPost_ret (v := .agg #[.slice none 0 0, .int .i64 8]) (results_blk Try.results8 rfl (Blk.setAll (t := 29) (cs := #[.slice none 0 0, .int .i64 0]) (vs := #[.slice none 0 0, .int .i64 8]) RI.out rfl) Try.underlying29 rfl (by kernel_rfl)) rfl ⟨_, [], rfl, ⟨.slice none 0 0, by rw [HE.out]; rfl, by rw [HE.out]; simp [FitNodesOut, I64], by rw [HE.out]; exact OwS.nil _⟩, fun b hb => absurd hb (by simp), setCells_ext HRB.out _ _ _ XI.out⟩
  have hb2 : ¬ (decide (x.from_ ≤ now) || decide (now + 40 < x.to_)) = true := by simp [hr1, hr2]
  obtain ⟨b, q, cs, rfl, _, ⟨v1, rfl, hfit, hrd⟩, hc⟩ := HK.out d hd
  obtain ⟨A1, d1, rfl, -⟩ := hrd.form
  have HRD := Lib.hid hrd
  have hd0 : (0 : Int) ≤ (d : Int) := Int.natCast_nonneg _
  have hdl : (d : Int) < (l.length : Int) := by omega
  have CE : Hid (∀ V, Ext w V → V.cell? ⟨b, q + d * 2 + 1, none⟩ = some (.slice A1 (nth l d).books.length d1)) := Lib.hid fun V hV => by have := Ext.some hV (hc 1 _ rfl); simpa [ENode] using this
  have HFit := Lib.hid hfit
  clear hc hrd hfit
  have HBk := Lib.hid (nodesRight_books ht hd)
  have HS : Hid (∀ k, k < l.length → (nth l k).books.length ≤ 1000000000) := Lib.hid fun k hk => by have := (nodesRight_books ht hk).1; omega
  have HSR := Lib.hid hs
  have HE0 : Hid (bookPut l (d : Int) x now = if freeOf (nth l d).books x = false then ⟨[], 7⟩ else if (nth l d).books.length = 4 then ⟨[], 9⟩ else ⟨l.set d { nth l d with books := spanIns (nth l d).books x }, 0⟩) := Lib.hid (by rw [bookPut, if_neg hl, if_neg hb1, if_neg (by simp [hn]), if_neg hb2, Int.toNat_natCast])
  clear hl hb1 hb2
  go_upto_region 9 with (first | (go_at_call 14; (with_reducible refine (specNodesRight_any (S := S) l _ _ (HR.out.ext X0.out)).mono ?_); rintro e w1 ⟨rfl, hx1⟩; have X1 := Lib.hid (X0.out.trans hx1); have R1 := Lib.hid (R0.out.ext hx1); have P1 := Lib.hid (P0.out.ext hx1); clear hx1 p0 p1; have p0 : w1.cell? ⟨w.heap.size, 0, none⟩ = some (.int .i64 x.from_) := P1.out.cell 0; have p1 : w1.cell? ⟨w.heap.size, 1, none⟩ = some (.int .i64 x.to_) := P1.out.cell 1) | (go_at_call 61; (with_reducible refine (l03Span_any x _).mono ?_); rintro e w2 ⟨rfl, hx2⟩; have X2 := Lib.hid (X1.out.trans hx2); have R2 := Lib.hid (R1.out.ext hx2); have P2 := Lib.hid (P1.out.ext hx2); clear hx2 p0 p1; have p0 : w2.cell? ⟨w.heap.size, 0, none⟩ = some (.int .i64 x.from_) := P2.out.cell 0; have p1 : w2.cell? ⟨w.heap.size, 1, none⟩ = some (.int .i64 x.to_) := P2.out.cell 1) | (go_at_call 62; refine (l03Now_any _ _).mono ?_; rintro e w' ⟨rfl, rfl⟩) | (go_at_call 63; refine (l10Place_any l (d : Int) _ _ _ hl2).mono ?_; rintro e w' ⟨rfl, rfl⟩))
  have ce := CE.out _ X2.out
  refine wp_region_ext (by kernel_rfl) (by kernel_rfl) ?_
  repeat (
    (refine wpQuiet_step (fun K hK => ?_)
     go_simp
     first
      | (refine hK _ ?_; clear hK K)
      | (apply Exists.intro
         refine ⟨fun w__ hx__ => ?_, hK _ ?_⟩
         · have ce__ := Ext.some hx__ ce; have p0__ := Ext.some hx__ p0; have p1__ := Ext.some hx__ p1; first | exact rfl | (go_simp; done) | (go_simp; exact rfl) | (go_at_call 64; exact ext_of hx__ (l03Free_any (S := S) (nth l d).books x _ _ (HRD.out.ext (X2.out.trans hx__))))
         clear hK K)))
  refine wpQuiet_nil ?_
  intro w1 hx1
  have X3 := Lib.hid (X2.out.trans hx1)
  have R3 := Lib.hid (R2.out.ext hx1)
  have P3 := Lib.hid (P2.out.ext hx1)
  clear ce p0 p1
  have p0 : w1.cell? ⟨w.heap.size, 0, none⟩ = some (.int .i64 x.from_) := P3.out.cell 0; have p1 : w1.cell? ⟨w.heap.size, 1, none⟩ = some (.int .i64 x.to_) := P3.out.cell 1
  have ce := CE.out _ X3.out
  clear hx1
  cases hfr : freeOf (nth l d).books x with
  | false =>
    have HE : Hid (bookPut l (d : Int) x now = ⟨[], 7⟩) := Lib.hid (by rw [HE0.out, if_pos hfr])
    go_wp2_with (first | (go_at_call 60; refine (l10Ill_any _ _).mono ?_; rintro e wi ⟨rfl, hxi⟩; have XI := Lib.hid (X3.out.trans hxi); have RI := Lib.hid (R3.out.ext hxi); clear hxi) | (refine wpList_store_mid rfl 29 _ _ rfl R 0 #[.slice none 0 0, .int .i64 7] rfl rfl (Blk.there (t := 29) (cs := #[.slice none 0 0, .int .i64 0]) RI.out) (by kernel_rfl) (all_oneCell_toArray (cs := [.slice none 0 0, .int .i64 7]) (by simp [Value.oneCell'])) ?_))
    exact bodyPost_ret (v := .agg #[.slice none 0 0, .int .i64 7]) (results_blk Try.results8 rfl (Blk.setAll (t := 29) (cs := #[.slice none 0 0, .int .i64 0]) (vs := #[.slice none 0 0, .int .i64 7]) RI.out rfl) Try.underlying29 rfl (by kernel_rfl)) rfl ⟨_, [], rfl, ⟨.slice none 0 0, by rw [HE.out]; rfl, by rw [HE.out]; simp [FitNodesOut, I64], by rw [HE.out]; exact OwS.nil _⟩, fun b hb => absurd hb (by simp), setCells_ext HRB.out _ _ _ XI.out⟩
  | true =>
  by_cases h4 : (nth l d).books.length = 4
  · have HE : Hid (bookPut l (d : Int) x now = ⟨[], 9⟩) := Lib.hid (by rw [HE0.out, if_neg (by simp [hfr]), if_pos h4])
    go_wp2_with (first | (go_at_call 60; refine (l10Ill_any _ _).mono ?_; rintro e wi ⟨rfl, hxi⟩; have XI := Lib.hid (X3.out.trans hxi); have RI := Lib.hid (R3.out.ext hxi); clear hxi) | (refine wpList_store_mid rfl 29 _ _ rfl R 0 #[.slice none 0 0, .int .i64 9] rfl rfl (Blk.there (t := 29) (cs := #[.slice none 0 0, .int .i64 0]) RI.out) (by kernel_rfl) (all_oneCell_toArray (cs := [.slice none 0 0, .int .i64 9]) (by simp [Value.oneCell'])) ?_))
    exact bodyPost_ret (v := .agg #[.slice none 0 0, .int .i64 9]) (results_blk Try.results8 rfl (Blk.setAll (t := 29) (cs := #[.slice none 0 0, .int .i64 0]) (vs := #[.slice none 0 0, .int .i64 9]) RI.out rfl) Try.underlying29 rfl (by kernel_rfl)) rfl ⟨_, [], rfl, ⟨.slice none 0 0, by rw [HE.out]; rfl, by rw [HE.out]; simp [FitNodesOut, I64], by rw [HE.out]; exact OwS.nil _⟩, fun b hb => absurd hb (by simp), setCells_ext HRB.out _ _ _ XI.out⟩
  have HE : Hid (bookPut l (d : Int) x now = ⟨l.set d { nth l d with books := spanIns (nth l d).books x }, 0⟩) := Lib.hid (by rw [HE0.out, if_neg (by simp [hfr]), if_neg h4])
  have HFR := Lib.hid hfr
  have h44 : (nth l d).books.length < 4 := by have := HBk.out.1; omega
  have HL4 := Lib.hid h44
  clear hfr
  go_upto_region 14 with (go_at_call 65; (with_reducible refine (l10Copy_any (S := S) l _ _ (HR.out.ext X3.out) (by omega) HS.out).mono ?_); rintro e w4 ⟨v4, F4, rfl, o4, g4, hx4⟩)
  have HX4 := Lib.hid hx4
  have X4 := Lib.hid (X3.out.trans hx4)
  have R4 := Lib.hid (R3.out.ext hx4)
  have P4 := Lib.hid (P3.out.ext hx4)
  have G4 := Lib.hid g4
  have HRl := Lib.hid R3.out.lt
  have LF4 := Lib.hid o4.lt
  obtain ⟨B2, cc, G, cs2, hv2, hlc, hcm, hBF, hBG, hGF, ho2, hc2, hfz, hth, hrow, hset⟩ := o4.at2 (k := d) hd
  subst hv2
  obtain ⟨u1, rfl, hfit2, q1⟩ := ho2
  obtain ⟨p1_, k1, rfl, -⟩ := q1.form
  have e1 := hc2 1 _ rfl
  simp only [ENode] at e1
  have Q1 := Lib.hid q1
  have HC := Lib.hid hc2
  have HSET := Lib.hid hset
  have HROW := Lib.hid hrow
  have HBF := Lib.hid hBF
  have HBG := Lib.hid hBG
  have HGF := Lib.hid hGF
  have HBW := Lib.hid (blk_lt_of hrow)
  have HRB2 : Hid (R ≠ B2) := Lib.hid fun hb => by have a := G4.out _ hBF; have b := HRl.out; omega
  have hfz1 := hfz (d * 2 + 1)
  clear o4 g4 hx4 hset hrow hth hc2 q1 hBF hBG hGF hlc hcm hfz hfit2 ht ce p0 p1
  have p0 : w4.cell? ⟨w.heap.size, 0, none⟩ = some (.int .i64 x.from_) := P4.out.cell 0; have p1 : w4.cell? ⟨w.heap.size, 1, none⟩ = some (.int .i64 x.to_) := P4.out.cell 1
  have HXD : Hid (Ext w4 w4.drew) := Lib.hid (Ext.refl _).drew
  have HBW2 : Hid (w.heap.size ≤ B2) := Lib.hid (Nat.le_trans X3.out.size (G4.out _ HBF.out))
  have E1 := Lib.hid e1
  have HSR := Lib.hid hs
  go_region_law (first | (go_simp; go_at_call 66; (with_reducible refine (l03Put_any (S := fun b => b ∈ G) (nth l d).books x _ _ (Q1.out.rd.ext HXD.out) (by have := HL4.out; omega) HF.out).mono ?_); rintro e w5 ⟨v5, F5, rfl, o5, f5, hx5⟩; obtain ⟨A5, c5, rfl, -⟩ := o5.form; have O5 := Lib.hid o5; have F5h := Lib.hid f5; have XX5 := Lib.hid (HXD.out.trans hx5); have X5 := Lib.hid (X4.out.trans (HXD.out.trans hx5)); have e13 := Ext.some (HXD.out.trans hx5) E1.out; have f13 := (RowBut.kept HROW.out (Kept.of_ext (F := []) (HXD.out.trans hx5)) (by simp)).frozen (d * 2 + 1); clear o5 f5 hx5))
  all_goals
    have hB3 := RowBut.kept HROW.out (Kept.of_ext (F := []) XX5.out) (by simp)
    obtain ⟨W6, hW6⟩ : ∃ W6, W6 = w5.setCell ⟨B2, d * 2 + 1, none⟩ (.slice A5 (spanIns (nth l d).books x).length c5) := ⟨_, rfl⟩
    have HN : Hid (∃ F', OwS ONode 42 W6 (.slice (some ⟨B2, 0, none⟩) l.length cc) (l.set d { nth l d with books := spanIns (nth l d).books x }) F' ∧ ∀ b ∈ F', b ∈ F4 ∨ w4.heap.size ≤ b) := Lib.hid (by
      rw [hW6]
      refine HSET.out _ _ [.int .i64 (nth l d).state, .slice A5 (spanIns (nth l d).books x).length c5] F5 (Kept.setCell (Kept.of_ext XX5.out) (by simp) _) (RowBut.setCell hB3 (by simp [ENode]) (by simp [ENode]) _) ⟨_, rfl, HFit.out, O5.out.kept (G := [B2]) (Kept.setCell (Kept.refl _ _) (by simp) _) (fun b hb => by have a : w4.heap.size ≤ b := F5h.out b hb; have c := HBW.out; simp; omega)⟩ (fun b hb => .inr (F5h.out b hb)) ?_
      have hc3 : w5.rangeAt B2 (d * 2) ([.int .i64 (nth l d).state] ++ [.slice p1_ (nth l d).books.length k1]) := XX5.out.range HC.out
      exact range_back (a := [.int .i64 (nth l d).state]) hc3 (fun j hj => ⟨(by obtain rfl : j = 0 := (by simpa using hj); rw [show d * 2 + [Value.int IntKind.i64 (nth l d).state].length + 0 = d * 2 + 1 from rfl, hc3 1 _ rfl]; rfl), hB3.frozen _⟩))
    have X6 : Hid (Ext w W6) := Lib.hid (by rw [hW6]; exact X5.out.setCell HBW2.out _)
    have R6 : Hid (Blk W6 R 29 #[.slice none 0 0, .int .i64 0]) := Lib.hid (by rw [hW6]; exact Blk.far (R4.out.ext XX5.out) HRB2.out _)
    have HX3 := Lib.hid X3.out.size
    clear hB3 e13 f13 e1
    rw [← hW6]
    clear hW6
    obtain ⟨F6, o6, f6⟩ := HN.out
    have O6 := Lib.hid o6
    have G6 : Hid (∀ b ∈ F6, w1.heap.size ≤ b) := Lib.hid fun b hb => by rcases f6 b hb with h | h; exact G4.out b h; exact Nat.le_trans HX4.out.size h
    clear o6 f6
    go_wp2_with (refine wpList_store_mid rfl 29 _ _ rfl R 0 #[.slice (some ⟨B2, 0, none⟩) l.length cc, .int .i64 0] rfl rfl (Blk.there (t := 29) (cs := #[.slice none 0 0, .int .i64 0]) R6.out) (by kernel_rfl) (all_oneCell_toArray (cs := [.slice (some ⟨B2, 0, none⟩) l.length cc, .int .i64 0]) (by simp [Value.oneCell'])) ?_)
    exact bodyPost_ret (v := .agg #[.slice (some ⟨B2, 0, none⟩) l.length cc, .int .i64 0]) (results_blk Try.results8 rfl (Blk.setAll (t := 29) (cs := #[.slice none 0 0, .int .i64 0]) (vs := #[.slice (some ⟨B2, 0, none⟩) l.length cc, .int .i64 0]) R6.out rfl) Try.underlying29 rfl (by kernel_rfl)) rfl ⟨_, F6, rfl, ⟨.slice (some ⟨B2, 0, none⟩) l.length cc, by rw [HE.out]; rfl, by rw [HE.out]; simp [FitNodesOut, I64], by rw [HE.out]; exact O6.out.kept (G := [R]) (Kept.setCells (by simp) _ _ _ (Kept.refl _ _)) (fun b hb => by have := G6.out b hb; have := HRl.out; simp; omega)⟩, fun b hb => Nat.le_trans HX3.out (G6.out b hb), setCells_ext HRB.out _ _ _ X6.out⟩

end Go.Proofs.Ytbdicafambkhdaa

namespace Go.Proofs.Ytbdicafambkhdaa
theorem bookPut_bound {l : List Node} {n : Int} {x : Span} {now : Int} (h : SmNodeS l) : 1 + ((cntL cntNode l : Nat) : Int) ≤ 1125899906842624 ∧ 1 + ((cntL cntNode (bookPut l n x now).nodes : Nat) : Int) ≤ 1125899906842624 := by
  have h1 := cnt_nodes h
  have h2 : cntL cntNode (bookPut l n x now).nodes ≤ 2199024304128 := by
    unfold bookPut
    split
    · simp [cntL]
    split
    · simp [cntL]
    rename_i hb1
    split
    · simp [cntL]
    rename_i hn
    split
    · simp [cntL]
    split
    · simp [cntL]
    split
    · simp [cntL]
    have ht : nodesRight l = true := by
      cases h0 : nodesRight l
      · simp [h0] at hb1
      · rfl
    obtain ⟨d, rfl, hd⟩ := isNode_nat (l := l) (n := n) (by simpa using hn)
    have h4 := (nodesRight_books ht hd).1
    rw [Int.toNat_natCast]
    obtain ⟨a, b⟩ := set_books (k := d) (y := { nth l d with books := spanIns (nth l d).books x }) h (by
      show (spanIns (nth l d).books x).length ≤ 1048576
      rw [spanIns_length]; omega)
    exact cnt_nodes_of a b
  omega
end Go.Proofs.Ytbdicafambkhdaa

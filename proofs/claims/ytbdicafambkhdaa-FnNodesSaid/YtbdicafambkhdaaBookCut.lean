/- The walks of BookCut, the program's and the reference's. Printed by wip/bookcut.py. -/
import Derived.Test.YtbdicafambkhdaaInsSpan
import Derived.Test.YtbdicafambkhdaaNodeC
namespace Go.Proofs.Ytbdicafambkhdaa
open Go.RowKit
attribute [local irreducible] wpQuiet

theorem spans_up {l : List Span} (h : spansRight l = true) {i j : Nat} (hij : i < j) (hj : j < l.length) : (nth l i).from_ < (nth l j).from_ := by
  have hall : ∀ t, t < l.length → spanAt l t = true := fun t ht => by
    simp only [spansRight, Bool.and_eq_true, List.all_eq_true, List.mem_range] at h
    exact h.2 t ht
  have hr : ∀ t, t < l.length → (nth l t).from_ < (nth l t).to_ := fun t ht => by
    have := hall t ht
    simp only [spanAt, spanRight, Bool.and_eq_true, decide_eq_true_eq] at this
    exact this.1.2
  induction j with
  | zero => omega
  | succ j ih =>
    have h1 : (nth l j).to_ ≤ (nth l (j + 1)).from_ := by
      have := hall (j + 1) hj
      rw [spanAt_succ] at this
      simp only [Bool.and_eq_true, decide_eq_true_eq] at this
      exact this.2
    have h2 := hr j (by omega)
    rcases Nat.lt_or_ge i j with h3 | h3
    · have := ih h3 (by omega)
      omega
    · obtain rfl : i = j := by omega
      omega
def notFrom (f : Int) (x : Span) : Bool := !decide (x.from_ = f)
def isFrom (f : Int) (x : Span) : Bool := decide (x.from_ = f)
theorem erase_filter {l : List Span} {f : Int} {k : Nat} (h : spansRight l = true) (hk : k < l.length) (hp : isFrom f (nth l k) = true) : l.eraseIdx k = l.filter (notFrom f) := by
  have hf : (nth l k).from_ = f := by simpa [isFrom] using hp
  have e1 : (l.take k).filter (notFrom f) = l.take k := filter_all_nth fun j hj => by
    rw [List.length_take] at hj
    have := spans_up h (i := j) (j := k) (by omega) hk
    rw [nth_eq (by rw [List.length_take]; omega), List.getElem_take, ← nth_eq (by omega)]
    simp only [notFrom, Bool.not_eq_true', decide_eq_false_iff_not]
    omega
  have e2 : (l.drop (k + 1)).filter (notFrom f) = l.drop (k + 1) := filter_all_nth fun j hj => by
    rw [List.length_drop] at hj
    have := spans_up h (i := k) (j := k + 1 + j) (by omega) (by omega)
    rw [nth_eq (by rw [List.length_drop]; omega), List.getElem_drop, ← nth_eq (by omega)]
    simp only [notFrom, Bool.not_eq_true', decide_eq_false_iff_not]
    omega
  have e3 : l = l.take k ++ (nth l k :: l.drop (k + 1)) := by rw [← drop_nth hk, List.take_append_drop]
  rw [List.eraseIdx_eq_take_drop_succ]
  conv => rhs; rw [e3]
  rw [List.filter_append, List.filter_cons_of_neg (by simp [notFrom, hf]), e1, e2]
theorem filter_none {l : List Span} {f : Int} (h : ∀ j, j < l.length → isFrom f (nth l j) = false) : l.filter (notFrom f) = l := filter_all_nth fun j hj => by
  have := h j hj
  simp only [isFrom, decide_eq_false_iff_not] at this
  simp [notFrom, this]
theorem erase_short {l : List Span} {k : Nat} (hk : k < l.length) : (l.eraseIdx k).length ≠ l.length := by rw [List.length_eraseIdx_of_lt hk]; omega

theorem call_cut1 : ∀ (args : Array Value) (W : World), (callFunc 78 args).run Try.prog W = .ok (.enter 78 args) W := by
  intro args W
  go_simp
set_option maxHeartbeats 2000000 in
theorem cut1_any {S : Nat → Prop} (x : Span) (f : Int) (cs : List Value) (B : Nat) (w : World) (h : ESpan.rel S w cs x) (d0 : w.cell? ⟨B, 0, none⟩ = some (.int .i64 f)) :
    Calls Try.prog 78 #[.agg cs.toArray, .pointer (some ⟨B, 0, none⟩)] w fun e w' => e = .returned (.bool (isFrom f x)) ∧ Ext w w' := by
  obtain ⟨rfl, _⟩ := h
  have d0' := fun ob : Obj => Ext.some ((Ext.refl w).alloc ob) d0
  simp only [cellsSpan]
  go_enter Try.func78, Try.ntmps78
  go_wp2_with fail
  go_ret
  exact ⟨ret_bool (by unfold isFrom; rw [Bool.eq_iff_iff]; simp), (Ext.refl _).alloc _⟩

set_option maxHeartbeats 8000000 in
set_option maxRecDepth 100000 in
theorem bookCut_any {S : Nat → Prop} (l : List Node) (n f : Int) (v : Value) (w : World) (h : Rd ENode S w v l) :
    Calls Try.prog 16 #[v, .int .i64 n, .int .i64 f] w (RetOS ONodesOut (bookCut l n f) w) := by
  have HR := Lib.hid h
  obtain ⟨A, c, rfl, h1, h2, hk⟩ := h.open_
  unfold maxLen at h2
  have HK := Lib.hid hk
  clear h hk
  go_enter Try.func16, Try.ntmps16
  go_upto_region 1 with (fail)
  obtain ⟨W, R, hW, hB, hRP, hx0, p0, b0⟩ : ∃ W R, W = (w.alloc (.cells #[.int .i64 f] 2)).alloc (.cells #[.slice none 0 0, .int .i64 0] 29) ∧ w.heap.size + 1 = R ∧ w.heap.size < R ∧ Ext w W ∧ Blk W w.heap.size 2 #[.int .i64 f] ∧ Blk W R 29 #[.slice none 0 0, .int .i64 0] := ⟨_, _, rfl, rfl, Nat.lt_succ_self _, (((Ext.refl w).alloc _).alloc _), (Blk.new w _ _).ext ((Ext.refl _).alloc _), by have h := Blk.new (w.alloc (.cells #[.int .i64 f] 2)) 29 #[.slice none 0 0, .int .i64 0]; simpa using h⟩
  rw [← hW]
  try rw [hB]
  have HRB : Hid (w.heap.size ≤ R) := Lib.hid (by omega)
  have R0 := Lib.hid b0
  have P0 := Lib.hid p0
  have X0 := Lib.hid hx0
  clear hW hB hRP hx0 b0 p0
  by_cases hl : 400 < l.length
  · have HE : Hid (bookCut l n f = ⟨[], 2⟩) := Lib.hid (by rw [bookCut, if_pos hl])
    go_wp2_with (first | (refine wpList_store_mid rfl 29 _ _ rfl R 0 #[.slice none 0 0, .int .i64 2] rfl rfl (Blk.there (t := 29) (cs := #[.slice none 0 0, .int .i64 0]) R0.out) (by kernel_rfl) (all_oneCell_toArray (cs := [.slice none 0 0, .int .i64 2]) (by simp [Value.oneCell'])) ?_))
    exact bodyPost_ret (v := .agg #[.slice none 0 0, .int .i64 2]) (results_blk Try.results16 rfl (Blk.setAll (t := 29) (cs := #[.slice none 0 0, .int .i64 0]) (vs := #[.slice none 0 0, .int .i64 2]) R0.out rfl) Try.underlying29 rfl (by kernel_rfl)) rfl ⟨_, [], rfl, ⟨.slice none 0 0, by rw [HE.out]; rfl, by rw [HE.out]; simp [FitNodesOut, I64], by rw [HE.out]; exact OwS.nil _⟩, fun b hb => absurd hb (by simp), setCells_ext HRB.out _ _ _ X0.out⟩
  have hl2 : l.length ≤ 400 := by omega
  cases ht : nodesRight l with
  | false =>
    have HE : Hid (bookCut l n f = ⟨[], 1⟩) := Lib.hid (by rw [bookCut, if_neg hl, if_pos ht])
    clear hl
    go_wp2_with (first | (go_at_call 13; (with_reducible refine (nodesRight_any (S := S) l _ _ (HR.out.ext X0.out)).mono ?_); rintro e w1 ⟨rfl, hx1⟩; have X1 := Lib.hid (X0.out.trans hx1); have R1 := Lib.hid (R0.out.ext hx1); have P1 := Lib.hid (P0.out.ext hx1); clear hx1) | (refine wpList_store_mid rfl 29 _ _ rfl R 0 #[.slice none 0 0, .int .i64 1] rfl rfl (Blk.there (t := 29) (cs := #[.slice none 0 0, .int .i64 0]) R1.out) (by kernel_rfl) (all_oneCell_toArray (cs := [.slice none 0 0, .int .i64 1]) (by simp [Value.oneCell'])) ?_))
    exact bodyPost_ret (v := .agg #[.slice none 0 0, .int .i64 1]) (results_blk Try.results16 rfl (Blk.setAll (t := 29) (cs := #[.slice none 0 0, .int .i64 0]) (vs := #[.slice none 0 0, .int .i64 1]) R1.out rfl) Try.underlying29 rfl (by kernel_rfl)) rfl ⟨_, [], rfl, ⟨.slice none 0 0, by rw [HE.out]; rfl, by rw [HE.out]; simp [FitNodesOut, I64], by rw [HE.out]; exact OwS.nil _⟩, fun b hb => absurd hb (by simp), setCells_ext HRB.out _ _ _ X1.out⟩
  | true =>
  cases hn : isNode l n with
  | false =>
    have HE : Hid (bookCut l n f = ⟨[], 6⟩) := Lib.hid (by rw [bookCut, if_neg hl, if_neg (by simp [ht]), if_pos hn])
    clear hl
    go_wp2_with (first | (go_at_call 13; (with_reducible refine (nodesRight_any (S := S) l _ _ (HR.out.ext X0.out)).mono ?_); rintro e w1 ⟨rfl, hx1⟩; have X1 := Lib.hid (X0.out.trans hx1); have R1 := Lib.hid (R0.out.ext hx1); have P1 := Lib.hid (P0.out.ext hx1); clear hx1) | (go_at_call 56; refine (isNodeOf_any l n _ _ _ hl2).mono ?_; rintro e w' ⟨rfl, rfl⟩) | (refine wpList_store_mid rfl 29 _ _ rfl R 0 #[.slice none 0 0, .int .i64 6] rfl rfl (Blk.there (t := 29) (cs := #[.slice none 0 0, .int .i64 0]) R1.out) (by kernel_rfl) (all_oneCell_toArray (cs := [.slice none 0 0, .int .i64 6]) (by simp [Value.oneCell'])) ?_))
    exact bodyPost_ret (v := .agg #[.slice none 0 0, .int .i64 6]) (results_blk Try.results16 rfl (Blk.setAll (t := 29) (cs := #[.slice none 0 0, .int .i64 0]) (vs := #[.slice none 0 0, .int .i64 6]) R1.out rfl) Try.underlying29 rfl (by kernel_rfl)) rfl ⟨_, [], rfl, ⟨.slice none 0 0, by rw [HE.out]; rfl, by rw [HE.out]; simp [FitNodesOut, I64], by rw [HE.out]; exact OwS.nil _⟩, fun b hb => absurd hb (by simp), setCells_ext HRB.out _ _ _ X1.out⟩
  | true =>
  obtain ⟨d, rfl, hd⟩ := isNode_nat hn
  obtain ⟨b, q, cs, rfl, _, ⟨v1, rfl, hfit, hrd⟩, hc⟩ := HK.out d hd
  obtain ⟨A1, d1, rfl, -⟩ := hrd.form
  have HRD := Lib.hid hrd
  have hd0 : (0 : Int) ≤ (d : Int) := Int.natCast_nonneg _
  have hdl : (d : Int) < (l.length : Int) := by omega
  have CE : Hid (∀ V, Ext w V → V.cell? ⟨b, q + d * 2 + 1, none⟩ = some (.slice A1 (nth l d).books.length d1)) := Lib.hid fun V hV => by have := Ext.some hV (hc 1 _ rfl); simpa [ENode] using this
  have HFit := Lib.hid hfit
  clear hc hrd hfit
  have HBk := Lib.hid (nodesRight_books ht hd)
  have HS : Hid (∀ k, k < l.length → (nth l k).books.length ≤ 1000000000) := Lib.hid fun k hk => by have := (nodesRight_books ht hk).1; omega
  go_upto_region 7 with (first | (go_at_call 13; (with_reducible refine (nodesRight_any (S := S) l _ _ (HR.out.ext X0.out)).mono ?_); rintro e w1 ⟨rfl, hx1⟩; have X1 := Lib.hid (X0.out.trans hx1); have R1 := Lib.hid (R0.out.ext hx1); have P1 := Lib.hid (P0.out.ext hx1); clear hx1) | (go_at_call 56; refine (isNodeOf_any l (d : Int) _ _ _ hl2).mono ?_; rintro e w' ⟨rfl, rfl⟩))
  have ce := CE.out _ X1.out
  go_wp2_with fail
  refine (indexFunc_Span_1 (S := S) (nth l d).books (isFrom f) _ 78 _ _ (HRD.out.ext X1.out) call_cut1 (fun cs x w3 hx hr => cut1_any x f cs _ w3 hr (Ext.some hx (P1.out.cell 0)))).mono ?_
  rintro e w2 ⟨rfl, hx2⟩
  have X2 := Lib.hid (X1.out.trans hx2)
  have R2 := Lib.hid (R1.out.ext hx2)
  clear hx2 ce
  rcases idxOf_cases (isFrom f) (nth l d).books with ⟨hi, hnone⟩ | ⟨k, hk, hi, hq, hlow⟩
  · have HI : Hid (idxOf (isFrom f) (nth l d).books = -1) := Lib.hid hi
    have HE : Hid (bookCut l (d : Int) f = ⟨[], 6⟩) := Lib.hid (by rw [bookCut, if_neg hl, if_neg (by simp [ht]), if_neg (by simp [hn]), Int.toNat_natCast, if_pos (by show idxOf (isFrom f) _ < 0; rw [hi]; decide)])
    clear hi hnone hl
    rw [HI.out]
    go_wp2_with (first | (refine wpList_store_mid rfl 29 _ _ rfl R 0 #[.slice none 0 0, .int .i64 6] rfl rfl (Blk.there (t := 29) (cs := #[.slice none 0 0, .int .i64 0]) R2.out) (by kernel_rfl) (all_oneCell_toArray (cs := [.slice none 0 0, .int .i64 6]) (by simp [Value.oneCell'])) ?_))
    exact bodyPost_ret (v := .agg #[.slice none 0 0, .int .i64 6]) (results_blk Try.results16 rfl (Blk.setAll (t := 29) (cs := #[.slice none 0 0, .int .i64 0]) (vs := #[.slice none 0 0, .int .i64 6]) R2.out rfl) Try.underlying29 rfl (by kernel_rfl)) rfl ⟨_, [], rfl, ⟨.slice none 0 0, by rw [HE.out]; rfl, by rw [HE.out]; simp [FitNodesOut, I64], by rw [HE.out]; exact OwS.nil _⟩, fun b hb => absurd hb (by simp), setCells_ext HRB.out _ _ _ X2.out⟩
  have HI : Hid (idxOf (isFrom f) (nth l d).books = (k : Int)) := Lib.hid hi
  have HEr : Hid ((nth l d).books.eraseIdx k = (nth l d).books.filter (notFrom f)) := Lib.hid (erase_filter HBk.out.2 hk hq)
  have HE : Hid (bookCut l (d : Int) f = ⟨l.set d { nth l d with books := (nth l d).books.filter (notFrom f) }, 0⟩) := Lib.hid (by rw [bookCut, if_neg hl, if_neg (by simp [ht]), if_neg (by simp [hn]), Int.toNat_natCast, if_neg (by show ¬ idxOf (isFrom f) _ < 0; rw [hi]; omega)]; rfl)
  have HT := Lib.hid ht
  have HKB := Lib.hid hk
  clear hi hq hlow hl
  rw [HI.out]
  go_wp2_with fail
  refine (copyNodes_any (S := S) l _ _ (HR.out.ext X2.out) (by omega) HS.out).mono ?_
  rintro e w3 ⟨v3, F3, rfl, o3, g3, hx3⟩
  have HX3 := Lib.hid hx3
  have R3 := Lib.hid (R2.out.ext hx3)
  have G3 := Lib.hid g3
  have HRl := Lib.hid R2.out.lt
  obtain ⟨B2, cc, G, cs2, hv2, hlc, hcm, hBF, hBG, hGF, ho, hc2, hfz, hth, hrow, hset⟩ := o3.at2 (k := d) hd
  subst hv2
  obtain ⟨u1, rfl, hfit2, q1⟩ := ho
  obtain ⟨p1, k1, rfl, -⟩ := q1.form
  have e1 := hc2 1 _ rfl
  simp only [ENode] at e1
  have Q1 := Lib.hid q1
  have HC := Lib.hid hc2
  have HSET := Lib.hid hset
  have HROW := Lib.hid hrow
  have HBF := Lib.hid hBF
  have HBG := Lib.hid hBG
  have HGF := Lib.hid hGF
  have HBW := Lib.hid (blk_lt_of hrow)
  have HRG : Hid (R ∉ G) := Lib.hid fun hb => by have a := G3.out _ (hGF _ hb); have b := HRl.out; omega
  have HRB2 : Hid (R ≠ B2) := Lib.hid fun hb => by have a := G3.out _ hBF; have b := HRl.out; omega
  clear o3 g3 hx3 hset hrow hth hc2 q1 hBF hBG hGF hlc hcm hfz hfit2 ht
  have hk4 := HBk.out.1
  have i9 : (k : Int) + 1 ≤ 9223372036854775807 := by have := HKB.out; omega
  go_wp2_with fail
  refine (delete_Span (nth l d).books k _ G _ Q1.out (by omega) HKB.out).mono ?_
  rintro e w4 ⟨v4, F4, rfl, o4, f4, k4⟩
  rw [HEr.out] at o4
  obtain ⟨A4, c4, rfl, -⟩ := o4.form
  obtain ⟨W5, hW5⟩ : ∃ W5, W5 = w4.setCell ⟨B2, d * 2 + 1, none⟩ (.slice A4 ((nth l d).books.filter (notFrom f)).length c4) := ⟨_, rfl⟩
  have hB3 := RowBut.kept HROW.out k4 HBG.out
  have HN : Hid (∃ F', OwS ONode 42 W5 (.slice (some ⟨B2, 0, none⟩) l.length cc) (l.set d { nth l d with books := (nth l d).books.filter (notFrom f) }) F' ∧ ∀ b ∈ F', b ∈ F3 ∨ w3.heap.size ≤ b) := Lib.hid (by
    rw [hW5]
    refine HSET.out _ _ [.int .i64 (nth l d).state, .slice A4 ((nth l d).books.filter (notFrom f)).length c4] F4 (Kept.setCell (k4.sub fun b _ hb => List.mem_cons_of_mem _ hb) (by simp) _) (RowBut.setCell hB3 (by simp [ENode]) (by simp [ENode]) _) ⟨_, rfl, HFit.out, o4.kept (G := [B2]) (Kept.setCell (Kept.refl _ _) (by simp) _) (fun b hb => by simp; intro e; exact HBG.out (e ▸ f4 b hb))⟩ (fun b hb => .inl (f4 b hb)) ?_
    have hc3 : w4.rangeAt B2 (d * 2) ([.int .i64 (nth l d).state] ++ [.slice p1 (nth l d).books.length k1]) := fun j u hj => k4.cell HBG.out (HC.out j u hj)
    exact range_back (a := [.int .i64 (nth l d).state]) hc3 (fun j hj => ⟨(by obtain rfl : j = 0 := (by simpa using hj); rw [show d * 2 + [Value.int IntKind.i64 (nth l d).state].length + 0 = d * 2 + 1 from rfl, hc3 1 _ rfl]; rfl), hB3.frozen _⟩))
  have e13 := k4.cell HBG.out e1
  have f13 := hB3.frozen (d * 2 + 1)
  have X5 : Hid (Ext w W5) := Lib.hid (by rw [hW5]; exact (k4.ext (X2.out.trans HX3.out) fun b hb => Nat.le_trans X2.out.size (G3.out b (HGF.out b hb))).setCell (Nat.le_trans X2.out.size (G3.out _ HBF.out)) _)
  have R5 : Hid (Blk W5 R 29 #[.slice none 0 0, .int .i64 0]) := Lib.hid (by rw [hW5]; exact Blk.far ((k4.block _ R3.out.lt HRG.out).trans R3.out) HRB2.out _)
  have HX2 := Lib.hid X2.out.size
  clear o4 f4 k4 hB3 e1
  go_upto_region 12 with (fail)
  rw [← hW5]
  clear hW5 e13 f13
  obtain ⟨F6, o6, f6⟩ := HN.out
  have O6 := Lib.hid o6
  have G6 : Hid (∀ b ∈ F6, w2.heap.size ≤ b) := Lib.hid fun b hb => by rcases f6 b hb with h | h; exact G3.out b h; exact Nat.le_trans HX3.out.size h
  clear o6 f6
  go_wp2_with (refine wpList_store_mid rfl 29 _ _ rfl R 0 #[.slice (some ⟨B2, 0, none⟩) l.length cc, .int .i64 0] rfl rfl (Blk.there (t := 29) (cs := #[.slice none 0 0, .int .i64 0]) R5.out) (by kernel_rfl) (all_oneCell_toArray (cs := [.slice (some ⟨B2, 0, none⟩) l.length cc, .int .i64 0]) (by simp [Value.oneCell'])) ?_)
  exact bodyPost_ret (v := .agg #[.slice (some ⟨B2, 0, none⟩) l.length cc, .int .i64 0]) (results_blk Try.results16 rfl (Blk.setAll (t := 29) (cs := #[.slice none 0 0, .int .i64 0]) (vs := #[.slice (some ⟨B2, 0, none⟩) l.length cc, .int .i64 0]) R5.out rfl) Try.underlying29 rfl (by kernel_rfl)) rfl ⟨_, F6, rfl, ⟨.slice (some ⟨B2, 0, none⟩) l.length cc, by rw [HE.out]; rfl, by rw [HE.out]; simp [FitNodesOut, I64], by rw [HE.out]; exact O6.out.kept (G := [R]) (Kept.setCells (by simp) _ _ _ (Kept.refl _ _)) (fun b hb => by have := G6.out b hb; have := HRl.out; simp; omega)⟩, fun b hb => Nat.le_trans HX2.out (G6.out b hb), setCells_ext HRB.out _ _ _ X5.out⟩

end Go.Proofs.Ytbdicafambkhdaa

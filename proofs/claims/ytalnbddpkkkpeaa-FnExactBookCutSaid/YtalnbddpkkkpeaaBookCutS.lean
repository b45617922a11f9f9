/- The walk of the reference's BookCut. Printed by wip/bookcuts.py. -/
import Derived.Test.YtalnbddpkkkpeaaBookCut
namespace Go.Proofs.Ytalnbddpkkkpeaa
open Go.RowKit
attribute [local irreducible] wpQuiet

set_option maxHeartbeats 8000000 in
set_option maxRecDepth 100000 in
theorem specBookCut_any {S : Nat → Prop} (l : List Node) (n f : Int) (v : Value) (w : World) (h : Rd ENode S w v l) :
    Calls Try.prog 58 #[v, .int .i64 n, .int .i64 f] w (RetOS ONodesOut (bookCut l n f) w) := by
  have HR := Lib.hid h
  obtain ⟨A, c, rfl, h1, h2, hk⟩ := h.open_
  unfold maxLen at h2
  have HK := Lib.hid hk
  clear h hk
  go_enter Try.func58, Try.ntmps58
  go_upto_region 1 with (fail)
  obtain ⟨W, R, hW, hB, hx0, b0⟩ : ∃ W B, W = w.alloc (.cells #[.slice none 0 0, .int .i64 0] 68) ∧ B = w.heap.size ∧ Ext w W ∧ Blk W B 68 #[.slice none 0 0, .int .i64 0] := ⟨_, _, rfl, rfl, (Ext.refl w).alloc _, Blk.new _ _ _⟩
  rw [← hW, ← hB]
  have HRB : Hid (w.heap.size ≤ R) := Lib.hid (by omega)
  have R0 := Lib.hid b0
  have X0 := Lib.hid hx0
  clear hW hB hx0 b0
  by_cases hl : 400 < l.length
  · have HE : Hid (bookCut l n f = ⟨[], 2⟩) := Lib.hid (by rw [bookCut, if_pos hl])
    go_wp2_with (first | (go_at_call 125; refine (l10Ill_any _ _).mono ?_; rintro e wi ⟨rfl, hxi⟩; have XI := Lib.hid (X0.out.trans hxi); have RI := Lib.hid (R0.out.ext hxi); clear hxi) | (refine wpList_store_mid rfl 68 _ _ rfl R 0 #[.slice none 0 0, .int .i64 2] rfl rfl (Blk.there (t := 68) (cs := #[.slice none 0 0, .int .i64 0]) RI.out) (by kernel_rfl) (all_oneCell_toArray (cs := [.slice none 0 0, .int .i64 2]) (by simp [Value.oneCell'])) ?_))
    exact bodyPost_ret (v := .agg #[.slice none 0 0, .int .i64 2]) (results_blk Try.results58 rfl (Blk.setAll (t := 68) (cs := #[.slice none 0 0, .int .i64 0]) (vs := #[.slice none 0 0, .int .i64 2]) RI.out rfl) Try.underlying68 rfl (by kernel_rfl)) rfl ⟨_, [], rfl, ⟨.slice none 0 0, by rw [HE.out]; rfl, by rw [HE.out]; simp [FitNodesOut, I64], by rw [HE.out]; exact OwS.nil _⟩, fun b hb => absurd hb (by simp), setCells_ext HRB.out _ _ _ XI.out⟩
  have hl2 : l.length ≤ 400 := by omega
  cases ht : nodesRight l with
  | false =>
    have HE : Hid (bookCut l n f = ⟨[], 1⟩) := Lib.hid (by rw [bookCut, if_neg hl, if_pos ht])
    clear hl
    go_wp2_with (first | (go_at_call 91; (with_reducible refine (specNodesRight_any (S := S) l _ _ (HR.out.ext X0.out)).mono ?_); rintro e w1 ⟨rfl, hx1⟩; have X1 := Lib.hid (X0.out.trans hx1); have R1 := Lib.hid (R0.out.ext hx1); clear hx1) | (go_at_call 125; refine (l10Ill_any _ _).mono ?_; rintro e wi ⟨rfl, hxi⟩; have XI := Lib.hid (X1.out.trans hxi); have RI := Lib.hid (R1.out.ext hxi); clear hxi) | (refine wpList_store_mid rfl 68 _ _ rfl R 0 #[.slice none 0 0, .int .i64 1] rfl rfl (Blk.there (t := 68) (cs := #[.slice none 0 0, .int .i64 0]) RI.out) (by kernel_rfl) (all_oneCell_toArray (cs := [.slice none 0 0, .int .i64 1]) (by simp [Value.oneCell'])) ?_))
    exact bodyPost_ret (v := .agg #[.slice none 0 0, .int .i64 1]) (results_blk Try.results58 rfl (Blk.setAll (t := 68) (cs := #[.slice none 0 0, .int .i64 0]) (vs := #[.slice none 0 0, .int .i64 1]) RI.out rfl) Try.underlying68 rfl (by kernel_rfl)) rfl ⟨_, [], rfl, ⟨.slice none 0 0, by rw [HE.out]; rfl, by rw [HE.out]; simp [FitNodesOut, I64], by rw [HE.out]; exact OwS.nil _⟩, fun b hb => absurd hb (by simp), setCells_ext HRB.out _ _ _ XI.out⟩
  | true =>
  cases hn : isNode l n with
  | false =>
    have HE : Hid (bookCut l n f = ⟨[], 6⟩) := Lib.hid (by rw [bookCut, if_neg hl, if_neg (by simp [ht]), if_pos hn])
    clear hl
    go_wp2_with (first | (go_at_call 91; (with_reducible refine (specNodesRight_any (S := S) l _ _ (HR.out.ext X0.out)).mono ?_); rintro e w1 ⟨rfl, hx1⟩; have X1 := Lib.hid (X0.out.trans hx1); have R1 := Lib.hid (R0.out.ext hx1); clear hx1) | (go_at_call 127; refine (l10Place_any l n _ _ _ hl2).mono ?_; rintro e w' ⟨rfl, rfl⟩) | (go_at_call 125; refine (l10Ill_any _ _).mono ?_; rintro e wi ⟨rfl, hxi⟩; have XI := Lib.hid (X1.out.trans hxi); have RI := Lib.hid (R1.out.ext hxi); clear hxi) | (refine wpList_store_mid rfl 68 _ _ rfl R 0 #[.slice none 0 0, .int .i64 6] rfl rfl (Blk.there (t := 68) (cs := #[.slice none 0 0, .int .i64 0]) RI.out) (by kernel_rfl) (all_oneCell_toArray (cs := [.slice none 0 0, .int .i64 6]) (by simp [Value.oneCell'])) ?_))
    exact bodyPost_ret (v := .agg #[.slice none 0 0, .int .i64 6]) (results_blk Try.results58 rfl (Blk.setAll (t := 68) (cs := #[.slice none 0 0, .int .i64 0]) (vs := #[.slice none 0 0, .int .i64 6]) RI.out rfl) Try.underlying68 rfl (by kernel_rfl)) rfl ⟨_, [], rfl, ⟨.slice none 0 0, by rw [HE.out]; rfl, by rw [HE.out]; simp [FitNodesOut, I64], by rw [HE.out]; exact OwS.nil _⟩, fun b hb => absurd hb (by simp), setCells_ext HRB.out _ _ _ XI.out⟩
  | true =>
  obtain ⟨d, rfl, hd⟩ := isNode_nat hn
  obtain ⟨b, q, cs, rfl, _, ⟨v1, rfl, hfit, hrd⟩, hc⟩ := HK.out d hd
  obtain ⟨A1, d1, rfl, n3, m3, hk3⟩ := hrd.open_
  unfold maxLen at m3
  have HK3 := Lib.hid hk3
  have hd0 : (0 : Int) ≤ (d : Int) := Int.natCast_nonneg _
  have hdl : (d : Int) < (l.length : Int) := by omega
  have CE : Hid (∀ V, Ext w V → V.cell? ⟨b, q + d * 2 + 1, none⟩ = some (.slice A1 (nth l d).books.length d1)) := Lib.hid fun V hV => by have := Ext.some hV (hc 1 _ rfl); simpa [ENode] using this
  have HFit := Lib.hid hfit
  clear hc hrd hfit hk3
  have HBk := Lib.hid (nodesRight_books ht hd)
  have hb4 := HBk.out.1
  have HS : Hid (∀ k, k < l.length → (nth l k).books.length ≤ 1000000000) := Lib.hid fun k hk => by have := (nodesRight_books ht hk).1; omega
  have HEbad : Hid (idxOf (isFrom f) (nth l d).books < 0 → bookCut l (d : Int) f = ⟨[], 6⟩) := Lib.hid fun hi => by rw [bookCut, if_neg hl, if_neg (by simp [ht]), if_neg (by simp [hn]), Int.toNat_natCast, if_pos (show bookAt (nth l d).books f < 0 from hi)]
  have HEok : Hid (¬ idxOf (isFrom f) (nth l d).books < 0 → bookCut l (d : Int) f = ⟨l.set d { nth l d with books := (nth l d).books.filter (notFrom f) }, 0⟩) := Lib.hid fun hi => by rw [bookCut, if_neg hl, if_neg (by simp [ht]), if_neg (by simp [hn]), Int.toNat_natCast, if_neg (show ¬ bookAt (nth l d).books f < 0 from hi)]; rfl
  clear hl
  go_upto_region 7 with (first | (go_at_call 91; (with_reducible refine (specNodesRight_any (S := S) l _ _ (HR.out.ext X0.out)).mono ?_); rintro e w1 ⟨rfl, hx1⟩; have X1 := Lib.hid (X0.out.trans hx1); have R1 := Lib.hid (R0.out.ext hx1); clear hx1) | (go_at_call 127; refine (l10Place_any l (d : Int) _ _ _ hl2).mono ?_; rintro e w' ⟨rfl, rfl⟩))
  go_wp2_with fail
  refine (l10Copy_any (S := S) l _ _ (HR.out.ext X1.out) (by omega) HS.out).mono ?_
  rintro e w3 ⟨v3, F3, rfl, o3, g3, hx3⟩
  have X3 := Lib.hid (X1.out.trans hx3)
  have R3 := Lib.hid (R1.out.ext hx3)
  have G3 := Lib.hid g3
  have HRl := Lib.hid R1.out.lt
  have LF3 := Lib.hid o3.lt
  have HX13 := Lib.hid hx3.size
  obtain ⟨B2, cc, G, cs2, hv2, hlc, hcm, hBF, hBG, hGF, ho, hc2, hfz, hth, hrow, hset⟩ := o3.at2 (k := d) hd
  subst hv2
  obtain ⟨u1, rfl, hfit2, q1⟩ := ho
  obtain ⟨p1, k1, rfl, -⟩ := q1.form
  have e1 := hc2 1 _ rfl
  simp only [ENode] at e1
  have HC := Lib.hid hc2
  have HSET := Lib.hid hset
  have HROW := Lib.hid hrow
  have HBF := Lib.hid hBF
  have HBG := Lib.hid hBG
  have HBW := Lib.hid (blk_lt_of hrow)
  have E1 := Lib.hid e1
  have HRB2 : Hid (R ≠ B2) := Lib.hid fun hb => by have a := G3.out _ hBF; have b := HRl.out; omega
  clear o3 g3 hx3 hset hrow hth hc2 q1 hBF hBG hGF hlc hcm hfz hfit2 e1 ht
  go_wp2_with fail
  obtain ⟨W4, B0, hW, hB, hx0, b0⟩ : ∃ W B, W = w3.alloc (.cells #[] 76) ∧ B = w3.heap.size ∧ Ext w3 W ∧ Blk W B 76 #[] := ⟨_, _, rfl, rfl, (Ext.refl _).alloc _, Blk.new _ _ _⟩
  rw [← hW, ← hB]
  have HB0 : Hid (w3.heap.size ≤ B0) := Lib.hid (by omega)
  have BB0 := Lib.hid b0
  have XW := Lib.hid hx0
  clear hW hB hx0 b0
  go_loopw [8, 9] (fun v j w' => ∃ (i : Nat) (F4 : List Nat), i ≤ (nth l d).books.length ∧ j = .int .i64 i ∧ OwS OSpan 76 w' v (((nth l d).books.take i).filter (notFrom f)) F4 ∧ (∀ b ∈ F4, w3.heap.size ≤ b) ∧ Ext w3 w') (fun _ j _ => (nth l d).books.length - (intOf j).toNat)
  case atStart => exact ⟨0, [B0], by omega, rfl, .inr ⟨B0, 0, #[], [], rfl, BB0.out, Nat.le_refl _, Nat.zero_le _, rfl, rfl, rfl, by simp, fun k hk => absurd hk (Nat.not_lt_zero _)⟩, fun b hb => by rw [List.mem_singleton.1 hb]; exact HB0.out, XW.out⟩
  case round =>
    obtain ⟨i, F4, hi1, rfl, how4, hF4, hx4⟩ := hrel
    have HO4 := Lib.hid how4
    have HF4 := Lib.hid hF4
    have HX4 := Lib.hid hx4
    have ce := CE.out _ (X3.out.trans hx4)
    clear how4 hF4
    by_cases hit : i < (nth l d).books.length
    · obtain ⟨b3, q3, cs3, rfl, _, ⟨rfl, hf3⟩, hc3⟩ := HK3.out i hit
      have e0 := Ext.some (X3.out.trans hx4) (hc3 0 _ rfl)
      have e1 := Ext.some (X3.out.trans hx4) (hc3 1 _ rfl)
      simp only [ESpan, Nat.add_zero] at e0 e1
      have HFs := Lib.hid hf3
      clear hc3 hf3 hx4
      by_cases hp : (nth (nth l d).books i).from_ = f
      · have HY := Lib.hid (filter_take_no (f := notFrom f) hit (by simp [notFrom, hp]))
        go_wp2_with fail
        refine ⟨⟨i + 1, F4, by omega, by go_num, by rw [HY.out]; exact HO4.out, HF4.out, HX4.out⟩, ?_⟩
        simp [intOf]
        omega
      · have HY := Lib.hid (filter_take_yes (f := notFrom f) hit (by simp [notFrom, hp]))
        go_wp2_with (at_builtin; refine wpList_append_one (O := OSpan) (T := 76) (l := ((nth l d).books.take i).filter (notFrom f)) (F := F4) (G := []) (y := nth (nth l d).books i) (cs := [.int .i64 (nth (nth l d).books i).from_, .int .i64 (nth (nth l d).books i).to_]) rfl _ _ 112 rfl (.agg #[.int .i64 0, .int .i64 0]) 2 16 Try.underlying112 (by kernel_rfl) rfl rfl rfl (HO4.out.ext ((Ext.refl _).alloc _)) _ 0 1 rfl ⟨rel_Span HFs.out, rfl⟩ (Blk.new _ _ _).range (by simpa using HO4.out.nodup) (by have a := List.length_filter_le (notFrom f) ((nth l d).books.take i); have b := List.length_take_le i (nth l d).books; omega) (by decide) ?_; intro v' w9 F' how hkp hF'; have HOW := Lib.hid how; have HKP := Lib.hid hkp; have HFF := Lib.hid hF'; clear how hkp hF')
        refine ⟨⟨i + 1, F', by omega, by go_num, by rw [HY.out]; exact HOW.out, fun b hb => match HFF.out b hb with | .inl h => HF4.out b h | .inr (.inl h) => absurd h (by simp) | .inr (.inr h) => Nat.le_trans (HX4.out.alloc _).size h, HKP.out.ext (HX4.out.alloc _) HF4.out⟩, ?_⟩
        simp [intOf]
        omega
    · obtain rfl : i = (nth l d).books.length := by omega
      have HO5 : Hid (OwS OSpan 76 wr _ ((nth l d).books.filter (notFrom f)) F4) := Lib.hid (by have := HO4.out; rwa [List.take_length] at this)
      obtain ⟨A4, c4, rfl, -⟩ := HO5.out.form
      have X4 := Lib.hid (X3.out.trans hx4)
      have R4 := Lib.hid (R3.out.ext hx4)
      clear hx4
      rcases idxOf_cases (isFrom f) (nth l d).books with ⟨hi, hnone⟩ | ⟨k, hk, hi, hq, hlow⟩
      · have HE := Lib.hid (HEbad.out (by rw [hi]; decide))
        have hfl : ((nth l d).books.filter (notFrom f)).length = (nth l d).books.length := by rw [filter_none hnone]
        clear hi hnone
        go_wp2_with (first | (go_at_call 125; refine (l10Ill_any _ _).mono ?_; rintro e wi ⟨rfl, hxi⟩; have XI := Lib.hid (X4.out.trans hxi); have RI := Lib.hid (R4.out.ext hxi); clear hxi) | (refine wpList_store_mid rfl 68 _ _ rfl R 0 #[.slice none 0 0, .int .i64 6] rfl rfl (Blk.there (t := 68) (cs := #[.slice none 0 0, .int .i64 0]) RI.out) (by kernel_rfl) (all_oneCell_toArray (cs := [.slice none 0 0, .int .i64 6]) (by simp [Value.oneCell'])) ?_))
        exact bodyPost_ret (v := .agg #[.slice none 0 0, .int .i64 6]) (results_blk Try.results58 rfl (Blk.setAll (t := 68) (cs := #[.slice none 0 0, .int .i64 0]) (vs := #[.slice none 0 0, .int .i64 6]) RI.out rfl) Try.underlying68 rfl (by kernel_rfl)) rfl ⟨_, [], rfl, ⟨.slice none 0 0, by rw [HE.out]; rfl, by rw [HE.out]; simp [FitNodesOut, I64], by rw [HE.out]; exact OwS.nil _⟩, fun b hb => absurd hb (by simp), setCells_ext HRB.out _ _ _ XI.out⟩
      have HE := Lib.hid (HEok.out (by rw [hi]; omega))
      have hfl : ¬ ((nth l d).books.filter (notFrom f)).length = (nth l d).books.length := by rw [← erase_filter HBk.out.2 hk hq]; exact erase_short hk
      have hfl2 : ¬ (((nth l d).books.filter (notFrom f)).length : Int) = ((nth l d).books.length : Int) := by omega
      clear hi hq hlow hk
      obtain ⟨W5, hW5⟩ : ∃ W5, W5 = wr.setCell ⟨B2, d * 2 + 1, none⟩ (.slice A4 ((nth l d).books.filter (notFrom f)).length c4) := ⟨_, rfl⟩
      have hB3 := RowBut.kept HROW.out (Kept.of_ext (F := []) HX4.out) (by simp)
      have HN : Hid (∃ F', OwS ONode 114 W5 (.slice (some ⟨B2, 0, none⟩) l.length cc) (l.set d { nth l d with books := (nth l d).books.filter (notFrom f) }) F' ∧ ∀ b ∈ F', b ∈ F3 ∨ w3.heap.size ≤ b) := Lib.hid (by
        rw [hW5]
        refine HSET.out _ _ [.int .i64 (nth l d).state, .slice A4 ((nth l d).books.filter (notFrom f)).length c4] F4 (Kept.setCell (Kept.of_ext HX4.out) (by simp) _) (RowBut.setCell hB3 (by simp [ENode]) (by simp [ENode]) _) ⟨_, rfl, HFit.out, HO5.out.kept (G := [B2]) (Kept.setCell (Kept.refl _ _) (by simp) _) (fun b hb => by have a := HF4.out b hb; have c := HBW.out; simp; omega)⟩ (fun b hb => .inr (HF4.out b hb)) ?_
        have hc3 : wr.rangeAt B2 (d * 2) ([.int .i64 (nth l d).state] ++ [.slice p1 (nth l d).books.length k1]) := HX4.out.range HC.out
        exact range_back (a := [.int .i64 (nth l d).state]) hc3 (fun j hj => ⟨(by obtain rfl : j = 0 := (by simpa using hj); rw [show d * 2 + [Value.int IntKind.i64 (nth l d).state].length + 0 = d * 2 + 1 from rfl, hc3 1 _ rfl]; rfl), hB3.frozen _⟩))
      have e13 := Ext.some HX4.out E1.out
      have f13 := hB3.frozen (d * 2 + 1)
      have X5 : Hid (Ext w W5) := Lib.hid (by rw [hW5]; exact X4.out.setCell (Nat.le_trans X1.out.size (G3.out _ HBF.out)) _)
      have R5 : Hid (Blk W5 R 68 #[.slice none 0 0, .int .i64 0]) := Lib.hid (by rw [hW5]; exact Blk.far R4.out HRB2.out _)
      have HX1 := Lib.hid X1.out.size
      clear hB3
      go_upto_region 17 with (fail)
      rw [← hW5]
      clear hW5 e13 f13 ce
      obtain ⟨F6, o6, f6⟩ := HN.out
      have O6 := Lib.hid o6
      have G6 : Hid (∀ b ∈ F6, w1.heap.size ≤ b) := Lib.hid fun b hb => by rcases f6 b hb with h | h; exact G3.out b h; exact Nat.le_trans HX13.out h
      clear o6 f6
      go_wp2_with (refine wpList_store_mid rfl 68 _ _ rfl R 0 #[.slice (some ⟨B2, 0, none⟩) l.length cc, .int .i64 0] rfl rfl (Blk.there (t := 68) (cs := #[.slice none 0 0, .int .i64 0]) R5.out) (by kernel_rfl) (all_oneCell_toArray (cs := [.slice (some ⟨B2, 0, none⟩) l.length cc, .int .i64 0]) (by simp [Value.oneCell'])) ?_)
      exact bodyPost_ret (v := .agg #[.slice (some ⟨B2, 0, none⟩) l.length cc, .int .i64 0]) (results_blk Try.results58 rfl (Blk.setAll (t := 68) (cs := #[.slice none 0 0, .int .i64 0]) (vs := #[.slice (some ⟨B2, 0, none⟩) l.length cc, .int .i64 0]) R5.out rfl) Try.underlying68 rfl (by kernel_rfl)) rfl ⟨_, F6, rfl, ⟨.slice (some ⟨B2, 0, none⟩) l.length cc, by rw [HE.out]; rfl, by rw [HE.out]; simp [FitNodesOut, I64], by rw [HE.out]; exact O6.out.kept (G := [R]) (Kept.setCells (by simp) _ _ _ (Kept.refl _ _)) (fun b hb => by have := G6.out b hb; have := HRl.out; simp; omega)⟩, fun b hb => Nat.le_trans HX1.out (G6.out b hb), setCells_ext HRB.out _ _ _ X5.out⟩

end Go.Proofs.Ytalnbddpkkkpeaa

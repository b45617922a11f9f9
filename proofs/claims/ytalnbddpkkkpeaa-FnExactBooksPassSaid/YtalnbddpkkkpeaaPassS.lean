/- The walk of the reference's BooksPass. -/
import Derived.Test.YtalnbddpkkkpeaaPassI
namespace Go.Proofs.Ytalnbddpkkkpeaa
open Go.RowKit
attribute [local irreducible] wpQuiet

set_option maxHeartbeats 8000000 in
set_option maxRecDepth 100000 in
theorem specBooksPass_any {S : Nat → Prop} (l : List Node) (now : Int) (v : Value) (w : World) (h : Rd ENode S w v l) :
    Calls Try.prog 31 #[v, .int .i64 now] w (RetO ONode 114 (booksPass l now) w) := by
  have HR := Lib.hid h
  obtain ⟨A, c, rfl, h1, h2, hk⟩ := h.open_
  unfold maxLen at h2
  have HK := Lib.hid hk
  clear h hk
  go_enter Try.func31, Try.ntmps31
  go_wp2_with fail
  refine (specNodesRight_any (S := S) l _ _ HR.out).mono ?_
  rintro e w1 ⟨rfl, hx⟩
  have X1 := Lib.hid hx
  clear hx
  cases ht : nodesRight l with
  | false =>
    have HE : Hid (booksPass l now = []) := Lib.hid (by rw [booksPass, ht]; rfl)
    go_wp2_with fail
    go_ret
    exact ⟨_, [], rfl, by rw [HE.out]; exact OwS.nil _, fun b hb => (by cases hb), X1.out.alloc _⟩
  | true =>
  have HT := Lib.hid ht
  have HE : Hid (booksPass l now = l.map (passNode now)) := Lib.hid (by rw [booksPass, if_pos ht])
  have HS : Hid (∀ k, k < l.length → (nth l k).books.length ≤ 1000000000) := Lib.hid fun k hk => by have := (nodesRight_books ht hk).1; omega
  have hl := (nodesRight_length ht).2
  rw [HE.out]
  clear ht
  go_wp2_with fail
  refine (l10Copy_any (S := S) l _ _ (HR.out.ext X1.out) (by omega) HS.out).mono ?_
  rintro e w2 ⟨v2, F2, rfl, o2, g2, hx⟩
  obtain ⟨A2, c2, rfl, n2, m2⟩ := o2.form
  unfold maxLen at m2
  have O2 := Lib.hid o2
  have G2 := Lib.hid g2
  have X2 := Lib.hid (X1.out.trans hx)
  have HX1 := Lib.hid X1.out.size
  clear o2 g2 hx
  go_wp2_with fail
  go_loopw [6] (fun i w' => ∃ (k : Nat) (F : List Nat), k ≤ l.length ∧ i = .int .i64 k ∧ OwS ONode 114 w' (.slice A2 l.length c2) (passM now l k) F ∧ (∀ b ∈ F, w1.heap.size ≤ b) ∧ Ext w w') (fun i _ => l.length - (intOf i).toNat)
  case atStart => exact ⟨0, F2, by omega, rfl, by rw [passM_zero]; exact O2.out, G2.out, X2.out⟩
  case round =>
    obtain ⟨k, F, hk1, rfl, hown, hF, hx⟩ := hrel
    have HF := Lib.hid hF
    have HX := Lib.hid hx
    by_cases hlt : k < l.length
    · obtain ⟨b, q, cs, rfl, _, ⟨v1, rfl, _, hrd⟩, hcc0⟩ := HK.out k hlt
      obtain ⟨A1, d1, rfl, n3, m3, hk3⟩ := hrd.open_
      unfold maxLen at m3
      have HK3 := Lib.hid hk3
      have CE : Hid (∀ V, Ext w V → V.cell? ⟨b, q + k * 2 + 1, none⟩ = some (.slice A1 (nth l k).books.length d1)) := Lib.hid fun V hV => by have := Ext.some hV (hcc0 1 _ rfl); simpa [ENode] using this
      obtain ⟨B, c', G, cs, hv, hlc, hcm, hBF, hBG, hGF, ho, hc, hfz, hth, hrow, hset⟩ := hown.at2 (k := k) (by rw [passM_length hk1]; exact hlt)
      rw [passM_length hk1] at hv
      rw [passM_nth hlt] at ho
      obtain ⟨u1, rfl, hfit, q1⟩ := ho
      injection hv with hA hlen hcc
      clear hlen
      subst hcc
      subst hA
      obtain ⟨p1, k1, rfl, -⟩ := q1.form
      have c1 := hc 1 _ rfl
      simp only [ENode] at c1
      have HC := Lib.hid hc
      have HSET := Lib.hid hset
      have HROW := Lib.hid hrow
      have HFit := Lib.hid hfit
      have HBF := Lib.hid hBF
      have HBG := Lib.hid hBG
      have HM := Lib.hid (passM_set (now := now) hlt)
      have HBW := Lib.hid (blk_lt_of hrow)
      have HL4 := Lib.hid (nodesRight_books HT.out hlt).1
      have C1 := Lib.hid c1
      clear hc hset hrow hth hfit hfz hown hBF hBG hGF q1 hlc hcm hx hF c1 hrd hk3 hcc0
      generalize wr = V at *
      go_wp2_with fail
      obtain ⟨W, B0, hW, hB, hx0, b0⟩ : ∃ W B, W = V.alloc (.cells #[] 76) ∧ B = V.heap.size ∧ Ext V W ∧ Blk W B 76 #[] := ⟨_, _, rfl, rfl, (Ext.refl _).alloc _, Blk.new _ _ _⟩
      rw [← hW, ← hB]
      have HB0 : Hid (V.heap.size ≤ B0) := Lib.hid (by omega)
      have BB0 := Lib.hid b0
      have XW := Lib.hid hx0
      clear hW hB hx0 b0
      go_loopw [7, 8] (fun v j w' => ∃ (i : Nat) (F3 : List Nat), i ≤ (nth l k).books.length ∧ j = .int .i64 i ∧ OwS OSpan 76 w' v (((nth l k).books.take i).filter (passed now)) F3 ∧ (∀ b ∈ F3, V.heap.size ≤ b) ∧ Ext V w') (fun _ j _ => (nth l k).books.length - (intOf j).toNat)
      case atStart => exact ⟨0, [B0], by omega, rfl, .inr ⟨B0, 0, #[], [], rfl, BB0.out, Nat.le_refl _, Nat.zero_le _, rfl, rfl, rfl, by simp, fun k hk => absurd hk (Nat.not_lt_zero _)⟩, fun b hb => by rw [List.mem_singleton.1 hb]; exact HB0.out, XW.out⟩
      case round =>
        obtain ⟨i, F3, hi1, rfl, how3, hF3, hx3⟩ := hrel
        have HO3 := Lib.hid how3
        have HF3 := Lib.hid hF3
        have HX3 := Lib.hid hx3
        have ce := CE.out _ (HX.out.trans hx3)
        clear how3 hF3
        by_cases hit : i < (nth l k).books.length
        · obtain ⟨b3, q3, cs3, rfl, _, ⟨rfl, hf3⟩, hc3⟩ := HK3.out i hit
          have e0 := Ext.some (HX.out.trans hx3) (hc3 0 _ rfl)
          have e1 := Ext.some (HX.out.trans hx3) (hc3 1 _ rfl)
          simp only [ESpan, Nat.add_zero] at e0 e1
          have HFs := Lib.hid hf3
          clear hc3 hf3 hx3
          by_cases hp : now < (nth (nth l k).books i).to_
          · have HY := Lib.hid (filter_take_yes (f := passed now) hit (by simp [passed, hp]))
            go_wp2_with (at_builtin; refine wpList_append_one (O := OSpan) (T := 76) (l := ((nth l k).books.take i).filter (passed now)) (F := F3) (G := []) (y := nth (nth l k).books i) (cs := [.int .i64 (nth (nth l k).books i).from_, .int .i64 (nth (nth l k).books i).to_]) rfl _ _ 112 rfl (.agg #[.int .i64 0, .int .i64 0]) 2 16 Try.underlying112 (by kernel_rfl) rfl rfl rfl (HO3.out.ext ((Ext.refl _).alloc _)) _ 0 1 rfl ⟨rel_Span HFs.out, rfl⟩ (Blk.new _ _ _).range (by simpa using HO3.out.nodup) (by have a := List.length_filter_le (passed now) ((nth l k).books.take i); have b := List.length_take_le i (nth l k).books; have := HL4.out; omega) (by decide) ?_; intro v' w9 F' how hkp hF'; have HOW := Lib.hid how; have HKP := Lib.hid hkp; have HFF := Lib.hid hF'; clear how hkp hF')
            refine ⟨⟨i + 1, F', by omega, by go_num, by rw [HY.out]; exact HOW.out, fun b hb => match HFF.out b hb with | .inl h => HF3.out b h | .inr (.inl h) => absurd h (by simp) | .inr (.inr h) => Nat.le_trans (HX3.out.alloc _).size h, HKP.out.ext (HX3.out.alloc _) HF3.out⟩, ?_⟩
            simp [intOf]
            omega
          · have HY := Lib.hid (filter_take_no (f := passed now) hit (by simp [passed, hp]))
            have hp' : (nth (nth l k).books i).to_ ≤ now := by omega
            clear hp
            go_wp2_with fail
            refine ⟨⟨i + 1, F3, by omega, by go_num, by rw [HY.out]; exact HO3.out, HF3.out, HX3.out⟩, ?_⟩
            simp [intOf]
            omega
        · obtain rfl : i = (nth l k).books.length := by omega
          have HO4 : Hid (OwS OSpan 76 wr _ ((nth l k).books.filter (passed now)) F3) := Lib.hid (by have := HO3.out; rwa [List.take_length] at this)
          obtain ⟨A3, c3, rfl, -⟩ := HO4.out.form
          have HN : Hid (∃ F', OwS ONode 114 (wr.setCell ⟨B, k * 2 + 1, none⟩ (.slice A3 ((nth l k).books.filter (passed now)).length c3)) (.slice (some ⟨B, 0, none⟩) l.length c2) (passM now l (k + 1)) F' ∧ ∀ b ∈ F', b ∈ F ∨ V.heap.size ≤ b) := Lib.hid (by
            rw [← HM.out]
            have hB3 := (RowBut.kept HROW.out (Kept.of_ext (F := []) HX3.out) (by simp))
            refine HSET.out _ (passNode now (nth l k)) [.int .i64 (nth l k).state, .slice A3 ((nth l k).books.filter (passed now)).length c3] F3 (Kept.setCell (Kept.of_ext HX3.out) (by simp) _) (RowBut.setCell hB3 (by simp [ENode]) (by simp [ENode]) _) ⟨_, rfl, HFit.out, HO4.out.kept (G := [B]) (Kept.setCell (Kept.refl _ _) (by simp) _) (fun b hb => by have a := HF3.out b hb; have c := HBW.out; simp; omega)⟩ (fun b hb => .inr (HF3.out b hb)) ?_
            have hc3 : wr.rangeAt B (k * 2) ([.int .i64 (nth l k).state] ++ [.slice p1 (nth l k).books.length k1]) := HX3.out.range HC.out
            exact range_back (a := [.int .i64 (nth l k).state]) hc3 (fun j hj => ⟨(by obtain rfl : j = 0 := (by simpa using hj); rw [show k * 2 + [Value.int IntKind.i64 (nth l k).state].length + 0 = k * 2 + 1 from rfl, hc3 1 _ rfl]; rfl), hB3.frozen _⟩))
          have c13 := Ext.some HX3.out C1.out
          have f13 := (RowBut.kept HROW.out (Kept.of_ext (F := []) HX3.out) (by simp)).frozen (k * 2 + 1)
          have X3 : Hid (Ext w (wr.setCell ⟨B, k * 2 + 1, none⟩ (.slice A3 ((nth l k).books.filter (passed now)).length c3))) := Lib.hid ((HX.out.trans HX3.out).setCell (Nat.le_trans HX1.out (HF.out B HBF.out)) _)
          clear hx3
          go_wp2_with fail
          obtain ⟨F', o', f'⟩ := HN.out
          refine ⟨⟨k + 1, F', by omega, by go_num, o', fun b hb => ?_, X3.out⟩, by simp [intOf]; omega⟩
          rcases f' b hb with h | h
          · exact HF.out b h
          · have a := HF.out B HBF.out; have c := HBW.out; omega
    · obtain rfl : k = l.length := by omega
      rw [passM_full] at hown
      have HO := Lib.hid hown
      clear hown
      go_wp2_with fail
      go_ret
      exact ⟨_, F, rfl, by rw [HE.out]; exact HO.out, fun b hb => Nat.le_trans HX1.out (HF.out b hb), HX.out⟩
end Go.Proofs.Ytalnbddpkkkpeaa

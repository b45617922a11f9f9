/- The walks of mark... Printed by wip/gen2.py. -/
import Derived.Test.YtikiipahmgpamaaGOwn
import Derived.Test.YtikiipahmgpamaaGMarkDef
import Derived.Test.YtikiipahmgpamaaRows
import Derived.Test.YtikiipahmgpamaaMarkTextW
namespace Go.Proofs.Ytikiipahmgpamaa
open Go.RowKit
attribute [local irreducible] wpQuiet

set_option maxHeartbeats 8000000 in
set_option maxRecDepth 50000 in
theorem markInt64S_any (l : List Int) (v : Value) (F : List Nat) (q : Int) (w : World) (h : OwS OInt 2 w v l F) (h0 : 0 ≤ q) (h1 : q + cntL cntInt l ≤ 1125899906842624) :
    Calls Try.prog 171 #[v, .int .i64 q] w fun e w' => e = .returned (.int .i64 (q + cntL cntInt l)) ∧ OwS OInt 2 w' v (markL mkInt cntInt q l) F ∧ Kept F w w' := by
  obtain ⟨A, c, rfl, g1, g2⟩ := h.form
  unfold maxLen at g2
  have H := Lib.hid h
  have H1 := Lib.hid h1
  clear h h1
  go_enter Try.func171, Try.ntmps171
  go_wp2_with fail
  go_loopw [1, 5] (fun kk i w' => ∃ j : Nat, j ≤ l.length ∧ i = .int .i64 j ∧ kk = .int .i64 (q + cntL cntInt (l.take j)) ∧ OwS OInt 2 w' (.slice A l.length c) (mixL mkInt cntInt q l j) F ∧ Kept F w w') (fun _ i _ => l.length - (intOf i).toNat)
  case atStart => exact ⟨0, Nat.zero_le _, rfl, by simp [cntL], by rw [mixL_zero]; exact H.out, Kept.refl _ _⟩
  case round =>
    obtain ⟨j, hj, rfl, rfl, hown, hkp⟩ := hrel
    by_cases hlt : j < l.length
    · obtain ⟨B, c', G, cs, hv, hBF, hBG, hGF, ho, hc, hfz, hth, hrow, hset⟩ := hown.at (k := j) (by rw [mixL_length _ _ _ hj]; exact hlt)
      rw [mixL_length _ _ _ hj] at hv
      rw [mixL_nth hlt] at ho
      obtain ⟨⟨rfl, hfit⟩, rfl⟩ := ho
      injection hv with hA _ hcc
      subst hA hcc
      have c0 := hc 0 _ rfl
      have f0 := hfz (j * 1 + 0)
      simp only [EInt, Nat.add_zero, Nat.mul_one] at c0 f0
      have HC := Lib.hid (cntL_at (n := cntInt) hlt)
      have HS := Lib.hid (cntL_succ (n := cntInt) hlt)
      have HO := Lib.hid hset
      have HT := Lib.hid hth
      have HR := Lib.hid hrow
      have HB := Lib.hid hBF
      have HK := Lib.hid hkp
      have HG := Lib.hid hGF
      have HX := Lib.hid hBG
      have HRG := Lib.hid hc
      have hb : 0 ≤ q + (cntL cntInt (l.take j) : Int) ∧ q + (cntL cntInt (l.take j) : Int) + cntInt (nth l j) ≤ 1125899906842624 := by have := H1.out; have := HC.out; omega
      simp only [cntInt] at hb
      clear hc hfz hset hth hrow hkp hown hfit hBG hGF hBF
      generalize hq : q + (cntL cntInt (l.take j) : Int) = Q at *
      have HQ := Lib.hid hq
      clear hq
      obtain ⟨hb0, hb1⟩ := hb
      go_wp2_with fail
      go_roundw
      case rel =>
        refine ⟨j + 1, by omega, by go_num, by rw [HS.out, ← HQ.out]; push_cast; simp only [cntInt]; go_num, ?_, ?_⟩
        · have hs := HO.out (wr.setCells B (j * 1) ([.int .i64 Q])) (mkInt Q (nth l j)) _ (Kept.setCells (List.mem_cons_self ..) _ _ _ (Kept.refl _ _)) (RowBut.setCells _ _ _ HR.out (Nat.le_refl _) (Nat.le_refl _)) ⟨⟨rfl, by unfold I64 mkInt; omega⟩, rfl⟩ (World.rangeAt_setCells_same _ _ _ _ HT.out)
          rw [← HQ.out, mixL_set hlt, HQ.out] at hs
          simpa [World.setCells, mkInt] using hs
        · exact (HK.out.setCell HB.out _)
      case measure => simp [intOf]; omega
    · obtain rfl : j = l.length := by omega
      rw [mixL_full] at hown
      have HO := Lib.hid hown
      clear hown
      go_wp2_with fail
      go_ret
      exact ⟨ret_int (by rw [List.take_length]), HO.out, hkp⟩

set_option maxHeartbeats 8000000 in
set_option maxRecDepth 50000 in
theorem markSpanS_any (l : List Span) (v : Value) (F : List Nat) (q : Int) (w : World) (h : OwS OSpan 31 w v l F) (h0 : 0 ≤ q) (h1 : q + cntL cntSpan l ≤ 1125899906842624) :
    Calls Try.prog 86 #[v, .int .i64 q] w fun e w' => e = .returned (.int .i64 (q + cntL cntSpan l)) ∧ OwS OSpan 31 w' v (markL mkSpan cntSpan q l) F ∧ Kept F w w' := by
  obtain ⟨A, c, rfl, g1, g2⟩ := h.form
  unfold maxLen at g2
  have H := Lib.hid h
  have H1 := Lib.hid h1
  clear h h1
  go_enter Try.func86, Try.ntmps86
  go_wp2_with fail
  go_loopw [1, 5] (fun kk i w' => ∃ j : Nat, j ≤ l.length ∧ i = .int .i64 j ∧ kk = .int .i64 (q + cntL cntSpan (l.take j)) ∧ OwS OSpan 31 w' (.slice A l.length c) (mixL mkSpan cntSpan q l j) F ∧ Kept F w w') (fun _ i _ => l.length - (intOf i).toNat)
  case atStart => exact ⟨0, Nat.zero_le _, rfl, by simp [cntL], by rw [mixL_zero]; exact H.out, Kept.refl _ _⟩
  case round =>
    obtain ⟨j, hj, rfl, rfl, hown, hkp⟩ := hrel
    by_cases hlt : j < l.length
    · obtain ⟨B, c', G, cs, hv, hBF, hBG, hGF, ho, hc, hfz, hth, hrow, hset⟩ := hown.at (k := j) (by rw [mixL_length _ _ _ hj]; exact hlt)
      rw [mixL_length _ _ _ hj] at hv
      rw [mixL_nth hlt] at ho
      obtain ⟨⟨rfl, hfit⟩, rfl⟩ := ho
      injection hv with hA _ hcc
      subst hA hcc
      have c0 := hc 0 _ rfl
      have f0 := hfz (j * 2 + 0)
      have c1 := hc 1 _ rfl
      have f1 := hfz (j * 2 + 1)
      simp only [ESpan, Nat.add_zero] at c0 f0 c1 f1
      have HC := Lib.hid (cntL_at (n := cntSpan) hlt)
      have HS := Lib.hid (cntL_succ (n := cntSpan) hlt)
      have HO := Lib.hid hset
      have HT := Lib.hid hth
      have HR := Lib.hid hrow
      have HB := Lib.hid hBF
      have HK := Lib.hid hkp
      have HG := Lib.hid hGF
      have HX := Lib.hid hBG
      have HRG := Lib.hid hc
      have hb : 0 ≤ q + (cntL cntSpan (l.take j) : Int) ∧ q + (cntL cntSpan (l.take j) : Int) + cntSpan (nth l j) ≤ 1125899906842624 := by have := H1.out; have := HC.out; omega
      simp only [cntSpan] at hb
      clear hc hfz hset hth hrow hkp hown hfit hBG hGF hBF
      generalize hq : q + (cntL cntSpan (l.take j) : Int) = Q at *
      have HQ := Lib.hid hq
      clear hq
      obtain ⟨hb0, hb1⟩ := hb
      go_wp2_with fail
      go_roundw
      case rel =>
        refine ⟨j + 1, by omega, by go_num, by rw [HS.out, ← HQ.out]; push_cast; simp only [cntSpan]; go_num, ?_, ?_⟩
        · have hs := fun (W2 : World) k r g => HO.out W2 (mkSpan Q (nth l j)) (cellsSpan (mkSpan Q (nth l j))) k r ⟨⟨rfl, (by simp only [FitSpan, mkSpan, I64]; omega)⟩, rfl⟩ g
          rw [← HQ.out, mixL_set hlt, HQ.out] at hs
          exact hs _ (by repeat (first | with_reducible exact Kept.refl _ _ | refine Kept.setCell ?_ (by simp) _)) (by repeat (first | with_reducible exact HR.out | refine RowBut.setCell ?_ (by show j * 2 ≤ _; omega) (by show _ < j * 2 + 2; omega) _)) (show World.rangeAt _ B (j * 2) (cellsSpan (mkSpan Q (nth l j))) from by intro i u hi; rcases i with _ | _ | i <;> simp [cellsSpan, mkSpan] at hi <;> (try subst hi) <;> (go_simp; try omega))
        · exact HK.out.trans (Kept.sub (F := [B]) (by repeat (first | with_reducible exact Kept.refl _ _ | refine Kept.setCell ?_ (by simp) _)) (fun b _ hb => by rw [List.mem_singleton.1 hb]; exact HB.out))
      case measure => simp [intOf]; omega
    · obtain rfl : j = l.length := by omega
      rw [mixL_full] at hown
      have HO := Lib.hid hown
      clear hown
      go_wp2_with fail
      go_ret
      exact ⟨ret_int (by rw [List.take_length]), HO.out, hkp⟩

set_option maxHeartbeats 8000000 in
set_option maxRecDepth 50000 in
theorem markNodeS_any (l : List Node) (v : Value) (F : List Nat) (q : Int) (w : World) (h : OwS ONode 72 w v l F) (h0 : 0 ≤ q) (h1 : q + cntL cntNode l ≤ 1125899906842624) :
    Calls Try.prog 16 #[v, .int .i64 q] w fun e w' => e = .returned (.int .i64 (q + cntL cntNode l)) ∧ OwS ONode 72 w' v (markL mkNode cntNode q l) F ∧ Kept F w w' := by
  obtain ⟨A, c, rfl, g1, g2⟩ := h.form
  unfold maxLen at g2
  have H := Lib.hid h
  have H1 := Lib.hid h1
  clear h h1
  go_enter Try.func16, Try.ntmps16
  go_wp2_with fail
  go_loopw [1, 5] (fun kk i w' => ∃ j : Nat, j ≤ l.length ∧ i = .int .i64 j ∧ kk = .int .i64 (q + cntL cntNode (l.take j)) ∧ OwS ONode 72 w' (.slice A l.length c) (mixL mkNode cntNode q l j) F ∧ Kept F w w') (fun _ i _ => l.length - (intOf i).toNat)
  case atStart => exact ⟨0, Nat.zero_le _, rfl, by simp [cntL], by rw [mixL_zero]; exact H.out, Kept.refl _ _⟩
  case round =>
    obtain ⟨j, hj, rfl, rfl, hown, hkp⟩ := hrel
    by_cases hlt : j < l.length
    · obtain ⟨B, c', G, cs, hv, hBF, hBG, hGF, ho, hc, hfz, hth, hrow, hset⟩ := hown.at (k := j) (by rw [mixL_length _ _ _ hj]; exact hlt)
      rw [mixL_length _ _ _ hj] at hv
      rw [mixL_nth hlt] at ho
      obtain ⟨u1, rfl, hfit, o1⟩ := ho
      obtain ⟨A1, k1, rfl, n1, m1⟩ := o1.form
      have O1 := Lib.hid o1
      clear o1
      injection hv with hA _ hcc
      subst hA hcc
      have c0 := hc 0 _ rfl
      have f0 := hfz (j * 2 + 0)
      have c1 := hc 1 _ rfl
      simp only [ENode, Nat.add_zero] at c0 f0 c1
      have HC := Lib.hid (cntL_at (n := cntNode) hlt)
      have HS := Lib.hid (cntL_succ (n := cntNode) hlt)
      have HO := Lib.hid hset
      have HT := Lib.hid hth
      have HR := Lib.hid hrow
      have HB := Lib.hid hBF
      have HK := Lib.hid hkp
      have HG := Lib.hid hGF
      have HX := Lib.hid hBG
      have HRG := Lib.hid hc
      have hb : 0 ≤ q + (cntL cntNode (l.take j) : Int) ∧ q + (cntL cntNode (l.take j) : Int) + cntNode (nth l j) ≤ 1125899906842624 := by have := H1.out; have := HC.out; omega
      simp only [cntNode] at hb
      clear hc hfz hset hth hrow hkp hown hfit hBG hGF hBF
      generalize hq : q + (cntL cntNode (l.take j) : Int) = Q at *
      have HQ := Lib.hid hq
      clear hq
      obtain ⟨hb0, hb1⟩ := hb
      have hn0 : (0 : Int) ≤ ((cntL cntSpan (nth l j).books) : Nat) := Int.natCast_nonneg _
      have hb2 := hb1
      push_cast at hb2
      have RNG : Hid ((wr.setCells B (j * 2) [.int .i64 Q]).rangeAt B (j * 2) ([.int .i64 Q] ++ [.slice A1 (nth l j).books.length k1])) := Lib.hid (range_front (a := [.int .i64 (nth l j).state]) HRG.out rfl (fun i hi => HT.out i (Nat.lt_of_lt_of_le hi (show (1 : Nat) ≤ 2 by decide))))
      go_wp2_with fail
      refine (markSpanS_any (nth l j).books _ G _ _ (O1.out.kept (G := [B]) (by repeat (first | with_reducible exact Kept.refl _ _ | refine Kept.setCell ?_ (by simp) _)) (fun b hb hm => HX.out (by rw [← List.mem_singleton.1 hm]; exact hb))) (by omega) (by omega)).mono ?_
      rintro e w2 ⟨rfl, p, hk⟩
      have P1 := Lib.hid p
      have K1 := Lib.hid hk
      clear p hk
      go_wp2_with fail
      go_roundw
      case rel =>
        have hkk : Kept (B :: G) wr w2 := (Kept.trans (by repeat (first | with_reducible exact Kept.refl _ _ | refine Kept.setCell ?_ (by simp) _)) (K1.out.sub (fun b _ hb => List.mem_cons_of_mem _ hb)))
        refine ⟨j + 1, by omega, by go_num, by rw [HS.out, ← HQ.out]; push_cast; simp only [cntNode]; push_cast; go_num, ?_, HK.out.trans (hkk.sub fun b _ hb => by rcases List.mem_cons.1 hb with rfl | hb; exact HB.out; exact HG.out b hb)⟩
        have hs := HO.out w2 (mkNode Q (nth l j)) (cellsNode (mkNode Q (nth l j)) (.slice A1 (nth l j).books.length k1)) hkk (RowBut.kept (by repeat (first | with_reducible exact HR.out | refine RowBut.setCell ?_ (by show j * 2 ≤ _; omega) (by show _ < j * 2 + 2; omega) _)) K1.out (fun hm => HX.out (hm))) ⟨_, rfl, (by simp only [FitNode, mkNode, I64]; omega), (P1.out.cast_mark (by first | rfl | omega | (push_cast; omega)))⟩ (fun i u hi => K1.out.cell HX.out ((show World.rangeAt _ B (j * 2) (cellsNode (mkNode Q (nth l j)) (.slice A1 (nth l j).books.length k1)) from by have h := RNG.out; simpa [World.setCells, cellsNode, mkNode] using h) i u hi))
        rw [← HQ.out, mixL_set hlt] at hs
        exact hs
      case measure => simp [intOf]; omega
    · obtain rfl : j = l.length := by omega
      rw [mixL_full] at hown
      have HO := Lib.hid hown
      clear hown
      go_wp2_with fail
      go_ret
      exact ⟨ret_int (by rw [List.take_length]), HO.out, hkp⟩

end Go.Proofs.Ytikiipahmgpamaa

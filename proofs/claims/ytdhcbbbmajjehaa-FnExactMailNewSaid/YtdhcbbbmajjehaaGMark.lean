/- The walks of mark... Printed by wip/gen2.py. -/
import Derived.Test.YtdhcbbbmajjehaaGOwn
import Derived.Test.YtdhcbbbmajjehaaGMarkDef
import Derived.Test.YtdhcbbbmajjehaaRows
import Derived.Test.YtdhcbbbmajjehaaMarkTextW
namespace Go.Proofs.Ytdhcbbbmajjehaa
open Go.RowKit
attribute [local irreducible] wpQuiet

set_option maxHeartbeats 8000000 in
set_option maxRecDepth 50000 in
theorem markInt64S_any (l : List Int) (v : Value) (F : List Nat) (q : Int) (w : World) (h : OwS OInt 2 w v l F) (h0 : 0 ≤ q) (h1 : q + cntL cntInt l ≤ 1125899906842624) :
    Calls Try.prog 61 #[v, .int .i64 q] w fun e w' => e = .returned (.int .i64 (q + cntL cntInt l)) ∧ OwS OInt 2 w' v (markL mkInt cntInt q l) F ∧ Kept F w w' := by
  obtain ⟨A, c, rfl, g1, g2⟩ := h.form
  unfold maxLen at g2
  have H := Lib.hid h
  have H1 := Lib.hid h1
  clear h h1
  go_enter Try.func61, Try.ntmps61
  go_wp2_with fail
  go_loopw [1, 5] (fun kk i w' => ∃ j : Nat, j ≤ l.length ∧ i = .int .i64 j ∧ kk = .int .i64 (q + cntL cntInt (l.take j)) ∧ OwS OInt 2 w' (.slice A l.length c) (mixL mkInt cntInt q l j) F ∧ Kept F w w') (fun _ i _ => l.length - (intOf i).toNat)
  case atStart => exact ⟨0, Nat.zero_le _, rfl, by simp [cntL], by rw [mixL_zero]; exact H.out, Kept.refl _ _⟩
  case round =>
    obtain ⟨j, hj, rfl, rfl, hown, hkp⟩ := hrel
    by_cases hlt : j < l.length
    · obtain ⟨B, c', G, cs, hv, hBF, hBG, hGF, ho, hc, hfz, hth, hrow, hset⟩ := hown.at (k := j) (by rw [mixL_length _ _ _ hj]; exact hlt)
      rw [mixL_length _ _ _ hj] at hv
      rw [mixL_nth hlt] at ho
      obtain ⟨⟨rfl, hfit⟩, rfl⟩ := ho
      injection hv with hA _ hcc
      subst hA hcc
      have c0 := hc 0 _ rfl
      have f0 := hfz (j * 1 + 0)
      simp only [EInt, Nat.add_zero, Nat.mul_one] at c0 f0
      have HC := Lib.hid (cntL_at (n := cntInt) hlt)
      have HS := Lib.hid (cntL_succ (n := cntInt) hlt)
      have HO := Lib.hid hset
      have HT := Lib.hid hth
      have HR := Lib.hid hrow
      have HB := Lib.hid hBF
      have HK := Lib.hid hkp
      have HG := Lib.hid hGF
      have HX := Lib.hid hBG
      have HRG := Lib.hid hc
      have hb : 0 ≤ q + (cntL cntInt (l.take j) : Int) ∧ q + (cntL cntInt (l.take j) : Int) + cntInt (nth l j) ≤ 1125899906842624 := by have := H1.out; have := HC.out; omega
      simp only [cntInt] at hb
      clear hc hfz hset hth hrow hkp hown hfit hBG hGF hBF
      generalize hq : q + (cntL cntInt (l.take j) : Int) = Q at *
      have HQ := Lib.hid hq
      clear hq
      obtain ⟨hb0, hb1⟩ := hb
      go_wp2_with fail
      go_roundw
      case rel =>
        refine ⟨j + 1, by omega, by go_num, by rw [HS.out, ← HQ.out]; push_cast; simp only [cntInt]; go_num, ?_, ?_⟩
        · have hs := HO.out (wr.setCells B (j * 1) ([.int .i64 Q])) (mkInt Q (nth l j)) _ (Kept.setCells (List.mem_cons_self ..) _ _ _ (Kept.refl _ _)) (RowBut.setCells _ _ _ HR.out (Nat.le_refl _) (Nat.le_refl _)) ⟨⟨rfl, by unfold I64 mkInt; omega⟩, rfl⟩ (World.rangeAt_setCells_same _ _ _ _ HT.out)
          rw [← HQ.out, mixL_set hlt, HQ.out] at hs
          simpa [World.setCells, mkInt] using hs
        · exact (HK.out.setCell HB.out _)
      case measure => simp [intOf]; omega
    · obtain rfl : j = l.length := by omega
      rw [mixL_full] at hown
      have HO := Lib.hid hown
      clear hown
      go_wp2_with fail
      go_ret
      exact ⟨ret_int (by rw [List.take_length]), HO.out, hkp⟩

set_option maxHeartbeats 8000000 in
set_option maxRecDepth 50000 in
theorem markLabelS_any (l : List Label) (v : Value) (F : List Nat) (q : Int) (w : World) (h : OwS OLabel 25 w v l F) (h0 : 0 ≤ q) (h1 : q + cntL cntLabel l ≤ 1125899906842624) :
    Calls Try.prog 214 #[v, .int .i64 q] w fun e w' => e = .returned (.int .i64 (q + cntL cntLabel l)) ∧ OwS OLabel 25 w' v (markL mkLabel cntLabel q l) F ∧ Kept F w w' := by
  obtain ⟨A, c, rfl, g1, g2⟩ := h.form
  unfold maxLen at g2
  have H := Lib.hid h
  have H1 := Lib.hid h1
  clear h h1
  go_enter Try.func214, Try.ntmps214
  go_wp2_with fail
  go_loopw [1, 5] (fun kk i w' => ∃ j : Nat, j ≤ l.length ∧ i = .int .i64 j ∧ kk = .int .i64 (q + cntL cntLabel (l.take j)) ∧ OwS OLabel 25 w' (.slice A l.length c) (mixL mkLabel cntLabel q l j) F ∧ Kept F w w') (fun _ i _ => l.length - (intOf i).toNat)
  case atStart => exact ⟨0, Nat.zero_le _, rfl, by simp [cntL], by rw [mixL_zero]; exact H.out, Kept.refl _ _⟩
  case round =>
    obtain ⟨j, hj, rfl, rfl, hown, hkp⟩ := hrel
    by_cases hlt : j < l.length
    · obtain ⟨B, c', G, cs, hv, hBF, hBG, hGF, ho, hc, hfz, hth, hrow, hset⟩ := hown.at (k := j) (by rw [mixL_length _ _ _ hj]; exact hlt)
      rw [mixL_length _ _ _ hj] at hv
      rw [mixL_nth hlt] at ho
      obtain ⟨⟨rfl, hfit⟩, rfl⟩ := ho
      injection hv with hA _ hcc
      subst hA hcc
      have c0 := hc 0 _ rfl
      have f0 := hfz (j * 2 + 0)
      have c1 := hc 1 _ rfl
      have f1 := hfz (j * 2 + 1)
      simp only [ELabel, Nat.add_zero] at c0 f0 c1 f1
      have HC := Lib.hid (cntL_at (n := cntLabel) hlt)
      have HS := Lib.hid (cntL_succ (n := cntLabel) hlt)
      have HO := Lib.hid hset
      have HT := Lib.hid hth
      have HR := Lib.hid hrow
      have HB := Lib.hid hBF
      have HK := Lib.hid hkp
      have HG := Lib.hid hGF
      have HX := Lib.hid hBG
      have HRG := Lib.hid hc
      have hb : 0 ≤ q + (cntL cntLabel (l.take j) : Int) ∧ q + (cntL cntLabel (l.take j) : Int) + cntLabel (nth l j) ≤ 1125899906842624 := by have := H1.out; have := HC.out; omega
      simp only [cntLabel] at hb
      clear hc hfz hset hth hrow hkp hown hfit hBG hGF hBF
      generalize hq : q + (cntL cntLabel (l.take j) : Int) = Q at *
      have HQ := Lib.hid hq
      clear hq
      obtain ⟨hb0, hb1⟩ := hb
      go_wp2_with fail
      go_roundw
      case rel =>
        refine ⟨j + 1, by omega, by go_num, by rw [HS.out, ← HQ.out]; push_cast; simp only [cntLabel]; go_num, ?_, ?_⟩
        · have hs := fun (W2 : World) k r g => HO.out W2 (mkLabel Q (nth l j)) (cellsLabel (mkLabel Q (nth l j))) k r ⟨⟨rfl, (by simp only [FitLabel, mkLabel, I64]; omega)⟩, rfl⟩ g
          rw [← HQ.out, mixL_set hlt, HQ.out] at hs
          exact hs _ (by repeat (first | with_reducible exact Kept.refl _ _ | refine Kept.setCell ?_ (by simp) _)) (by repeat (first | with_reducible exact HR.out | refine RowBut.setCell ?_ (by show j * 2 ≤ _; omega) (by show _ < j * 2 + 2; omega) _)) (show World.rangeAt _ B (j * 2) (cellsLabel (mkLabel Q (nth l j))) from by intro i u hi; rcases i with _ | _ | i <;> simp [cellsLabel, mkLabel] at hi <;> (try subst hi) <;> (go_simp; try omega))
        · exact HK.out.trans (Kept.sub (F := [B]) (by repeat (first | with_reducible exact Kept.refl _ _ | refine Kept.setCell ?_ (by simp) _)) (fun b _ hb => by rw [List.mem_singleton.1 hb]; exact HB.out))
      case measure => simp [intOf]; omega
    · obtain rfl : j = l.length := by omega
      rw [mixL_full] at hown
      have HO := Lib.hid hown
      clear hown
      go_wp2_with fail
      go_ret
      exact ⟨ret_int (by rw [List.take_length]), HO.out, hkp⟩

set_option maxHeartbeats 8000000 in
set_option maxRecDepth 50000 in
theorem markPairS_any (l : List Pair) (v : Value) (F : List Nat) (q : Int) (w : World) (h : OwS OPair 185 w v l F) (h0 : 0 ≤ q) (h1 : q + cntL cntPair l ≤ 1125899906842624) :
    Calls Try.prog 161 #[v, .int .i64 q] w fun e w' => e = .returned (.int .i64 (q + cntL cntPair l)) ∧ OwS OPair 185 w' v (markL mkPair cntPair q l) F ∧ Kept F w w' := by
  obtain ⟨A, c, rfl, g1, g2⟩ := h.form
  unfold maxLen at g2
  have H := Lib.hid h
  have H1 := Lib.hid h1
  clear h h1
  go_enter Try.func161, Try.ntmps161
  go_wp2_with fail
  go_loopw [1, 5] (fun kk i w' => ∃ j : Nat, j ≤ l.length ∧ i = .int .i64 j ∧ kk = .int .i64 (q + cntL cntPair (l.take j)) ∧ OwS OPair 185 w' (.slice A l.length c) (mixL mkPair cntPair q l j) F ∧ Kept F w w') (fun _ i _ => l.length - (intOf i).toNat)
  case atStart => exact ⟨0, Nat.zero_le _, rfl, by simp [cntL], by rw [mixL_zero]; exact H.out, Kept.refl _ _⟩
  case round =>
    obtain ⟨j, hj, rfl, rfl, hown, hkp⟩ := hrel
    by_cases hlt : j < l.length
    · obtain ⟨B, c', G, cs, hv, hBF, hBG, hGF, ho, hc, hfz, hth, hrow, hset⟩ := hown.at (k := j) (by rw [mixL_length _ _ _ hj]; exact hlt)
      rw [mixL_length _ _ _ hj] at hv
      rw [mixL_nth hlt] at ho
      obtain ⟨⟨rfl, hfit⟩, rfl⟩ := ho
      injection hv with hA _ hcc
      subst hA hcc
      have c0 := hc 0 _ rfl
      have f0 := hfz (j * 5 + 0)
      have c1 := hc 1 _ rfl
      have f1 := hfz (j * 5 + 1)
      have c2 := hc 2 _ rfl
      have f2 := hfz (j * 5 + 2)
      have c3 := hc 3 _ rfl
      have f3 := hfz (j * 5 + 3)
      have c4 := hc 4 _ rfl
      have f4 := hfz (j * 5 + 4)
      simp only [EPair, Nat.add_zero] at c0 f0 c1 f1 c2 f2 c3 f3 c4 f4
      have HC := Lib.hid (cntL_at (n := cntPair) hlt)
      have HS := Lib.hid (cntL_succ (n := cntPair) hlt)
      have HO := Lib.hid hset
      have HT := Lib.hid hth
      have HR := Lib.hid hrow
      have HB := Lib.hid hBF
      have HK := Lib.hid hkp
      have HG := Lib.hid hGF
      have HX := Lib.hid hBG
      have HRG := Lib.hid hc
      have hb : 0 ≤ q + (cntL cntPair (l.take j) : Int) ∧ q + (cntL cntPair (l.take j) : Int) + cntPair (nth l j) ≤ 1125899906842624 := by have := H1.out; have := HC.out; omega
      simp only [cntPair] at hb
      clear hc hfz hset hth hrow hkp hown hfit hBG hGF hBF
      generalize hq : q + (cntL cntPair (l.take j) : Int) = Q at *
      have HQ := Lib.hid hq
      clear hq
      obtain ⟨hb0, hb1⟩ := hb
      go_wp2_with fail
      go_roundw
      case rel =>
        refine ⟨j + 1, by omega, by go_num, by rw [HS.out, ← HQ.out]; push_cast; simp only [cntPair]; go_num, ?_, ?_⟩
        · have hs := fun (W2 : World) k r g => HO.out W2 (mkPair Q (nth l j)) (cellsPair (mkPair Q (nth l j))) k r ⟨⟨rfl, (by simp only [FitPair, mkPair, I64]; omega)⟩, rfl⟩ g
          rw [← HQ.out, mixL_set hlt, HQ.out] at hs
          exact hs _ (by repeat (first | with_reducible exact Kept.refl _ _ | refine Kept.setCell ?_ (by simp) _)) (by repeat (first | with_reducible exact HR.out | refine RowBut.setCell ?_ (by show j * 5 ≤ _; omega) (by show _ < j * 5 + 5; omega) _)) (show World.rangeAt _ B (j * 5) (cellsPair (mkPair Q (nth l j))) from by intro i u hi; rcases i with _ | _ | _ | _ | _ | i <;> simp [cellsPair, mkPair] at hi <;> (try subst hi) <;> (go_simp; try omega))
        · exact HK.out.trans (Kept.sub (F := [B]) (by repeat (first | with_reducible exact Kept.refl _ _ | refine Kept.setCell ?_ (by simp) _)) (fun b _ hb => by rw [List.mem_singleton.1 hb]; exact HB.out))
      case measure => simp [intOf]; omega
    · obtain rfl : j = l.length := by omega
      rw [mixL_full] at hown
      have HO := Lib.hid hown
      clear hown
      go_wp2_with fail
      go_ret
      exact ⟨ret_int (by rw [List.take_length]), HO.out, hkp⟩

set_option maxHeartbeats 8000000 in
set_option maxRecDepth 50000 in
theorem markQuotaS_any (l : List Quota) (v : Value) (F : List Nat) (q : Int) (w : World) (h : OwS OQuota 227 w v l F) (h0 : 0 ≤ q) (h1 : q + cntL cntQuota l ≤ 1125899906842624) :
    Calls Try.prog 162 #[v, .int .i64 q] w fun e w' => e = .returned (.int .i64 (q + cntL cntQuota l)) ∧ OwS OQuota 227 w' v (markL mkQuota cntQuota q l) F ∧ Kept F w w' := by
  obtain ⟨A, c, rfl, g1, g2⟩ := h.form
  unfold maxLen at g2
  have H := Lib.hid h
  have H1 := Lib.hid h1
  clear h h1
  go_enter Try.func162, Try.ntmps162
  go_wp2_with fail
  go_loopw [1, 5] (fun kk i w' => ∃ j : Nat, j ≤ l.length ∧ i = .int .i64 j ∧ kk = .int .i64 (q + cntL cntQuota (l.take j)) ∧ OwS OQuota 227 w' (.slice A l.length c) (mixL mkQuota cntQuota q l j) F ∧ Kept F w w') (fun _ i _ => l.length - (intOf i).toNat)
  case atStart => exact ⟨0, Nat.zero_le _, rfl, by simp [cntL], by rw [mixL_zero]; exact H.out, Kept.refl _ _⟩
  case round =>
    obtain ⟨j, hj, rfl, rfl, hown, hkp⟩ := hrel
    by_cases hlt : j < l.length
    · obtain ⟨B, c', G, cs, hv, hBF, hBG, hGF, ho, hc, hfz, hth, hrow, hset⟩ := hown.at (k := j) (by rw [mixL_length _ _ _ hj]; exact hlt)
      rw [mixL_length _ _ _ hj] at hv
      rw [mixL_nth hlt] at ho
      obtain ⟨⟨rfl, hfit⟩, rfl⟩ := ho
      injection hv with hA _ hcc
      subst hA hcc
      have c0 := hc 0 _ rfl
      have f0 := hfz (j * 3 + 0)
      have c1 := hc 1 _ rfl
      have f1 := hfz (j * 3 + 1)
      have c2 := hc 2 _ rfl
      have f2 := hfz (j * 3 + 2)
      simp only [EQuota, Nat.add_zero] at c0 f0 c1 f1 c2 f2
      have HC := Lib.hid (cntL_at (n := cntQuota) hlt)
      have HS := Lib.hid (cntL_succ (n := cntQuota) hlt)
      have HO := Lib.hid hset
      have HT := Lib.hid hth
      have HR := Lib.hid hrow
      have HB := Lib.hid hBF
      have HK := Lib.hid hkp
      have HG := Lib.hid hGF
      have HX := Lib.hid hBG
      have HRG := Lib.hid hc
      have hb : 0 ≤ q + (cntL cntQuota (l.take j) : Int) ∧ q + (cntL cntQuota (l.take j) : Int) + cntQuota (nth l j) ≤ 1125899906842624 := by have := H1.out; have := HC.out; omega
      simp only [cntQuota] at hb
      clear hc hfz hset hth hrow hkp hown hfit hBG hGF hBF
      generalize hq : q + (cntL cntQuota (l.take j) : Int) = Q at *
      have HQ := Lib.hid hq
      clear hq
      obtain ⟨hb0, hb1⟩ := hb
      go_wp2_with fail
      go_roundw
      case rel =>
        refine ⟨j + 1, by omega, by go_num, by rw [HS.out, ← HQ.out]; push_cast; simp only [cntQuota]; go_num, ?_, ?_⟩
        · have hs := fun (W2 : World) k r g => HO.out W2 (mkQuota Q (nth l j)) (cellsQuota (mkQuota Q (nth l j))) k r ⟨⟨rfl, (by simp only [FitQuota, mkQuota, I64]; omega)⟩, rfl⟩ g
          rw [← HQ.out, mixL_set hlt, HQ.out] at hs
          exact hs _ (by repeat (first | with_reducible exact Kept.refl _ _ | refine Kept.setCell ?_ (by simp) _)) (by repeat (first | with_reducible exact HR.out | refine RowBut.setCell ?_ (by show j * 3 ≤ _; omega) (by show _ < j * 3 + 3; omega) _)) (show World.rangeAt _ B (j * 3) (cellsQuota (mkQuota Q (nth l j))) from by intro i u hi; rcases i with _ | _ | _ | i <;> simp [cellsQuota, mkQuota] at hi <;> (try subst hi) <;> (go_simp; try omega))
        · exact HK.out.trans (Kept.sub (F := [B]) (by repeat (first | with_reducible exact Kept.refl _ _ | refine Kept.setCell ?_ (by simp) _)) (fun b _ hb => by rw [List.mem_singleton.1 hb]; exact HB.out))
      case measure => simp [intOf]; omega
    · obtain rfl : j = l.length := by omega
      rw [mixL_full] at hown
      have HO := Lib.hid hown
      clear hown
      go_wp2_with fail
      go_ret
      exact ⟨ret_int (by rw [List.take_length]), HO.out, hkp⟩

set_option maxHeartbeats 8000000 in
set_option maxRecDepth 50000 in
theorem markNoteS_any (l : List Note) (v : Value) (F : List Nat) (q : Int) (w : World) (h : OwS ONote 187 w v l F) (h0 : 0 ≤ q) (h1 : q + cntL cntNote l ≤ 1125899906842624) :
    Calls Try.prog 218 #[v, .int .i64 q] w fun e w' => e = .returned (.int .i64 (q + cntL cntNote l)) ∧ OwS ONote 187 w' v (markL mkNote cntNote q l) F ∧ Kept F w w' := by
  obtain ⟨A, c, rfl, g1, g2⟩ := h.form
  unfold maxLen at g2
  have H := Lib.hid h
  have H1 := Lib.hid h1
  clear h h1
  go_enter Try.func218, Try.ntmps218
  go_wp2_with fail
  go_loopw [1, 5] (fun kk i w' => ∃ j : Nat, j ≤ l.length ∧ i = .int .i64 j ∧ kk = .int .i64 (q + cntL cntNote (l.take j)) ∧ OwS ONote 187 w' (.slice A l.length c) (mixL mkNote cntNote q l j) F ∧ Kept F w w') (fun _ i _ => l.length - (intOf i).toNat)
  case atStart => exact ⟨0, Nat.zero_le _, rfl, by simp [cntL], by rw [mixL_zero]; exact H.out, Kept.refl _ _⟩
  case round =>
    obtain ⟨j, hj, rfl, rfl, hown, hkp⟩ := hrel
    by_cases hlt : j < l.length
    · obtain ⟨B, c', G, cs, hv, hBF, hBG, hGF, ho, hc, hfz, hth, hrow, hset⟩ := hown.at (k := j) (by rw [mixL_length _ _ _ hj]; exact hlt)
      rw [mixL_length _ _ _ hj] at hv
      rw [mixL_nth hlt] at ho
      obtain ⟨⟨rfl, hfit⟩, rfl⟩ := ho
      injection hv with hA _ hcc
      subst hA hcc
      have c0 := hc 0 _ rfl
      have f0 := hfz (j * 2 + 0)
      have c1 := hc 1 _ rfl
      have f1 := hfz (j * 2 + 1)
      simp only [ENote, Nat.add_zero] at c0 f0 c1 f1
      have HC := Lib.hid (cntL_at (n := cntNote) hlt)
      have HS := Lib.hid (cntL_succ (n := cntNote) hlt)
      have HO := Lib.hid hset
      have HT := Lib.hid hth
      have HR := Lib.hid hrow
      have HB := Lib.hid hBF
      have HK := Lib.hid hkp
      have HG := Lib.hid hGF
      have HX := Lib.hid hBG
      have HRG := Lib.hid hc
      have hb : 0 ≤ q + (cntL cntNote (l.take j) : Int) ∧ q + (cntL cntNote (l.take j) : Int) + cntNote (nth l j) ≤ 1125899906842624 := by have := H1.out; have := HC.out; omega
      simp only [cntNote] at hb
      clear hc hfz hset hth hrow hkp hown hfit hBG hGF hBF
      generalize hq : q + (cntL cntNote (l.take j) : Int) = Q at *
      have HQ := Lib.hid hq
      clear hq
      obtain ⟨hb0, hb1⟩ := hb
      go_wp2_with fail
      go_roundw
      case rel =>
        refine ⟨j + 1, by omega, by go_num, by rw [HS.out, ← HQ.out]; push_cast; simp only [cntNote]; go_num, ?_, ?_⟩
        · have hs := fun (W2 : World) k r g => HO.out W2 (mkNote Q (nth l j)) (cellsNote (mkNote Q (nth l j))) k r ⟨⟨rfl, (by simp only [FitNote, mkNote, I64]; omega)⟩, rfl⟩ g
          rw [← HQ.out, mixL_set hlt, HQ.out] at hs
          exact hs _ (by repeat (first | with_reducible exact Kept.refl _ _ | refine Kept.setCell ?_ (by simp) _)) (by repeat (first | with_reducible exact HR.out | refine RowBut.setCell ?_ (by show j * 2 ≤ _; omega) (by show _ < j * 2 + 2; omega) _)) (show World.rangeAt _ B (j * 2) (cellsNote (mkNote Q (nth l j))) from by intro i u hi; rcases i with _ | _ | i <;> simp [cellsNote, mkNote] at hi <;> (try subst hi) <;> (go_simp; try omega))
        · exact HK.out.trans (Kept.sub (F := [B]) (by repeat (first | with_reducible exact Kept.refl _ _ | refine Kept.setCell ?_ (by simp) _)) (fun b _ hb => by rw [List.mem_singleton.1 hb]; exact HB.out))
      case measure => simp [intOf]; omega
    · obtain rfl : j = l.length := by omega
      rw [mixL_full] at hown
      have HO := Lib.hid hown
      clear hown
      go_wp2_with fail
      go_ret
      exact ⟨ret_int (by rw [List.take_length]), HO.out, hkp⟩

set_option maxHeartbeats 8000000 in
set_option maxRecDepth 50000 in
theorem markBoxS_any (l : List Box) (v : Value) (F : List Nat) (q : Int) (w : World) (h : OwS OBox 183 w v l F) (h0 : 0 ≤ q) (h1 : q + cntL cntBox l ≤ 1125899906842624) :
    Calls Try.prog 167 #[v, .int .i64 q] w fun e w' => e = .returned (.int .i64 (q + cntL cntBox l)) ∧ OwS OBox 183 w' v (markL mkBox cntBox q l) F ∧ Kept F w w' := by
  obtain ⟨A, c, rfl, g1, g2⟩ := h.form
  unfold maxLen at g2
  have H := Lib.hid h
  have H1 := Lib.hid h1
  clear h h1
  go_enter Try.func167, Try.ntmps167
  go_wp2_with fail
  go_loopw [1, 5] (fun kk i w' => ∃ j : Nat, j ≤ l.length ∧ i = .int .i64 j ∧ kk = .int .i64 (q + cntL cntBox (l.take j)) ∧ OwS OBox 183 w' (.slice A l.length c) (mixL mkBox cntBox q l j) F ∧ Kept F w w') (fun _ i _ => l.length - (intOf i).toNat)
  case atStart => exact ⟨0, Nat.zero_le _, rfl, by simp [cntL], by rw [mixL_zero]; exact H.out, Kept.refl _ _⟩
  case round =>
    obtain ⟨j, hj, rfl, rfl, hown, hkp⟩ := hrel
    by_cases hlt : j < l.length
    · obtain ⟨B, c', G, cs, hv, hBF, hBG, hGF, ho, hc, hfz, hth, hrow, hset⟩ := hown.at (k := j) (by rw [mixL_length _ _ _ hj]; exact hlt)
      rw [mixL_length _ _ _ hj] at hv
      rw [mixL_nth hlt] at ho
      obtain ⟨u1, u2, u3, G1, G2, G3, rfl, hfit, o1, o2, o3, rfl, hnd⟩ := ho
      obtain ⟨A1, k1, rfl, n1, m1⟩ := o1.form
      have O1 := Lib.hid o1
      clear o1
      obtain ⟨A2, k2, rfl, n2, m2⟩ := o2.form
      have O2 := Lib.hid o2
      clear o2
      obtain ⟨A3, k3, rfl, n3, m3⟩ := o3.form
      have O3 := Lib.hid o3
      clear o3
      have HN := Lib.hid hnd
      clear hnd
      injection hv with hA _ hcc
      subst hA hcc
      have c0 := hc 0 _ rfl
      have c1 := hc 1 _ rfl
      have c2 := hc 2 _ rfl
      simp only [EBox, Nat.add_zero] at c0 c1 c2
      have HC := Lib.hid (cntL_at (n := cntBox) hlt)
      have HS := Lib.hid (cntL_succ (n := cntBox) hlt)
      have HO := Lib.hid hset
      have HT := Lib.hid hth
      have HR := Lib.hid hrow
      have HB := Lib.hid hBF
      have HK := Lib.hid hkp
      have HG := Lib.hid hGF
      have HX := Lib.hid hBG
      have HRG := Lib.hid hc
      have hb : 0 ≤ q + (cntL cntBox (l.take j) : Int) ∧ q + (cntL cntBox (l.take j) : Int) + cntBox (nth l j) ≤ 1125899906842624 := by have := H1.out; have := HC.out; omega
      simp only [cntBox] at hb
      clear hc hfz hset hth hrow hkp hown hfit hBG hGF hBF
      generalize hq : q + (cntL cntBox (l.take j) : Int) = Q at *
      have HQ := Lib.hid hq
      clear hq
      obtain ⟨hb0, hb1⟩ := hb
      have hn0 : (0 : Int) ≤ ((cntL cntInt (nth l j).next) : Nat) := Int.natCast_nonneg _
      have hn1 : (0 : Int) ≤ ((cntL cntInt (nth l j).here) : Nat) := Int.natCast_nonneg _
      have hn2 : (0 : Int) ≤ ((cntL cntNote (nth l j).log) : Nat) := Int.natCast_nonneg _
      have hb2 := hb1
      push_cast at hb2
      have RNG := HRG
      go_wp2_with fail
      refine (markInt64S_any (nth l j).next _ G1 _ _ (O1.out.kept (G := [B]) (by repeat (first | with_reducible exact Kept.refl _ _ | refine Kept.setCell ?_ (by simp) _)) (fun b hb hm => HX.out (by rw [← List.mem_singleton.1 hm]; exact (by simp [hb])))) (by omega) (by omega)).mono ?_
      rintro e w2 ⟨rfl, p, hk⟩
      have P1 := Lib.hid p
      have K1 := Lib.hid hk
      clear p hk
      replace c1 := K1.out.cell (fun hm => HX.out (by simp [hm])) c1
      replace c2 := K1.out.cell (fun hm => HX.out (by simp [hm])) c2
      go_wp2_with fail
      refine (markInt64S_any (nth l j).here _ G2 _ _ ((O2.out.kept (G := [B]) (by repeat (first | with_reducible exact Kept.refl _ _ | refine Kept.setCell ?_ (by simp) _)) (fun b hb hm => HX.out (by rw [← List.mem_singleton.1 hm]; exact (by simp [hb])))).kept K1.out (fun b hb hm => by have := HN.out; simp only [List.nodup_append] at this; grind)) (by omega) (by omega)).mono ?_
      rintro e w3 ⟨rfl, p, hk⟩
      have P2 := Lib.hid p
      have K2 := Lib.hid hk
      clear p hk
      replace c2 := K2.out.cell (fun hm => HX.out (by simp [hm])) c2
      go_wp2_with fail
      refine (markNoteS_any (nth l j).log _ G3 _ _ (((O3.out.kept (G := [B]) (by repeat (first | with_reducible exact Kept.refl _ _ | refine Kept.setCell ?_ (by simp) _)) (fun b hb hm => HX.out (by rw [← List.mem_singleton.1 hm]; exact (by simp [hb])))).kept K1.out (fun b hb hm => by have := HN.out; simp only [List.nodup_append] at this; grind)).kept K2.out (fun b hb hm => by have := HN.out; simp only [List.nodup_append] at this; grind)) (by omega) (by omega)).mono ?_
      rintro e w4 ⟨rfl, p, hk⟩
      have P3 := Lib.hid p
      have K3 := Lib.hid hk
      clear p hk
      go_wp2_with fail
      go_roundw
      case rel =>
        have hkk : Kept (B :: (G1 ++ (G2 ++ (G3)))) wr w4 := (Kept.trans (Kept.trans (Kept.trans (by repeat (first | with_reducible exact Kept.refl _ _ | refine Kept.setCell ?_ (by simp) _)) (K1.out.sub (fun b _ hb => List.mem_cons_of_mem _ (by simp [hb])))) (K2.out.sub (fun b _ hb => List.mem_cons_of_mem _ (by simp [hb])))) (K3.out.sub (fun b _ hb => List.mem_cons_of_mem _ (by simp [hb]))))
        refine ⟨j + 1, by omega, by go_num, by rw [HS.out, ← HQ.out]; push_cast; simp only [cntBox]; push_cast; go_num, ?_, HK.out.trans (hkk.sub fun b _ hb => by rcases List.mem_cons.1 hb with rfl | hb; exact HB.out; exact HG.out b hb)⟩
        have hs := HO.out w4 (mkBox Q (nth l j)) (cellsBox (mkBox Q (nth l j)) (.slice A1 (nth l j).next.length k1) (.slice A2 (nth l j).here.length k2) (.slice A3 (nth l j).log.length k3)) hkk (RowBut.kept (RowBut.kept (RowBut.kept (by repeat (first | with_reducible exact HR.out | refine RowBut.setCell ?_ (by show j * 3 ≤ _; omega) (by show _ < j * 3 + 3; omega) _)) K1.out (fun hm => HX.out (by simp [hm]))) K2.out (fun hm => HX.out (by simp [hm]))) K3.out (fun hm => HX.out (by simp [hm]))) ⟨_, _, _, G1, G2, G3, rfl, (by trivial), (((P1.out.kept K2.out (fun b hb hm => by have := HN.out; simp only [List.nodup_append] at this; grind)).kept K3.out (fun b hb hm => by have := HN.out; simp only [List.nodup_append] at this; grind)).cast_mark (by first | rfl | omega | (push_cast; omega))), ((P2.out.kept K3.out (fun b hb hm => by have := HN.out; simp only [List.nodup_append] at this; grind)).cast_mark (by first | rfl | omega | (push_cast; omega))), (P3.out.cast_mark (by first | rfl | omega | (push_cast; omega))), rfl, HN.out⟩ (fun i u hi => K3.out.cell (fun hm => HX.out (by simp [hm])) ((fun i u hi => K2.out.cell (fun hm => HX.out (by simp [hm])) ((fun i u hi => K1.out.cell (fun hm => HX.out (by simp [hm])) (RNG.out i u hi)) i u hi)) i u hi))
        rw [← HQ.out, mixL_set hlt] at hs
        exact hs
      case measure => simp [intOf]; omega
    · obtain rfl : j = l.length := by omega
      rw [mixL_full] at hown
      have HO := Lib.hid hown
      clear hown
      go_wp2_with fail
      go_ret
      exact ⟨ret_int (by rw [List.take_length]), HO.out, hkp⟩

set_option maxHeartbeats 8000000 in
set_option maxRecDepth 50000 in
theorem markLabelSS_any (l : List (List Label)) (v : Value) (F : List Nat) (q : Int) (w : World) (h : OwS (ORow OLabel 25) 169 w v l F) (h0 : 0 ≤ q) (h1 : q + cntL (cntL cntLabel) l ≤ 1125899906842624) :
    Calls Try.prog 160 #[v, .int .i64 q] w fun e w' => e = .returned (.int .i64 (q + cntL (cntL cntLabel) l)) ∧ OwS (ORow OLabel 25) 169 w' v (markL (markL mkLabel cntLabel) (cntL cntLabel) q l) F ∧ Kept F w w' := by
  obtain ⟨A, c, rfl, g1, g2⟩ := h.form
  unfold maxLen at g2
  have H := Lib.hid h
  have H1 := Lib.hid h1
  clear h h1
  go_enter Try.func160, Try.ntmps160
  go_wp2_with fail
  go_loopw [1, 5] (fun kk i w' => ∃ j : Nat, j ≤ l.length ∧ i = .int .i64 j ∧ kk = .int .i64 (q + cntL (cntL cntLabel) (l.take j)) ∧ OwS (ORow OLabel 25) 169 w' (.slice A l.length c) (mixL (markL mkLabel cntLabel) (cntL cntLabel) q l j) F ∧ Kept F w w') (fun _ i _ => l.length - (intOf i).toNat)
  case atStart => exact ⟨0, Nat.zero_le _, rfl, by simp [cntL], by rw [mixL_zero]; exact H.out, Kept.refl _ _⟩
  case round =>
    obtain ⟨j, hj, rfl, rfl, hown, hkp⟩ := hrel
    by_cases hlt : j < l.length
    · obtain ⟨B, c', G, cs, hv, hBF, hBG, hGF, ho, hc, hfz, hth, hrow, hset⟩ := hown.at (k := j) (by rw [mixL_length _ _ _ hj]; exact hlt)
      rw [mixL_length _ _ _ hj] at hv
      rw [mixL_nth hlt] at ho
      obtain ⟨u1, rfl, o1⟩ := ho
      obtain ⟨A1, k1, rfl, n1, m1⟩ := o1.form
      have O1 := Lib.hid o1
      clear o1
      injection hv with hA _ hcc
      subst hA hcc
      have c0 := hc 0 _ rfl
      simp only [ERow, Nat.add_zero, Nat.mul_one] at c0
      have HC := Lib.hid (cntL_at (n := (cntL cntLabel)) hlt)
      have HS := Lib.hid (cntL_succ (n := (cntL cntLabel)) hlt)
      have HO := Lib.hid hset
      have HT := Lib.hid hth
      have HR := Lib.hid hrow
      have HB := Lib.hid hBF
      have HK := Lib.hid hkp
      have HG := Lib.hid hGF
      have HX := Lib.hid hBG
      have HRG := Lib.hid hc
      have hb : 0 ≤ q + (cntL (cntL cntLabel) (l.take j) : Int) ∧ q + (cntL (cntL cntLabel) (l.take j) : Int) + (cntL cntLabel) (nth l j) ≤ 1125899906842624 := by have := H1.out; have := HC.out; omega
      clear hc hfz hset hth hrow hkp hown hBG hGF hBF
      generalize hq : q + (cntL (cntL cntLabel) (l.take j) : Int) = Q at *
      have HQ := Lib.hid hq
      clear hq
      obtain ⟨hb0, hb1⟩ := hb
      have hn0 : (0 : Int) ≤ ((cntL cntLabel (nth l j)) : Nat) := Int.natCast_nonneg _
      have hb2 := hb1
      have RNG := HRG
      go_wp2_with fail
      refine (markLabelS_any (nth l j) _ G _ _ (O1.out.kept (G := [B]) (by repeat (first | with_reducible exact Kept.refl _ _ | refine Kept.setCell ?_ (by simp) _)) (fun b hb hm => HX.out (by rw [← List.mem_singleton.1 hm]; exact hb))) (by omega) (by omega)).mono ?_
      rintro e w2 ⟨rfl, p, hk⟩
      have P1 := Lib.hid p
      have K1 := Lib.hid hk
      clear p hk
      go_wp2_with fail
      go_roundw
      case rel =>
        have hkk : Kept (B :: G) wr w2 := (Kept.trans (by repeat (first | with_reducible exact Kept.refl _ _ | refine Kept.setCell ?_ (by simp) _)) (K1.out.sub (fun b _ hb => List.mem_cons_of_mem _ hb)))
        refine ⟨j + 1, by omega, by go_num, by rw [HS.out, ← HQ.out]; push_cast; go_num, ?_, HK.out.trans (hkk.sub fun b _ hb => by rcases List.mem_cons.1 hb with rfl | hb; exact HB.out; exact HG.out b hb)⟩
        have hs := HO.out w2 ((markL mkLabel cntLabel) Q (nth l j)) ([.slice A1 (nth l j).length k1]) hkk (RowBut.kept (by repeat (first | with_reducible exact HR.out | refine RowBut.setCell ?_ (by show j * 1 ≤ _; omega) (by show _ < j * 1 + 1; omega) _)) K1.out (fun hm => HX.out (hm))) ⟨_, rfl, (P1.out.cast_mark (by first | rfl | omega | (push_cast; omega)))⟩ (fun i u hi => K1.out.cell HX.out (RNG.out i u hi))
        rw [← HQ.out, mixL_set hlt] at hs
        exact hs
      case measure => simp [intOf]; omega
    · obtain rfl : j = l.length := by omega
      rw [mixL_full] at hown
      have HO := Lib.hid hown
      clear hown
      go_wp2_with fail
      go_ret
      exact ⟨ret_int (by rw [List.take_length]), HO.out, hkp⟩

end Go.Proofs.Ytdhcbbbmajjehaa

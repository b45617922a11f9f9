/- The walk of mark.. for uses. Printed by wip/gen2.py. -/
import Derived.Test.YtikiipahmgpamaaGOwn
import Derived.Test.YtikiipahmgpamaaGMarkDef
import Derived.Test.YtikiipahmgpamaaRows
import Derived.Test.YtikiipahmgpamaaMarkTextW
namespace Go.Proofs.Ytikiipahmgpamaa
open Go.RowKit
attribute [local irreducible] wpQuiet

set_option maxHeartbeats 8000000 in
set_option maxRecDepth 50000 in
theorem markUseS_any (l : List Use) (v : Value) (F : List Nat) (q : Int) (w : World) (h : OwS OUse 123 w v l F) (h0 : 0 ≤ q) (h1 : q + cntL cntUse l ≤ 1125899906842624) :
    Calls Try.prog 30 #[v, .int .i64 q] w fun e w' => e = .returned (.int .i64 (q + cntL cntUse l)) ∧ OwS OUse 123 w' v (markL mkUse cntUse q l) F ∧ Kept F w w' := by
  obtain ⟨A, c, rfl, g1, g2⟩ := h.form
  unfold maxLen at g2
  have H := Lib.hid h
  have H1 := Lib.hid h1
  clear h h1
  go_enter Try.func30, Try.ntmps30
  go_wp2_with fail
  go_loopw [1, 5] (fun kk i w' => ∃ j : Nat, j ≤ l.length ∧ i = .int .i64 j ∧ kk = .int .i64 (q + cntL cntUse (l.take j)) ∧ OwS OUse 123 w' (.slice A l.length c) (mixL mkUse cntUse q l j) F ∧ Kept F w w') (fun _ i _ => l.length - (intOf i).toNat)
  case atStart => exact ⟨0, Nat.zero_le _, rfl, by simp [cntL], by rw [mixL_zero]; exact H.out, Kept.refl _ _⟩
  case round =>
    obtain ⟨j, hj, rfl, rfl, hown, hkp⟩ := hrel
    by_cases hlt : j < l.length
    · obtain ⟨B, c', G, cs, hv, hBF, hBG, hGF, ho, hc, hfz, hth, hrow, hset⟩ := hown.at (k := j) (by rw [mixL_length _ _ _ hj]; exact hlt)
      rw [mixL_length _ _ _ hj] at hv
      rw [mixL_nth hlt] at ho
      obtain ⟨⟨rfl, hfit⟩, rfl⟩ := ho
      injection hv with hA _ hcc
      subst hA hcc
      have c0 := hc 0 _ rfl
      have f0 := hfz (j * 4 + 0)
      have c1 := hc 1 _ rfl
      have f1 := hfz (j * 4 + 1)
      have c2 := hc 2 _ rfl
      have f2 := hfz (j * 4 + 2)
      have c3 := hc 3 _ rfl
      have f3 := hfz (j * 4 + 3)
      simp only [EUse, Nat.add_zero] at c0 f0 c1 f1 c2 f2 c3 f3
      have HC := Lib.hid (cntL_at (n := cntUse) hlt)
      have HS := Lib.hid (cntL_succ (n := cntUse) hlt)
      have HO := Lib.hid hset
      have HT := Lib.hid hth
      have HR := Lib.hid hrow
      have HB := Lib.hid hBF
      have HK := Lib.hid hkp
      have HG := Lib.hid hGF
      have HX := Lib.hid hBG
      have HRG := Lib.hid hc
      have hb : 0 ≤ q + (cntL cntUse (l.take j) : Int) ∧ q + (cntL cntUse (l.take j) : Int) + cntUse (nth l j) ≤ 1125899906842624 := by have := H1.out; have := HC.out; omega
      simp only [cntUse] at hb
      clear hc hfz hset hth hrow hkp hown hfit hBG hGF hBF
      generalize hq : q + (cntL cntUse (l.take j) : Int) = Q at *
      have HQ := Lib.hid hq
      clear hq
      obtain ⟨hb0, hb1⟩ := hb
      go_wp2_with fail
      refine (markText_any _ _ (by omega) (by omega)).mono ?_
      rintro e wt ⟨rfl, hxt⟩
      have y0 := Ext.some hxt (show World.cell? _ ⟨B, j * 4, none⟩ = some (.int .i64 Q) by go_simp)
      have y1 := Ext.some hxt (show World.cell? _ ⟨B, j * 4 + 1, none⟩ = some (.int .i64 (Q + 1)) by go_simp)
      have y2 := Ext.some hxt (show World.cell? _ ⟨B, j * 4 + 2, none⟩ = some (.string (nth l j).owner) by go_simp)
      have y3 := Ext.some hxt (show World.cell? _ ⟨B, j * 4 + 3, none⟩ = some (.int .i64 (nth l j).used) by go_simp)
      have KT : Hid (Kept [B] wr wt) := Lib.hid (Kept.trans (by repeat (first | with_reducible exact Kept.refl _ _ | refine Kept.setCell ?_ (by simp) _)) (Kept.of_ext hxt))
      have RT : Hid (RowBut 123 B (j * EUse.size) EUse.size wr wt) := Lib.hid (RowBut.kept (by repeat (first | with_reducible exact HR.out | refine RowBut.setCell ?_ (by show j * 4 ≤ _; omega) (by show _ < j * 4 + 4; omega) _)) (Kept.of_ext (F := []) hxt) (by simp))
      clear f0
      clear f1
      replace f2 := RT.out.frozen (j * 4 + 2)
      replace f3 := RT.out.frozen (j * 4 + 3)
      clear hxt c0 c1 c2 c3
      have c0 := y0
      have c1 := y1
      have c2 := y2
      have c3 := y3
      clear y0 y1 y2 y3
      go_wp2_with fail
      go_roundw
      case rel =>
        refine ⟨j + 1, by omega, by go_num, by rw [HS.out, ← HQ.out]; push_cast; simp only [cntUse]; go_num, ?_, ?_⟩
        · have hs := fun (W2 : World) k r g => HO.out W2 (mkUse Q (nth l j)) (cellsUse (mkUse Q (nth l j))) k r ⟨⟨rfl, (by have hm := mtext_str (Q + 1 + 1) (by omega); simp only [FitUse, mkUse, I64]; (repeat' apply And.intro); all_goals first | exact hm | omega)⟩, rfl⟩ g
          rw [← HQ.out, mixL_set hlt, HQ.out] at hs
          exact hs _ (by repeat (first | with_reducible exact KT.out | refine Kept.setCell ?_ (by simp) _)) (by repeat (first | with_reducible exact RT.out | refine RowBut.setCell ?_ (by show j * 4 ≤ _; omega) (by show _ < j * 4 + 4; omega) _)) (show World.rangeAt _ B (j * 4) (cellsUse (mkUse Q (nth l j))) from by intro i u hi; rcases i with _ | _ | _ | _ | i <;> simp [cellsUse, mkUse] at hi <;> (try subst hi) <;> (go_simp; try omega))
        · exact HK.out.trans (Kept.sub (F := [B]) (by repeat (first | with_reducible exact KT.out | refine Kept.setCell ?_ (by simp) _)) (fun b _ hb => by rw [List.mem_singleton.1 hb]; exact HB.out))
      case measure => simp [intOf]; omega
    · obtain rfl : j = l.length := by omega
      rw [mixL_full] at hown
      have HO := Lib.hid hown
      clear hown
      go_wp2_with fail
      go_ret
      exact ⟨ret_int (by rw [List.take_length]), HO.out, hkp⟩

end Go.Proofs.Ytikiipahmgpamaa

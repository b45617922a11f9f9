/- The walk of mark.. for tasks. Printed by wip/gen2.py. -/
import Derived.Test.YtalnbddpkkkpeaaGMark
namespace Go.Proofs.Ytalnbddpkkkpeaa
open Go.RowKit
attribute [local irreducible] wpQuiet

set_option maxHeartbeats 8000000 in
set_option maxRecDepth 50000 in
theorem markTaskS_any (l : List Task) (v : Value) (F : List Nat) (q : Int) (w : World) (h : OwS OTask 46 w v l F) (h0 : 0 ≤ q) (h1 : q + cntL cntTask l ≤ 1125899906842624) :
    Calls Try.prog 47 #[v, .int .i64 q] w fun e w' => e = .returned (.int .i64 (q + cntL cntTask l)) ∧ OwS OTask 46 w' v (markL mkTask cntTask q l) F ∧ Kept F w w' := by
  obtain ⟨A, c, rfl, g1, g2⟩ := h.form
  unfold maxLen at g2
  have H := Lib.hid h
  have H1 := Lib.hid h1
  clear h h1
  go_enter Try.func47, Try.ntmps47
  go_wp2_with fail
  go_loopw [1, 5] (fun kk i w' => ∃ j : Nat, j ≤ l.length ∧ i = .int .i64 j ∧ kk = .int .i64 (q + cntL cntTask (l.take j)) ∧ OwS OTask 46 w' (.slice A l.length c) (mixL mkTask cntTask q l j) F ∧ Kept F w w') (fun _ i _ => l.length - (intOf i).toNat)
  case atStart => exact ⟨0, Nat.zero_le _, rfl, by simp [cntL], by rw [mixL_zero]; exact H.out, Kept.refl _ _⟩
  case round =>
    obtain ⟨j, hj, rfl, rfl, hown, hkp⟩ := hrel
    by_cases hlt : j < l.length
    · obtain ⟨B, c', G, cs, hv, hBF, hBG, hGF, ho, hc, hfz, hth, hrow, hset⟩ := hown.at (k := j) (by rw [mixL_length _ _ _ hj]; exact hlt)
      rw [mixL_length _ _ _ hj] at hv
      rw [mixL_nth hlt] at ho
      obtain ⟨u1, rfl, hfit, o1⟩ := ho
      obtain ⟨A1, k1, rfl, n1, m1⟩ := o1.form
      have O1 := Lib.hid o1
      clear o1
      injection hv with hA _ hcc
      subst hA hcc
      have c0 := hc 0 _ rfl
      have f0 := hfz (j * 14 + 0)
      have c1 := hc 1 _ rfl
      have f1 := hfz (j * 14 + 1)
      have c2 := hc 2 _ rfl
      have f2 := hfz (j * 14 + 2)
      have c3 := hc 3 _ rfl
      have f3 := hfz (j * 14 + 3)
      have c4 := hc 4 _ rfl
      have f4 := hfz (j * 14 + 4)
      have c5 := hc 5 _ rfl
      have f5 := hfz (j * 14 + 5)
      have c6 := hc 6 _ rfl
      have f6 := hfz (j * 14 + 6)
      have c7 := hc 7 _ rfl
      have f7 := hfz (j * 14 + 7)
      have c8 := hc 8 _ rfl
      have f8 := hfz (j * 14 + 8)
      have c9 := hc 9 _ rfl
      have f9 := hfz (j * 14 + 9)
      have c10 := hc 10 _ rfl
      have f10 := hfz (j * 14 + 10)
      have c11 := hc 11 _ rfl
      have f11 := hfz (j * 14 + 11)
      have c12 := hc 12 _ rfl
      have f12 := hfz (j * 14 + 12)
      have c13 := hc 13 _ rfl
      simp only [ETask, Nat.add_zero] at c0 f0 c1 f1 c2 f2 c3 f3 c4 f4 c5 f5 c6 f6 c7 f7 c8 f8 c9 f9 c10 f10 c11 f11 c12 f12 c13
      have HC := Lib.hid (cntL_at (n := cntTask) hlt)
      have HS := Lib.hid (cntL_succ (n := cntTask) hlt)
      have HO := Lib.hid hset
      have HT := Lib.hid hth
      have HR := Lib.hid hrow
      have HB := Lib.hid hBF
      have HK := Lib.hid hkp
      have HG := Lib.hid hGF
      have HX := Lib.hid hBG
      have HRG := Lib.hid hc
      have hb : 0 ≤ q + (cntL cntTask (l.take j) : Int) ∧ q + (cntL cntTask (l.take j) : Int) + cntTask (nth l j) ≤ 1125899906842624 := by have := H1.out; have := HC.out; omega
      simp only [cntTask] at hb
      clear hc hfz hset hth hrow hkp hown hfit hBG hGF hBF
      generalize hq : q + (cntL cntTask (l.take j) : Int) = Q at *
      have HQ := Lib.hid hq
      clear hq
      obtain ⟨hb0, hb1⟩ := hb
      have hn0 : (0 : Int) ≤ ((cntL cntInt (nth l j).nodes) : Nat) := Int.natCast_nonneg _
      have hb2 := hb1
      push_cast at hb2
      go_wp2_with fail
      refine (markText_any _ _ (by omega) (by omega)).mono ?_
      rintro e wt ⟨rfl, hxt⟩
      have y0 := Ext.some hxt (show World.cell? _ ⟨B, j * 14, none⟩ = some (.int .i64 Q) by go_simp)
      have y1 := Ext.some hxt (show World.cell? _ ⟨B, j * 14 + 1, none⟩ = some (.int .i64 (Q + 1)) by go_simp)
      have y2 := Ext.some hxt (show World.cell? _ ⟨B, j * 14 + 2, none⟩ = some (.int .i64 (Q + 1 + 1)) by go_simp)
      have y3 := Ext.some hxt (show World.cell? _ ⟨B, j * 14 + 3, none⟩ = some (.string (nth l j).owner) by go_simp)
      have y4 := Ext.some hxt (show World.cell? _ ⟨B, j * 14 + 4, none⟩ = some (.int .i64 (nth l j).need) by go_simp)
      have y5 := Ext.some hxt (show World.cell? _ ⟨B, j * 14 + 5, none⟩ = some (.int .i64 (nth l j).long) by go_simp)
      have y6 := Ext.some hxt (show World.cell? _ ⟨B, j * 14 + 6, none⟩ = some (.int .i64 (nth l j).prio) by go_simp)
      have y7 := Ext.some hxt (show World.cell? _ ⟨B, j * 14 + 7, none⟩ = some (.int .i64 (nth l j).under.level) by go_simp)
      have y8 := Ext.some hxt (show World.cell? _ ⟨B, j * 14 + 8, none⟩ = some (.int .i64 (nth l j).under.set) by go_simp)
      have y9 := Ext.some hxt (show World.cell? _ ⟨B, j * 14 + 9, none⟩ = some (.int .i64 (nth l j).after) by go_simp)
      have y10 := Ext.some hxt (show World.cell? _ ⟨B, j * 14 + 10, none⟩ = some (.int .i64 (nth l j).born) by go_simp)
      have y11 := Ext.some hxt (show World.cell? _ ⟨B, j * 14 + 11, none⟩ = some (.int .i64 (nth l j).state) by go_simp)
      have y12 := Ext.some hxt (show World.cell? _ ⟨B, j * 14 + 12, none⟩ = some (.int .i64 (nth l j).start) by go_simp)
      have y13 := Ext.some hxt (show World.cell? _ ⟨B, j * 14 + 13, none⟩ = some (.slice A1 (nth l j).nodes.length k1) by go_simp)
      have KT : Hid (Kept [B] wr wt) := Lib.hid (Kept.trans (by repeat (first | with_reducible exact Kept.refl _ _ | refine Kept.setCell ?_ (by simp) _)) (Kept.of_ext hxt))
      have RT : Hid (RowBut 46 B (j * ETask.size) ETask.size wr wt) := Lib.hid (RowBut.kept (by repeat (first | with_reducible exact HR.out | refine RowBut.setCell ?_ (by show j * 14 ≤ _; omega) (by show _ < j * 14 + 14; omega) _)) (Kept.of_ext (F := []) hxt) (by simp))
      clear f0
      clear f1
      clear f2
      replace f3 := RT.out.frozen (j * 14 + 3)
      replace f4 := RT.out.frozen (j * 14 + 4)
      replace f5 := RT.out.frozen (j * 14 + 5)
      replace f6 := RT.out.frozen (j * 14 + 6)
      replace f7 := RT.out.frozen (j * 14 + 7)
      replace f8 := RT.out.frozen (j * 14 + 8)
      replace f9 := RT.out.frozen (j * 14 + 9)
      replace f10 := RT.out.frozen (j * 14 + 10)
      replace f11 := RT.out.frozen (j * 14 + 11)
      replace f12 := RT.out.frozen (j * 14 + 12)
      clear hxt c0 c1 c2 c3 c4 c5 c6 c7 c8 c9 c10 c11 c12 c13
      have c0 := y0
      have c1 := y1
      have c2 := y2
      have c3 := y3
      have c4 := y4
      have c5 := y5
      have c6 := y6
      have c7 := y7
      have c8 := y8
      have c9 := y9
      have c10 := y10
      have c11 := y11
      have c12 := y12
      have c13 := y13
      clear y0 y1 y2 y3 y4 y5 y6 y7 y8 y9 y10 y11 y12 y13
      go_wp2_with fail
      refine (markInt64S_any (nth l j).nodes _ G _ _ (O1.out.kept (G := [B]) (by repeat (first | with_reducible exact KT.out | refine Kept.setCell ?_ (by simp) _)) (fun b hb hm => HX.out (by rw [← List.mem_singleton.1 hm]; exact hb))) (by omega) (by omega)).mono ?_
      rintro e w2 ⟨rfl, p, hk⟩
      have P1 := Lib.hid p
      have K1 := Lib.hid hk
      clear p hk
      go_wp2_with fail
      go_roundw
      case rel =>
        have hkk : Kept (B :: G) wr w2 := (Kept.trans (by repeat (first | with_reducible exact KT.out.sub (fun b _ hb => by simp at hb ⊢; exact .inl hb) | refine Kept.setCell ?_ (by simp) _)) (K1.out.sub (fun b _ hb => List.mem_cons_of_mem _ hb)))
        refine ⟨j + 1, by omega, by go_num, by rw [HS.out, ← HQ.out]; push_cast; simp only [cntTask]; push_cast; go_num, ?_, HK.out.trans (hkk.sub fun b _ hb => by rcases List.mem_cons.1 hb with rfl | hb; exact HB.out; exact HG.out b hb)⟩
        have hs := HO.out w2 (mkTask Q (nth l j)) (cellsTask (mkTask Q (nth l j)) (.slice A1 (nth l j).nodes.length k1)) hkk (RowBut.kept (by repeat (first | with_reducible exact RT.out | refine RowBut.setCell ?_ (by show j * 14 ≤ _; omega) (by show _ < j * 14 + 14; omega) _)) K1.out (fun hm => HX.out (hm))) ⟨_, rfl, (by have hm := mtext_str (Q + 1 + 1 + 1) (by omega); simp only [FitTask, mkTask, I64]; (repeat' apply And.intro); all_goals first | exact hm | omega), (P1.out.cast_mark (by first | rfl | omega | (push_cast; omega)))⟩ (fun i u hi => K1.out.cell HX.out ((show World.rangeAt _ B (j * 14) (cellsTask (mkTask Q (nth l j)) (.slice A1 (nth l j).nodes.length k1)) from by intro i u hi; rcases i with _ | _ | _ | _ | _ | _ | _ | _ | _ | _ | _ | _ | _ | _ | i <;> simp [cellsTask, mkTask] at hi <;> (try subst hi) <;> (go_simp; try omega)) i u hi))
        rw [← HQ.out, mixL_set hlt] at hs
        exact hs
      case measure => simp [intOf]; omega
    · obtain rfl : j = l.length := by omega
      rw [mixL_full] at hown
      have HO := Lib.hid hown
      clear hown
      go_wp2_with fail
      go_ret
      exact ⟨ret_int (by rw [List.take_length]), HO.out, hkp⟩

end Go.Proofs.Ytalnbddpkkkpeaa

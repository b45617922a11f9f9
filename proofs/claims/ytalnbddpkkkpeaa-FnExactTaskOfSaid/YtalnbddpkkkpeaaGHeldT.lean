/- The walk of held.. for tasks. Printed by wip/gen2.py. -/
import Derived.Test.YtalnbddpkkkpeaaGHeld
namespace Go.Proofs.Ytalnbddpkkkpeaa
open Go.RowKit
attribute [local irreducible] wpQuiet

set_option maxHeartbeats 8000000 in
set_option maxRecDepth 50000 in
theorem heldTaskS_any {S : Nat → Prop} (l : List Task) (v : Value) (q : Int) (w : World) (h : Rd ETask S w v (markL mkTask cntTask q l)) (h0 : 0 ≤ q) (h1 : q + cntL cntTask l ≤ 1125899906842624) :
    Calls Try.prog 52 #[v, .int .i64 q] w fun e w' => e = .returned (.int .i64 (q + cntL cntTask l)) ∧ Ext w w' := by
  obtain ⟨A, c, rfl, g1, g2, hk⟩ := h.open_
  rw [markL_length] at g1 hk ⊢
  unfold maxLen at g2
  have H := Lib.hid hk
  clear hk
  have H1 := Lib.hid h1
  clear h h1
  go_enter Try.func52, Try.ntmps52
  go_wp2_with fail
  go_loopw [1, 5] (fun kk i w' => ∃ j : Nat, j ≤ l.length ∧ i = .int .i64 j ∧ kk = .int .i64 (q + cntL cntTask (l.take j)) ∧ Ext w w') (fun _ i _ => l.length - (intOf i).toNat)
  case atStart => exact ⟨0, Nat.zero_le _, rfl, by simp [cntL], Ext.refl _⟩
  case round =>
    obtain ⟨j, hj, rfl, rfl, hx⟩ := hrel
    by_cases hlt : j < l.length
    · obtain ⟨B, o, cs, rfl, _, hr, hc⟩ := H.out j hlt
      rw [markL_nth q hlt] at hr
      obtain ⟨u1, rfl, hfit, o1⟩ := hr
      have c0 := Ext.some hx (hc 0 _ rfl)
      have c1 := Ext.some hx (hc 1 _ rfl)
      have c2 := Ext.some hx (hc 2 _ rfl)
      have c3 := Ext.some hx (hc 3 _ rfl)
      have c4 := Ext.some hx (hc 4 _ rfl)
      have c5 := Ext.some hx (hc 5 _ rfl)
      have c6 := Ext.some hx (hc 6 _ rfl)
      have c7 := Ext.some hx (hc 7 _ rfl)
      have c8 := Ext.some hx (hc 8 _ rfl)
      have c9 := Ext.some hx (hc 9 _ rfl)
      have c10 := Ext.some hx (hc 10 _ rfl)
      have c11 := Ext.some hx (hc 11 _ rfl)
      have c12 := Ext.some hx (hc 12 _ rfl)
      have c13 := Ext.some hx (hc 13 _ rfl)
      simp only [ETask, Nat.add_zero] at c0 c1 c2 c3 c4 c5 c6 c7 c8 c9 c10 c11 c12 c13
      have HC := Lib.hid (cntL_at (n := cntTask) hlt)
      have HS := Lib.hid (cntL_succ (n := cntTask) hlt)
      have HX := Lib.hid hx
      have O1 := Lib.hid (o1.ext hx)
      clear o1
      have hb : 0 ≤ q + (cntL cntTask (l.take j) : Int) ∧ q + (cntL cntTask (l.take j) : Int) + cntTask (nth l j) ≤ 1125899906842624 := by have := H1.out; have := HC.out; omega
      simp only [cntTask] at hb
      clear hc hx hfit
      generalize hq : q + (cntL cntTask (l.take j) : Int) = Q at *
      have HQ := Lib.hid hq
      clear hq
      obtain ⟨hb0, hb1⟩ := hb
      simp only [mkTask] at c0 c1 c2 c3 c4 c5 c6 c7 c8 c9 c10 c11 c12 c13
      have hn0 : (0 : Int) ≤ ((cntL cntInt (nth l j).nodes) : Nat) := Int.natCast_nonneg _
      have hb2 := hb1
      push_cast at hb2
      go_wp2_with fail
      refine wp_region_ext (by kernel_rfl) (by kernel_rfl) ?_
      repeat (
        (refine wpQuiet_step (fun K hK => ?_)
         go_simp
         first
          | (refine hK _ ?_; clear hK K)
          | (apply Exists.intro
             refine ⟨fun w__ hx__ => ?_, hK _ ?_⟩
             · have c3__ := Ext.some hx__ c3; first | exact rfl | (go_simp; done) | (go_simp; exact rfl) | (go_at_call 123; exact ext_of hx__ (markText_any _ _ (by omega) (by omega)))
             clear hK K)))
      refine wpQuiet_nil ?_
      intro w1 hx1
      replace c4 := Ext.some hx1 c4
      replace c5 := Ext.some hx1 c5
      replace c6 := Ext.some hx1 c6
      replace c7 := Ext.some hx1 c7
      replace c8 := Ext.some hx1 c8
      replace c9 := Ext.some hx1 c9
      replace c10 := Ext.some hx1 c10
      replace c11 := Ext.some hx1 c11
      replace c12 := Ext.some hx1 c12
      replace c13 := Ext.some hx1 c13
      replace HX := Lib.hid (HX.out.trans hx1)
      replace O1 := Lib.hid (O1.out.ext hx1)
      clear hx1 c0 c1 c2 c3
      go_wp2_with fail
      refine (heldInt64S_any (S := S) (nth l j).nodes _ _ _ ((O1.out).cast_mark (by first | rfl | omega | (push_cast; omega))) (by omega) (by omega)).mono ?_
      rintro e w2 ⟨rfl, hx⟩
      have Y1 := Lib.hid hx
      clear hx
      go_wp2_with fail
      first
        | (go_roundw
           case rel => exact ⟨j + 1, by omega, by go_num, by rw [HS.out, ← HQ.out]; push_cast; simp only [cntTask]; push_cast; go_num, (HX.out.trans Y1.out)⟩
           case measure => simp [intOf]; omega)
        | (refine ⟨⟨j + 1, by omega, by go_num, by rw [HS.out, ← HQ.out]; push_cast; simp only [cntTask]; push_cast; go_num, (HX.out.trans Y1.out)⟩, ?_⟩
           simp [intOf]
           omega)
    · obtain rfl : j = l.length := by omega
      go_wp2_with fail
      go_ret
      exact ⟨ret_int (by rw [List.take_length]), hx⟩

end Go.Proofs.Ytalnbddpkkkpeaa

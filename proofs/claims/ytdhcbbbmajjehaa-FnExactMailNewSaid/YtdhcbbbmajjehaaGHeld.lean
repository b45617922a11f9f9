/- The walks of held... Printed by wip/gen2.py. -/
import Derived.Test.YtdhcbbbmajjehaaGOwn
import Derived.Test.YtdhcbbbmajjehaaGMarkDef
import Derived.Test.YtdhcbbbmajjehaaRows
import Derived.Test.YtdhcbbbmajjehaaMarkTextW
namespace Go.Proofs.Ytdhcbbbmajjehaa
open Go.RowKit
attribute [local irreducible] wpQuiet

set_option maxHeartbeats 8000000 in
set_option maxRecDepth 50000 in
theorem heldInt64S_any {S : Nat → Prop} (l : List Int) (v : Value) (q : Int) (w : World) (h : Rd EInt S w v (markL mkInt cntInt q l)) (h0 : 0 ≤ q) (h1 : q + cntL cntInt l ≤ 1125899906842624) :
    Calls Try.prog 62 #[v, .int .i64 q] w fun e w' => e = .returned (.int .i64 (q + cntL cntInt l)) ∧ Ext w w' := by
  obtain ⟨A, c, rfl, g1, g2, hk⟩ := h.open_
  rw [markL_length] at g1 hk ⊢
  unfold maxLen at g2
  have H := Lib.hid hk
  clear hk
  have H1 := Lib.hid h1
  clear h h1
  go_enter Try.func62, Try.ntmps62
  go_wp2_with fail
  go_loopw [1, 5] (fun kk i w' => ∃ j : Nat, j ≤ l.length ∧ i = .int .i64 j ∧ kk = .int .i64 (q + cntL cntInt (l.take j)) ∧ Ext w w') (fun _ i _ => l.length - (intOf i).toNat)
  case atStart => exact ⟨0, Nat.zero_le _, rfl, by simp [cntL], Ext.refl _⟩
  case round =>
    obtain ⟨j, hj, rfl, rfl, hx⟩ := hrel
    by_cases hlt : j < l.length
    · obtain ⟨B, o, cs, rfl, _, hr, hc⟩ := H.out j hlt
      rw [markL_nth q hlt] at hr
      obtain ⟨rfl, hfit⟩ := hr
      have c0 := Ext.some hx (hc 0 _ rfl)
      simp only [EInt, Nat.add_zero, Nat.mul_one] at c0
      have HC := Lib.hid (cntL_at (n := cntInt) hlt)
      have HS := Lib.hid (cntL_succ (n := cntInt) hlt)
      have HX := Lib.hid hx
      have hb : 0 ≤ q + (cntL cntInt (l.take j) : Int) ∧ q + (cntL cntInt (l.take j) : Int) + cntInt (nth l j) ≤ 1125899906842624 := by have := H1.out; have := HC.out; omega
      simp only [cntInt] at hb
      clear hc hx hfit
      generalize hq : q + (cntL cntInt (l.take j) : Int) = Q at *
      have HQ := Lib.hid hq
      clear hq
      obtain ⟨hb0, hb1⟩ := hb
      try simp only [mkInt] at c0
      go_wp2_with fail
      first
        | (go_roundw
           case rel => exact ⟨j + 1, by omega, by go_num, by rw [HS.out, ← HQ.out]; push_cast; simp only [cntInt]; go_num, HX.out⟩
           case measure => simp [intOf]; omega)
        | (refine ⟨⟨j + 1, by omega, by go_num, by rw [HS.out, ← HQ.out]; push_cast; simp only [cntInt]; go_num, HX.out⟩, ?_⟩
           simp [intOf]
           omega)
    · obtain rfl : j = l.length := by omega
      go_wp2_with fail
      go_ret
      exact ⟨ret_int (by rw [List.take_length]), hx⟩

set_option maxHeartbeats 8000000 in
set_option maxRecDepth 50000 in
theorem heldNoteS_any {S : Nat → Prop} (l : List Note) (v : Value) (q : Int) (w : World) (h : Rd ENote S w v (markL mkNote cntNote q l)) (h0 : 0 ≤ q) (h1 : q + cntL cntNote l ≤ 1125899906842624) :
    Calls Try.prog 219 #[v, .int .i64 q] w fun e w' => e = .returned (.int .i64 (q + cntL cntNote l)) ∧ Ext w w' := by
  obtain ⟨A, c, rfl, g1, g2, hk⟩ := h.open_
  rw [markL_length] at g1 hk ⊢
  unfold maxLen at g2
  have H := Lib.hid hk
  clear hk
  have H1 := Lib.hid h1
  clear h h1
  go_enter Try.func219, Try.ntmps219
  go_wp2_with fail
  go_loopw [1, 5] (fun kk i w' => ∃ j : Nat, j ≤ l.length ∧ i = .int .i64 j ∧ kk = .int .i64 (q + cntL cntNote (l.take j)) ∧ Ext w w') (fun _ i _ => l.length - (intOf i).toNat)
  case atStart => exact ⟨0, Nat.zero_le _, rfl, by simp [cntL], Ext.refl _⟩
  case round =>
    obtain ⟨j, hj, rfl, rfl, hx⟩ := hrel
    by_cases hlt : j < l.length
    · obtain ⟨B, o, cs, rfl, _, hr, hc⟩ := H.out j hlt
      rw [markL_nth q hlt] at hr
      obtain ⟨rfl, hfit⟩ := hr
      have c0 := Ext.some hx (hc 0 _ rfl)
      have c1 := Ext.some hx (hc 1 _ rfl)
      simp only [ENote, Nat.add_zero] at c0 c1
      have HC := Lib.hid (cntL_at (n := cntNote) hlt)
      have HS := Lib.hid (cntL_succ (n := cntNote) hlt)
      have HX := Lib.hid hx
      have hb : 0 ≤ q + (cntL cntNote (l.take j) : Int) ∧ q + (cntL cntNote (l.take j) : Int) + cntNote (nth l j) ≤ 1125899906842624 := by have := H1.out; have := HC.out; omega
      simp only [cntNote] at hb
      clear hc hx hfit
      generalize hq : q + (cntL cntNote (l.take j) : Int) = Q at *
      have HQ := Lib.hid hq
      clear hq
      obtain ⟨hb0, hb1⟩ := hb
      try simp only [mkNote] at c0 c1
      go_wp2_with fail
      first
        | (go_roundw
           case rel => exact ⟨j + 1, by omega, by go_num, by rw [HS.out, ← HQ.out]; push_cast; simp only [cntNote]; go_num, HX.out⟩
           case measure => simp [intOf]; omega)
        | (refine ⟨⟨j + 1, by omega, by go_num, by rw [HS.out, ← HQ.out]; push_cast; simp only [cntNote]; go_num, HX.out⟩, ?_⟩
           simp [intOf]
           omega)
    · obtain rfl : j = l.length := by omega
      go_wp2_with fail
      go_ret
      exact ⟨ret_int (by rw [List.take_length]), hx⟩

set_option maxHeartbeats 8000000 in
set_option maxRecDepth 50000 in
theorem heldBoxS_any {S : Nat → Prop} (l : List Box) (v : Value) (q : Int) (w : World) (h : Rd EBox S w v (markL mkBox cntBox q l)) (h0 : 0 ≤ q) (h1 : q + cntL cntBox l ≤ 1125899906842624) :
    Calls Try.prog 168 #[v, .int .i64 q] w fun e w' => e = .returned (.int .i64 (q + cntL cntBox l)) ∧ Ext w w' := by
  obtain ⟨A, c, rfl, g1, g2, hk⟩ := h.open_
  rw [markL_length] at g1 hk ⊢
  unfold maxLen at g2
  have H := Lib.hid hk
  clear hk
  have H1 := Lib.hid h1
  clear h h1
  go_enter Try.func168, Try.ntmps168
  go_wp2_with fail
  go_loopw [1, 5] (fun kk i w' => ∃ j : Nat, j ≤ l.length ∧ i = .int .i64 j ∧ kk = .int .i64 (q + cntL cntBox (l.take j)) ∧ Ext w w') (fun _ i _ => l.length - (intOf i).toNat)
  case atStart => exact ⟨0, Nat.zero_le _, rfl, by simp [cntL], Ext.refl _⟩
  case round =>
    obtain ⟨j, hj, rfl, rfl, hx⟩ := hrel
    by_cases hlt : j < l.length
    · obtain ⟨B, o, cs, rfl, _, hr, hc⟩ := H.out j hlt
      rw [markL_nth q hlt] at hr
      obtain ⟨u1, u2, u3, rfl, hfit, o1, o2, o3⟩ := hr
      have c0 := Ext.some hx (hc 0 _ rfl)
      have c1 := Ext.some hx (hc 1 _ rfl)
      have c2 := Ext.some hx (hc 2 _ rfl)
      simp only [EBox, Nat.add_zero] at c0 c1 c2
      have HC := Lib.hid (cntL_at (n := cntBox) hlt)
      have HS := Lib.hid (cntL_succ (n := cntBox) hlt)
      have HX := Lib.hid hx
      have O1 := Lib.hid (o1.ext hx)
      clear o1
      have O2 := Lib.hid (o2.ext hx)
      clear o2
      have O3 := Lib.hid (o3.ext hx)
      clear o3
      have hb : 0 ≤ q + (cntL cntBox (l.take j) : Int) ∧ q + (cntL cntBox (l.take j) : Int) + cntBox (nth l j) ≤ 1125899906842624 := by have := H1.out; have := HC.out; omega
      simp only [cntBox] at hb
      clear hc hx hfit
      generalize hq : q + (cntL cntBox (l.take j) : Int) = Q at *
      have HQ := Lib.hid hq
      clear hq
      obtain ⟨hb0, hb1⟩ := hb
      try simp only [mkBox] at c0 c1 c2
      have hn0 : (0 : Int) ≤ ((cntL cntInt (nth l j).next) : Nat) := Int.natCast_nonneg _
      have hn1 : (0 : Int) ≤ ((cntL cntInt (nth l j).here) : Nat) := Int.natCast_nonneg _
      have hn2 : (0 : Int) ≤ ((cntL cntNote (nth l j).log) : Nat) := Int.natCast_nonneg _
      have hb2 := hb1
      push_cast at hb2
      go_wp2_with fail
      refine (heldInt64S_any (S := S) (nth l j).next _ _ _ (O1.out.cast_mark (by first | rfl | omega | (push_cast; omega))) (by omega) (by omega)).mono ?_
      rintro e w2 ⟨rfl, hx⟩
      have Y1 := Lib.hid hx
      replace c1 := Ext.some hx c1
      replace c2 := Ext.some hx c2
      clear hx
      go_wp2_with fail
      refine (heldInt64S_any (S := S) (nth l j).here _ _ _ ((O2.out.ext Y1.out).cast_mark (by first | rfl | omega | (push_cast; omega))) (by omega) (by omega)).mono ?_
      rintro e w3 ⟨rfl, hx⟩
      have Y2 := Lib.hid hx
      replace c2 := Ext.some hx c2
      clear hx
      go_wp2_with fail
      refine (heldNoteS_any (S := S) (nth l j).log _ _ _ (((O3.out.ext Y1.out).ext Y2.out).cast_mark (by first | rfl | omega | (push_cast; omega))) (by omega) (by omega)).mono ?_
      rintro e w4 ⟨rfl, hx⟩
      have Y3 := Lib.hid hx
      clear hx
      go_wp2_with fail
      first
        | (go_roundw
           case rel => exact ⟨j + 1, by omega, by go_num, by rw [HS.out, ← HQ.out]; push_cast; simp only [cntBox]; push_cast; go_num, (((HX.out.trans Y1.out).trans Y2.out).trans Y3.out)⟩
           case measure => simp [intOf]; omega)
        | (refine ⟨⟨j + 1, by omega, by go_num, by rw [HS.out, ← HQ.out]; push_cast; simp only [cntBox]; push_cast; go_num, (((HX.out.trans Y1.out).trans Y2.out).trans Y3.out)⟩, ?_⟩
           simp [intOf]
           omega)
    · obtain rfl : j = l.length := by omega
      go_wp2_with fail
      go_ret
      exact ⟨ret_int (by rw [List.take_length]), hx⟩

end Go.Proofs.Ytdhcbbbmajjehaa

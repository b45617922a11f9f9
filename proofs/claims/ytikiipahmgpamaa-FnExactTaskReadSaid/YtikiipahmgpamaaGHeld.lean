/- The walks of held... Printed by wip/gen2.py. -/
import Derived.Test.YtikiipahmgpamaaGOwn
import Derived.Test.YtikiipahmgpamaaGMarkDef
import Derived.Test.YtikiipahmgpamaaRows
import Derived.Test.YtikiipahmgpamaaMarkTextW
namespace Go.Proofs.Ytikiipahmgpamaa
open Go.RowKit
attribute [local irreducible] wpQuiet

set_option maxHeartbeats 8000000 in
set_option maxRecDepth 50000 in
theorem heldInt64S_any {S : Nat → Prop} (l : List Int) (v : Value) (q : Int) (w : World) (h : Rd EInt S w v (markL mkInt cntInt q l)) (h0 : 0 ≤ q) (h1 : q + cntL cntInt l ≤ 1125899906842624) :
    Calls Try.prog 172 #[v, .int .i64 q] w fun e w' => e = .returned (.int .i64 (q + cntL cntInt l)) ∧ Ext w w' := by
  obtain ⟨A, c, rfl, g1, g2, hk⟩ := h.open_
  rw [markL_length] at g1 hk ⊢
  unfold maxLen at g2
  have H := Lib.hid hk
  clear hk
  have H1 := Lib.hid h1
  clear h h1
  go_enter Try.func172, Try.ntmps172
  go_wp2_with fail
  go_loopw [1, 5] (fun kk i w' => ∃ j : Nat, j ≤ l.length ∧ i = .int .i64 j ∧ kk = .int .i64 (q + cntL cntInt (l.take j)) ∧ Ext w w') (fun _ i _ => l.length - (intOf i).toNat)
  case atStart => exact ⟨0, Nat.zero_le _, rfl, by simp [cntL], Ext.refl _⟩
  case round =>
    obtain ⟨j, hj, rfl, rfl, hx⟩ := hrel
    by_cases hlt : j < l.length
    · obtain ⟨B, o, cs, rfl, _, hr, hc⟩ := H.out j hlt
      rw [markL_nth q hlt] at hr
      obtain ⟨rfl, hfit⟩ := hr
      have c0 := Ext.some hx (hc 0 _ rfl)
      simp only [EInt, Nat.add_zero, Nat.mul_one] at c0
      have HC := Lib.hid (cntL_at (n := cntInt) hlt)
      have HS := Lib.hid (cntL_succ (n := cntInt) hlt)
      have HX := Lib.hid hx
      have hb : 0 ≤ q + (cntL cntInt (l.take j) : Int) ∧ q + (cntL cntInt (l.take j) : Int) + cntInt (nth l j) ≤ 1125899906842624 := by have := H1.out; have := HC.out; omega
      simp only [cntInt] at hb
      clear hc hx hfit
      generalize hq : q + (cntL cntInt (l.take j) : Int) = Q at *
      have HQ := Lib.hid hq
      clear hq
      obtain ⟨hb0, hb1⟩ := hb
      simp only [mkInt] at c0
      go_wp2_with fail
      first
        | (go_roundw
           case rel => exact ⟨j + 1, by omega, by go_num, by rw [HS.out, ← HQ.out]; push_cast; simp only [cntInt]; go_num, HX.out⟩
           case measure => simp [intOf]; omega)
        | (refine ⟨⟨j + 1, by omega, by go_num, by rw [HS.out, ← HQ.out]; push_cast; simp only [cntInt]; go_num, HX.out⟩, ?_⟩
           simp [intOf]
           omega)
    · obtain rfl : j = l.length := by omega
      go_wp2_with fail
      go_ret
      exact ⟨ret_int (by rw [List.take_length]), hx⟩

set_option maxHeartbeats 8000000 in
set_option maxRecDepth 50000 in
theorem heldSpanS_any {S : Nat → Prop} (l : List Span) (v : Value) (q : Int) (w : World) (h : Rd ESpan S w v (markL mkSpan cntSpan q l)) (h0 : 0 ≤ q) (h1 : q + cntL cntSpan l ≤ 1125899906842624) :
    Calls Try.prog 164 #[v, .int .i64 q] w fun e w' => e = .returned (.int .i64 (q + cntL cntSpan l)) ∧ Ext w w' := by
  obtain ⟨A, c, rfl, g1, g2, hk⟩ := h.open_
  rw [markL_length] at g1 hk ⊢
  unfold maxLen at g2
  have H := Lib.hid hk
  clear hk
  have H1 := Lib.hid h1
  clear h h1
  go_enter Try.func164, Try.ntmps164
  go_wp2_with fail
  go_loopw [1, 5] (fun kk i w' => ∃ j : Nat, j ≤ l.length ∧ i = .int .i64 j ∧ kk = .int .i64 (q + cntL cntSpan (l.take j)) ∧ Ext w w') (fun _ i _ => l.length - (intOf i).toNat)
  case atStart => exact ⟨0, Nat.zero_le _, rfl, by simp [cntL], Ext.refl _⟩
  case round =>
    obtain ⟨j, hj, rfl, rfl, hx⟩ := hrel
    by_cases hlt : j < l.length
    · obtain ⟨B, o, cs, rfl, _, hr, hc⟩ := H.out j hlt
      rw [markL_nth q hlt] at hr
      obtain ⟨rfl, hfit⟩ := hr
      have c0 := Ext.some hx (hc 0 _ rfl)
      have c1 := Ext.some hx (hc 1 _ rfl)
      simp only [ESpan, Nat.add_zero] at c0 c1
      have HC := Lib.hid (cntL_at (n := cntSpan) hlt)
      have HS := Lib.hid (cntL_succ (n := cntSpan) hlt)
      have HX := Lib.hid hx
      have hb : 0 ≤ q + (cntL cntSpan (l.take j) : Int) ∧ q + (cntL cntSpan (l.take j) : Int) + cntSpan (nth l j) ≤ 1125899906842624 := by have := H1.out; have := HC.out; omega
      simp only [cntSpan] at hb
      clear hc hx hfit
      generalize hq : q + (cntL cntSpan (l.take j) : Int) = Q at *
      have HQ := Lib.hid hq
      clear hq
      obtain ⟨hb0, hb1⟩ := hb
      simp only [mkSpan] at c0 c1
      go_wp2_with fail
      first
        | (go_roundw
           case rel => exact ⟨j + 1, by omega, by go_num, by rw [HS.out, ← HQ.out]; push_cast; simp only [cntSpan]; go_num, HX.out⟩
           case measure => simp [intOf]; omega)
        | (refine ⟨⟨j + 1, by omega, by go_num, by rw [HS.out, ← HQ.out]; push_cast; simp only [cntSpan]; go_num, HX.out⟩, ?_⟩
           simp [intOf]
           omega)
    · obtain rfl : j = l.length := by omega
      go_wp2_with fail
      go_ret
      exact ⟨ret_int (by rw [List.take_length]), hx⟩

set_option maxHeartbeats 8000000 in
set_option maxRecDepth 50000 in
theorem heldNodeS_any {S : Nat → Prop} (l : List Node) (v : Value) (q : Int) (w : World) (h : Rd ENode S w v (markL mkNode cntNode q l)) (h0 : 0 ≤ q) (h1 : q + cntL cntNode l ≤ 1125899906842624) :
    Calls Try.prog 87 #[v, .int .i64 q] w fun e w' => e = .returned (.int .i64 (q + cntL cntNode l)) ∧ Ext w w' := by
  obtain ⟨A, c, rfl, g1, g2, hk⟩ := h.open_
  rw [markL_length] at g1 hk ⊢
  unfold maxLen at g2
  have H := Lib.hid hk
  clear hk
  have H1 := Lib.hid h1
  clear h h1
  go_enter Try.func87, Try.ntmps87
  go_wp2_with fail
  go_loopw [1, 5] (fun kk i w' => ∃ j : Nat, j ≤ l.length ∧ i = .int .i64 j ∧ kk = .int .i64 (q + cntL cntNode (l.take j)) ∧ Ext w w') (fun _ i _ => l.length - (intOf i).toNat)
  case atStart => exact ⟨0, Nat.zero_le _, rfl, by simp [cntL], Ext.refl _⟩
  case round =>
    obtain ⟨j, hj, rfl, rfl, hx⟩ := hrel
    by_cases hlt : j < l.length
    · obtain ⟨B, o, cs, rfl, _, hr, hc⟩ := H.out j hlt
      rw [markL_nth q hlt] at hr
      obtain ⟨u1, rfl, hfit, o1⟩ := hr
      have c0 := Ext.some hx (hc 0 _ rfl)
      have c1 := Ext.some hx (hc 1 _ rfl)
      simp only [ENode, Nat.add_zero] at c0 c1
      have HC := Lib.hid (cntL_at (n := cntNode) hlt)
      have HS := Lib.hid (cntL_succ (n := cntNode) hlt)
      have HX := Lib.hid hx
      have O1 := Lib.hid (o1.ext hx)
      clear o1
      have hb : 0 ≤ q + (cntL cntNode (l.take j) : Int) ∧ q + (cntL cntNode (l.take j) : Int) + cntNode (nth l j) ≤ 1125899906842624 := by have := H1.out; have := HC.out; omega
      simp only [cntNode] at hb
      clear hc hx hfit
      generalize hq : q + (cntL cntNode (l.take j) : Int) = Q at *
      have HQ := Lib.hid hq
      clear hq
      obtain ⟨hb0, hb1⟩ := hb
      simp only [mkNode] at c0 c1
      have hn0 : (0 : Int) ≤ ((cntL cntSpan (nth l j).books) : Nat) := Int.natCast_nonneg _
      have hb2 := hb1
      push_cast at hb2
      go_wp2_with fail
      refine (heldSpanS_any (S := S) (nth l j).books _ _ _ ((O1.out).cast_mark (by first | rfl | omega | (push_cast; omega))) (by omega) (by omega)).mono ?_
      rintro e w2 ⟨rfl, hx⟩
      have Y1 := Lib.hid hx
      clear hx
      go_wp2_with fail
      first
        | (go_roundw
           case rel => exact ⟨j + 1, by omega, by go_num, by rw [HS.out, ← HQ.out]; push_cast; simp only [cntNode]; push_cast; go_num, (HX.out.trans Y1.out)⟩
           case measure => simp [intOf]; omega)
        | (refine ⟨⟨j + 1, by omega, by go_num, by rw [HS.out, ← HQ.out]; push_cast; simp only [cntNode]; push_cast; go_num, (HX.out.trans Y1.out)⟩, ?_⟩
           simp [intOf]
           omega)
    · obtain rfl : j = l.length := by omega
      go_wp2_with fail
      go_ret
      exact ⟨ret_int (by rw [List.take_length]), hx⟩

end Go.Proofs.Ytikiipahmgpamaa

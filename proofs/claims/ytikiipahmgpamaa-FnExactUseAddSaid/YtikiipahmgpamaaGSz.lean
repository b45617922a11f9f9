/- How large data are: sz... Printed by wip/gen.py. -/
import Derived.Test.YtikiipahmgpamaaRows
import Derived.Test.YtikiipahmgpamaaGElems
import Derived.Test.YtikiipahmgpamaaGSmall
import Derived.Test.YtikiipahmgpamaaPurse
import Derived.Test.YtikiipahmgpamaaGSzDef
namespace Go.Proofs.Ytikiipahmgpamaa
open Go.RowKit
attribute [local irreducible] wpQuiet

set_option maxHeartbeats 4000000 in
set_option maxRecDepth 50000 in
theorem szSpanS_any {S : Nat → Prop} (l : List Span) (v : Value) (left : Int) (w : World) (h : Rd ESpan S w v l) (h0 : 0 ≤ left) (h1 : left ≤ 1048576) :
    Calls Try.prog 157 #[v, .int .i64 left] w fun e w' => e = .returned (.int .i64 (szSpanS l left)) ∧ Ext w w' := by
  obtain ⟨A, c, rfl, h2, h3, hk⟩ := h.open_
  unfold maxLen at h3
  have HK := Lib.hid hk
  clear hk h
  go_enter Try.func157, Try.ntmps157
  go_wp2
  all_goals (go_ret; refine ⟨ret_int ?_, Ext.refl _⟩; simp only [szSpanS, pay]; split <;> omega)

set_option maxHeartbeats 4000000 in
theorem szNode_any {S : Nat → Prop} (x : Node) (cs : List Value) (left : Int) (w : World) (h : ENode.rel S w cs x) (h0 : 0 ≤ left) (h1 : left ≤ 1048576) :
    Calls Try.prog 70 #[.agg cs.toArray, .int .i64 left] w fun e w' => e = .returned (.int .i64 (szNode x left)) ∧ Ext w w' := by
  obtain ⟨v1, rfl, hi, h_1⟩ := h
  have H1 := Lib.hid h_1
  clear h_1
  have HI := Lib.hid hi
  clear hi
  simp only [cellsNode]
  go_enter Try.func70, Try.ntmps70
  go_upto_region 1 with (fail)
  obtain ⟨W, B, hW, hB, hx0, hbox⟩ := box_new w #[.int .i64 x.state, v1] 98
  rw [← hW, ← hB]
  have A0 : Hid (Blk W B 98 #[.int .i64 x.state, v1]) := Lib.hid (by rw [hW, hB]; exact Blk.new w _ _)
  have X0 := Lib.hid hx0
  clear hW hB hbox hx0
  have ac := A0.out.cell
  go_wp2_with (first
    | (go_at_call 157; (with_reducible refine (szSpanS_any x.books v1 left _ (H1.out.ext X0.out) (by omega) (by omega)).mono ?_); rintro e w1 ⟨rfl, hx⟩; have P1 := Lib.hid (pays_szSpanS x.books left (by omega)); have X1 := Lib.hid (X0.out.trans hx); have A1 := Lib.hid (A0.out.ext hx); clear hx X0 A0 ac; have ac := A1.out.cell))
  all_goals (go_ret; refine ⟨ret_int ?_, by first | exact X1.out | exact X0.out⟩; (try have q1 := P1.out); simp only [szNode]; all_goals (repeat' split); all_goals omega)

set_option maxHeartbeats 4000000 in
theorem szUse_any {S : Nat → Prop} (x : Use) (cs : List Value) (left : Int) (w : World) (h : EUse.rel S w cs x) (h0 : 0 ≤ left) (h1 : left ≤ 1048576) :
    Calls Try.prog 95 #[.agg cs.toArray, .int .i64 left] w fun e w' => e = .returned (.int .i64 (szUse x left)) ∧ Ext w w' := by
  obtain ⟨rfl, hi⟩ := h
  simp only [FitUse, Str] at hi
  have hz : x.owner.size ≤ maxLen := by simp only [hi]
  unfold maxLen at hz
  have HI := Lib.hid hi
  clear hi
  simp only [cellsUse]
  go_enter Try.func95, Try.ntmps95
  go_upto_region 1 with (fail)
  obtain ⟨W, B, hW, hB, hx0, hbox⟩ := box_new w #[.int .i64 x.label.level, .int .i64 x.label.set, .string x.owner, .int .i64 x.used] 121
  rw [← hW, ← hB]
  have A0 : Hid (Blk W B 121 #[.int .i64 x.label.level, .int .i64 x.label.set, .string x.owner, .int .i64 x.used]) := Lib.hid (by rw [hW, hB]; exact Blk.new w _ _)
  have X0 := Lib.hid hx0
  clear hW hB hbox hx0
  have ac := A0.out.cell
  go_wp2_with fail
  all_goals (go_ret; refine ⟨ret_int ?_, by first | exact X0.out⟩; skip; simp only [szUse, pay]; all_goals (repeat' split); all_goals omega)

set_option maxHeartbeats 4000000 in
set_option maxRecDepth 50000 in
theorem szNodeS_any {S : Nat → Prop} (l : List Node) (v : Value) (left : Int) (w : World) (h : Rd ENode S w v l) (h0 : 0 ≤ left) (h1 : left ≤ 1048576) :
    Calls Try.prog 9 #[v, .int .i64 left] w fun e w' => e = .returned (.int .i64 (szNodeS l left)) ∧ Ext w w' := by
  obtain ⟨A, c, rfl, h2, h3, hk⟩ := h.open_
  unfold maxLen at h3
  have HK := Lib.hid hk
  clear hk h
  by_cases hp : left - (l.length : Int) < 0
  · go_enter Try.func9, Try.ntmps9
    go_wp2_with fail
    go_ret
    exact ⟨ret_int (by rw [szNodeS, pay_neg hp, then_neg]), Ext.refl _⟩
  · have hq : 0 ≤ left - (l.length : Int) := by omega
    clear hp
    have HF : Hid (szNodeS l left = payList szNode l (left - l.length)) := Lib.hid (by rw [szNodeS, pay_pos hq, then_pos hq])
    go_enter Try.func9, Try.ntmps9
    go_wp2_with fail
    go_loopw [1, 5] (fun r i w' => ∃ (k : Nat) (q : Int), k ≤ l.length ∧ i = .int .i64 k ∧ r = .int .i64 q ∧ 0 ≤ q ∧ q ≤ 1048576 ∧ PaidTo szNode l (left - l.length) q k ∧ Ext w w') (fun _ i _ => l.length - (intOf i).toNat)
    case atStart => exact ⟨0, left - l.length, by omega, rfl, rfl, hq, by omega, by rw [PaidTo, List.drop_zero], Ext.refl _⟩
    case round =>
      obtain ⟨k, q, hk1, rfl, rfl, q0, q1, hd, hx⟩ := hrel
      have HD : Hid (payList szNode (l.drop k) q = payList szNode l (left - l.length)) := Lib.hid hd
      have HX := Lib.hid hx
      clear hd
      by_cases hlt : k < l.length
      · obtain ⟨b, o, cs, rfl, hb, hr, hc⟩ := HK.out k hlt
        have HR := Lib.hid (ENode.keep (hx.same S) hr)
        have HC := Lib.hid (hx.range hc)
        have HI : Hid ((Try.prog.info? 98).map (·.size) = some cs.length) := Lib.hid (by rw [ENode.len hr]; kernel_rfl)
        clear hr hc hx
        have HP := Lib.hid (pays_szNode (nth l k) q q0)
        by_cases hneg : szNode (nth l k) q < 0
        · have HN : Hid (payList szNode l (left - l.length) = -1) := Lib.hid (by rw [← HD.out, drop_nth hlt]; simp only [payList]; rw [if_pos hneg])
          go_wp2_with (first | (go_at_call 70; refine (szNode_any (nth l k) cs q _ HR.out q0 q1).mono ?_; rintro e w1 ⟨rfl, hx1⟩; have HX1 := Lib.hid hx1; clear hx1) | (refine wpList_load_mid rfl 98 _ rfl b (o + k * 2) rfl cs _ HC.out Try.underlying98 rfl HI.out ?_))
          go_ret
          exact ⟨ret_int (by rw [HF.out, HN.out]), HX.out.trans HX1.out⟩
        · have hpos : 0 ≤ szNode (nth l k) q := by omega
          clear hneg
          have HN : Hid (payList szNode (l.drop (k + 1)) (szNode (nth l k) q) = payList szNode l (left - l.length)) := Lib.hid (by rw [← HD.out, drop_nth hlt]; simp only [payList]; rw [if_neg (by omega)])
          go_wp2_with (first | (go_at_call 70; refine (szNode_any (nth l k) cs q _ HR.out q0 q1).mono ?_; rintro e w1 ⟨rfl, hx1⟩; have HX1 := Lib.hid hx1; clear hx1) | (refine wpList_load_mid rfl 98 _ rfl b (o + k * 2) rfl cs _ HC.out Try.underlying98 rfl HI.out ?_))
          go_roundw
          case rel => exact ⟨k + 1, _, by omega, by go_num, rfl, hpos, by have := HP.out; omega, HN.out, HX.out.trans HX1.out⟩
          case measure => simp [intOf]; omega
      · obtain rfl : k = l.length := by omega
        have HE : Hid (payList szNode l (left - l.length) = q) := Lib.hid (by rw [← HD.out, List.drop_length]; rfl)
        go_wp2_with fail
        go_ret
        exact ⟨ret_int (by rw [HF.out, HE.out]), HX.out⟩

set_option maxHeartbeats 4000000 in
set_option maxRecDepth 50000 in
theorem szUseS_any {S : Nat → Prop} (l : List Use) (v : Value) (left : Int) (w : World) (h : Rd EUse S w v l) (h0 : 0 ≤ left) (h1 : left ≤ 1048576) :
    Calls Try.prog 24 #[v, .int .i64 left] w fun e w' => e = .returned (.int .i64 (szUseS l left)) ∧ Ext w w' := by
  obtain ⟨A, c, rfl, h2, h3, hk⟩ := h.open_
  unfold maxLen at h3
  have HK := Lib.hid hk
  clear hk h
  by_cases hp : left - (l.length : Int) < 0
  · go_enter Try.func24, Try.ntmps24
    go_wp2_with fail
    go_ret
    exact ⟨ret_int (by rw [szUseS, pay_neg hp, then_neg]), Ext.refl _⟩
  · have hq : 0 ≤ left - (l.length : Int) := by omega
    clear hp
    have HF : Hid (szUseS l left = payList szUse l (left - l.length)) := Lib.hid (by rw [szUseS, pay_pos hq, then_pos hq])
    go_enter Try.func24, Try.ntmps24
    go_wp2_with fail
    go_loopw [1, 5] (fun r i w' => ∃ (k : Nat) (q : Int), k ≤ l.length ∧ i = .int .i64 k ∧ r = .int .i64 q ∧ 0 ≤ q ∧ q ≤ 1048576 ∧ PaidTo szUse l (left - l.length) q k ∧ Ext w w') (fun _ i _ => l.length - (intOf i).toNat)
    case atStart => exact ⟨0, left - l.length, by omega, rfl, rfl, hq, by omega, by rw [PaidTo, List.drop_zero], Ext.refl _⟩
    case round =>
      obtain ⟨k, q, hk1, rfl, rfl, q0, q1, hd, hx⟩ := hrel
      have HD : Hid (payList szUse (l.drop k) q = payList szUse l (left - l.length)) := Lib.hid hd
      have HX := Lib.hid hx
      clear hd
      by_cases hlt : k < l.length
      · obtain ⟨b, o, cs, rfl, hb, hr, hc⟩ := HK.out k hlt
        have HR := Lib.hid (EUse.keep (hx.same S) hr)
        have HC := Lib.hid (hx.range hc)
        have HI : Hid ((Try.prog.info? 121).map (·.size) = some cs.length) := Lib.hid (by rw [EUse.len hr]; kernel_rfl)
        clear hr hc hx
        have HP := Lib.hid (pays_szUse (nth l k) q q0)
        by_cases hneg : szUse (nth l k) q < 0
        · have HN : Hid (payList szUse l (left - l.length) = -1) := Lib.hid (by rw [← HD.out, drop_nth hlt]; simp only [payList]; rw [if_pos hneg])
          go_wp2_with (first | (go_at_call 95; refine (szUse_any (nth l k) cs q _ HR.out q0 q1).mono ?_; rintro e w1 ⟨rfl, hx1⟩; have HX1 := Lib.hid hx1; clear hx1) | (refine wpList_load_mid rfl 121 _ rfl b (o + k * 4) rfl cs _ HC.out Try.underlying121 rfl HI.out ?_))
          go_ret
          exact ⟨ret_int (by rw [HF.out, HN.out]), HX.out.trans HX1.out⟩
        · have hpos : 0 ≤ szUse (nth l k) q := by omega
          clear hneg
          have HN : Hid (payList szUse (l.drop (k + 1)) (szUse (nth l k) q) = payList szUse l (left - l.length)) := Lib.hid (by rw [← HD.out, drop_nth hlt]; simp only [payList]; rw [if_neg (by omega)])
          go_wp2_with (first | (go_at_call 95; refine (szUse_any (nth l k) cs q _ HR.out q0 q1).mono ?_; rintro e w1 ⟨rfl, hx1⟩; have HX1 := Lib.hid hx1; clear hx1) | (refine wpList_load_mid rfl 121 _ rfl b (o + k * 4) rfl cs _ HC.out Try.underlying121 rfl HI.out ?_))
          go_roundw
          case rel => exact ⟨k + 1, _, by omega, by go_num, rfl, hpos, by have := HP.out; omega, HN.out, HX.out.trans HX1.out⟩
          case measure => simp [intOf]; omega
      · obtain rfl : k = l.length := by omega
        have HE : Hid (payList szUse l (left - l.length) = q) := Lib.hid (by rw [← HD.out, List.drop_length]; rfl)
        go_wp2_with fail
        go_ret
        exact ⟨ret_int (by rw [HF.out, HE.out]), HX.out⟩

end Go.Proofs.Ytikiipahmgpamaa

/- How large data are: sz... Printed by wip/gen.py. -/
import Derived.Test.YtalnbddpkkkpeaaRows
import Derived.Test.YtalnbddpkkkpeaaGElems
import Derived.Test.YtalnbddpkkkpeaaGSmall
import Derived.Test.YtalnbddpkkkpeaaPurse
import Derived.Test.YtalnbddpkkkpeaaGSzDef
namespace Go.Proofs.Ytalnbddpkkkpeaa
open Go.RowKit
attribute [local irreducible] wpQuiet

set_option maxHeartbeats 4000000 in
set_option maxRecDepth 50000 in
theorem szSpanS_any {S : Nat → Prop} (l : List Span) (v : Value) (left : Int) (w : World) (h : Rd ESpan S w v l) (h0 : 0 ≤ left) (h1 : left ≤ 1048576) :
    Calls Try.prog 177 #[v, .int .i64 left] w fun e w' => e = .returned (.int .i64 (szSpanS l left)) ∧ Ext w w' := by
  obtain ⟨A, c, rfl, h2, h3, hk⟩ := h.open_
  unfold maxLen at h3
  have HK := Lib.hid hk
  clear hk h
  go_enter Try.func177, Try.ntmps177
  go_wp2
  all_goals (go_ret; refine ⟨ret_int ?_, Ext.refl _⟩; simp only [szSpanS, pay]; split <;> omega)

set_option maxHeartbeats 4000000 in
theorem szNode_any {S : Nat → Prop} (x : Node) (cs : List Value) (left : Int) (w : World) (h : ENode.rel S w cs x) (h0 : 0 ≤ left) (h1 : left ≤ 1048576) :
    Calls Try.prog 90 #[.agg cs.toArray, .int .i64 left] w fun e w' => e = .returned (.int .i64 (szNode x left)) ∧ Ext w w' := by
  obtain ⟨v1, rfl, hi, h_1⟩ := h
  have H1 := Lib.hid h_1
  clear h_1
  have HI := Lib.hid hi
  clear hi
  simp only [cellsNode]
  go_enter Try.func90, Try.ntmps90
  go_upto_region 1 with (fail)
  obtain ⟨W, B, hW, hB, hx0, hbox⟩ := box_new w #[.int .i64 x.state, v1] 121
  rw [← hW, ← hB]
  have A0 : Hid (Blk W B 121 #[.int .i64 x.state, v1]) := Lib.hid (by rw [hW, hB]; exact Blk.new w _ _)
  have X0 := Lib.hid hx0
  clear hW hB hbox hx0
  have ac := A0.out.cell
  go_wp2_with (first
    | (go_at_call 177; (with_reducible refine (szSpanS_any x.books v1 left _ (H1.out.ext X0.out) (by omega) (by omega)).mono ?_); rintro e w1 ⟨rfl, hx⟩; have P1 := Lib.hid (pays_szSpanS x.books left (by omega)); have X1 := Lib.hid (X0.out.trans hx); have A1 := Lib.hid (A0.out.ext hx); clear hx X0 A0 ac; have ac := A1.out.cell))
  all_goals (go_ret; refine ⟨ret_int ?_, by first | exact X1.out | exact X0.out⟩; (try have q1 := P1.out); simp only [szNode]; all_goals (repeat' split); all_goals omega)

set_option maxHeartbeats 4000000 in
theorem szUse_any {S : Nat → Prop} (x : Use) (cs : List Value) (left : Int) (w : World) (h : EUse.rel S w cs x) (h0 : 0 ≤ left) (h1 : left ≤ 1048576) :
    Calls Try.prog 144 #[.agg cs.toArray, .int .i64 left] w fun e w' => e = .returned (.int .i64 (szUse x left)) ∧ Ext w w' := by
  obtain ⟨rfl, hi⟩ := h
  simp only [FitUse, Str] at hi
  have hz : x.owner.size ≤ maxLen := by simp only [hi]
  unfold maxLen at hz
  have HI := Lib.hid hi
  clear hi
  simp only [cellsUse]
  go_enter Try.func144, Try.ntmps144
  go_upto_region 1 with (fail)
  obtain ⟨W, B, hW, hB, hx0, hbox⟩ := box_new w #[.int .i64 x.label.level, .int .i64 x.label.set, .string x.owner, .int .i64 x.used] 161
  rw [← hW, ← hB]
  have A0 : Hid (Blk W B 161 #[.int .i64 x.label.level, .int .i64 x.label.set, .string x.owner, .int .i64 x.used]) := Lib.hid (by rw [hW, hB]; exact Blk.new w _ _)
  have X0 := Lib.hid hx0
  clear hW hB hbox hx0
  have ac := A0.out.cell
  go_wp2_with fail
  all_goals (go_ret; refine ⟨ret_int ?_, by first | exact X0.out⟩; skip; simp only [szUse, pay]; all_goals (repeat' split); all_goals omega)

set_option maxHeartbeats 4000000 in
set_option maxRecDepth 50000 in
theorem szInt64S_any {S : Nat → Prop} (l : List Int) (v : Value) (left : Int) (w : World) (h : Rd EInt S w v l) (h0 : 0 ≤ left) (h1 : left ≤ 1048576) :
    Calls Try.prog 101 #[v, .int .i64 left] w fun e w' => e = .returned (.int .i64 (szInt64S l left)) ∧ Ext w w' := by
  obtain ⟨A, c, rfl, h2, h3, hk⟩ := h.open_
  unfold maxLen at h3
  have HK := Lib.hid hk
  clear hk h
  go_enter Try.func101, Try.ntmps101
  go_wp2
  all_goals (go_ret; refine ⟨ret_int ?_, Ext.refl _⟩; simp only [szInt64S, pay]; split <;> omega)

set_option maxHeartbeats 4000000 in
theorem szTask_any {S : Nat → Prop} (x : Task) (cs : List Value) (left : Int) (w : World) (h : ETask.rel S w cs x) (h0 : 0 ≤ left) (h1 : left ≤ 1048576) :
    Calls Try.prog 33 #[.agg cs.toArray, .int .i64 left] w fun e w' => e = .returned (.int .i64 (szTask x left)) ∧ Ext w w' := by
  obtain ⟨v1, rfl, hi, h_1⟩ := h
  have H1 := Lib.hid h_1
  clear h_1
  simp only [FitTask, Str] at hi
  have hz : x.owner.size ≤ maxLen := by simp only [hi]
  unfold maxLen at hz
  have HI := Lib.hid hi
  clear hi
  simp only [cellsTask]
  go_enter Try.func33, Try.ntmps33
  go_upto_region 1 with (fail)
  obtain ⟨W, B, hW, hB, hx0, hbox⟩ := box_new w #[.int .i64 x.label.level, .int .i64 x.label.set, .int .i64 x.id, .string x.owner, .int .i64 x.need, .int .i64 x.long, .int .i64 x.prio, .int .i64 x.under.level, .int .i64 x.under.set, .int .i64 x.after, .int .i64 x.born, .int .i64 x.state, .int .i64 x.start, v1] 41
  rw [← hW, ← hB]
  have A0 : Hid (Blk W B 41 #[.int .i64 x.label.level, .int .i64 x.label.set, .int .i64 x.id, .string x.owner, .int .i64 x.need, .int .i64 x.long, .int .i64 x.prio, .int .i64 x.under.level, .int .i64 x.under.set, .int .i64 x.after, .int .i64 x.born, .int .i64 x.state, .int .i64 x.start, v1]) := Lib.hid (by rw [hW, hB]; exact Blk.new w _ _)
  have X0 := Lib.hid hx0
  clear hW hB hbox hx0
  have ac := A0.out.cell
  go_wp2_with (first
    | (go_at_call 101; (with_reducible refine (szInt64S_any x.nodes v1 (left - (x.owner.size : Int)) _ (H1.out.ext X0.out) (by omega) (by omega)).mono ?_); rintro e w1 ⟨rfl, hx⟩; have P1 := Lib.hid (pays_szInt64S x.nodes (left - (x.owner.size : Int)) (by omega)); have X1 := Lib.hid (X0.out.trans hx); have A1 := Lib.hid (A0.out.ext hx); clear hx X0 A0 ac; have ac := A1.out.cell))
  all_goals (go_ret; refine ⟨ret_int ?_, by first | exact X1.out | exact X0.out⟩; (try have q1 := P1.out); simp only [szTask, payThen, pay]; all_goals (repeat' split); all_goals omega)

set_option maxHeartbeats 4000000 in
set_option maxRecDepth 50000 in
theorem szLabelS_any {S : Nat → Prop} (l : List Label) (v : Value) (left : Int) (w : World) (h : Rd ELabel S w v l) (h0 : 0 ≤ left) (h1 : left ≤ 1048576) :
    Calls Try.prog 215 #[v, .int .i64 left] w fun e w' => e = .returned (.int .i64 (szLabelS l left)) ∧ Ext w w' := by
  obtain ⟨A, c, rfl, h2, h3, hk⟩ := h.open_
  unfold maxLen at h3
  have HK := Lib.hid hk
  clear hk h
  go_enter Try.func215, Try.ntmps215
  go_wp2
  all_goals (go_ret; refine ⟨ret_int ?_, Ext.refl _⟩; simp only [szLabelS, pay]; split <;> omega)

set_option maxHeartbeats 4000000 in
set_option maxRecDepth 50000 in
theorem szLabelSS_any {S : Nat → Prop} (l : List (List Label)) (v : Value) (left : Int) (w : World) (h : Rd (ERow ELabel) S w v l) (h0 : 0 ≤ left) (h1 : left ≤ 1048576) :
    Calls Try.prog 160 #[v, .int .i64 left] w fun e w' => e = .returned (.int .i64 (szLabelSS l left)) ∧ Ext w w' := by
  obtain ⟨A, c, rfl, h2, h3, hk⟩ := h.open_
  unfold maxLen at h3
  have HK := Lib.hid hk
  clear hk h
  by_cases hp : left - (l.length : Int) < 0
  · go_enter Try.func160, Try.ntmps160
    go_wp2_with fail
    go_ret
    exact ⟨ret_int (by rw [szLabelSS, pay_neg hp, then_neg]), Ext.refl _⟩
  · have hq : 0 ≤ left - (l.length : Int) := by omega
    clear hp
    have HF : Hid (szLabelSS l left = payList szLabelS l (left - l.length)) := Lib.hid (by rw [szLabelSS, pay_pos hq, then_pos hq])
    go_enter Try.func160, Try.ntmps160
    go_wp2_with fail
    go_loopw [1, 5] (fun r i w' => ∃ (k : Nat) (q : Int), k ≤ l.length ∧ i = .int .i64 k ∧ r = .int .i64 q ∧ 0 ≤ q ∧ q ≤ 1048576 ∧ PaidTo szLabelS l (left - l.length) q k ∧ Ext w w') (fun _ i _ => l.length - (intOf i).toNat)
    case atStart => exact ⟨0, left - l.length, by omega, rfl, rfl, hq, by omega, by rw [PaidTo, List.drop_zero], Ext.refl _⟩
    case round =>
      obtain ⟨k, q, hk1, rfl, rfl, q0, q1, hd, hx⟩ := hrel
      have HD : Hid (payList szLabelS (l.drop k) q = payList szLabelS l (left - l.length)) := Lib.hid hd
      have HX := Lib.hid hx
      clear hd
      by_cases hlt : k < l.length
      · obtain ⟨b, o, cs, rfl, hb, hr, hc⟩ := HK.out k hlt
        obtain ⟨v, rfl, hr⟩ := hr
        have c0 := Ext.some hx (hc 0 _ rfl)
        have HR := Lib.hid (hr.ext hx)
        simp only [ERow, Nat.mul_one, Nat.add_zero] at c0
        clear hc hr hx
        have HP := Lib.hid (pays_szLabelS (nth l k) q q0)
        by_cases hneg : szLabelS (nth l k) q < 0
        · have HN : Hid (payList szLabelS l (left - l.length) = -1) := Lib.hid (by rw [← HD.out, drop_nth hlt]; simp only [payList]; rw [if_pos hneg])
          go_wp2_with (first | (go_at_call 215; refine (szLabelS_any (nth l k) v q _ HR.out q0 q1).mono ?_; rintro e w1 ⟨rfl, hx1⟩; have HX1 := Lib.hid hx1; clear hx1))
          go_ret
          exact ⟨ret_int (by rw [HF.out, HN.out]), HX.out.trans HX1.out⟩
        · have hpos : 0 ≤ szLabelS (nth l k) q := by omega
          clear hneg
          have HN : Hid (payList szLabelS (l.drop (k + 1)) (szLabelS (nth l k) q) = payList szLabelS l (left - l.length)) := Lib.hid (by rw [← HD.out, drop_nth hlt]; simp only [payList]; rw [if_neg (by omega)])
          go_wp2_with (first | (go_at_call 215; refine (szLabelS_any (nth l k) v q _ HR.out q0 q1).mono ?_; rintro e w1 ⟨rfl, hx1⟩; have HX1 := Lib.hid hx1; clear hx1))
          go_roundw
          case rel => exact ⟨k + 1, _, by omega, by go_num, rfl, hpos, by have := HP.out; omega, HN.out, HX.out.trans HX1.out⟩
          case measure => simp [intOf]; omega
      · obtain rfl : k = l.length := by omega
        have HE : Hid (payList szLabelS l (left - l.length) = q) := Lib.hid (by rw [← HD.out, List.drop_length]; rfl)
        go_wp2_with fail
        go_ret
        exact ⟨ret_int (by rw [HF.out, HE.out]), HX.out⟩

set_option maxHeartbeats 4000000 in
set_option maxRecDepth 50000 in
theorem szPairS_any {S : Nat → Prop} (l : List Pair) (v : Value) (left : Int) (w : World) (h : Rd EPair S w v l) (h0 : 0 ≤ left) (h1 : left ≤ 1048576) :
    Calls Try.prog 161 #[v, .int .i64 left] w fun e w' => e = .returned (.int .i64 (szPairS l left)) ∧ Ext w w' := by
  obtain ⟨A, c, rfl, h2, h3, hk⟩ := h.open_
  unfold maxLen at h3
  have HK := Lib.hid hk
  clear hk h
  go_enter Try.func161, Try.ntmps161
  go_wp2
  all_goals (go_ret; refine ⟨ret_int ?_, Ext.refl _⟩; simp only [szPairS, pay]; split <;> omega)

set_option maxHeartbeats 4000000 in
set_option maxRecDepth 50000 in
theorem szQuotaS_any {S : Nat → Prop} (l : List Quota) (v : Value) (left : Int) (w : World) (h : Rd EQuota S w v l) (h0 : 0 ≤ left) (h1 : left ≤ 1048576) :
    Calls Try.prog 162 #[v, .int .i64 left] w fun e w' => e = .returned (.int .i64 (szQuotaS l left)) ∧ Ext w w' := by
  obtain ⟨A, c, rfl, h2, h3, hk⟩ := h.open_
  unfold maxLen at h3
  have HK := Lib.hid hk
  clear hk h
  go_enter Try.func162, Try.ntmps162
  go_wp2
  all_goals (go_ret; refine ⟨ret_int ?_, Ext.refl _⟩; simp only [szQuotaS, pay]; split <;> omega)

set_option maxHeartbeats 4000000 in
theorem szConfig_any {S : Nat → Prop} (x : Config) (cs : List Value) (left : Int) (w : World) (h : EConfig.rel S w cs x) (h0 : 0 ≤ left) (h1 : left ≤ 1048576) :
    Calls Try.prog 75 #[.agg cs.toArray, .int .i64 left] w fun e w' => e = .returned (.int .i64 (szConfig x left)) ∧ Ext w w' := by
  obtain ⟨v1, v2, v3, rfl, hi, h_1, h_2, h_3⟩ := h
  have H1 := Lib.hid h_1
  have H2 := Lib.hid h_2
  have H3 := Lib.hid h_3
  clear h_1 h_2 h_3
  have HI := Lib.hid hi
  clear hi
  simp only [cellsConfig]
  go_enter Try.func75, Try.ntmps75
  go_upto_region 1 with (fail)
  obtain ⟨W, B, hW, hB, hx0, hbox⟩ := box_new w #[v1, v2, v3, .int .i64 x.half] 97
  rw [← hW, ← hB]
  have A0 : Hid (Blk W B 97 #[v1, v2, v3, .int .i64 x.half]) := Lib.hid (by rw [hW, hB]; exact Blk.new w _ _)
  have X0 := Lib.hid hx0
  clear hW hB hbox hx0
  have ac := A0.out.cell
  go_wp2_with (first
    | (go_at_call 160; (with_reducible refine (szLabelSS_any x.nodes v1 left _ (H1.out.ext X0.out) (by omega) (by omega)).mono ?_); rintro e w1 ⟨rfl, hx⟩; have P1 := Lib.hid (pays_szLabelSS x.nodes left (by omega)); have X1 := Lib.hid (X0.out.trans hx); have A1 := Lib.hid (A0.out.ext hx); clear hx X0 A0 ac; have ac := A1.out.cell)
    | (go_at_call 161; (with_reducible refine (szPairS_any x.pairs v2 (szLabelSS x.nodes left) _ (H2.out.ext X1.out) (by have q1 := P1.out; omega) (by have q1 := P1.out; omega)).mono ?_); rintro e w2 ⟨rfl, hx⟩; have P2 := Lib.hid (pays_szPairS x.pairs (szLabelSS x.nodes left) (by have q1 := P1.out; omega)); have X2 := Lib.hid (X1.out.trans hx); have A2 := Lib.hid (A1.out.ext hx); clear hx X1 A1 ac; have ac := A2.out.cell)
    | (go_at_call 162; (with_reducible refine (szQuotaS_any x.quotas v3 (szPairS x.pairs (szLabelSS x.nodes left)) _ (H3.out.ext X2.out) (by have q1 := P1.out; have q2 := P2.out; omega) (by have q1 := P1.out; have q2 := P2.out; omega)).mono ?_); rintro e w3 ⟨rfl, hx⟩; have P3 := Lib.hid (pays_szQuotaS x.quotas (szPairS x.pairs (szLabelSS x.nodes left)) (by have q1 := P1.out; have q2 := P2.out; omega)); have X3 := Lib.hid (X2.out.trans hx); have A3 := Lib.hid (A2.out.ext hx); clear hx X2 A2 ac; have ac := A3.out.cell))
  all_goals (go_ret; refine ⟨ret_int ?_, by first | exact X3.out | exact X2.out | exact X1.out | exact X0.out⟩; (try have q1 := P1.out); (try have q2 := P2.out); (try have q3 := P3.out); simp only [szConfig, payThen]; all_goals (repeat' split); all_goals omega)

set_option maxHeartbeats 4000000 in
set_option maxRecDepth 50000 in
theorem szNodeS_any {S : Nat → Prop} (l : List Node) (v : Value) (left : Int) (w : World) (h : Rd ENode S w v l) (h0 : 0 ≤ left) (h1 : left ≤ 1048576) :
    Calls Try.prog 22 #[v, .int .i64 left] w fun e w' => e = .returned (.int .i64 (szNodeS l left)) ∧ Ext w w' := by
  obtain ⟨A, c, rfl, h2, h3, hk⟩ := h.open_
  unfold maxLen at h3
  have HK := Lib.hid hk
  clear hk h
  by_cases hp : left - (l.length : Int) < 0
  · go_enter Try.func22, Try.ntmps22
    go_wp2_with fail
    go_ret
    exact ⟨ret_int (by rw [szNodeS, pay_neg hp, then_neg]), Ext.refl _⟩
  · have hq : 0 ≤ left - (l.length : Int) := by omega
    clear hp
    have HF : Hid (szNodeS l left = payList szNode l (left - l.length)) := Lib.hid (by rw [szNodeS, pay_pos hq, then_pos hq])
    go_enter Try.func22, Try.ntmps22
    go_wp2_with fail
    go_loopw [1, 5] (fun r i w' => ∃ (k : Nat) (q : Int), k ≤ l.length ∧ i = .int .i64 k ∧ r = .int .i64 q ∧ 0 ≤ q ∧ q ≤ 1048576 ∧ PaidTo szNode l (left - l.length) q k ∧ Ext w w') (fun _ i _ => l.length - (intOf i).toNat)
    case atStart => exact ⟨0, left - l.length, by omega, rfl, rfl, hq, by omega, by rw [PaidTo, List.drop_zero], Ext.refl _⟩
    case round =>
      obtain ⟨k, q, hk1, rfl, rfl, q0, q1, hd, hx⟩ := hrel
      have HD : Hid (payList szNode (l.drop k) q = payList szNode l (left - l.length)) := Lib.hid hd
      have HX := Lib.hid hx
      clear hd
      by_cases hlt : k < l.length
      · obtain ⟨b, o, cs, rfl, hb, hr, hc⟩ := HK.out k hlt
        have HR := Lib.hid (ENode.keep (hx.same S) hr)
        have HC := Lib.hid (hx.range hc)
        have HI : Hid ((Try.prog.info? 121).map (·.size) = some cs.length) := Lib.hid (by rw [ENode.len hr]; kernel_rfl)
        clear hr hc hx
        have HP := Lib.hid (pays_szNode (nth l k) q q0)
        by_cases hneg : szNode (nth l k) q < 0
        · have HN : Hid (payList szNode l (left - l.length) = -1) := Lib.hid (by rw [← HD.out, drop_nth hlt]; simp only [payList]; rw [if_pos hneg])
          go_wp2_with (first | (go_at_call 90; refine (szNode_any (nth l k) cs q _ HR.out q0 q1).mono ?_; rintro e w1 ⟨rfl, hx1⟩; have HX1 := Lib.hid hx1; clear hx1) | (refine wpList_load_mid rfl 121 _ rfl b (o + k * 2) rfl cs _ HC.out Try.underlying121 rfl HI.out ?_))
          go_ret
          exact ⟨ret_int (by rw [HF.out, HN.out]), HX.out.trans HX1.out⟩
        · have hpos : 0 ≤ szNode (nth l k) q := by omega
          clear hneg
          have HN : Hid (payList szNode (l.drop (k + 1)) (szNode (nth l k) q) = payList szNode l (left - l.length)) := Lib.hid (by rw [← HD.out, drop_nth hlt]; simp only [payList]; rw [if_neg (by omega)])
          go_wp2_with (first | (go_at_call 90; refine (szNode_any (nth l k) cs q _ HR.out q0 q1).mono ?_; rintro e w1 ⟨rfl, hx1⟩; have HX1 := Lib.hid hx1; clear hx1) | (refine wpList_load_mid rfl 121 _ rfl b (o + k * 2) rfl cs _ HC.out Try.underlying121 rfl HI.out ?_))
          go_roundw
          case rel => exact ⟨k + 1, _, by omega, by go_num, rfl, hpos, by have := HP.out; omega, HN.out, HX.out.trans HX1.out⟩
          case measure => simp [intOf]; omega
      · obtain rfl : k = l.length := by omega
        have HE : Hid (payList szNode l (left - l.length) = q) := Lib.hid (by rw [← HD.out, List.drop_length]; rfl)
        go_wp2_with fail
        go_ret
        exact ⟨ret_int (by rw [HF.out, HE.out]), HX.out⟩

set_option maxHeartbeats 4000000 in
set_option maxRecDepth 50000 in
theorem szTaskS_any {S : Nat → Prop} (l : List Task) (v : Value) (left : Int) (w : World) (h : Rd ETask S w v l) (h0 : 0 ≤ left) (h1 : left ≤ 1048576) :
    Calls Try.prog 41 #[v, .int .i64 left] w fun e w' => e = .returned (.int .i64 (szTaskS l left)) ∧ Ext w w' := by
  obtain ⟨A, c, rfl, h2, h3, hk⟩ := h.open_
  unfold maxLen at h3
  have HK := Lib.hid hk
  clear hk h
  by_cases hp : left - (l.length : Int) < 0
  · go_enter Try.func41, Try.ntmps41
    go_wp2_with fail
    go_ret
    exact ⟨ret_int (by rw [szTaskS, pay_neg hp, then_neg]), Ext.refl _⟩
  · have hq : 0 ≤ left - (l.length : Int) := by omega
    clear hp
    have HF : Hid (szTaskS l left = payList szTask l (left - l.length)) := Lib.hid (by rw [szTaskS, pay_pos hq, then_pos hq])
    go_enter Try.func41, Try.ntmps41
    go_wp2_with fail
    go_loopw [1, 5] (fun r i w' => ∃ (k : Nat) (q : Int), k ≤ l.length ∧ i = .int .i64 k ∧ r = .int .i64 q ∧ 0 ≤ q ∧ q ≤ 1048576 ∧ PaidTo szTask l (left - l.length) q k ∧ Ext w w') (fun _ i _ => l.length - (intOf i).toNat)
    case atStart => exact ⟨0, left - l.length, by omega, rfl, rfl, hq, by omega, by rw [PaidTo, List.drop_zero], Ext.refl _⟩
    case round =>
      obtain ⟨k, q, hk1, rfl, rfl, q0, q1, hd, hx⟩ := hrel
      have HD : Hid (payList szTask (l.drop k) q = payList szTask l (left - l.length)) := Lib.hid hd
      have HX := Lib.hid hx
      clear hd
      by_cases hlt : k < l.length
      · obtain ⟨b, o, cs, rfl, hb, hr, hc⟩ := HK.out k hlt
        have HR := Lib.hid (ETask.keep (hx.same S) hr)
        have HC := Lib.hid (hx.range hc)
        have HI : Hid ((Try.prog.info? 41).map (·.size) = some cs.length) := Lib.hid (by rw [ETask.len hr]; kernel_rfl)
        clear hr hc hx
        have HP := Lib.hid (pays_szTask (nth l k) q q0)
        by_cases hneg : szTask (nth l k) q < 0
        · have HN : Hid (payList szTask l (left - l.length) = -1) := Lib.hid (by rw [← HD.out, drop_nth hlt]; simp only [payList]; rw [if_pos hneg])
          go_wp2_with (first | (go_at_call 33; refine (szTask_any (nth l k) cs q _ HR.out q0 q1).mono ?_; rintro e w1 ⟨rfl, hx1⟩; have HX1 := Lib.hid hx1; clear hx1) | (refine wpList_load_mid rfl 41 _ rfl b (o + k * 14) rfl cs _ HC.out Try.underlying41 rfl HI.out ?_))
          go_ret
          exact ⟨ret_int (by rw [HF.out, HN.out]), HX.out.trans HX1.out⟩
        · have hpos : 0 ≤ szTask (nth l k) q := by omega
          clear hneg
          have HN : Hid (payList szTask (l.drop (k + 1)) (szTask (nth l k) q) = payList szTask l (left - l.length)) := Lib.hid (by rw [← HD.out, drop_nth hlt]; simp only [payList]; rw [if_neg (by omega)])
          go_wp2_with (first | (go_at_call 33; refine (szTask_any (nth l k) cs q _ HR.out q0 q1).mono ?_; rintro e w1 ⟨rfl, hx1⟩; have HX1 := Lib.hid hx1; clear hx1) | (refine wpList_load_mid rfl 41 _ rfl b (o + k * 14) rfl cs _ HC.out Try.underlying41 rfl HI.out ?_))
          go_roundw
          case rel => exact ⟨k + 1, _, by omega, by go_num, rfl, hpos, by have := HP.out; omega, HN.out, HX.out.trans HX1.out⟩
          case measure => simp [intOf]; omega
      · obtain rfl : k = l.length := by omega
        have HE : Hid (payList szTask l (left - l.length) = q) := Lib.hid (by rw [← HD.out, List.drop_length]; rfl)
        go_wp2_with fail
        go_ret
        exact ⟨ret_int (by rw [HF.out, HE.out]), HX.out⟩

set_option maxHeartbeats 4000000 in
set_option maxRecDepth 50000 in
theorem szUseS_any {S : Nat → Prop} (l : List Use) (v : Value) (left : Int) (w : World) (h : Rd EUse S w v l) (h0 : 0 ≤ left) (h1 : left ≤ 1048576) :
    Calls Try.prog 68 #[v, .int .i64 left] w fun e w' => e = .returned (.int .i64 (szUseS l left)) ∧ Ext w w' := by
  obtain ⟨A, c, rfl, h2, h3, hk⟩ := h.open_
  unfold maxLen at h3
  have HK := Lib.hid hk
  clear hk h
  by_cases hp : left - (l.length : Int) < 0
  · go_enter Try.func68, Try.ntmps68
    go_wp2_with fail
    go_ret
    exact ⟨ret_int (by rw [szUseS, pay_neg hp, then_neg]), Ext.refl _⟩
  · have hq : 0 ≤ left - (l.length : Int) := by omega
    clear hp
    have HF : Hid (szUseS l left = payList szUse l (left - l.length)) := Lib.hid (by rw [szUseS, pay_pos hq, then_pos hq])
    go_enter Try.func68, Try.ntmps68
    go_wp2_with fail
    go_loopw [1, 5] (fun r i w' => ∃ (k : Nat) (q : Int), k ≤ l.length ∧ i = .int .i64 k ∧ r = .int .i64 q ∧ 0 ≤ q ∧ q ≤ 1048576 ∧ PaidTo szUse l (left - l.length) q k ∧ Ext w w') (fun _ i _ => l.length - (intOf i).toNat)
    case atStart => exact ⟨0, left - l.length, by omega, rfl, rfl, hq, by omega, by rw [PaidTo, List.drop_zero], Ext.refl _⟩
    case round =>
      obtain ⟨k, q, hk1, rfl, rfl, q0, q1, hd, hx⟩ := hrel
      have HD : Hid (payList szUse (l.drop k) q = payList szUse l (left - l.length)) := Lib.hid hd
      have HX := Lib.hid hx
      clear hd
      by_cases hlt : k < l.length
      · obtain ⟨b, o, cs, rfl, hb, hr, hc⟩ := HK.out k hlt
        have HR := Lib.hid (EUse.keep (hx.same S) hr)
        have HC := Lib.hid (hx.range hc)
        have HI : Hid ((Try.prog.info? 161).map (·.size) = some cs.length) := Lib.hid (by rw [EUse.len hr]; kernel_rfl)
        clear hr hc hx
        have HP := Lib.hid (pays_szUse (nth l k) q q0)
        by_cases hneg : szUse (nth l k) q < 0
        · have HN : Hid (payList szUse l (left - l.length) = -1) := Lib.hid (by rw [← HD.out, drop_nth hlt]; simp only [payList]; rw [if_pos hneg])
          go_wp2_with (first | (go_at_call 144; refine (szUse_any (nth l k) cs q _ HR.out q0 q1).mono ?_; rintro e w1 ⟨rfl, hx1⟩; have HX1 := Lib.hid hx1; clear hx1) | (refine wpList_load_mid rfl 161 _ rfl b (o + k * 4) rfl cs _ HC.out Try.underlying161 rfl HI.out ?_))
          go_ret
          exact ⟨ret_int (by rw [HF.out, HN.out]), HX.out.trans HX1.out⟩
        · have hpos : 0 ≤ szUse (nth l k) q := by omega
          clear hneg
          have HN : Hid (payList szUse (l.drop (k + 1)) (szUse (nth l k) q) = payList szUse l (left - l.length)) := Lib.hid (by rw [← HD.out, drop_nth hlt]; simp only [payList]; rw [if_neg (by omega)])
          go_wp2_with (first | (go_at_call 144; refine (szUse_any (nth l k) cs q _ HR.out q0 q1).mono ?_; rintro e w1 ⟨rfl, hx1⟩; have HX1 := Lib.hid hx1; clear hx1) | (refine wpList_load_mid rfl 161 _ rfl b (o + k * 4) rfl cs _ HC.out Try.underlying161 rfl HI.out ?_))
          go_roundw
          case rel => exact ⟨k + 1, _, by omega, by go_num, rfl, hpos, by have := HP.out; omega, HN.out, HX.out.trans HX1.out⟩
          case measure => simp [intOf]; omega
      · obtain rfl : k = l.length := by omega
        have HE : Hid (payList szUse l (left - l.length) = q) := Lib.hid (by rw [← HD.out, List.drop_length]; rfl)
        go_wp2_with fail
        go_ret
        exact ⟨ret_int (by rw [HF.out, HE.out]), HX.out⟩

end Go.Proofs.Ytalnbddpkkkpeaa

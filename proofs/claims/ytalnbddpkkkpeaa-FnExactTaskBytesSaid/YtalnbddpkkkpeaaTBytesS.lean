/- The walk of the reference's TaskBytes. Printed by wip/tbs.py. -/
import Derived.Test.YtalnbddpkkkpeaaTBytesI
import Derived.Test.YtalnbddpkkkpeaaTaskRS
namespace Go.Proofs.Ytalnbddpkkkpeaa
open Go.RowKit
attribute [local irreducible] wpQuiet

set_option maxHeartbeats 16000000 in
set_option maxRecDepth 100000 in
theorem specTaskBytes_any {S : Nat → Prop} (x : Task) (cs : List Value) (w : World) (h : ETask.rel S w cs x) :
    Calls Try.prog 34 #[.agg cs.toArray] w fun e w' => e = .returned (.string (taskBytes x)) ∧ Ext w w' := by
  obtain ⟨v1, rfl, hfit, hrd⟩ := h
  obtain ⟨A1, d1, rfl, nn1, mm1, hk⟩ := hrd.open_
  unfold maxLen at mm1
  have HK := Lib.hid hk
  have HF := Lib.hid hfit
  have HD := Lib.hid hrd
  clear hfit hrd hk
  simp only [cellsTask]
  go_enter Try.func34, Try.ntmps34
  go_upto_region 1 with (fail)
  obtain ⟨W, B, hW, hB, hx0, b0⟩ : ∃ W B, W = w.alloc (.cells #[.int .i64 x.label.level, .int .i64 x.label.set, .int .i64 x.id, .string x.owner, .int .i64 x.need, .int .i64 x.long, .int .i64 x.prio, .int .i64 x.under.level, .int .i64 x.under.set, .int .i64 x.after, .int .i64 x.born, .int .i64 x.state, .int .i64 x.start, .slice A1 x.nodes.length d1] 46) ∧ B = w.heap.size ∧ Ext w W ∧ Blk W B 46 #[.int .i64 x.label.level, .int .i64 x.label.set, .int .i64 x.id, .string x.owner, .int .i64 x.need, .int .i64 x.long, .int .i64 x.prio, .int .i64 x.under.level, .int .i64 x.under.set, .int .i64 x.after, .int .i64 x.born, .int .i64 x.state, .int .i64 x.start, .slice A1 x.nodes.length d1] := ⟨_, _, rfl, rfl, (Ext.refl w).alloc _, Blk.new _ _ _⟩
  rw [← hW, ← hB]
  have B0 := Lib.hid b0
  have X0 := Lib.hid hx0
  clear hW hB hx0 b0
  have ac := B0.out.cell
  go_wp2_with fail
  refine (specTaskRight_any (S := S) x _ _ (rel_Task HF.out (HD.out.ext X0.out))).mono ?_
  rintro e w1 ⟨rfl, hx⟩
  have X1 := Lib.hid (X0.out.trans hx)
  have B1 := Lib.hid (B0.out.ext hx)
  clear hx ac
  cases ht : taskRight x with
  | false =>
    have HE : Hid (taskBytes x = ⟨#[]⟩) := Lib.hid (by rw [taskBytes, ht]; rfl)
    clear ht
    go_wp2_with fail
    go_ret
    exact ⟨by rw [HE.out]; rfl, X1.out⟩
  | true =>
    have HE : Hid (taskBytes x = putNumsFrom (((((((((((((putNum x.label.level ++ putNum x.label.set) ++ putNum x.id) ++ putText x.owner) ++ putNum x.need) ++ putNum x.long) ++ putNum x.prio) ++ putNum x.under.level) ++ putNum x.under.set) ++ putNum x.after) ++ putNum x.born) ++ putNum x.state) ++ putNum x.start) ++ putNum (x.nodes.length : Int)) x.nodes) := Lib.hid (by
      rw [taskBytes, if_pos ht]
      simp only [taskText, taskHead, headNums, restNums, putNumsFrom, bytes_nil])
    have hn6 := taskRight_nodes ht
    clear ht
    have HI0 : Hid (I64 x.label.level) := Lib.hid (HF.out.1)
    have HI1 : Hid (I64 x.label.set) := Lib.hid (HF.out.2.1)
    have HI2 : Hid (I64 x.id) := Lib.hid (HF.out.2.2.1)
    have HI4 : Hid (I64 x.need) := Lib.hid (HF.out.2.2.2.2.1)
    have HI5 : Hid (I64 x.long) := Lib.hid (HF.out.2.2.2.2.2.1)
    have HI6 : Hid (I64 x.prio) := Lib.hid (HF.out.2.2.2.2.2.2.1)
    have HI7 : Hid (I64 x.under.level) := Lib.hid (HF.out.2.2.2.2.2.2.2.1)
    have HI8 : Hid (I64 x.under.set) := Lib.hid (HF.out.2.2.2.2.2.2.2.2.1)
    have HI9 : Hid (I64 x.after) := Lib.hid (HF.out.2.2.2.2.2.2.2.2.2.1)
    have HI10 : Hid (I64 x.born) := Lib.hid (HF.out.2.2.2.2.2.2.2.2.2.2.1)
    have HI11 : Hid (I64 x.state) := Lib.hid (HF.out.2.2.2.2.2.2.2.2.2.2.2.1)
    have HI12 : Hid (I64 x.start) := Lib.hid (HF.out.2.2.2.2.2.2.2.2.2.2.2.2)
    have HI13 : Hid (I64 (x.nodes.length : Int)) := Lib.hid (by unfold I64; omega)
    have HO : Hid (Str x.owner) := Lib.hid (HF.out.2.2.2.1)
    have p0 := putNum_size HI0.out
    have p1 := putNum_size HI1.out
    have p2 := putNum_size HI2.out
    have p4 := putNum_size HI4.out
    have p5 := putNum_size HI5.out
    have p6 := putNum_size HI6.out
    have p7 := putNum_size HI7.out
    have p8 := putNum_size HI8.out
    have p9 := putNum_size HI9.out
    have p10 := putNum_size HI10.out
    have p11 := putNum_size HI11.out
    have p12 := putNum_size HI12.out
    have p13 := putNum_size HI13.out
    have p3 := text_size (t := x.owner)
    have z0 : (putNum x.label.level).size ≤ 10 := p0
    have k0 : ¬ (9223372036854775807 < ((putNum x.label.level).size : Int) + ((putNum x.label.set).size : Int)) := by omega
    have l0 : ((putNum x.label.level).size : Int) + ((putNum x.label.set).size : Int) ≤ 9223372036854775807 := by omega
    have m0 : ¬ (9223372036854775807 < (putNum x.label.level).size + (putNum x.label.set).size) := by omega
    have n0 : (putNum x.label.level).size + (putNum x.label.set).size ≤ 9223372036854775807 := by omega
    have z1 : ((putNum x.label.level ++ putNum x.label.set)).size ≤ 20 := by rw [size_app]; omega
    have k1 : ¬ (9223372036854775807 < ((putNum x.label.level).size : Int) + ((putNum x.label.set).size : Int) + ((putNum x.id).size : Int)) := by omega
    have l1 : ((putNum x.label.level).size : Int) + ((putNum x.label.set).size : Int) + ((putNum x.id).size : Int) ≤ 9223372036854775807 := by omega
    have m1 : ¬ (9223372036854775807 < (putNum x.label.level).size + (putNum x.label.set).size + (putNum x.id).size) := by omega
    have n1 : (putNum x.label.level).size + (putNum x.label.set).size + (putNum x.id).size ≤ 9223372036854775807 := by omega
    have z2 : (((putNum x.label.level ++ putNum x.label.set) ++ putNum x.id)).size ≤ 30 := by rw [size_app]; omega
    have k2 : ¬ (9223372036854775807 < ((putNum x.label.level).size : Int) + ((putNum x.label.set).size : Int) + ((putNum x.id).size : Int) + ((putText x.owner).size : Int)) := by omega
    have l2 : ((putNum x.label.level).size : Int) + ((putNum x.label.set).size : Int) + ((putNum x.id).size : Int) + ((putText x.owner).size : Int) ≤ 9223372036854775807 := by omega
    have m2 : ¬ (9223372036854775807 < (putNum x.label.level).size + (putNum x.label.set).size + (putNum x.id).size + (putText x.owner).size) := by omega
    have n2 : (putNum x.label.level).size + (putNum x.label.set).size + (putNum x.id).size + (putText x.owner).size ≤ 9223372036854775807 := by omega
    have z3 : ((((putNum x.label.level ++ putNum x.label.set) ++ putNum x.id) ++ putText x.owner)).size ≤ 8050 := by rw [size_app]; omega
    have k3 : ¬ (9223372036854775807 < ((putNum x.label.level).size : Int) + ((putNum x.label.set).size : Int) + ((putNum x.id).size : Int) + ((putText x.owner).size : Int) + ((putNum x.need).size : Int)) := by omega
    have l3 : ((putNum x.label.level).size : Int) + ((putNum x.label.set).size : Int) + ((putNum x.id).size : Int) + ((putText x.owner).size : Int) + ((putNum x.need).size : Int) ≤ 9223372036854775807 := by omega
    have m3 : ¬ (9223372036854775807 < (putNum x.label.level).size + (putNum x.label.set).size + (putNum x.id).size + (putText x.owner).size + (putNum x.need).size) := by omega
    have n3 : (putNum x.label.level).size + (putNum x.label.set).size + (putNum x.id).size + (putText x.owner).size + (putNum x.need).size ≤ 9223372036854775807 := by omega
    have z4 : (((((putNum x.label.level ++ putNum x.label.set) ++ putNum x.id) ++ putText x.owner) ++ putNum x.need)).size ≤ 8060 := by rw [size_app]; omega
    have k4 : ¬ (9223372036854775807 < ((putNum x.label.level).size : Int) + ((putNum x.label.set).size : Int) + ((putNum x.id).size : Int) + ((putText x.owner).size : Int) + ((putNum x.need).size : Int) + ((putNum x.long).size : Int)) := by omega
    have l4 : ((putNum x.label.level).size : Int) + ((putNum x.label.set).size : Int) + ((putNum x.id).size : Int) + ((putText x.owner).size : Int) + ((putNum x.need).size : Int) + ((putNum x.long).size : Int) ≤ 9223372036854775807 := by omega
    have m4 : ¬ (9223372036854775807 < (putNum x.label.level).size + (putNum x.label.set).size + (putNum x.id).size + (putText x.owner).size + (putNum x.need).size + (putNum x.long).size) := by omega
    have n4 : (putNum x.label.level).size + (putNum x.label.set).size + (putNum x.id).size + (putText x.owner).size + (putNum x.need).size + (putNum x.long).size ≤ 9223372036854775807 := by omega
    have z5 : ((((((putNum x.label.level ++ putNum x.label.set) ++ putNum x.id) ++ putText x.owner) ++ putNum x.need) ++ putNum x.long)).size ≤ 8070 := by rw [size_app]; omega
    have k5 : ¬ (9223372036854775807 < ((putNum x.label.level).size : Int) + ((putNum x.label.set).size : Int) + ((putNum x.id).size : Int) + ((putText x.owner).size : Int) + ((putNum x.need).size : Int) + ((putNum x.long).size : Int) + ((putNum x.prio).size : Int)) := by omega
    have l5 : ((putNum x.label.level).size : Int) + ((putNum x.label.set).size : Int) + ((putNum x.id).size : Int) + ((putText x.owner).size : Int) + ((putNum x.need).size : Int) + ((putNum x.long).size : Int) + ((putNum x.prio).size : Int) ≤ 9223372036854775807 := by omega
    have m5 : ¬ (9223372036854775807 < (putNum x.label.level).size + (putNum x.label.set).size + (putNum x.id).size + (putText x.owner).size + (putNum x.need).size + (putNum x.long).size + (putNum x.prio).size) := by omega
    have n5 : (putNum x.label.level).size + (putNum x.label.set).size + (putNum x.id).size + (putText x.owner).size + (putNum x.need).size + (putNum x.long).size + (putNum x.prio).size ≤ 9223372036854775807 := by omega
    have z6 : (((((((putNum x.label.level ++ putNum x.label.set) ++ putNum x.id) ++ putText x.owner) ++ putNum x.need) ++ putNum x.long) ++ putNum x.prio)).size ≤ 8080 := by rw [size_app]; omega
    have k6 : ¬ (9223372036854775807 < ((putNum x.label.level).size : Int) + ((putNum x.label.set).size : Int) + ((putNum x.id).size : Int) + ((putText x.owner).size : Int) + ((putNum x.need).size : Int) + ((putNum x.long).size : Int) + ((putNum x.prio).size : Int) + ((putNum x.under.level).size : Int)) := by omega
    have l6 : ((putNum x.label.level).size : Int) + ((putNum x.label.set).size : Int) + ((putNum x.id).size : Int) + ((putText x.owner).size : Int) + ((putNum x.need).size : Int) + ((putNum x.long).size : Int) + ((putNum x.prio).size : Int) + ((putNum x.under.level).size : Int) ≤ 9223372036854775807 := by omega
    have m6 : ¬ (9223372036854775807 < (putNum x.label.level).size + (putNum x.label.set).size + (putNum x.id).size + (putText x.owner).size + (putNum x.need).size + (putNum x.long).size + (putNum x.prio).size + (putNum x.under.level).size) := by omega
    have n6 : (putNum x.label.level).size + (putNum x.label.set).size + (putNum x.id).size + (putText x.owner).size + (putNum x.need).size + (putNum x.long).size + (putNum x.prio).size + (putNum x.under.level).size ≤ 9223372036854775807 := by omega
    have z7 : ((((((((putNum x.label.level ++ putNum x.label.set) ++ putNum x.id) ++ putText x.owner) ++ putNum x.need) ++ putNum x.long) ++ putNum x.prio) ++ putNum x.under.level)).size ≤ 8090 := by rw [size_app]; omega
    have k7 : ¬ (9223372036854775807 < ((putNum x.label.level).size : Int) + ((putNum x.label.set).size : Int) + ((putNum x.id).size : Int) + ((putText x.owner).size : Int) + ((putNum x.need).size : Int) + ((putNum x.long).size : Int) + ((putNum x.prio).size : Int) + ((putNum x.under.level).size : Int) + ((putNum x.under.set).size : Int)) := by omega
    have l7 : ((putNum x.label.level).size : Int) + ((putNum x.label.set).size : Int) + ((putNum x.id).size : Int) + ((putText x.owner).size : Int) + ((putNum x.need).size : Int) + ((putNum x.long).size : Int) + ((putNum x.prio).size : Int) + ((putNum x.under.level).size : Int) + ((putNum x.under.set).size : Int) ≤ 9223372036854775807 := by omega
    have m7 : ¬ (9223372036854775807 < (putNum x.label.level).size + (putNum x.label.set).size + (putNum x.id).size + (putText x.owner).size + (putNum x.need).size + (putNum x.long).size + (putNum x.prio).size + (putNum x.under.level).size + (putNum x.under.set).size) := by omega
    have n7 : (putNum x.label.level).size + (putNum x.label.set).size + (putNum x.id).size + (putText x.owner).size + (putNum x.need).size + (putNum x.long).size + (putNum x.prio).size + (putNum x.under.level).size + (putNum x.under.set).size ≤ 9223372036854775807 := by omega
    have z8 : (((((((((putNum x.label.level ++ putNum x.label.set) ++ putNum x.id) ++ putText x.owner) ++ putNum x.need) ++ putNum x.long) ++ putNum x.prio) ++ putNum x.under.level) ++ putNum x.under.set)).size ≤ 8100 := by rw [size_app]; omega
    have k8 : ¬ (9223372036854775807 < ((putNum x.label.level).size : Int) + ((putNum x.label.set).size : Int) + ((putNum x.id).size : Int) + ((putText x.owner).size : Int) + ((putNum x.need).size : Int) + ((putNum x.long).size : Int) + ((putNum x.prio).size : Int) + ((putNum x.under.level).size : Int) + ((putNum x.under.set).size : Int) + ((putNum x.after).size : Int)) := by omega
    have l8 : ((putNum x.label.level).size : Int) + ((putNum x.label.set).size : Int) + ((putNum x.id).size : Int) + ((putText x.owner).size : Int) + ((putNum x.need).size : Int) + ((putNum x.long).size : Int) + ((putNum x.prio).size : Int) + ((putNum x.under.level).size : Int) + ((putNum x.under.set).size : Int) + ((putNum x.after).size : Int) ≤ 9223372036854775807 := by omega
    have m8 : ¬ (9223372036854775807 < (putNum x.label.level).size + (putNum x.label.set).size + (putNum x.id).size + (putText x.owner).size + (putNum x.need).size + (putNum x.long).size + (putNum x.prio).size + (putNum x.under.level).size + (putNum x.under.set).size + (putNum x.after).size) := by omega
    have n8 : (putNum x.label.level).size + (putNum x.label.set).size + (putNum x.id).size + (putText x.owner).size + (putNum x.need).size + (putNum x.long).size + (putNum x.prio).size + (putNum x.under.level).size + (putNum x.under.set).size + (putNum x.after).size ≤ 9223372036854775807 := by omega
    have z9 : ((((((((((putNum x.label.level ++ putNum x.label.set) ++ putNum x.id) ++ putText x.owner) ++ putNum x.need) ++ putNum x.long) ++ putNum x.prio) ++ putNum x.under.level) ++ putNum x.under.set) ++ putNum x.after)).size ≤ 8110 := by rw [size_app]; omega
    have k9 : ¬ (9223372036854775807 < ((putNum x.label.level).size : Int) + ((putNum x.label.set).size : Int) + ((putNum x.id).size : Int) + ((putText x.owner).size : Int) + ((putNum x.need).size : Int) + ((putNum x.long).size : Int) + ((putNum x.prio).size : Int) + ((putNum x.under.level).size : Int) + ((putNum x.under.set).size : Int) + ((putNum x.after).size : Int) + ((putNum x.born).size : Int)) := by omega
    have l9 : ((putNum x.label.level).size : Int) + ((putNum x.label.set).size : Int) + ((putNum x.id).size : Int) + ((putText x.owner).size : Int) + ((putNum x.need).size : Int) + ((putNum x.long).size : Int) + ((putNum x.prio).size : Int) + ((putNum x.under.level).size : Int) + ((putNum x.under.set).size : Int) + ((putNum x.after).size : Int) + ((putNum x.born).size : Int) ≤ 9223372036854775807 := by omega
    have m9 : ¬ (9223372036854775807 < (putNum x.label.level).size + (putNum x.label.set).size + (putNum x.id).size + (putText x.owner).size + (putNum x.need).size + (putNum x.long).size + (putNum x.prio).size + (putNum x.under.level).size + (putNum x.under.set).size + (putNum x.after).size + (putNum x.born).size) := by omega
    have n9 : (putNum x.label.level).size + (putNum x.label.set).size + (putNum x.id).size + (putText x.owner).size + (putNum x.need).size + (putNum x.long).size + (putNum x.prio).size + (putNum x.under.level).size + (putNum x.under.set).size + (putNum x.after).size + (putNum x.born).size ≤ 9223372036854775807 := by omega
    have z10 : (((((((((((putNum x.label.level ++ putNum x.label.set) ++ putNum x.id) ++ putText x.owner) ++ putNum x.need) ++ putNum x.long) ++ putNum x.prio) ++ putNum x.under.level) ++ putNum x.under.set) ++ putNum x.after) ++ putNum x.born)).size ≤ 8120 := by rw [size_app]; omega
    have k10 : ¬ (9223372036854775807 < ((putNum x.label.level).size : Int) + ((putNum x.label.set).size : Int) + ((putNum x.id).size : Int) + ((putText x.owner).size : Int) + ((putNum x.need).size : Int) + ((putNum x.long).size : Int) + ((putNum x.prio).size : Int) + ((putNum x.under.level).size : Int) + ((putNum x.under.set).size : Int) + ((putNum x.after).size : Int) + ((putNum x.born).size : Int) + ((putNum x.state).size : Int)) := by omega
    have l10 : ((putNum x.label.level).size : Int) + ((putNum x.label.set).size : Int) + ((putNum x.id).size : Int) + ((putText x.owner).size : Int) + ((putNum x.need).size : Int) + ((putNum x.long).size : Int) + ((putNum x.prio).size : Int) + ((putNum x.under.level).size : Int) + ((putNum x.under.set).size : Int) + ((putNum x.after).size : Int) + ((putNum x.born).size : Int) + ((putNum x.state).size : Int) ≤ 9223372036854775807 := by omega
    have m10 : ¬ (9223372036854775807 < (putNum x.label.level).size + (putNum x.label.set).size + (putNum x.id).size + (putText x.owner).size + (putNum x.need).size + (putNum x.long).size + (putNum x.prio).size + (putNum x.under.level).size + (putNum x.under.set).size + (putNum x.after).size + (putNum x.born).size + (putNum x.state).size) := by omega
    have n10 : (putNum x.label.level).size + (putNum x.label.set).size + (putNum x.id).size + (putText x.owner).size + (putNum x.need).size + (putNum x.long).size + (putNum x.prio).size + (putNum x.under.level).size + (putNum x.under.set).size + (putNum x.after).size + (putNum x.born).size + (putNum x.state).size ≤ 9223372036854775807 := by omega
    have z11 : ((((((((((((putNum x.label.level ++ putNum x.label.set) ++ putNum x.id) ++ putText x.owner) ++ putNum x.need) ++ putNum x.long) ++ putNum x.prio) ++ putNum x.under.level) ++ putNum x.under.set) ++ putNum x.after) ++ putNum x.born) ++ putNum x.state)).size ≤ 8130 := by rw [size_app]; omega
    have k11 : ¬ (9223372036854775807 < ((putNum x.label.level).size : Int) + ((putNum x.label.set).size : Int) + ((putNum x.id).size : Int) + ((putText x.owner).size : Int) + ((putNum x.need).size : Int) + ((putNum x.long).size : Int) + ((putNum x.prio).size : Int) + ((putNum x.under.level).size : Int) + ((putNum x.under.set).size : Int) + ((putNum x.after).size : Int) + ((putNum x.born).size : Int) + ((putNum x.state).size : Int) + ((putNum x.start).size : Int)) := by omega
    have l11 : ((putNum x.label.level).size : Int) + ((putNum x.label.set).size : Int) + ((putNum x.id).size : Int) + ((putText x.owner).size : Int) + ((putNum x.need).size : Int) + ((putNum x.long).size : Int) + ((putNum x.prio).size : Int) + ((putNum x.under.level).size : Int) + ((putNum x.under.set).size : Int) + ((putNum x.after).size : Int) + ((putNum x.born).size : Int) + ((putNum x.state).size : Int) + ((putNum x.start).size : Int) ≤ 9223372036854775807 := by omega
    have m11 : ¬ (9223372036854775807 < (putNum x.label.level).size + (putNum x.label.set).size + (putNum x.id).size + (putText x.owner).size + (putNum x.need).size + (putNum x.long).size + (putNum x.prio).size + (putNum x.under.level).size + (putNum x.under.set).size + (putNum x.after).size + (putNum x.born).size + (putNum x.state).size + (putNum x.start).size) := by omega
    have n11 : (putNum x.label.level).size + (putNum x.label.set).size + (putNum x.id).size + (putText x.owner).size + (putNum x.need).size + (putNum x.long).size + (putNum x.prio).size + (putNum x.under.level).size + (putNum x.under.set).size + (putNum x.after).size + (putNum x.born).size + (putNum x.state).size + (putNum x.start).size ≤ 9223372036854775807 := by omega
    have z12 : (((((((((((((putNum x.label.level ++ putNum x.label.set) ++ putNum x.id) ++ putText x.owner) ++ putNum x.need) ++ putNum x.long) ++ putNum x.prio) ++ putNum x.under.level) ++ putNum x.under.set) ++ putNum x.after) ++ putNum x.born) ++ putNum x.state) ++ putNum x.start)).size ≤ 8140 := by rw [size_app]; omega
    have k12 : ¬ (9223372036854775807 < ((putNum x.label.level).size : Int) + ((putNum x.label.set).size : Int) + ((putNum x.id).size : Int) + ((putText x.owner).size : Int) + ((putNum x.need).size : Int) + ((putNum x.long).size : Int) + ((putNum x.prio).size : Int) + ((putNum x.under.level).size : Int) + ((putNum x.under.set).size : Int) + ((putNum x.after).size : Int) + ((putNum x.born).size : Int) + ((putNum x.state).size : Int) + ((putNum x.start).size : Int) + ((putNum (x.nodes.length : Int)).size : Int)) := by omega
    have l12 : ((putNum x.label.level).size : Int) + ((putNum x.label.set).size : Int) + ((putNum x.id).size : Int) + ((putText x.owner).size : Int) + ((putNum x.need).size : Int) + ((putNum x.long).size : Int) + ((putNum x.prio).size : Int) + ((putNum x.under.level).size : Int) + ((putNum x.under.set).size : Int) + ((putNum x.after).size : Int) + ((putNum x.born).size : Int) + ((putNum x.state).size : Int) + ((putNum x.start).size : Int) + ((putNum (x.nodes.length : Int)).size : Int) ≤ 9223372036854775807 := by omega
    have m12 : ¬ (9223372036854775807 < (putNum x.label.level).size + (putNum x.label.set).size + (putNum x.id).size + (putText x.owner).size + (putNum x.need).size + (putNum x.long).size + (putNum x.prio).size + (putNum x.under.level).size + (putNum x.under.set).size + (putNum x.after).size + (putNum x.born).size + (putNum x.state).size + (putNum x.start).size + (putNum (x.nodes.length : Int)).size) := by omega
    have n12 : (putNum x.label.level).size + (putNum x.label.set).size + (putNum x.id).size + (putText x.owner).size + (putNum x.need).size + (putNum x.long).size + (putNum x.prio).size + (putNum x.under.level).size + (putNum x.under.set).size + (putNum x.after).size + (putNum x.born).size + (putNum x.state).size + (putNum x.start).size + (putNum (x.nodes.length : Int)).size ≤ 9223372036854775807 := by omega
    have z13 : ((((((((((((((putNum x.label.level ++ putNum x.label.set) ++ putNum x.id) ++ putText x.owner) ++ putNum x.need) ++ putNum x.long) ++ putNum x.prio) ++ putNum x.under.level) ++ putNum x.under.set) ++ putNum x.after) ++ putNum x.born) ++ putNum x.state) ++ putNum x.start) ++ putNum (x.nodes.length : Int))).size ≤ 8150 := by rw [size_app]; omega
    have Z13 := Lib.hid z13
    have c0 := B1.out.cell 0
    have c1 := B1.out.cell 1
    have c2 := B1.out.cell 2
    have c3 := B1.out.cell 3
    have c4 := B1.out.cell 4
    have c5 := B1.out.cell 5
    have c6 := B1.out.cell 6
    have c7 := B1.out.cell 7
    have c8 := B1.out.cell 8
    have c9 := B1.out.cell 9
    have c10 := B1.out.cell 10
    have c11 := B1.out.cell 11
    have c12 := B1.out.cell 12
    have c13 := B1.out.cell 13
    simp only [List.getElem?_toArray, List.getElem?_cons_succ, List.getElem?_cons_zero] at c0 c1 c2 c3 c4 c5 c6 c7 c8 c9 c10 c11 c12 c13
    go_wp2_with fail
    refine wp_region_ext (by kernel_rfl) (by kernel_rfl) ?_
    repeat (
      (refine wpQuiet_step (fun K hK => ?_)
       go_simp
       first
        | (refine hK _ ?_; clear hK K)
        | (apply Exists.intro
           refine ⟨fun w__ hx__ => ?_, hK _ ?_⟩
           · have c0__ := Ext.some hx__ c0; have c1__ := Ext.some hx__ c1; have c2__ := Ext.some hx__ c2; have c3__ := Ext.some hx__ c3; have c4__ := Ext.some hx__ c4; have c5__ := Ext.some hx__ c5; have c6__ := Ext.some hx__ c6; have c7__ := Ext.some hx__ c7; have c8__ := Ext.some hx__ c8; have c9__ := Ext.some hx__ c9; have c10__ := Ext.some hx__ c10; have c11__ := Ext.some hx__ c11; have c12__ := Ext.some hx__ c12; have c13__ := Ext.some hx__ c13; first | exact rfl | (go_simp; done) | (go_simp; exact rfl) | (go_at_call 103; exact ext_of hx__ (specPutNum_any _ _ (by first | exact HI0.out | exact HI1.out | exact HI2.out | exact HI4.out | exact HI5.out | exact HI6.out | exact HI7.out | exact HI8.out | exact HI9.out | exact HI10.out | exact HI11.out | exact HI12.out | exact HI13.out))) | (go_at_call 104; exact ext_of hx__ (specPutText_any _ _ HO.out))
           clear hK K)))
    refine wpQuiet_nil ?_
    intro w1 hx1
    have X2 := Lib.hid (X1.out.trans hx1)
    have B2 := Lib.hid (B1.out.ext hx1)
    clear hx1 c0 c1 c2 c3 c4 c5 c6 c7 c8 c9 c10 c11 c12 c13 k0 l0 m0 n0 z0 k1 l1 m1 n1 z1 k2 l2 m2 n2 z2 k3 l3 m3 n3 z3 k4 l4 m4 n4 z4 k5 l5 m5 n5 z5 k6 l6 m6 n6 z6 k7 l7 m7 n7 z7 k8 l8 m8 n8 z8 k9 l9 m9 n9 z9 k10 l10 m10 n10 z10 k11 l11 m11 n11 z11 k12 l12 m12 n12 z12 z13 p0 p1 p2 p3 p4 p5 p6 p7 p8 p9 p10 p11 p12 p13
    have z14 := Z13.out
    go_wp2_with fail
    go_loopw [3, 4] (fun s i w' => ∃ k : Nat, k ≤ x.nodes.length ∧ i = .int .i64 k ∧ s = .string (putNumsFrom (((((((((((((putNum x.label.level ++ putNum x.label.set) ++ putNum x.id) ++ putText x.owner) ++ putNum x.need) ++ putNum x.long) ++ putNum x.prio) ++ putNum x.under.level) ++ putNum x.under.set) ++ putNum x.after) ++ putNum x.born) ++ putNum x.state) ++ putNum x.start) ++ putNum (x.nodes.length : Int)) (x.nodes.take k)) ∧ (putNumsFrom (((((((((((((putNum x.label.level ++ putNum x.label.set) ++ putNum x.id) ++ putText x.owner) ++ putNum x.need) ++ putNum x.long) ++ putNum x.prio) ++ putNum x.under.level) ++ putNum x.under.set) ++ putNum x.after) ++ putNum x.born) ++ putNum x.state) ++ putNum x.start) ++ putNum (x.nodes.length : Int)) (x.nodes.take k)).size ≤ 8150 + 10 * k ∧ Ext w w' ∧ Blk w' B 46 #[.int .i64 x.label.level, .int .i64 x.label.set, .int .i64 x.id, .string x.owner, .int .i64 x.need, .int .i64 x.long, .int .i64 x.prio, .int .i64 x.under.level, .int .i64 x.under.set, .int .i64 x.after, .int .i64 x.born, .int .i64 x.state, .int .i64 x.start, .slice A1 x.nodes.length d1]) (fun _ i _ => x.nodes.length - (intOf i).toNat)
    case atStart => exact ⟨0, by omega, rfl, rfl, by simpa [putNumsFrom] using z14, X2.out, B2.out⟩
    case round =>
      obtain ⟨k, hk1, rfl, rfl, hs, hx, hb⟩ := hrel
      have HX := Lib.hid hx
      have HBk := Lib.hid hb
      have c13 := hb.cell 13
      simp only [List.getElem?_toArray, List.getElem?_cons_succ, List.getElem?_cons_zero] at c13
      by_cases hlt : k < x.nodes.length
      · obtain ⟨b, q, cs, rfl, _, ⟨rfl, hi⟩, hc⟩ := HK.out k hlt
        have c0 := Ext.some hx (hc 0 _ rfl)
        simp only [EInt, Nat.add_zero, Nat.mul_one] at c0
        have HI := Lib.hid hi
        have HP := putNum_size hi
        have HEk : Hid (putNumsFrom (((((((((((((putNum x.label.level ++ putNum x.label.set) ++ putNum x.id) ++ putText x.owner) ++ putNum x.need) ++ putNum x.long) ++ putNum x.prio) ++ putNum x.under.level) ++ putNum x.under.set) ++ putNum x.after) ++ putNum x.born) ++ putNum x.state) ++ putNum x.start) ++ putNum (x.nodes.length : Int)) (x.nodes.take (k + 1)) = putNumsFrom (((((((((((((putNum x.label.level ++ putNum x.label.set) ++ putNum x.id) ++ putText x.owner) ++ putNum x.need) ++ putNum x.long) ++ putNum x.prio) ++ putNum x.under.level) ++ putNum x.under.set) ++ putNum x.after) ++ putNum x.born) ++ putNum x.state) ++ putNum x.start) ++ putNum (x.nodes.length : Int)) (x.nodes.take k) ++ putNum (nth x.nodes k)) := Lib.hid (by rw [take_succ_nth hlt, from_app]; rfl)
        clear hc hi hx hb
        generalize putNumsFrom (((((((((((((putNum x.label.level ++ putNum x.label.set) ++ putNum x.id) ++ putText x.owner) ++ putNum x.need) ++ putNum x.long) ++ putNum x.prio) ++ putNum x.under.level) ++ putNum x.under.set) ++ putNum x.after) ++ putNum x.born) ++ putNum x.state) ++ putNum x.start) ++ putNum (x.nodes.length : Int)) (x.nodes.take k) = acc at *
        go_wp2_with (go_at_call 103; refine (specPutNum_any _ _ HI.out).mono ?_; rintro e w3 ⟨rfl, hx1⟩; have X3 := Lib.hid hx1; clear hx1)
        refine ⟨⟨k + 1, by omega, by go_num, by rw [HEk.out], by rw [HEk.out, size_app]; omega, HX.out.trans X3.out, HBk.out.ext X3.out⟩, ?_⟩
        simp [intOf]
        omega
      · obtain rfl : k = x.nodes.length := by omega
        have HEk : Hid (putNumsFrom (((((((((((((putNum x.label.level ++ putNum x.label.set) ++ putNum x.id) ++ putText x.owner) ++ putNum x.need) ++ putNum x.long) ++ putNum x.prio) ++ putNum x.under.level) ++ putNum x.under.set) ++ putNum x.after) ++ putNum x.born) ++ putNum x.state) ++ putNum x.start) ++ putNum (x.nodes.length : Int)) (x.nodes.take x.nodes.length) = putNumsFrom (((((((((((((putNum x.label.level ++ putNum x.label.set) ++ putNum x.id) ++ putText x.owner) ++ putNum x.need) ++ putNum x.long) ++ putNum x.prio) ++ putNum x.under.level) ++ putNum x.under.set) ++ putNum x.after) ++ putNum x.born) ++ putNum x.state) ++ putNum x.start) ++ putNum (x.nodes.length : Int)) x.nodes) := Lib.hid (by rw [List.take_length])
        clear hx hb
        go_wp2_with fail
        go_ret
        exact ⟨by rw [HE.out, ← HEk.out]; rfl, HX.out⟩
end Go.Proofs.Ytalnbddpkkkpeaa

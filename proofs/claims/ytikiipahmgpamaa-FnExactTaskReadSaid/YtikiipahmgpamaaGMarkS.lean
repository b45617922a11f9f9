/- The walks of mark.. and held.. at structs that lead to one row. Printed by wip/gen2.py. -/
import Derived.Test.YtikiipahmgpamaaGMarkT
import Derived.Test.YtikiipahmgpamaaGHeldT
import Derived.Test.YtikiipahmgpamaaGMark
import Derived.Test.YtikiipahmgpamaaGHeld
namespace Go.Proofs.Ytikiipahmgpamaa
open Go.RowKit
attribute [local irreducible] wpQuiet

set_option maxHeartbeats 4000000 in
set_option maxRecDepth 50000 in
theorem markTask_any (x : Task) (v1 : Value) (F : List Nat) (q : Int) (w : World) (h : OwS OInt 2 w v1 (x.nodes) F) (h0 : 0 ≤ q) (h1 : q + cntL cntInt (x.nodes) ≤ 1125899906842624) :
    Calls Try.prog 93 #[.agg (cellsTask x v1).toArray, .int .i64 q] w fun e w' => e = .returned (.int .i64 (q + cntL cntInt (x.nodes))) ∧ OwS OInt 2 w' v1 (markL mkInt cntInt q (x.nodes)) F ∧ Kept F w w' := by
  obtain ⟨A, c, rfl, -⟩ := h.form
  have H := Lib.hid h
  clear h
  simp only [cellsTask]
  go_enter Try.func93, Try.ntmps93
  go_wp2_with fail
  refine (markInt64S_any (x.nodes) _ F q _ (H.out.ext ((Ext.refl w).alloc _)) h0 h1).mono ?_
  rintro e w1 ⟨rfl, o1, k1⟩
  go_wp2_with fail
  go_ret
  exact ⟨rfl, o1, Kept.trans (Kept.of_ext ((Ext.refl w).alloc _)) k1⟩

set_option maxHeartbeats 4000000 in
set_option maxRecDepth 50000 in
theorem heldTask_any {S : Nat → Prop} (x : Task) (v1 : Value) (q : Int) (w : World) (h : Rd EInt S w v1 (markL mkInt cntInt q (x.nodes))) (h0 : 0 ≤ q) (h1 : q + cntL cntInt (x.nodes) ≤ 1125899906842624) :
    Calls Try.prog 94 #[.agg (cellsTask x v1).toArray, .int .i64 q] w fun e w' => e = .returned (.int .i64 (q + cntL cntInt (x.nodes))) ∧ Ext w w' := by
  have H := Lib.hid h
  obtain ⟨A, c, hv, -⟩ := h.form
  rw [markL_length] at hv
  subst hv
  clear h
  have hn0 : (0 : Int) ≤ ((cntL cntInt (x.nodes) : Nat) : Int) := Int.natCast_nonneg _
  have hge : (0 : Int) ≤ q + ((cntL cntInt (x.nodes) : Nat) : Int) := by omega
  simp only [cellsTask]
  go_enter Try.func94, Try.ntmps94
  go_wp2_with fail
  refine (heldInt64S_any (S := S) (x.nodes) _ q _ (H.out.ext ((Ext.refl w).alloc _)) h0 h1).mono ?_
  rintro e w1 ⟨rfl, hx⟩
  have X1 := Lib.hid (((Ext.refl w).alloc _).trans hx)
  clear hx
  go_wp2_with fail
  go_ret
  exact ⟨rfl, X1.out⟩

set_option maxHeartbeats 4000000 in
set_option maxRecDepth 50000 in
theorem markNodesOut_any (x : NodesOut) (v1 : Value) (F : List Nat) (q : Int) (w : World) (h : OwS ONode 72 w v1 (x.nodes) F) (h0 : 0 ≤ q) (h1 : q + cntL cntNode (x.nodes) ≤ 1125899906842624) :
    Calls Try.prog 17 #[.agg (cellsNodesOut x v1).toArray, .int .i64 q] w fun e w' => e = .returned (.int .i64 (q + cntL cntNode (x.nodes))) ∧ OwS ONode 72 w' v1 (markL mkNode cntNode q (x.nodes)) F ∧ Kept F w w' := by
  obtain ⟨A, c, rfl, -⟩ := h.form
  have H := Lib.hid h
  clear h
  simp only [cellsNodesOut]
  go_enter Try.func17, Try.ntmps17
  go_wp2_with fail
  refine (markNodeS_any (x.nodes) _ F q _ (H.out.ext ((Ext.refl w).alloc _)) h0 h1).mono ?_
  rintro e w1 ⟨rfl, o1, k1⟩
  go_wp2_with fail
  go_ret
  exact ⟨rfl, o1, Kept.trans (Kept.of_ext ((Ext.refl w).alloc _)) k1⟩

set_option maxHeartbeats 4000000 in
set_option maxRecDepth 50000 in
theorem heldNodesOut_any {S : Nat → Prop} (x : NodesOut) (v1 : Value) (q : Int) (w : World) (h : Rd ENode S w v1 (markL mkNode cntNode q (x.nodes))) (h0 : 0 ≤ q) (h1 : q + cntL cntNode (x.nodes) ≤ 1125899906842624) :
    Calls Try.prog 18 #[.agg (cellsNodesOut x v1).toArray, .int .i64 q] w fun e w' => e = .returned (.int .i64 (q + cntL cntNode (x.nodes))) ∧ Ext w w' := by
  have H := Lib.hid h
  obtain ⟨A, c, hv, -⟩ := h.form
  rw [markL_length] at hv
  subst hv
  clear h
  have hn0 : (0 : Int) ≤ ((cntL cntNode (x.nodes) : Nat) : Int) := Int.natCast_nonneg _
  have hge : (0 : Int) ≤ q + ((cntL cntNode (x.nodes) : Nat) : Int) := by omega
  simp only [cellsNodesOut]
  go_enter Try.func18, Try.ntmps18
  go_wp2_with fail
  refine (heldNodeS_any (S := S) (x.nodes) _ q _ (H.out.ext ((Ext.refl w).alloc _)) h0 h1).mono ?_
  rintro e w1 ⟨rfl, hx⟩
  have X1 := Lib.hid (((Ext.refl w).alloc _).trans hx)
  clear hx
  go_wp2_with fail
  go_ret
  exact ⟨rfl, X1.out⟩

set_option maxHeartbeats 4000000 in
set_option maxRecDepth 50000 in
theorem markTaskOut_any (x : TaskOut) (v1 : Value) (F : List Nat) (q : Int) (w : World) (h : OwS OInt 2 w v1 (x.task.nodes) F) (h0 : 0 ≤ q) (h1 : q + cntL cntInt (x.task.nodes) ≤ 1125899906842624) :
    Calls Try.prog 22 #[.agg (cellsTaskOut x v1).toArray, .int .i64 q] w fun e w' => e = .returned (.int .i64 (q + cntL cntInt (x.task.nodes))) ∧ OwS OInt 2 w' v1 (markL mkInt cntInt q (x.task.nodes)) F ∧ Kept F w w' := by
  obtain ⟨A, c, rfl, -⟩ := h.form
  have H := Lib.hid h
  clear h
  simp only [cellsTaskOut]
  go_enter Try.func22, Try.ntmps22
  go_wp2_with fail
  refine (markTask_any x.task _ F q _ (H.out.ext ((Ext.refl w).alloc _)) h0 h1).mono ?_
  rintro e w1 ⟨rfl, o1, k1⟩
  go_wp2_with fail
  go_ret
  exact ⟨rfl, o1, Kept.trans (Kept.of_ext ((Ext.refl w).alloc _)) k1⟩

set_option maxHeartbeats 4000000 in
set_option maxRecDepth 50000 in
theorem heldTaskOut_any {S : Nat → Prop} (x : TaskOut) (v1 : Value) (q : Int) (w : World) (h : Rd EInt S w v1 (markL mkInt cntInt q (x.task.nodes))) (h0 : 0 ≤ q) (h1 : q + cntL cntInt (x.task.nodes) ≤ 1125899906842624) :
    Calls Try.prog 23 #[.agg (cellsTaskOut x v1).toArray, .int .i64 q] w fun e w' => e = .returned (.int .i64 (q + cntL cntInt (x.task.nodes))) ∧ Ext w w' := by
  have H := Lib.hid h
  obtain ⟨A, c, hv, -⟩ := h.form
  rw [markL_length] at hv
  subst hv
  clear h
  have hn0 : (0 : Int) ≤ ((cntL cntInt (x.task.nodes) : Nat) : Int) := Int.natCast_nonneg _
  have hge : (0 : Int) ≤ q + ((cntL cntInt (x.task.nodes) : Nat) : Int) := by omega
  simp only [cellsTaskOut]
  go_enter Try.func23, Try.ntmps23
  go_wp2_with fail
  refine (heldTask_any (S := S) x.task _ q _ (H.out.ext ((Ext.refl w).alloc _)) h0 h1).mono ?_
  rintro e w1 ⟨rfl, hx⟩
  have X1 := Lib.hid (((Ext.refl w).alloc _).trans hx)
  clear hx
  go_wp2_with fail
  go_ret
  exact ⟨rfl, X1.out⟩

end Go.Proofs.Ytikiipahmgpamaa

/- The walk of mark.. for tasks. Printed by wip/gen2.py. The walk of held.. for tasks. Printed by wip/gen2.py. The walk of markConfig; a struct in memory of its own when memory grows. The walks of mark.. and held.. at structs that lead to one row. Printed by wip/gen2.py. -/
import Derived.Test.YtdhcbbbmajjehaaGMark
import Derived.Test.YtdhcbbbmajjehaaGHeld
import Derived.Test.YtdhcbbbmajjehaaClones
namespace Go.Proofs.Ytdhcbbbmajjehaa
open Go.RowKit
attribute [local irreducible] wpQuiet

end Go.Proofs.Ytdhcbbbmajjehaa

namespace Go.Proofs.Ytdhcbbbmajjehaa
open Go.RowKit
attribute [local irreducible] wpQuiet

end Go.Proofs.Ytdhcbbbmajjehaa

namespace Go.Proofs.Ytdhcbbbmajjehaa
open Go.RowKit
attribute [local irreducible] wpQuiet

theorem ownx {α : Type} {E : Elem α} {O : Own E} {w w' : World} {cs : List Value} {x : α} {F : List Nat} (h : O.own w cs x F) (hx : Ext w w') : O.own w' cs x F := O.keep (fun b hb => Below.block hx b (O.lt h b hb)) h
theorem ownk {α : Type} {E : Elem α} {O : Own E} {w w' : World} {cs : List Value} {x : α} {F G : List Nat} (h : O.own w cs x F) (hk : Kept G w w') (hd : ∀ b ∈ F, b ∉ G) : O.own w' cs x F := O.keep (fun b hb => hk.block b (O.lt h b hb) (hd b hb)) h
theorem apart3 {F1 F2 F3 : List Nat} (h : (F1 ++ (F2 ++ F3)).Nodup) : (∀ b ∈ F2, b ∉ F1) ∧ (∀ b ∈ F3, b ∉ F1) ∧ (∀ b ∈ F3, b ∉ F2) := by
  obtain ⟨_, h2, h3⟩ := List.nodup_append.1 h
  obtain ⟨_, _, h4⟩ := List.nodup_append.1 h2
  exact ⟨fun b hb hc => h3 b hc b (List.mem_append_left _ hb) rfl, fun b hb hc => h3 b hc b (List.mem_append_right _ hb) rfl, fun b hb hc => h4 b hc b hb rfl⟩
def cnt3 (x : Config) : Nat := cntL (cntL cntLabel) x.nodes + cntL cntPair x.pairs + cntL cntQuota x.quotas

set_option maxHeartbeats 4000000 in
set_option maxRecDepth 50000 in
theorem markConfig_any (x : Config) (cs : List Value) (F : List Nat) (q : Int) (w : World) (h : OConfig.own w cs x F) (h0 : 0 ≤ q) (hb : q + cnt3 x ≤ 1125899906842624) :
    Calls Try.prog 60 #[.agg cs.toArray, .int .i64 q] w fun e w' => e = .returned (.int .i64 (q + cnt3 x)) ∧ Kept F w w' := by
  obtain ⟨v1, v2, v3, F1, F2, F3, rfl, -, o1, o2, o3, rfl, hn⟩ := h
  obtain ⟨A1, c1, rfl, -⟩ := o1.form
  obtain ⟨A2, c2, rfl, -⟩ := o2.form
  obtain ⟨A3, c3, rfl, -⟩ := o3.form
  have O1 := Lib.hid o1
  have O2 := Lib.hid o2
  have O3 := Lib.hid o3
  have HA := Lib.hid (apart3 hn)
  have HE : Hid ((cnt3 x : Int) = cntL (cntL cntLabel) x.nodes + cntL cntPair x.pairs + cntL cntQuota x.quotas) := Lib.hid (by unfold cnt3; push_cast; rfl)
  have hbb : q + (cntL (cntL cntLabel) x.nodes : Int) + (cntL cntPair x.pairs : Int) + (cntL cntQuota x.quotas : Int) ≤ 1125899906842624 := by have := HE.out; omega
  clear o1 o2 o3 hn hb
  generalize hn1 : cntL (cntL cntLabel) x.nodes = n1 at *
  generalize hn2 : cntL cntPair x.pairs = n2 at *
  generalize hn3 : cntL cntQuota x.quotas = n3 at *
  have N1 := Lib.hid hn1
  have N2 := Lib.hid hn2
  have N3 := Lib.hid hn3
  clear hn1 hn2 hn3
  simp only [cellsConfig]
  go_enter Try.func60, Try.ntmps60
  go_upto_region 1 with (fail)
  obtain ⟨W, B, hW, hB, hx0, b0⟩ : ∃ W B, W = w.alloc (.cells #[.slice A1 x.nodes.length c1, .slice A2 x.pairs.length c2, .slice A3 x.quotas.length c3, .int .i64 x.half] 88) ∧ B = w.heap.size ∧ Ext w W ∧ Blk W B 88 #[.slice A1 x.nodes.length c1, .slice A2 x.pairs.length c2, .slice A3 x.quotas.length c3, .int .i64 x.half] := ⟨_, _, rfl, rfl, (Ext.refl w).alloc _, Blk.new _ _ _⟩
  have HN1 : Hid (B ∉ F1) := Lib.hid (fun hb => absurd (O1.out.lt B hb) (by omega))
  have HN2 : Hid (B ∉ F2) := Lib.hid (fun hb => absurd (O2.out.lt B hb) (by omega))
  rw [← hW, ← hB]
  have Q := Lib.hid b0
  have X := Lib.hid hx0
  clear hW hB hx0 b0
  have q0 := Q.out.cell 0
  go_upto_region 2 with (go_at_call 160; (with_reducible refine (markLabelSS_any x.nodes _ F1 q _ (O1.out.ext X.out) h0 (by have := N1.out; omega)).mono ?_); rw [N1.out]; rintro e w1 ⟨rfl, -, k1⟩; have K1 := Lib.hid ((Kept.of_ext (F := F1) X.out).trans k1); have Q1 : Hid (Blk w1 B 88 #[.slice A1 x.nodes.length c1, .slice A2 x.pairs.length c2, .slice A3 x.quotas.length c3, .int .i64 x.half]) := Lib.hid ((k1.block B Q.out.lt HN1.out).trans Q.out); clear k1)
  clear q0
  have q1 := Q1.out.cell 1
  go_upto_region 3 with (go_at_call 161; (with_reducible refine (markPairS_any x.pairs _ F2 _ _ (O2.out.kept K1.out HA.out.1) (by omega) (by have := N2.out; omega)).mono ?_); rw [N2.out]; rintro e w2 ⟨rfl, -, k2⟩; have K2 := Lib.hid k2; have Q2 : Hid (Blk w2 B 88 #[.slice A1 x.nodes.length c1, .slice A2 x.pairs.length c2, .slice A3 x.quotas.length c3, .int .i64 x.half]) := Lib.hid ((k2.block B Q1.out.lt HN2.out).trans Q1.out); clear k2)
  clear q1
  have q2 := Q2.out.cell 2
  go_wp2_with (go_at_call 162; (with_reducible refine (markQuotaS_any x.quotas _ F3 _ _ ((O3.out.kept K1.out HA.out.2.1).kept K2.out HA.out.2.2) (by omega) (by have := N3.out; omega)).mono ?_); rw [N3.out]; rintro e w3 ⟨rfl, -, k3⟩; have K3 := Lib.hid k3; clear k3)
  go_ret
  exact ⟨ret_int (by rw [HE.out]; omega), ((K1.out.sub (G := F1 ++ (F2 ++ F3)) (fun b _ hm => by simp [hm])).trans (K2.out.sub (G := F1 ++ (F2 ++ F3)) (fun b _ hm => by simp [hm]))).trans (K3.out.sub (G := F1 ++ (F2 ++ F3)) (fun b _ hm => by simp [hm]))⟩
end Go.Proofs.Ytdhcbbbmajjehaa

namespace Go.Proofs.Ytdhcbbbmajjehaa
open Go.RowKit
attribute [local irreducible] wpQuiet

set_option maxHeartbeats 4000000 in
set_option maxRecDepth 50000 in
theorem markMail_any (x : Mail) (v1 : Value) (F : List Nat) (q : Int) (w : World) (h : OwS OBox 183 w v1 (x.boxes) F) (h0 : 0 ≤ q) (h1 : q + cntL cntBox (x.boxes) ≤ 1125899906842624) :
    Calls Try.prog 70 #[.agg (cellsMail x v1).toArray, .int .i64 q] w fun e w' => e = .returned (.int .i64 (q + cntL cntBox (x.boxes))) ∧ OwS OBox 183 w' v1 (markL mkBox cntBox q (x.boxes)) F ∧ Kept F w w' := by
  obtain ⟨A, c, rfl, -⟩ := h.form
  have H := Lib.hid h
  clear h
  simp only [cellsMail]
  go_enter Try.func70, Try.ntmps70
  go_wp2_with fail
  refine (markBoxS_any (x.boxes) _ F q _ (H.out.ext ((Ext.refl w).alloc _)) h0 h1).mono ?_
  rintro e w1 ⟨rfl, o1, k1⟩
  go_wp2_with fail
  go_ret
  exact ⟨rfl, o1, Kept.trans (Kept.of_ext ((Ext.refl w).alloc _)) k1⟩

set_option maxHeartbeats 4000000 in
set_option maxRecDepth 50000 in
theorem heldMail_any {S : Nat → Prop} (x : Mail) (v1 : Value) (q : Int) (w : World) (h : Rd EBox S w v1 (markL mkBox cntBox q (x.boxes))) (h0 : 0 ≤ q) (h1 : q + cntL cntBox (x.boxes) ≤ 1125899906842624) :
    Calls Try.prog 71 #[.agg (cellsMail x v1).toArray, .int .i64 q] w fun e w' => e = .returned (.int .i64 (q + cntL cntBox (x.boxes))) ∧ Ext w w' := by
  have H := Lib.hid h
  obtain ⟨A, c, hv, -⟩ := h.form
  rw [markL_length] at hv
  subst hv
  clear h
  have hn0 : (0 : Int) ≤ ((cntL cntBox (x.boxes) : Nat) : Int) := Int.natCast_nonneg _
  have hge : (0 : Int) ≤ q + ((cntL cntBox (x.boxes) : Nat) : Int) := by omega
  simp only [cellsMail]
  go_enter Try.func71, Try.ntmps71
  go_wp2_with fail
  refine (heldBoxS_any (S := S) (x.boxes) _ q _ (H.out.ext ((Ext.refl w).alloc _)) h0 h1).mono ?_
  rintro e w1 ⟨rfl, hx⟩
  have X1 := Lib.hid (((Ext.refl w).alloc _).trans hx)
  clear hx
  go_wp2_with fail
  go_ret
  exact ⟨rfl, X1.out⟩

end Go.Proofs.Ytdhcbbbmajjehaa

/- A task's copy, with nodes of its own. -/
import Derived.Test.YtalnbddpkkkpeaaClones
namespace Go.Proofs.Ytalnbddpkkkpeaa
open Go.RowKit
attribute [local irreducible] wpQuiet

set_option maxHeartbeats 4000000 in
set_option maxRecDepth 100000 in
theorem l12Copy_own {S : Nat → Prop} (x : Task) (cs : List Value) (w : World) (h : ETask.rel S w cs x) (hs : x.nodes.length ≤ 1000000000) :
    Calls Try.prog 119 #[.agg cs.toArray] w (RetOS OTask x w) := by
  obtain ⟨v1, rfl, hi, h1⟩ := h
  obtain ⟨A1, c1, rfl, -⟩ := h1.form
  have HI := Lib.hid hi
  have H1 := Lib.hid h1
  have HS := Lib.hid hs
  clear hi h1 hs
  simp only [cellsTask]
  go_enter Try.func119, Try.ntmps119
  go_upto_region 1 with (fail)
  obtain ⟨W, B, hW, hB, hx0, a0, r0⟩ := boxes2 w #[.int .i64 x.label.level, .int .i64 x.label.set, .int .i64 x.id, .string x.owner, .int .i64 x.need, .int .i64 x.long, .int .i64 x.prio, .int .i64 x.under.level, .int .i64 x.under.set, .int .i64 x.after, .int .i64 x.born, .int .i64 x.state, .int .i64 x.start, .slice A1 x.nodes.length c1] #[.int .i64 0, .int .i64 0, .int .i64 0, .string ⟨#[]⟩, .int .i64 0, .int .i64 0, .int .i64 0, .int .i64 0, .int .i64 0, .int .i64 0, .int .i64 0, .int .i64 0, .int .i64 0, .slice none 0 0] 46 46
  rw [← hW, ← hB]
  have HB := Lib.hid hB
  clear hW hB
  have A_0 := Lib.hid a0
  have R_0 := Lib.hid r0
  have X_0 := Lib.hid hx0
  clear a0 r0 hx0
  have ac := fun o : Obj => (A_0.out.ext ((Ext.refl W).alloc o)).cell
  go_upto_region 2 with (at_builtin; go_loud (refine wpList_append_flat (E := EInt) (T := 2) (hfl := fun h => h) (l := []) (ys := x.nodes) (F := []) (S := S) rfl _ _ 39 rfl (.int .i64 0) 1 8 Try.underlying39 (by kernel_rfl) rfl rfl rfl ?ow rfl ?rd ?b1 ?b2 ?_; rotate_right; intro u1 w1 F1 q1 hkp hF'; have hx := ((Ext.refl W).alloc (.cells #[] 2 (0, 0))).trans (hkp.ext (Ext.refl _) (fun b hb => absurd hb (by simp))); have g1 : ∀ b ∈ F1, W.heap.size ≤ b := fun b hb => Or.elim (hF' b hb) (fun h => absurd h (by simp)) (fun h => Nat.le_trans ((Ext.refl W).alloc _).size h); clear hkp hF'; simp only [List.nil_append] at q1; obtain ⟨p1, k1, rfl, -⟩ := q1.form; have Q1 := Lib.hid q1; have L1 : Hid (∀ b ∈ F1, B + 1 < b) := Lib.hid (fun b hb => Nat.lt_of_lt_of_le (by have hl := (show Blk _ _ _ _ from R_0.out).lt; exact hl) (g1 b hb)); clear g1 q1; have A_1 : Hid (Blk w1 B 46 #[.int .i64 x.label.level, .int .i64 x.label.set, .int .i64 x.id, .string x.owner, .int .i64 x.need, .int .i64 x.long, .int .i64 x.prio, .int .i64 x.under.level, .int .i64 x.under.set, .int .i64 x.after, .int .i64 x.born, .int .i64 x.state, .int .i64 x.start, .slice A1 x.nodes.length c1]) := Lib.hid (A_0.out.ext hx); have R_1 : Hid (Blk w1 (B + 1) 46 #[.int .i64 0, .int .i64 0, .int .i64 0, .string ⟨#[]⟩, .int .i64 0, .int .i64 0, .int .i64 0, .int .i64 0, .int .i64 0, .int .i64 0, .int .i64 0, .int .i64 0, .int .i64 0, .slice none 0 0]) := Lib.hid (R_0.out.ext hx); have X_1 : Hid (Ext w w1) := Lib.hid (Ext.trans X_0.out hx); clear hx ac; have ac := A_1.out.cell; have af := A_1.out.frozen; clear A_0 R_0))
  case ow => exact OwS.nil _
  case rd => exact H1.out.ext (X_0.out.alloc _)
  case b1 => have := HS.out; simp only [List.length_nil, maxLen]; omega
  case b2 => have := HS.out; simp only [List.length_nil]; omega
  go_wp2_with (first
    | (refine wpList_load_mid rfl 46 _ rfl B 0 rfl [.int .i64 x.label.level, .int .i64 x.label.set, .int .i64 x.id, .string x.owner, .int .i64 x.need, .int .i64 x.long, .int .i64 x.prio, .int .i64 x.under.level, .int .i64 x.under.set, .int .i64 x.after, .int .i64 x.born, .int .i64 x.state, .int .i64 x.start, .slice p1 x.nodes.length k1] _ ?hl Try.underlying46 rfl (by kernel_rfl) ?_)
    | (refine wpList_store_mid rfl 46 _ _ rfl (B + 1) 0 #[.int .i64 x.label.level, .int .i64 x.label.set, .int .i64 x.id, .string x.owner, .int .i64 x.need, .int .i64 x.long, .int .i64 x.prio, .int .i64 x.under.level, .int .i64 x.under.set, .int .i64 x.after, .int .i64 x.born, .int .i64 x.state, .int .i64 x.start, .slice p1 x.nodes.length k1] rfl rfl ?ht (by kernel_rfl) ?ho ?_))
  case hl => exact Blk.range (t := 46) (cs := #[.int .i64 x.label.level, .int .i64 x.label.set, .int .i64 x.id, .string x.owner, .int .i64 x.need, .int .i64 x.long, .int .i64 x.prio, .int .i64 x.under.level, .int .i64 x.under.set, .int .i64 x.after, .int .i64 x.born, .int .i64 x.state, .int .i64 x.start, .slice p1 x.nodes.length k1]) (by simpa using (A_1.out.set_ 13 (.slice p1 x.nodes.length k1)))
  case ht => exact Blk.there (t := 46) (cs := #[.int .i64 0, .int .i64 0, .int .i64 0, .string ⟨#[]⟩, .int .i64 0, .int .i64 0, .int .i64 0, .int .i64 0, .int .i64 0, .int .i64 0, .int .i64 0, .int .i64 0, .int .i64 0, .slice none 0 0]) (by repeat (first | with_reducible exact R_1.out | refine Blk.far ?_ (by simp <;> omega) _))
  case ho => exact all_oneCell_toArray (cs := [.int .i64 x.label.level, .int .i64 x.label.set, .int .i64 x.id, .string x.owner, .int .i64 x.need, .int .i64 x.long, .int .i64 x.prio, .int .i64 x.under.level, .int .i64 x.under.set, .int .i64 x.after, .int .i64 x.born, .int .i64 x.state, .int .i64 x.start, .slice p1 x.nodes.length k1]) (by simp [Value.oneCell'])
  exact bodyPost_ret (v := .agg #[.int .i64 x.label.level, .int .i64 x.label.set, .int .i64 x.id, .string x.owner, .int .i64 x.need, .int .i64 x.long, .int .i64 x.prio, .int .i64 x.under.level, .int .i64 x.under.set, .int .i64 x.after, .int .i64 x.born, .int .i64 x.state, .int .i64 x.start, .slice p1 x.nodes.length k1]) (results_blk Try.results119 rfl (Blk.setAll (t := 46) (cs := #[.int .i64 0, .int .i64 0, .int .i64 0, .string ⟨#[]⟩, .int .i64 0, .int .i64 0, .int .i64 0, .int .i64 0, .int .i64 0, .int .i64 0, .int .i64 0, .int .i64 0, .int .i64 0, .slice none 0 0]) (vs := #[.int .i64 x.label.level, .int .i64 x.label.set, .int .i64 x.id, .string x.owner, .int .i64 x.need, .int .i64 x.long, .int .i64 x.prio, .int .i64 x.under.level, .int .i64 x.under.set, .int .i64 x.after, .int .i64 x.born, .int .i64 x.state, .int .i64 x.start, .slice p1 x.nodes.length k1]) (by repeat (first | with_reducible exact R_1.out | refine Blk.far ?_ (by simp <;> omega) _)) rfl) Try.underlying46 rfl (by kernel_rfl)) rfl ⟨_, F1, rfl, ⟨_, rfl, HI.out, (Q1.out.kept (G := [B, B + 1]) (Kept.setCells (by simp) _ _ _ (by repeat (first | exact Kept.refl _ _ | refine Kept.setCell ?_ (by simp) _))) (fun b hb => by have := L1.out b hb; simp; omega))⟩, fun b hb => (by have := L1.out b hb; rw [← HB.out]; omega), setCells_ext (by rw [← HB.out]; omega) _ _ _ (by repeat (first | with_reducible exact X_1.out | refine Ext.setCell ?_ (by show w.heap.size ≤ B; rw [← HB.out]; exact Nat.le_refl _) _))⟩

end Go.Proofs.Ytalnbddpkkkpeaa

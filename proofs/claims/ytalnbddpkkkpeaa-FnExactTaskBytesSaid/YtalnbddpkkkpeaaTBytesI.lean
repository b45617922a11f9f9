/- The walks of TaskBytes, the program's. -/
import Derived.Test.YtalnbddpkkkpeaaPutT
import Derived.Test.YtalnbddpkkkpeaaTaskRI
import Derived.Test.YtalnbddpkkkpeaaTofP
import Derived.Deep.RegionHeld3
namespace Go.Proofs.Ytalnbddpkkkpeaa
open Go.RowKit
attribute [local irreducible] wpQuiet

def headNums (x : Task) : List Int := [x.label.level, x.label.set, x.id]
def restNums (x : Task) : List Int := [x.need, x.long, x.prio, x.under.level, x.under.set, x.after, x.born, x.state, x.start, (x.nodes.length : Int)]
def taskHead (x : Task) : ByteArray := putNumsFrom ⟨#[]⟩ (headNums x) ++ putText x.owner
def taskText (x : Task) : ByteArray := putNumsFrom (putNumsFrom (taskHead x) (restNums x)) x.nodes
def taskBytes (x : Task) : ByteArray := if taskRight x = true then taskText x else ⟨#[]⟩
theorem head_fit {x : Task} (h : FitTask x) : ∀ y ∈ headNums x, I64 y := by
  obtain ⟨h1, h2, h3, _⟩ := h
  simp only [headNums, List.mem_cons, List.not_mem_nil, or_false]
  rintro y (rfl | rfl | rfl) <;> assumption
theorem rest_fit {x : Task} (h : FitTask x) (hn : x.nodes.length ≤ 6) : ∀ y ∈ restNums x, I64 y := by
  obtain ⟨_, _, _, _, h5, h6, h7, h8, h9, h10, h11, h12, h13⟩ := h
  simp only [restNums, List.mem_cons, List.not_mem_nil, or_false]
  have hl : I64 (x.nodes.length : Int) := by unfold I64; omega
  rintro y (rfl | rfl | rfl | rfl | rfl | rfl | rfl | rfl | rfl | rfl) <;> assumption
theorem rd_ints (T : TypeId) (V : World) (l : List Int) (cs : Array Value) (hc : cs = (l.map (Value.int .i64)).toArray) (hl : ∀ x ∈ l, I64 x) (h : l.length ≤ 1000) : Rd EInt (fun _ => True) (V.alloc (.cells cs T)) (.slice (some ⟨V.heap.size, 0, none⟩) l.length l.length) l := by
  refine ⟨_, _, rfl, Nat.le_refl _, by unfold maxLen; omega, fun k x hk => ⟨_, 0, [.int .i64 x], rfl, trivial, ⟨rfl, hl x (List.mem_of_getElem? hk)⟩, fun j u hj => ?_⟩⟩
  subst hc
  obtain ⟨rfl, rfl⟩ : j = 0 ∧ u = .int .i64 x := by
    rcases j with _ | j
    · simpa using hj.symm
    · simp at hj
  rw [(Blk.new V T _).cell]
  simp [EInt, hk]

set_option maxHeartbeats 8000000 in
set_option maxRecDepth 100000 in
theorem taskBytes_any {S : Nat → Prop} (x : Task) (cs : List Value) (w : World) (h : ETask.rel S w cs x) :
    Calls Try.prog 36 #[.agg cs.toArray] w fun e w' => e = .returned (.string (taskBytes x)) ∧ Ext w w' := by
  obtain ⟨v1, rfl, hfit, hrd⟩ := h
  obtain ⟨A1, d1, rfl, -⟩ := hrd.form
  have HF := Lib.hid hfit
  have HD := Lib.hid hrd
  clear hfit hrd
  simp only [cellsTask]
  go_enter Try.func36, Try.ntmps36
  go_upto_region 1 with (fail)
  obtain ⟨W, B, hW, hB, hx0, b0⟩ : ∃ W B, W = w.alloc (.cells #[.int .i64 x.label.level, .int .i64 x.label.set, .int .i64 x.id, .string x.owner, .int .i64 x.need, .int .i64 x.long, .int .i64 x.prio, .int .i64 x.under.level, .int .i64 x.under.set, .int .i64 x.after, .int .i64 x.born, .int .i64 x.state, .int .i64 x.start, .slice A1 x.nodes.length d1] 46) ∧ B = w.heap.size ∧ Ext w W ∧ Blk W B 46 #[.int .i64 x.label.level, .int .i64 x.label.set, .int .i64 x.id, .string x.owner, .int .i64 x.need, .int .i64 x.long, .int .i64 x.prio, .int .i64 x.under.level, .int .i64 x.under.set, .int .i64 x.after, .int .i64 x.born, .int .i64 x.state, .int .i64 x.start, .slice A1 x.nodes.length d1] := ⟨_, _, rfl, rfl, (Ext.refl w).alloc _, Blk.new _ _ _⟩
  rw [← hW, ← hB]
  have B0 := Lib.hid b0
  have X0 := Lib.hid hx0
  clear hW hB hx0 b0
  have ac := B0.out.cell
  go_wp2_with fail
  refine (taskRight_any (S := S) x _ _ (rel_Task HF.out (HD.out.ext X0.out))).mono ?_
  rintro e w1 ⟨rfl, hx⟩
  have X1 := Lib.hid (X0.out.trans hx)
  have B1 := Lib.hid (B0.out.ext hx)
  clear hx ac
  cases ht : taskRight x with
  | false =>
    have HE : Hid (taskBytes x = ⟨#[]⟩) := Lib.hid (by rw [taskBytes, ht]; rfl)
    clear ht
    go_wp2_with fail
    go_ret
    exact ⟨by rw [HE.out]; rfl, X1.out⟩
  | true =>
    have HE : Hid (taskBytes x = taskText x) := Lib.hid (by rw [taskBytes, if_pos ht])
    have hn6 := taskRight_nodes ht
    have HH := Lib.hid (head_fit HF.out)
    have HR := Lib.hid (rest_fit HF.out hn6)
    have HO : Hid (Str x.owner) := Lib.hid HF.out.2.2.2.1
    have s1 := from_size (headNums x) ⟨#[]⟩ HH.out
    have s2 := text_size (t := x.owner)
    have hz : (⟨#[]⟩ : ByteArray).size = 0 := rfl
    have hl3 : (headNums x).length = 3 := rfl
    rw [hz, hl3] at s1
    have s3 : (taskHead x).size ≤ 8040 := by unfold taskHead; rw [size_app]; omega
    have z1 : (putNumsFrom ⟨#[]⟩ (headNums x)).size ≤ 30 := by omega
    clear hz hl3
    have k2 : ¬ (9223372036854775807 < ((putNumsFrom ⟨#[]⟩ (headNums x)).size : Int) + ((putText x.owner).size : Int)) := by omega
    have k3 : ¬ (9223372036854775807 < (putNumsFrom ⟨#[]⟩ (headNums x)).size + (putText x.owner).size) := by omega
    have k4 : (putNumsFrom ⟨#[]⟩ (headNums x)).size + (putText x.owner).size ≤ 9223372036854775807 := by omega
    have k1 : (((putNumsFrom ⟨#[]⟩ (headNums x)).size : Nat) : Int) + (((putText x.owner).size : Nat) : Int) ≤ 9223372036854775807 := by omega
    have R3 : Hid (∀ V V' : World, Ext (V.alloc (.cells #[.int .i64 x.label.level, .int .i64 x.label.set, .int .i64 x.id] 2)) V' → Rd EInt (fun _ => True) V' (.slice (some ⟨V.heap.size, 0, none⟩) 3 3) (headNums x)) := Lib.hid fun V V' hV => (rd_ints 2 V (headNums x) _ rfl HH.out (by simp [headNums])).ext hV
    have R10 : Hid (∀ V V' : World, Ext (V.alloc (.cells #[.int .i64 x.need, .int .i64 x.long, .int .i64 x.prio, .int .i64 x.under.level, .int .i64 x.under.set, .int .i64 x.after, .int .i64 x.born, .int .i64 x.state, .int .i64 x.start, .int .i64 (x.nodes.length : Int)] 2)) V' → Rd EInt (fun _ => True) V' (.slice (some ⟨V.heap.size, 0, none⟩) 10 10) (restNums x)) := Lib.hid fun V V' hV => (rd_ints 2 V (restNums x) _ rfl HR.out (by simp [restNums])).ext hV
    clear ht s1
    go_wp2_with fail
    have al : ∀ V, Ext w1 V → ∀ i, V.cell? ⟨B, i, none⟩ = _ := fun V hV => (B1.out.ext hV).cell
    go_region_held3 (fun w' => Ext w1 w') (first | exact Ext.refl _ | exact (Ext.refl _).drew | assumption | exact Ext.alloc (by assumption) _ | exact Ext.trans (by assumption) hx1 | exact Ext.trans (by assumption) hx2) (first | (go_at_call 107; (with_reducible refine (putNums_any (S := fun _ => True) (headNums x) _ _ (R3.out w1 _ (by repeat (first | with_reducible exact Ext.refl _ | with_reducible refine Ext.drew ?_))) (by simp [headNums])).mono ?_); rintro e wA ⟨rfl, hx1⟩) | (go_at_call 108; (with_reducible refine (putText_any _ _ HO.out).mono ?_); rintro e wB ⟨rfl, hx2⟩))
    clear al
    have X2 : Hid (Ext w wB) := Lib.hid (X1.out.trans (by first | assumption | exact Ext.drew (by assumption)))
    have B2 := Lib.hid (B1.out.ext (show Ext w1 wB by first | assumption | exact Ext.drew (by assumption)))
    have HT : Hid (taskHead x = putNumsFrom ⟨#[]⟩ (headNums x) ++ putText x.owner) := Lib.hid rfl
    have s4 := from_size (restNums x) ⟨#[]⟩ HR.out
    have hz : (⟨#[]⟩ : ByteArray).size = 0 := rfl
    have hl : (restNums x).length = 10 := rfl
    rw [hz, hl] at s4
    have HNI : Hid (∀ y ∈ x.nodes, I64 y) := Lib.hid fun y hy => by
      obtain ⟨k, hk⟩ := List.getElem?_of_mem hy
      obtain ⟨_, _, _, _, _, hkk⟩ := HD.out
      obtain ⟨_, _, _, _, _, ⟨_, h64⟩, _⟩ := hkk k y hk
      exact h64
    have s5 := from_size x.nodes ⟨#[]⟩ HNI.out
    rw [hz] at s5
    have HTT : Hid (taskText x = (taskHead x ++ putNumsFrom ⟨#[]⟩ (restNums x)) ++ putNumsFrom ⟨#[]⟩ x.nodes) := Lib.hid (by
      rw [from_assoc, from_assoc]
      unfold taskText
      rw [show taskHead x ++ ⟨#[]⟩ = taskHead x from by apply ByteArray.ext; simp]
      rw [show putNumsFrom (taskHead x) (restNums x) ++ ⟨#[]⟩ = putNumsFrom (taskHead x) (restNums x) from by apply ByteArray.ext; simp])
    have s6 : (taskHead x ++ putNumsFrom ⟨#[]⟩ (restNums x)).size ≤ 8200 := by rw [size_app]; omega
    rw [← HT.out]
    clear hz hl
    have ac := B2.out.cell
    go_wp2_with (first | (go_at_call 107; (with_reducible refine (putNums_any (S := fun _ => True) (restNums x) _ _ (R10.out wB _ (by repeat (first | with_reducible exact Ext.refl _ | with_reducible refine Ext.drew ?_))) (by simp [restNums])).mono ?_); rintro e wC ⟨rfl, hxC⟩; have XC := Lib.hid (X2.out.trans (((Ext.refl _).alloc _).trans hxC)); have BC := Lib.hid (B2.out.ext (((Ext.refl _).alloc _).trans hxC)); clear hxC ac; have ac := BC.out.cell))
    refine (putNums_any (S := S) x.nodes _ _ (HD.out.ext XC.out) (by omega)).mono ?_
    rintro e wD ⟨rfl, hxD⟩
    have XD := Lib.hid (XC.out.trans hxD)
    clear hxD ac
    rw [size_app] at s6
    go_wp2_with fail
    go_ret
    exact ⟨by rw [HE.out, HTT.out]; rfl, XD.out⟩
end Go.Proofs.Ytalnbddpkkkpeaa

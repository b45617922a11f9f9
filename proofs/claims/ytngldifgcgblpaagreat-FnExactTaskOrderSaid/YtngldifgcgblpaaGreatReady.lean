/- The walks of TaskReady, the program's and the reference's. -/
import Derived.Test.YtngldifgcgblpaaGreatLive
namespace Go.Proofs.YtngldifgcgblpaaGreat
open Go.RowKit
attribute [local irreducible] wpQuiet

def readyB (l : List Task) (x : Task) : Bool :=
  if x.state ≠ 1 ∨ x.after = 0 then decide (x.state = 1)
  else l.any fun y => isTask x.under x.after y && decide ((l.find? (isTask x.under x.after)).map (·.state) = some 4)
def taskReady (l : List Task) (x : Task) : Bool := tasksRight l && taskRight x && readyB l x

theorem ready_found {l : List Task} {x : Task} (h1 : x.state = 1) (h2 : x.after ≠ 0) {k : Nat} (hk : k < l.length) (hp : isTask x.under x.after (nth l k) = true) (hn : ∀ j, j < k → isTask x.under x.after (nth l j) = false) : readyB l x = decide ((nth l k).state = 4) := by
  have hf : l.find? (isTask x.under x.after) = some (nth l k) := by
    rw [List.find?_eq_some_iff_getElem]
    refine ⟨hp, k, hk, (nth_eq hk).symm, fun j hj => ?_⟩
    have := hn j hj
    rw [nth_eq (by omega)] at this
    simpa using this
  unfold readyB
  rw [if_neg (by simp [h1, h2]), hf]
  by_cases h4 : (nth l k).state = 4
  · rw [decide_eq_true h4]
    exact List.any_eq_true.2 ⟨nth l k, nth_mem hk, by simp [hp, h4]⟩
  · rw [decide_eq_false h4, List.any_eq_false]
    intro y _
    simp [h4]
theorem ready_none {l : List Task} {x : Task} (h1 : x.state = 1) (h2 : x.after ≠ 0) (hn : ∀ j, j < l.length → isTask x.under x.after (nth l j) = false) : readyB l x = false := by
  unfold readyB
  rw [if_neg (by simp [h1, h2]), List.any_eq_false]
  intro y hy
  obtain ⟨j, hj, rfl⟩ := List.getElem_of_mem hy
  have := hn j hj
  rw [nth_eq hj] at this
  simp [this]
theorem ready_plain {l : List Task} {x : Task} (h : x.state ≠ 1 ∨ x.after = 0) : readyB l x = decide (x.state = 1) := by unfold readyB; rw [if_pos h]

set_option maxHeartbeats 4000000 in
set_option maxRecDepth 50000 in
theorem specReady_any {S S' : Nat → Prop} (l : List Task) (x : Task) (v : Value) (cs : List Value) (w : World) (h : Rd ETask S w v l) (g : ETask.rel S' w cs x) :
    Calls Tryz.prog 185 #[v, .agg cs.toArray] w fun e w' => e = .returned (.bool (readyB l x)) ∧ Ext w w' := by
  have HR := Lib.hid h
  obtain ⟨A, c, rfl, h1, h2, hk⟩ := h.open_
  unfold maxLen at h2
  have HK := Lib.hid hk
  clear hk h
  obtain ⟨v1, rfl, _, hrd⟩ := g
  obtain ⟨A1, c1, rfl, -⟩ := hrd.form
  clear hrd
  simp only [cellsTask]
  by_cases hp : x.state ≠ 1 ∨ x.after = 0
  · have HE := Lib.hid (ready_plain (l := l) hp)
    go_enter Tryz.func185, Tryz.ntmps185
    rcases hp with hp | hp
    · go_wp2_with fail
      all_goals (go_ret; exact ⟨ret_bool (by rw [HE.out]; go_light; grind), (Ext.refl _).alloc _⟩)
    · go_wp2_with fail
      all_goals (go_ret; exact ⟨ret_bool (by rw [HE.out]; go_light; grind), (Ext.refl _).alloc _⟩)
  · simp only [ne_eq, not_or, Classical.not_not] at hp
    obtain ⟨p1, p2⟩ := hp
    have P1 := Lib.hid p1
    have P2 := Lib.hid p2
    clear p1 p2
    go_enter Tryz.func185, Tryz.ntmps185
    go_upto_region 1 with (fail)
    obtain ⟨W, B, hW__, hB__, hxW, hbox__⟩ := box_new w #[.int .i64 x.label.level, .int .i64 x.label.set, .int .i64 x.id, .string x.owner, .int .i64 x.need, .int .i64 x.long, .int .i64 x.prio, .int .i64 x.under.level, .int .i64 x.under.set, .int .i64 x.after, .int .i64 x.born, .int .i64 x.state, .int .i64 x.start, .slice A1 x.nodes.length c1] 87
    rw [← hW__, ← hB__]
    have e7 := hbox__ 7 _ rfl
    have e8 := hbox__ 8 _ rfl
    have e9 := hbox__ 9 _ rfl
    have e11 := hbox__ 11 _ rfl
    clear hW__ hB__ hbox__
    have HW := Lib.hid hxW
    clear hxW
    have p1 := P1.out
    have p2 := P2.out
    go_wp2_with fail
    refine (l12At_any (S := S) l x.under x.after _ _ (HR.out.ext HW.out)).mono ?_
    rintro e w1 ⟨rfl, hx1⟩
    have X1 := Lib.hid (HW.out.trans hx1)
    clear hx1 e7 e8 e9 e11 p1 p2
    rcases idxOf_cases (isTask x.under x.after) l with ⟨hi, hn⟩ | ⟨k, hlt, hi, hq, hn⟩
    · have HI : Hid (taskIx l x.under x.after = -1) := Lib.hid hi
      have HE := Lib.hid (ready_none P1.out P2.out hn)
      clear hi hn
      rw [HI.out]
      go_wp2_with fail
      go_ret
      exact ⟨ret_bool HE.out.symm, X1.out⟩
    · have HI : Hid (taskIx l x.under x.after = k) := Lib.hid hi
      have HE := Lib.hid (ready_found P1.out P2.out hlt hq hn)
      obtain ⟨b, q, cs, rfl, _, ⟨v2, rfl, _, _⟩, hc⟩ := HK.out k hlt
      have c11 := Ext.some X1.out (hc 11 _ rfl)
      simp only [ETask] at c11
      clear hi hq hn hc
      rw [HI.out]
      go_wp2_with fail
      go_ret
      exact ⟨ret_bool (by rw [HE.out]; go_light; first | rfl | (rw [Bool.eq_iff_iff]; simp)), X1.out⟩

set_option maxHeartbeats 4000000 in
set_option maxRecDepth 50000 in
theorem ready_any {S S' : Nat → Prop} (l : List Task) (x : Task) (v : Value) (cs : List Value) (w : World) (h : Rd ETask S w v l) (g : ETask.rel S' w cs x) :
    Calls Tryz.prog 187 #[v, .agg cs.toArray] w fun e w' => e = .returned (.bool (readyB l x)) ∧ Ext w w' := by
  have HR := Lib.hid h
  obtain ⟨A, c, rfl, h1, h2, hk⟩ := h.open_
  unfold maxLen at h2
  have HK := Lib.hid hk
  clear hk h
  obtain ⟨v1, rfl, _, hrd⟩ := g
  obtain ⟨A1, c1, rfl, -⟩ := hrd.form
  clear hrd
  simp only [cellsTask]
  by_cases hp : x.state ≠ 1 ∨ x.after = 0
  · have HE := Lib.hid (ready_plain (l := l) hp)
    go_enter Tryz.func187, Tryz.ntmps187
    rcases hp with hp | hp
    · go_wp2_with fail
      all_goals (go_ret; exact ⟨ret_bool (by rw [HE.out]; go_light; grind), (Ext.refl _).alloc _⟩)
    · go_wp2_with fail
      all_goals (go_ret; exact ⟨ret_bool (by rw [HE.out]; go_light; grind), (Ext.refl _).alloc _⟩)
  · simp only [ne_eq, not_or, Classical.not_not] at hp
    obtain ⟨p1, p2⟩ := hp
    have P1 := Lib.hid p1
    have P2 := Lib.hid p2
    clear p1 p2
    go_enter Tryz.func187, Tryz.ntmps187
    go_upto_region 1 with (fail)
    obtain ⟨W, B, hW__, hB__, hxW, hbox__⟩ := box_new w #[.int .i64 x.label.level, .int .i64 x.label.set, .int .i64 x.id, .string x.owner, .int .i64 x.need, .int .i64 x.long, .int .i64 x.prio, .int .i64 x.under.level, .int .i64 x.under.set, .int .i64 x.after, .int .i64 x.born, .int .i64 x.state, .int .i64 x.start, .slice A1 x.nodes.length c1] 87
    rw [← hW__, ← hB__]
    have e7 := hbox__ 7 _ rfl
    have e8 := hbox__ 8 _ rfl
    have e9 := hbox__ 9 _ rfl
    have e11 := hbox__ 11 _ rfl
    clear hW__ hB__ hbox__
    have HW := Lib.hid hxW
    clear hxW
    have p1 := P1.out
    have p2 := P2.out
    go_wp2_with fail
    refine (taskAt_any (S := S) l x.under x.after _ _ (HR.out.ext HW.out)).mono ?_
    rintro e w1 ⟨rfl, hx1⟩
    have X1 := Lib.hid (HW.out.trans hx1)
    clear hx1 e7 e8 e9 e11 p1 p2
    rcases idxOf_cases (isTask x.under x.after) l with ⟨hi, hn⟩ | ⟨k, hlt, hi, hq, hn⟩
    · have HI : Hid (taskIx l x.under x.after = -1) := Lib.hid hi
      have HE := Lib.hid (ready_none P1.out P2.out hn)
      clear hi hn
      rw [HI.out]
      go_wp2_with fail
      go_ret
      exact ⟨ret_bool HE.out.symm, X1.out⟩
    · have HI : Hid (taskIx l x.under x.after = k) := Lib.hid hi
      have HE := Lib.hid (ready_found P1.out P2.out hlt hq hn)
      obtain ⟨b, q, cs, rfl, _, ⟨v2, rfl, _, _⟩, hc⟩ := HK.out k hlt
      have c11 := Ext.some X1.out (hc 11 _ rfl)
      simp only [ETask] at c11
      clear hi hq hn hc
      rw [HI.out]
      go_wp2_with fail
      go_ret
      exact ⟨ret_bool (by rw [HE.out]; go_light; first | rfl | (rw [Bool.eq_iff_iff]; simp)), X1.out⟩

end Go.Proofs.YtngldifgcgblpaaGreat

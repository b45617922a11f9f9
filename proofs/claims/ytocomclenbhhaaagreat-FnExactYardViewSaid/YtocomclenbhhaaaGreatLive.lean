/- The walks of LiveOf, the program's and the reference's. -/
import Derived.Test.YtocomclenbhhaaaGreatTasksI
import Derived.Test.YtocomclenbhhaaaGreatTasksS
namespace Go.Proofs.YtocomclenbhhaaaGreat
open Go.RowKit
attribute [local irreducible] wpQuiet

def liveB (n : Int) : Bool := isB n 1 3
def isLive (a : Label) (x : Task) : Bool := decide (x.label = a) && liveB x.state
def liveN (l : List Task) (a : Label) : Nat := l.countP (isLive a)
def liveOf (l : List Task) (a : Label) : Int := if tasksRight l = true then liveN l a else 0
theorem liveN_succ {l : List Task} {a : Label} {k : Nat} (hk : k < l.length) : liveN (l.take (k + 1)) a = liveN (l.take k) a + if isLive a (nth l k) = true then 1 else 0 := by
  have h : l.take (k + 1) = l.take k ++ [nth l k] := by
    rw [List.take_succ_eq_append_getElem hk, nth_eq hk]
  rw [h]
  simp [liveN, List.countP_append, List.countP_cons]
theorem liveN_le (l : List Task) (a : Label) (k : Nat) : liveN (l.take k) a ≤ k := Nat.le_trans List.countP_le_length (List.length_take_le _ _)
theorem isLive_iff {a : Label} {x : Task} : isLive a x = (decide (x.label.level = a.level) && decide (x.label.set = a.set) && liveB x.state) := by
  obtain ⟨⟨l, s⟩, i, _⟩ := x
  obtain ⟨m, t⟩ := a
  simp [isLive]

theorem l12Live_any (n : Int) (w : World) : Calls Tryz.prog 125 #[.int .i64 n] w fun e w' => e = .returned (.bool (liveB n)) ∧ w = w' := by
  go_enter Tryz.func125, Tryz.ntmps125
  go_wp2_with fail
  all_goals (go_ret; exact ⟨ret_bool (by go_light; unfold liveB isB; grind), rfl⟩)

set_option maxHeartbeats 2000000 in
theorem isLive_any (l s i : Int) (o : ByteArray) (ne lo pr ul us af bo st sa : Int) (A : Option Addr) (n c : Nat) (w : World) :
    Calls Tryz.prog 150 #[.agg #[.int .i64 l, .int .i64 s, .int .i64 i, .string o, .int .i64 ne, .int .i64 lo, .int .i64 pr, .int .i64 ul, .int .i64 us, .int .i64 af, .int .i64 bo, .int .i64 st, .int .i64 sa, .slice A n c]] w fun e w' => e = .returned (.bool (liveB st)) ∧ Ext w w' := by
  go_enter Tryz.func150, Tryz.ntmps150
  go_wp2_with (go_at_call 95; refine (within_any _ _ _ _).mono ?_; rintro e w' ⟨rfl, rfl⟩)
  go_ret
  exact ⟨rfl, (Ext.refl _).alloc _⟩

set_option maxHeartbeats 4000000 in
set_option maxRecDepth 50000 in
theorem liveOfN_any {S : Nat → Prop} (l : List Task) (a : Label) (v : Value) (w : World) (h : Rd ETask S w v l) (hl : l.length ≤ 96) :
    Calls Tryz.prog 67 #[v, .agg #[.int .i64 a.level, .int .i64 a.set]] w fun e w' => e = .returned (.int .i64 (liveN l a)) ∧ Ext w w' := by
  obtain ⟨A, c, rfl, h1, h2, hk⟩ := h.open_
  unfold maxLen at h2
  have HK := Lib.hid hk
  clear hk h
  go_enter Tryz.func67, Tryz.ntmps67
  go_upto_region 1 with (fail)
  obtain ⟨W, B, hW__, hB__, hxW, hbox__⟩ := box_new w #[.int .i64 a.level, .int .i64 a.set] 60
  rw [← hW__, ← hB__]
  have b0 := hbox__ 0 _ rfl
  have b1 := hbox__ 1 _ rfl
  clear hW__ hB__ hbox__
  have HB0 := Lib.hid b0
  have HB1 := Lib.hid b1
  have HW := Lib.hid hxW
  clear b0 b1 hxW
  go_wp2_with fail
  go_loopw [5, 10] (fun n i w' => ∃ k : Nat, k ≤ l.length ∧ i = .int .i64 k ∧ n = .int .i64 (liveN (l.take k) a) ∧ Ext W w') (fun _ i _ => l.length - (intOf i).toNat)
  case atStart => exact ⟨0, by omega, rfl, rfl, Ext.refl _⟩
  case round =>
    obtain ⟨k, hk1, rfl, rfl, hx⟩ := hrel
    have HX := Lib.hid hx
    by_cases hlt : k < l.length
    · obtain ⟨b, q, cs, rfl, _, ⟨v1, rfl, hfit, hrd⟩, hc⟩ := HK.out k hlt
      obtain ⟨A1, c1', rfl, -⟩ := hrd.form
      have hxx := HW.out.trans hx
      have c0 := Ext.some hxx (hc 0 _ rfl)
      have c1 := Ext.some hxx (hc 1 _ rfl)
      have c2 := Ext.some hxx (hc 2 _ rfl)
      have c3 := Ext.some hxx (hc 3 _ rfl)
      have c4 := Ext.some hxx (hc 4 _ rfl)
      have c5 := Ext.some hxx (hc 5 _ rfl)
      have c6 := Ext.some hxx (hc 6 _ rfl)
      have c7 := Ext.some hxx (hc 7 _ rfl)
      have c8 := Ext.some hxx (hc 8 _ rfl)
      have c9 := Ext.some hxx (hc 9 _ rfl)
      have c10 := Ext.some hxx (hc 10 _ rfl)
      have c11 := Ext.some hxx (hc 11 _ rfl)
      have c12 := Ext.some hxx (hc 12 _ rfl)
      have c13 := Ext.some hxx (hc 13 _ rfl)
      simp only [ETask, Nat.add_zero] at c0 c1 c2 c3 c4 c5 c6 c7 c8 c9 c10 c11 c12 c13
      have d0 := fun o : Obj => Ext.some (hx.alloc o) HB0.out
      have d1 := fun o : Obj => Ext.some (hx.alloc o) HB1.out
      have HS := Lib.hid (liveN_succ (a := a) hlt)
      have hle := liveN_le l a k
      clear hc hfit hrd hx hxx
      generalize hn : liveN (l.take k) a = n at *
      have HN := Lib.hid hn
      clear hn
      have ite__ := @ite_ok
      go_wp2_with (go_at_call 150; refine (isLive_any _ _ _ _ _ _ _ _ _ _ _ _ _ _ _ _ _).mono ?_; rintro e w2 ⟨rfl, hx2⟩; have X2 := Lib.hid ((HX.out.alloc _).trans hx2); clear hx2)
      all_goals
        refine ⟨⟨k + 1, by omega, by go_num, by rw [HS.out, isLive_iff]; clear ite__; go_light; simp [*], by first | exact X2.out | exact HX.out.alloc _⟩, ?_⟩
        simp [intOf]
        omega
    · obtain rfl : k = l.length := by omega
      go_wp2_with fail
      go_ret
      exact ⟨ret_int (by rw [List.take_length]), HW.out.trans HX.out⟩

set_option maxHeartbeats 4000000 in
set_option maxRecDepth 50000 in
theorem specLiveOf_any {S : Nat → Prop} (l : List Task) (a : Label) (v : Value) (w : World) (h : Rd ETask S w v l) :
    Calls Tryz.prog 54 #[v, .agg #[.int .i64 a.level, .int .i64 a.set]] w fun e w' => e = .returned (.int .i64 (liveOf l a)) ∧ Ext w w' := by
  have HR := Lib.hid h
  obtain ⟨A, c, rfl, h1, h2, hk⟩ := h.open_
  unfold maxLen at h2
  have HK := Lib.hid hk
  clear hk h
  go_enter Tryz.func54, Tryz.ntmps54
  go_upto_region 1 with (fail)
  obtain ⟨W, B, hW__, hB__, hxW, hbox__⟩ := box_new w #[.int .i64 a.level, .int .i64 a.set] 60
  rw [← hW__, ← hB__]
  have b0 := hbox__ 0 _ rfl
  have b1 := hbox__ 1 _ rfl
  clear hW__ hB__ hbox__
  have HW := Lib.hid hxW
  clear hxW
  go_wp2_with fail
  refine (specTasksRight_any (S := S) l _ _ (HR.out.ext HW.out)).mono ?_
  rintro e w1 ⟨rfl, hx⟩
  have HB0 := Lib.hid (Ext.some hx b0)
  have HB1 := Lib.hid (Ext.some hx b1)
  have X1 := Lib.hid (HW.out.trans hx)
  clear hx b0 b1
  by_cases ht : tasksRight l = true
  · have HL : Hid (l.length ≤ 96) := Lib.hid (by simp only [tasksRight, Bool.and_eq_true, decide_eq_true_eq] at ht; exact ht.1)
    have HE : Hid (liveOf l a = liveN l a) := Lib.hid (by rw [liveOf, if_pos ht])
    have hl := HL.out
    go_wp2_with fail
    clear ht
    go_loopw [5, 6] (fun n i w' => ∃ k : Nat, k ≤ l.length ∧ i = .int .i64 k ∧ n = .int .i64 (liveN (l.take k) a) ∧ Ext w1 w') (fun _ i _ => l.length - (intOf i).toNat)
    case atStart => exact ⟨0, by omega, rfl, rfl, Ext.refl _⟩
    case round =>
      obtain ⟨k, hk1, rfl, rfl, hx⟩ := hrel
      have HX := Lib.hid hx
      by_cases hlt : k < l.length
      · obtain ⟨b, q, cs, rfl, _, ⟨v1, rfl, hfit, hrd⟩, hc⟩ := HK.out k hlt
        have hxx := X1.out.trans hx
        have c0 := Ext.some hxx (hc 0 _ rfl)
        have c1 := Ext.some hxx (hc 1 _ rfl)
        have c11 := Ext.some hxx (hc 11 _ rfl)
        simp only [ETask, Nat.add_zero] at c0 c1 c11
        have d0 := Ext.some hx HB0.out
        have d1 := Ext.some hx HB1.out
        have HS := Lib.hid (liveN_succ (a := a) hlt)
        have hle := liveN_le l a k
        clear hc hfit hrd hx hxx
        generalize hn : liveN (l.take k) a = n at *
        have HN := Lib.hid hn
        clear hn
        go_wp2_with fail
        all_goals refine wp_region_ext (by kernel_rfl) (by kernel_rfl) ?_
        all_goals have ite__ := @ite_ok
        repeat (any_goals (
          refine wpQuiet_step (fun K hK => ?_)
          go_simp
          first
            | (refine hK _ ?_; clear hK K)
            | (apply Exists.intro
               refine ⟨fun w__ hx__ => ?_, hK _ ?_⟩
               · have c0__ := Ext.some hx__ c0; have c1__ := Ext.some hx__ c1; have c11__ := Ext.some hx__ c11; have d0__ := Ext.some hx__ d0; have d1__ := Ext.some hx__ d1; (first | exact rfl | (go_simp; done) | (go_simp; exact rfl) | (go_at_call 125; exact ext_of_same hx__ (l12Live_any _ _)))
               clear hK K)
            | (split
               all_goals (first
                 | (refine hK _ ?_; clear hK K)
                 | (apply Exists.intro
                    refine ⟨fun w__ hx__ => ?_, hK _ ?_⟩
                    · have c0__ := Ext.some hx__ c0; have c1__ := Ext.some hx__ c1; have c11__ := Ext.some hx__ c11; have d0__ := Ext.some hx__ d0; have d1__ := Ext.some hx__ d1; (first | exact rfl | (go_simp; done) | (go_simp; exact rfl) | (go_at_call 125; exact ext_of_same hx__ (l12Live_any _ _)))
                    clear hK K)))))
        all_goals (refine wpQuiet_nil ?_)
        all_goals (intro w1 hx1; clear ite__)
        all_goals have X2 := Lib.hid (HX.out.trans hx1)
        all_goals clear hx1 c0 c1 c11 d0 d1
        all_goals go_wp2_with fail
        all_goals
          refine ⟨⟨k + 1, by omega, by go_num, by rw [HS.out, isLive_iff]; go_light; simp [*], X2.out⟩, ?_⟩
          simp [intOf]
          omega
      · obtain rfl : k = l.length := by omega
        go_wp2_with fail
        go_ret
        exact ⟨ret_int (by rw [HE.out, List.take_length]), X1.out.trans HX.out⟩
  · have HE : Hid (liveOf l a = 0) := Lib.hid (by rw [liveOf, if_neg ht])
    simp only [Bool.not_eq_true] at ht
    go_wp2_with fail
    go_ret
    exact ⟨ret_int HE.out.symm, X1.out⟩
end Go.Proofs.YtocomclenbhhaaaGreat

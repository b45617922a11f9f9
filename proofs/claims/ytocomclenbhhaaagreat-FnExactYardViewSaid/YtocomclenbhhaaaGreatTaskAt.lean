/- The walks of the search for a task: l12At and taskAt. -/
import Derived.Test.YtocomclenbhhaaaGreatUseOf
import Derived.Test.YtocomclenbhhaaaGreatTaskR
namespace Go.Proofs.YtocomclenbhhaaaGreat
open Go.RowKit
attribute [local irreducible] wpQuiet

set_option maxHeartbeats 1000000 in
set_option maxRecDepth 50000 in
theorem indexFunc_Task {S : Nat → Prop} (l : List Task) (p : Task → Bool) (v : Value) (f : Nat) (caps : Array Value) (w : World) (h : Rd ETask S w v l) (hcall : ∀ (args : Array Value) (W : World), (callFunc f args).run Tryz.prog W = .ok (.enter f args) W)
    (hf : ∀ (cs : List Value) (x : Task) (w1 : World), Ext w w1 → ETask.rel S w1 cs x → Calls Tryz.prog f (#[.agg cs.toArray] ++ caps) w1 fun e w' => e = .returned (.bool (p x)) ∧ Ext w1 w') :
    Calls Tryz.prog 191 #[v, .func (.func f) #[] caps] w fun e w' => e = .returned (.int .i64 (idxOf p l)) ∧ Ext w w' := by
  obtain ⟨A, c, rfl, h1, h2, hk⟩ := h.open_
  unfold maxLen at h2
  have HK := Lib.hid hk
  have HF := Lib.hid hf
  clear hk h hf
  go_enter Tryz.func191, Tryz.ntmps191
  go_wp2_with fail
  go_loopw [8] (fun i w' => ∃ k : Nat, k ≤ l.length ∧ i = .int .i64 k ∧ (∀ j, j < k → p (nth l j) = false) ∧ Ext w w') (fun i _ => l.length - (intOf i).toNat)
  case atStart => exact ⟨0, by omega, rfl, fun j hj => by omega, Ext.refl _⟩
  case round =>
    obtain ⟨k, hk1, rfl, hall, hx⟩ := hrel
    have HA := Lib.hid hall
    have HX := Lib.hid hx
    clear hall
    by_cases hlt : k < l.length
    · obtain ⟨b, o, cs, rfl, hb, hr, hc⟩ := HK.out k hlt
      have HR := Lib.hid (ETask.keep (hx.same S) hr)
      have HC := Lib.hid (hx.range hc)
      have HI : Hid ((Tryz.prog.info? 90).map (·.size) = some cs.length) := Lib.hid (by rw [ETask.len hr]; kernel_rfl)
      clear hr hc hx
      by_cases hp : p (nth l k) = true
      · have HE : Hid (idxOf p l = k) := Lib.hid (idxOf_some hlt HA.out hp)
        go_wp2_with (first | (refine wpList_load_mid rfl 90 _ rfl b (o + k * 14) rfl cs _ HC.out Tryz.underlying90 rfl HI.out ?_) | ((with_reducible refine (HF.out cs (nth l k) _ HX.out HR.out).mono ?_); rintro e w1 ⟨rfl, hx1⟩; have HX1 := Lib.hid hx1; clear hx1))
        go_ret
        exact ⟨ret_int HE.out.symm, HX.out.trans HX1.out⟩
      · simp only [Bool.not_eq_true] at hp
        have HE := Lib.hid (all_succ HA.out hp)
        go_wp2_with (first | (refine wpList_load_mid rfl 90 _ rfl b (o + k * 14) rfl cs _ HC.out Tryz.underlying90 rfl HI.out ?_) | ((with_reducible refine (HF.out cs (nth l k) _ HX.out HR.out).mono ?_); rintro e w1 ⟨rfl, hx1⟩; have HX1 := Lib.hid hx1; clear hx1))
        go_roundw
        case rel => exact ⟨k + 1, by omega, by go_num, HE.out, HX.out.trans HX1.out⟩
        case measure => simp [intOf]; omega
    · have HE : Hid (idxOf p l = -1) := Lib.hid (idxOf_none fun j hj => HA.out j (by omega))
      go_wp2_with fail
      go_ret
      exact ⟨ret_int HE.out.symm, HX.out⟩
theorem indexFunc_Task_0 {S : Nat → Prop} (l : List Task) (p : Task → Bool) (v : Value) (f : Nat) (w : World) (h : Rd ETask S w v l) (hcall : ∀ (args : Array Value) (W : World), (callFunc f args).run Tryz.prog W = .ok (.enter f args) W)
    (hf : ∀ (cs : List Value) (x : Task) (w1 : World), Ext w w1 → ETask.rel S w1 cs x → Calls Tryz.prog f #[.agg cs.toArray] w1 fun e w' => e = .returned (.bool (p x)) ∧ Ext w1 w') :
    Calls Tryz.prog 191 #[v, .func (.func f) #[] #[]] w fun e w' => e = .returned (.int .i64 (idxOf p l)) ∧ Ext w w' :=
  indexFunc_Task l p v f #[] w h hcall fun cs x w1 hx hr => by rw [show (#[.agg cs.toArray] ++ #[] : Array Value) = #[.agg cs.toArray] from rfl]; exact hf cs x w1 hx hr
theorem indexFunc_Task_1 {S : Nat → Prop} (l : List Task) (p : Task → Bool) (v : Value) (f : Nat) (c1 : Value) (w : World) (h : Rd ETask S w v l) (hcall : ∀ (args : Array Value) (W : World), (callFunc f args).run Tryz.prog W = .ok (.enter f args) W)
    (hf : ∀ (cs : List Value) (x : Task) (w1 : World), Ext w w1 → ETask.rel S w1 cs x → Calls Tryz.prog f #[.agg cs.toArray, c1] w1 fun e w' => e = .returned (.bool (p x)) ∧ Ext w1 w') :
    Calls Tryz.prog 191 #[v, .func (.func f) #[] #[c1]] w fun e w' => e = .returned (.int .i64 (idxOf p l)) ∧ Ext w w' :=
  indexFunc_Task l p v f #[c1] w h hcall fun cs x w1 hx hr => by rw [show (#[.agg cs.toArray] ++ #[c1] : Array Value) = #[.agg cs.toArray, c1] from rfl]; exact hf cs x w1 hx hr
theorem indexFunc_Task_2 {S : Nat → Prop} (l : List Task) (p : Task → Bool) (v : Value) (f : Nat) (c1 c2 : Value) (w : World) (h : Rd ETask S w v l) (hcall : ∀ (args : Array Value) (W : World), (callFunc f args).run Tryz.prog W = .ok (.enter f args) W)
    (hf : ∀ (cs : List Value) (x : Task) (w1 : World), Ext w w1 → ETask.rel S w1 cs x → Calls Tryz.prog f #[.agg cs.toArray, c1, c2] w1 fun e w' => e = .returned (.bool (p x)) ∧ Ext w1 w') :
    Calls Tryz.prog 191 #[v, .func (.func f) #[] #[c1, c2]] w fun e w' => e = .returned (.int .i64 (idxOf p l)) ∧ Ext w w' :=
  indexFunc_Task l p v f #[c1, c2] w h hcall fun cs x w1 hx hr => by rw [show (#[.agg cs.toArray] ++ #[c1, c2] : Array Value) = #[.agg cs.toArray, c1, c2] from rfl]; exact hf cs x w1 hx hr
theorem indexFunc_Task_3 {S : Nat → Prop} (l : List Task) (p : Task → Bool) (v : Value) (f : Nat) (c1 c2 c3 : Value) (w : World) (h : Rd ETask S w v l) (hcall : ∀ (args : Array Value) (W : World), (callFunc f args).run Tryz.prog W = .ok (.enter f args) W)
    (hf : ∀ (cs : List Value) (x : Task) (w1 : World), Ext w w1 → ETask.rel S w1 cs x → Calls Tryz.prog f #[.agg cs.toArray, c1, c2, c3] w1 fun e w' => e = .returned (.bool (p x)) ∧ Ext w1 w') :
    Calls Tryz.prog 191 #[v, .func (.func f) #[] #[c1, c2, c3]] w fun e w' => e = .returned (.int .i64 (idxOf p l)) ∧ Ext w w' :=
  indexFunc_Task l p v f #[c1, c2, c3] w h hcall fun cs x w1 hx hr => by rw [show (#[.agg cs.toArray] ++ #[c1, c2, c3] : Array Value) = #[.agg cs.toArray, c1, c2, c3] from rfl]; exact hf cs x w1 hx hr

/-- The inequality of two structs of two parts, as one Bool. -/
theorem ite_no (p : Prop) [Decidable p] (b : Bool) (w : World) : (if p then Result.ok (Next.value (.bool b)) w else Result.ok (Next.value (.bool true)) w) = Result.ok (Next.value (.bool (!decide p || b))) w := by
  by_cases h : p <;> simp [h]
/-- Has this label and this number. -/
def isTask (a : Label) (n : Int) (x : Task) : Bool := decide (x.label = a) && decide (x.id = n)
theorem isTask_iff {a : Label} {n : Int} {x : Task} : isTask a n x = (decide (x.label.level = a.level) && decide (x.label.set = a.set) && decide (x.id = n)) := by
  obtain ⟨⟨l, s⟩, i, _⟩ := x
  obtain ⟨m, t⟩ := a
  simp [isTask]
def taskIx (l : List Task) (a : Label) (n : Int) : Int := idxOf (isTask a n) l

set_option maxHeartbeats 4000000 in
theorem l12At_any {S : Nat → Prop} (l : List Task) (a : Label) (n : Int) (v : Value) (w : World) (h : Rd ETask S w v l) :
    Calls Tryz.prog 120 #[v, .agg #[.int .i64 a.level, .int .i64 a.set], .int .i64 n] w fun e w' => e = .returned (.int .i64 (taskIx l a n)) ∧ Ext w w' := by
  have HR := Lib.hid h
  obtain ⟨A, c, rfl, h1, h2, hk⟩ := h.open_
  unfold maxLen at h2
  have HK := Lib.hid hk
  clear hk h
  go_enter Tryz.func120, Tryz.ntmps120
  go_upto_region 1 with (fail)
  obtain ⟨W, B, hW__, hB__, hxW, hbox__⟩ := box_new w #[.int .i64 a.level, .int .i64 a.set] 60
  rw [← hW__, ← hB__]
  have b0 := hbox__ 0 _ rfl
  have b1 := hbox__ 1 _ rfl
  clear hW__ hB__ hbox__
  have HB0 := Lib.hid b0
  have HB1 := Lib.hid b1
  have HW := Lib.hid hxW
  clear b0 b1 hxW
  go_wp2_with fail
  go_loopw [7] (fun i w' => ∃ k : Nat, k ≤ l.length ∧ i = .int .i64 k ∧ (∀ j, j < k → isTask a n (nth l j) = false) ∧ Ext W w') (fun i _ => l.length - (intOf i).toNat)
  case atStart => exact ⟨0, by omega, rfl, fun j hj => by omega, Ext.refl _⟩
  case round =>
    obtain ⟨k, hk1, rfl, hall, hx⟩ := hrel
    have HA := Lib.hid hall
    have HX := Lib.hid (HW.out.trans hx)
    have HY := Lib.hid hx
    clear hall
    by_cases hlt : k < l.length
    · obtain ⟨b, q, cs, rfl, _, ⟨v1, rfl, hfit, _⟩, hc⟩ := HK.out k hlt
      have c0 := Ext.some HX.out (hc 0 _ rfl)
      have c1 := Ext.some HX.out (hc 1 _ rfl)
      have c2 := Ext.some HX.out (hc 2 _ rfl)
      have d0 := Ext.some hx HB0.out
      have d1 := Ext.some hx HB1.out
      simp only [ETask, Nat.add_zero] at c0 c1 c2
      clear hc hfit hx
      go_wp2_with fail
      all_goals refine wp_region_ext (by kernel_rfl) (by kernel_rfl) ?_
      all_goals have ite__ := @ite_ok
      repeat (any_goals (
        refine wpQuiet_step (fun K hK => ?_)
        go_simp
        first
          | (refine hK _ ?_; clear hK K)
          | (apply Exists.intro
             refine ⟨fun w__ hx__ => ?_, hK _ ?_⟩
             · have c0__ := Ext.some hx__ c0; have c1__ := Ext.some hx__ c1; have c2__ := Ext.some hx__ c2; have d0__ := Ext.some hx__ d0; have d1__ := Ext.some hx__ d1; (first | exact rfl | (go_simp; done) | (go_simp; exact rfl))
             clear hK K)
          | (split
             all_goals (first
               | (refine hK _ ?_; clear hK K)
               | (apply Exists.intro
                  refine ⟨fun w__ hx__ => ?_, hK _ ?_⟩
                  · have c0__ := Ext.some hx__ c0; have c1__ := Ext.some hx__ c1; have c2__ := Ext.some hx__ c2; have d0__ := Ext.some hx__ d0; have d1__ := Ext.some hx__ d1; (first | exact rfl | (go_simp; done) | (go_simp; exact rfl))
                  clear hK K)))))
      all_goals (refine wpQuiet_nil ?_)
      all_goals (intro w1 hx1; clear ite__)
      all_goals have HE := Lib.hid hx1
      all_goals clear c0 c1 c2 d0 d1 hx1
      all_goals go_wp2_with fail
      all_goals first
        | (go_ret; exact ⟨ret_int (idxOf_some hlt HA.out (by rw [isTask_iff]; simp [*] <;> first | exact eq_of_beq (by assumption) | exact ne_of_beq_false (by assumption))).symm, HX.out.trans HE.out⟩)
        | (go_roundw
           case rel => exact ⟨k + 1, by omega, by go_num, all_succ HA.out (by rw [isTask_iff]; simp [*] <;> first | exact eq_of_beq (by assumption) | exact ne_of_beq_false (by assumption)), HY.out.trans HE.out⟩
           case measure => simp [intOf]; omega)
        | (refine ⟨⟨k + 1, by omega, by go_num, all_succ HA.out (by rw [isTask_iff]; simp [*] <;> first | exact eq_of_beq (by assumption) | exact ne_of_beq_false (by assumption)), HY.out.trans HE.out⟩, ?_⟩
           simp [intOf]
           omega)
    · have HE := Lib.hid (idxOf_none (p := isTask a n) (l := l) fun j hj => HA.out j (by omega))
      go_wp2_with fail
      go_ret
      exact ⟨ret_int HE.out.symm, HX.out⟩

theorem call_taskAt1 : ∀ (args : Array Value) (W : World), (callFunc 192 args).run Tryz.prog W = .ok (.enter 192 args) W := by
  intro args W
  go_simp

set_option maxHeartbeats 4000000 in
theorem taskAt1_any {S : Nat → Prop} (x : Task) (a : Label) (n : Int) (cs : List Value) (B : Nat) (w : World) (h : ETask.rel S w cs x) (d0 : w.cell? ⟨B, 0, none⟩ = some (.int .i64 a.level)) (d1 : w.cell? ⟨B, 1, none⟩ = some (.int .i64 a.set)) (d2 : w.cell? ⟨B + 1, 0, none⟩ = some (.int .i64 n)) :
    Calls Tryz.prog 192 #[.agg cs.toArray, .pointer (some ⟨B, 0, none⟩), .pointer (some ⟨B + 1, 0, none⟩)] w fun e w' => e = .returned (.bool (isTask a n x)) ∧ Ext w w' := by
  obtain ⟨v1, rfl, hi, hr⟩ := h
  obtain ⟨A, c, rfl, -⟩ := hr.form
  clear hi hr
  have d0' := fun ob : Obj => Ext.some ((Ext.refl w).alloc ob) d0
  have d1' := fun ob : Obj => Ext.some ((Ext.refl w).alloc ob) d1
  have d2' := fun ob : Obj => Ext.some ((Ext.refl w).alloc ob) d2
  have ite__ := @ite_ok
  simp only [cellsTask]
  go_enter Tryz.func192, Tryz.ntmps192
  go_wp2_with fail
  all_goals (go_ret; exact ⟨ret_bool (by rw [isTask_iff]; simp [*] <;> (rw [Bool.eq_iff_iff]; simp)), (Ext.refl _).alloc _⟩)

set_option maxHeartbeats 4000000 in
theorem taskAt_any {S : Nat → Prop} (l : List Task) (a : Label) (n : Int) (v : Value) (w : World) (h : Rd ETask S w v l) :
    Calls Tryz.prog 136 #[v, .agg #[.int .i64 a.level, .int .i64 a.set], .int .i64 n] w fun e w' => e = .returned (.int .i64 (taskIx l a n)) ∧ Ext w w' := by
  have HR := Lib.hid h
  clear h
  go_enter Tryz.func136, Tryz.ntmps136
  go_wp2_with fail
  obtain ⟨W, B, hW, hB, hx0, a0, b0⟩ := boxes2 w #[.int .i64 a.level, .int .i64 a.set] #[.int .i64 n] 60 2
  rw [← hW, ← hB]
  clear hW hB
  refine (indexFunc_Task_2 l (isTask a n) v _ _ _ _ (HR.out.ext hx0) call_taskAt1 (fun cs x w1 hx hr => taskAt1_any x a n cs B w1 hr ((a0.ext hx).cell 0) ((a0.ext hx).cell 1) ((b0.ext hx).cell 0))).mono ?_
  rintro e w1 ⟨rfl, hx1⟩
  clear a0 b0
  have HX := Lib.hid (hx0.trans hx1)
  clear hx0 hx1
  go_wp2_with fail
  go_ret
  exact ⟨rfl, HX.out⟩
end Go.Proofs.YtocomclenbhhaaaGreat

/- The walks of UseOf, the program's and the reference's. -/
import Derived.Test.YtdhcbbbmajjehaaUsesE
import Derived.Test.YtdhcbbbmajjehaaUsesD
namespace Go.Proofs.Ytdhcbbbmajjehaa
open Go.RowKit
attribute [local irreducible] wpQuiet

set_option maxHeartbeats 1000000 in
set_option maxRecDepth 50000 in
theorem indexFunc_Use {S : Nat → Prop} (l : List Use) (p : Use → Bool) (v : Value) (f : Nat) (caps : Array Value) (w : World) (h : Rd EUse S w v l) (hcall : ∀ (args : Array Value) (W : World), (callFunc f args).run Try.prog W = .ok (.enter f args) W)
    (hf : ∀ (cs : List Value) (x : Use) (w1 : World), Ext w w1 → EUse.rel S w1 cs x → Calls Try.prog f (#[.agg cs.toArray] ++ caps) w1 fun e w' => e = .returned (.bool (p x)) ∧ Ext w1 w') :
    Calls Try.prog 170 #[v, .func (.func f) #[] caps] w fun e w' => e = .returned (.int .i64 (idxOf p l)) ∧ Ext w w' := by
  obtain ⟨A, c, rfl, h1, h2, hk⟩ := h.open_
  unfold maxLen at h2
  have HK := Lib.hid hk
  have HF := Lib.hid hf
  clear hk h hf
  go_enter Try.func170, Try.ntmps170
  go_wp2_with fail
  go_loopw [8] (fun i w' => ∃ k : Nat, k ≤ l.length ∧ i = .int .i64 k ∧ (∀ j, j < k → p (nth l j) = false) ∧ Ext w w') (fun i _ => l.length - (intOf i).toNat)
  case atStart => exact ⟨0, by omega, rfl, fun j hj => by omega, Ext.refl _⟩
  case round =>
    obtain ⟨k, hk1, rfl, hall, hx⟩ := hrel
    have HA := Lib.hid hall
    have HX := Lib.hid hx
    clear hall
    by_cases hlt : k < l.length
    · obtain ⟨b, o, cs, rfl, hb, hr, hc⟩ := HK.out k hlt
      have HR := Lib.hid (EUse.keep (hx.same S) hr)
      have HC := Lib.hid (hx.range hc)
      have HI : Hid ((Try.prog.info? 120).map (·.size) = some cs.length) := Lib.hid (by rw [EUse.len hr]; kernel_rfl)
      clear hr hc hx
      by_cases hp : p (nth l k) = true
      · have HE : Hid (idxOf p l = k) := Lib.hid (idxOf_some hlt HA.out hp)
        go_wp2_with (first | (refine wpList_load_mid rfl 120 _ rfl b (o + k * 4) rfl cs _ HC.out Try.underlying120 rfl HI.out ?_) | ((with_reducible refine (HF.out cs (nth l k) _ HX.out HR.out).mono ?_); rintro e w1 ⟨rfl, hx1⟩; have HX1 := Lib.hid hx1; clear hx1))
        go_ret
        exact ⟨ret_int HE.out.symm, HX.out.trans HX1.out⟩
      · simp only [Bool.not_eq_true] at hp
        have HE := Lib.hid (all_succ HA.out hp)
        go_wp2_with (first | (refine wpList_load_mid rfl 120 _ rfl b (o + k * 4) rfl cs _ HC.out Try.underlying120 rfl HI.out ?_) | ((with_reducible refine (HF.out cs (nth l k) _ HX.out HR.out).mono ?_); rintro e w1 ⟨rfl, hx1⟩; have HX1 := Lib.hid hx1; clear hx1))
        go_roundw
        case rel => exact ⟨k + 1, by omega, by go_num, HE.out, HX.out.trans HX1.out⟩
        case measure => simp [intOf]; omega
    · have HE : Hid (idxOf p l = -1) := Lib.hid (idxOf_none fun j hj => HA.out j (by omega))
      go_wp2_with fail
      go_ret
      exact ⟨ret_int HE.out.symm, HX.out⟩
theorem indexFunc_Use_0 {S : Nat → Prop} (l : List Use) (p : Use → Bool) (v : Value) (f : Nat) (w : World) (h : Rd EUse S w v l) (hcall : ∀ (args : Array Value) (W : World), (callFunc f args).run Try.prog W = .ok (.enter f args) W)
    (hf : ∀ (cs : List Value) (x : Use) (w1 : World), Ext w w1 → EUse.rel S w1 cs x → Calls Try.prog f #[.agg cs.toArray] w1 fun e w' => e = .returned (.bool (p x)) ∧ Ext w1 w') :
    Calls Try.prog 170 #[v, .func (.func f) #[] #[]] w fun e w' => e = .returned (.int .i64 (idxOf p l)) ∧ Ext w w' :=
  indexFunc_Use l p v f #[] w h hcall fun cs x w1 hx hr => by rw [show (#[.agg cs.toArray] ++ #[] : Array Value) = #[.agg cs.toArray] from rfl]; exact hf cs x w1 hx hr
theorem indexFunc_Use_1 {S : Nat → Prop} (l : List Use) (p : Use → Bool) (v : Value) (f : Nat) (c1 : Value) (w : World) (h : Rd EUse S w v l) (hcall : ∀ (args : Array Value) (W : World), (callFunc f args).run Try.prog W = .ok (.enter f args) W)
    (hf : ∀ (cs : List Value) (x : Use) (w1 : World), Ext w w1 → EUse.rel S w1 cs x → Calls Try.prog f #[.agg cs.toArray, c1] w1 fun e w' => e = .returned (.bool (p x)) ∧ Ext w1 w') :
    Calls Try.prog 170 #[v, .func (.func f) #[] #[c1]] w fun e w' => e = .returned (.int .i64 (idxOf p l)) ∧ Ext w w' :=
  indexFunc_Use l p v f #[c1] w h hcall fun cs x w1 hx hr => by rw [show (#[.agg cs.toArray] ++ #[c1] : Array Value) = #[.agg cs.toArray, c1] from rfl]; exact hf cs x w1 hx hr
theorem indexFunc_Use_2 {S : Nat → Prop} (l : List Use) (p : Use → Bool) (v : Value) (f : Nat) (c1 c2 : Value) (w : World) (h : Rd EUse S w v l) (hcall : ∀ (args : Array Value) (W : World), (callFunc f args).run Try.prog W = .ok (.enter f args) W)
    (hf : ∀ (cs : List Value) (x : Use) (w1 : World), Ext w w1 → EUse.rel S w1 cs x → Calls Try.prog f #[.agg cs.toArray, c1, c2] w1 fun e w' => e = .returned (.bool (p x)) ∧ Ext w1 w') :
    Calls Try.prog 170 #[v, .func (.func f) #[] #[c1, c2]] w fun e w' => e = .returned (.int .i64 (idxOf p l)) ∧ Ext w w' :=
  indexFunc_Use l p v f #[c1, c2] w h hcall fun cs x w1 hx hr => by rw [show (#[.agg cs.toArray] ++ #[c1, c2] : Array Value) = #[.agg cs.toArray, c1, c2] from rfl]; exact hf cs x w1 hx hr
theorem indexFunc_Use_3 {S : Nat → Prop} (l : List Use) (p : Use → Bool) (v : Value) (f : Nat) (c1 c2 c3 : Value) (w : World) (h : Rd EUse S w v l) (hcall : ∀ (args : Array Value) (W : World), (callFunc f args).run Try.prog W = .ok (.enter f args) W)
    (hf : ∀ (cs : List Value) (x : Use) (w1 : World), Ext w w1 → EUse.rel S w1 cs x → Calls Try.prog f #[.agg cs.toArray, c1, c2, c3] w1 fun e w' => e = .returned (.bool (p x)) ∧ Ext w1 w') :
    Calls Try.prog 170 #[v, .func (.func f) #[] #[c1, c2, c3]] w fun e w' => e = .returned (.int .i64 (idxOf p l)) ∧ Ext w w' :=
  indexFunc_Use l p v f #[c1, c2, c3] w h hcall fun cs x w1 hx hr => by rw [show (#[.agg cs.toArray] ++ #[c1, c2, c3] : Array Value) = #[.agg cs.toArray, c1, c2, c3] from rfl]; exact hf cs x w1 hx hr

/-- Has this label and this owner. -/
def isUse (a : Label) (o : ByteArray) (x : Use) : Bool := decide (x.label = a) && decide (x.owner = o)
def useOf (l : List Use) (a : Label) (o : ByteArray) : Int := if o.size ≤ 8000 ∧ usesRight l = true then ((l.find? (isUse a o)).map (·.used)).getD 0 else 0

theorem useOf_some {l : List Use} {a : Label} {o : ByteArray} {k : Nat} (h0 : o.size ≤ 8000) (hr : usesRight l = true) (hk : k < l.length) (h : ∀ j, j < k → isUse a o (nth l j) = false) (hp : isUse a o (nth l k) = true) : useOf l a o = (nth l k).used := by
  have : l.find? (isUse a o) = some (nth l k) := by
    rw [List.find?_eq_some_iff_getElem]
    refine ⟨hp, k, hk, (nth_eq hk).symm, fun j hj => ?_⟩
    have := h j hj
    rw [nth_eq (by omega)] at this
    simpa using this
  rw [useOf, if_pos ⟨h0, hr⟩, this]; rfl
theorem useOf_none {l : List Use} {a : Label} {o : ByteArray} (h : ∀ j, j < l.length → isUse a o (nth l j) = false) : useOf l a o = 0 := by
  have : l.find? (isUse a o) = none := List.find?_eq_none.2 fun x hx => by
    obtain ⟨i, hi, rfl⟩ := List.getElem_of_mem hx
    have := h i hi
    rw [nth_eq hi] at this
    simpa using this
  rw [useOf, this]
  split <;> rfl
theorem isUse_iff {a : Label} {o : ByteArray} {x : Use} : isUse a o x = (decide (x.label.level = a.level) && decide (x.label.set = a.set) && decide (x.owner.toList = o.toList)) := by
  obtain ⟨⟨l, s⟩, p, u⟩ := x
  obtain ⟨m, t⟩ := a
  simp [isUse, bytes_iff]

set_option maxHeartbeats 4000000 in
theorem specUseOf_any {S : Nat → Prop} (l : List Use) (a : Label) (o : ByteArray) (v : Value) (w : World) (h : Rd EUse S w v l) (ho : Str o) :
    Calls Try.prog 18 #[v, .agg #[.int .i64 a.level, .int .i64 a.set], .string o] w fun e w' => e = .returned (.int .i64 (useOf l a o)) ∧ Ext w w' := by
  have HR := Lib.hid h
  obtain ⟨A, c, rfl, h1, h2, hk⟩ := h.open_
  unfold maxLen at h2
  unfold Str maxLen at ho
  have HK := Lib.hid hk
  clear hk h
  by_cases h8 : o.size ≤ 8000
  · by_cases hu : usesRight l = true
    · have HU := Lib.hid hu
      go_enter Try.func18, Try.ntmps18
      go_wp2_with fail
      obtain ⟨W, B, hW__, hB__, hxW, hbox__⟩ := box_new w #[.int .i64 a.level, .int .i64 a.set] 25
      rw [← hW__, ← hB__]
      have b0 := hbox__ 0 _ rfl
      have b1 := hbox__ 1 _ rfl
      clear hW__ hB__ hbox__
      have HB0 := Lib.hid b0
      have HB1 := Lib.hid b1
      have HW := Lib.hid hxW
      clear b0 b1 hxW
      go_wp2_with (go_at_call 14; refine (specUsesRight_any (S := S) l _ _ (HR.out.ext HW.out)).mono ?_; rintro e w1 ⟨rfl, hx1⟩; have HX1 := Lib.hid (HW.out.trans hx1); have HB2 := Lib.hid (Ext.some hx1 HB0.out); have HB3 := Lib.hid (Ext.some hx1 HB1.out); clear hx1)
      clear hu
      go_loopw [7] (fun i w' => ∃ k : Nat, k ≤ l.length ∧ i = .int .i64 k ∧ (∀ j, j < k → isUse a o (nth l j) = false) ∧ Ext w1 w') (fun i _ => l.length - (intOf i).toNat)
      case atStart => exact ⟨0, by omega, rfl, fun j hj => by omega, Ext.refl _⟩
      case round =>
        obtain ⟨k, hk1, rfl, hall, hx⟩ := hrel
        have HA := Lib.hid hall
        have HX := Lib.hid (HX1.out.trans hx)
        have HY := Lib.hid hx
        clear hall
        by_cases hlt : k < l.length
        · obtain ⟨b, q, cs, rfl, _, ⟨rfl, hfit⟩, hc⟩ := HK.out k hlt
          have c0 := Ext.some HX.out (hc 0 _ rfl)
          have c1 := Ext.some HX.out (hc 1 _ rfl)
          have c2 := Ext.some HX.out (hc 2 _ rfl)
          have c3 := Ext.some HX.out (hc 3 _ rfl)
          have d0 := Ext.some hx HB2.out
          have d1 := Ext.some hx HB3.out
          simp only [EUse, Nat.add_zero] at c0 c1 c2 c3
          clear hc hfit hx
          go_wp2_with fail
          all_goals refine wp_region_ext (by kernel_rfl) (by kernel_rfl) ?_
          all_goals have ite__ := @ite_ok
          repeat (any_goals (
            refine wpQuiet_step (fun K hK => ?_)
            go_simp
            first
              | (refine hK _ ?_; clear hK K)
              | (apply Exists.intro
                 refine ⟨fun w__ hx__ => ?_, hK _ ?_⟩
                 · have c0__ := Ext.some hx__ c0; have c1__ := Ext.some hx__ c1; have c2__ := Ext.some hx__ c2; have d0__ := Ext.some hx__ d0; have d1__ := Ext.some hx__ d1; (first | exact rfl | (go_simp; done) | (go_simp; exact rfl))
                 clear hK K)
              | (split
                 all_goals (first
                   | (refine hK _ ?_; clear hK K)
                   | (apply Exists.intro
                      refine ⟨fun w__ hx__ => ?_, hK _ ?_⟩
                      · have c0__ := Ext.some hx__ c0; have c1__ := Ext.some hx__ c1; have c2__ := Ext.some hx__ c2; have d0__ := Ext.some hx__ d0; have d1__ := Ext.some hx__ d1; (first | exact rfl | (go_simp; done) | (go_simp; exact rfl))
                      clear hK K)))))
          all_goals (refine wpQuiet_nil ?_)
          all_goals (intro w1 hx1; clear ite__)
          all_goals have e3 := Ext.some hx1 c3
          all_goals have HE := Lib.hid hx1
          all_goals clear c0 c1 c2 c3 d0 d1 hx1
          all_goals go_wp2_with fail
          all_goals first
            | (go_ret; exact ⟨ret_int (useOf_some h8 HU.out hlt HA.out (by rw [isUse_iff]; simp_all)).symm, HX.out.trans HE.out⟩)
            | (go_roundw
               case rel => exact ⟨k + 1, by omega, by go_num, all_succ HA.out (by rw [isUse_iff]; simp_all), HY.out.trans HE.out⟩
               case measure => simp [intOf]; omega)
        · have HE := Lib.hid (useOf_none (a := a) (o := o) (l := l) fun j hj => HA.out j (by omega))
          go_wp2_with fail
          go_ret
          exact ⟨ret_int HE.out.symm, HX.out⟩
    · simp only [Bool.not_eq_true] at hu
      have HU : Hid (useOf l a o = 0) := Lib.hid (by unfold useOf; rw [if_neg (by simp [hu])])
      go_enter Try.func18, Try.ntmps18
      go_wp2_with (go_at_call 14; refine (specUsesRight_any (S := S) l _ _ (HR.out.ext ((Ext.refl _).alloc _))).mono ?_; rintro e w1 ⟨rfl, hx1⟩)
      go_ret
      exact ⟨ret_int HU.out.symm, ((Ext.refl _).alloc _).trans hx1⟩
  · have HU : Hid (useOf l a o = 0) := Lib.hid (by unfold useOf; rw [if_neg (fun h => h8 h.1)])
    have h8' : 8000 < o.size := by omega
    clear h8
    go_enter Try.func18, Try.ntmps18
    go_wp2_with fail
    go_ret
    exact ⟨ret_int HU.out.symm, (Ext.refl _).alloc _⟩

theorem call_useAt1 : ∀ (args : Array Value) (W : World), (callFunc 171 args).run Try.prog W = .ok (.enter 171 args) W := by
  intro args W
  go_simp

set_option maxHeartbeats 4000000 in
theorem useAt1_any {S : Nat → Prop} (x : Use) (a : Label) (o : ByteArray) (cs : List Value) (B : Nat) (w : World) (h : EUse.rel S w cs x) (d0 : w.cell? ⟨B, 0, none⟩ = some (.int .i64 a.level)) (d1 : w.cell? ⟨B, 1, none⟩ = some (.int .i64 a.set)) (d2 : w.cell? ⟨B + 1, 0, none⟩ = some (.string o)) :
    Calls Try.prog 171 #[.agg cs.toArray, .pointer (some ⟨B, 0, none⟩), .pointer (some ⟨B + 1, 0, none⟩)] w fun e w' => e = .returned (.bool (isUse a o x)) ∧ Ext w w' := by
  obtain ⟨rfl, hi⟩ := h
  clear hi
  have d0' := fun ob : Obj => Ext.some ((Ext.refl w).alloc ob) d0
  have d1' := fun ob : Obj => Ext.some ((Ext.refl w).alloc ob) d1
  have d2' := fun ob : Obj => Ext.some ((Ext.refl w).alloc ob) d2
  have ite__ := @ite_ok
  simp only [cellsUse]
  go_enter Try.func171, Try.ntmps171
  go_wp2_with fail
  all_goals (go_ret; exact ⟨ret_bool (by rw [isUse_iff]; simp [*] <;> (rw [Bool.eq_iff_iff]; simp)), (Ext.refl _).alloc _⟩)

def useIx (l : List Use) (a : Label) (o : ByteArray) : Int := idxOf (isUse a o) l

set_option maxHeartbeats 4000000 in
theorem useAt_any {S : Nat → Prop} (l : List Use) (a : Label) (o : ByteArray) (v : Value) (w : World) (h : Rd EUse S w v l) :
    Calls Try.prog 85 #[v, .agg #[.int .i64 a.level, .int .i64 a.set], .string o] w fun e w' => e = .returned (.int .i64 (useIx l a o)) ∧ Ext w w' := by
  have HR := Lib.hid h
  clear h
  go_enter Try.func85, Try.ntmps85
  go_wp2_with fail
  obtain ⟨W, B, hW, hB, hx0, a0, b0⟩ := boxes2 w #[.int .i64 a.level, .int .i64 a.set] #[.string o] 25 9
  rw [← hW, ← hB]
  clear hW hB
  refine (indexFunc_Use_2 l (isUse a o) v _ _ _ _ (HR.out.ext hx0) call_useAt1 (fun cs x w1 hx hr => useAt1_any x a o cs B w1 hr ((a0.ext hx).cell 0) ((a0.ext hx).cell 1) ((b0.ext hx).cell 0))).mono ?_
  rintro e w1 ⟨rfl, hx1⟩
  clear a0 b0
  have HX := Lib.hid (hx0.trans hx1)
  clear hx0 hx1
  go_wp2_with fail
  go_ret
  exact ⟨rfl, HX.out⟩

theorem idxOf_cases {α : Type} [Inhabited α] (p : α → Bool) (l : List α) : (idxOf p l = -1 ∧ ∀ j, j < l.length → p (nth l j) = false) ∨ ∃ k : Nat, k < l.length ∧ idxOf p l = k ∧ p (nth l k) = true ∧ ∀ j, j < k → p (nth l j) = false := by
  unfold idxOf
  cases h : l.findIdx? p with
  | none =>
    rw [List.findIdx?_eq_none_iff] at h
    exact .inl ⟨rfl, fun j hj => h _ (nth_mem hj)⟩
  | some i =>
    obtain ⟨hi, hp, hb⟩ := List.findIdx?_eq_some_iff_getElem.1 h
    refine .inr ⟨i, hi, rfl, by rw [nth_eq hi]; exact hp, fun j hj => ?_⟩
    have := hb j hj
    rw [nth_eq (by omega)]
    simpa using this

theorem useAt_true {l : List Use} (hu : usesRight l = true) {k : Nat} (hk : k < l.length) : useAt l k = true := by
  simp only [usesRight, Bool.and_eq_true, List.all_eq_true] at hu
  exact hu.2 k (List.mem_range.mpr hk)
theorem useOk_true {l : List Use} (hu : usesRight l = true) {k : Nat} (hk : k < l.length) : useOk (nth l k) = true := by
  have := useAt_true hu hk
  simp only [useAt, Bool.and_eq_true] at this
  exact this.1.1
theorem name_short {s : ByteArray} (h : nameRight s = true) : s.size ≤ 20 := by
  simp only [nameRight, Bool.and_eq_true, decide_eq_true_eq] at h
  omega
theorem short_of {l : List Use} {a : Label} {o : ByteArray} (hu : usesRight l = true) {k : Nat} (hk : k < l.length) (hp : isUse a o (nth l k) = true) : o.size ≤ 8000 := by
  have h1 := useOk_true hu hk
  simp only [useOk, Bool.and_eq_true] at h1
  simp only [isUse, Bool.and_eq_true, decide_eq_true_eq] at hp
  have := name_short h1.1.2
  rw [hp.2] at this
  omega
set_option maxHeartbeats 4000000 in
theorem useOfI_any {S : Nat → Prop} (l : List Use) (a : Label) (o : ByteArray) (v : Value) (w : World) (h : Rd EUse S w v l) :
    Calls Try.prog 17 #[v, .agg #[.int .i64 a.level, .int .i64 a.set], .string o] w fun e w' => e = .returned (.int .i64 (useOf l a o)) ∧ Ext w w' := by
  have HR := Lib.hid h
  obtain ⟨A, c, rfl, h1, h2, hk⟩ := h.open_
  unfold maxLen at h2
  have HK := Lib.hid hk
  clear hk h
  by_cases hu : usesRight l = true
  · rcases idxOf_cases (isUse a o) l with ⟨hi, hn⟩ | ⟨k, hlt, hi, hp, hn⟩
    · have HI : Hid (useIx l a o = -1) := Lib.hid hi
      have HE := Lib.hid (useOf_none (a := a) (o := o) hn)
      clear hi hn
      go_enter Try.func17, Try.ntmps17
      go_wp2_with (first | (go_at_call 85; refine (useAt_any (S := S) l a o _ _ (HR.out.ext ((Ext.refl _).alloc _))).mono ?_; rintro e w1 ⟨rfl, hx1⟩; rw [HI.out]; have HX1 := Lib.hid (((Ext.refl w).alloc _).trans hx1); clear hx1) | (go_at_call 13; refine (usesRight_any (S := S) l _ _ (HR.out.ext HX1.out)).mono ?_; rintro e w2 ⟨rfl, hx2⟩))
      go_ret
      exact ⟨ret_int HE.out.symm, HX1.out.trans hx2⟩
    · have HI : Hid (useIx l a o = k) := Lib.hid hi
      have HE := Lib.hid (useOf_some (short_of hu hlt hp) hu hlt hn hp)
      clear hi hn hp
      obtain ⟨b, q, cs, rfl, _, ⟨rfl, hfit⟩, hc⟩ := HK.out k hlt
      have HC := Lib.hid (hc 3 _ rfl)
      clear hc hfit
      go_enter Try.func17, Try.ntmps17
      go_wp2_with (first | (go_at_call 85; refine (useAt_any (S := S) l a o _ _ (HR.out.ext ((Ext.refl _).alloc _))).mono ?_; rintro e w1 ⟨rfl, hx1⟩; rw [HI.out]; have HX1 := Lib.hid (((Ext.refl w).alloc _).trans hx1); clear hx1) | (go_at_call 13; refine (usesRight_any (S := S) l _ _ (HR.out.ext HX1.out)).mono ?_; rintro e w2 ⟨rfl, hx2⟩; have c3 := Ext.some (HX1.out.trans hx2) HC.out; simp only [EUse] at c3))
      go_ret
      exact ⟨ret_int HE.out.symm, HX1.out.trans hx2⟩
  · have HE : Hid (useOf l a o = 0) := Lib.hid (by unfold useOf; rw [if_neg (fun h => hu h.2)])
    simp only [Bool.not_eq_true] at hu
    go_enter Try.func17, Try.ntmps17
    go_wp2_with (first | (go_at_call 85; refine (useAt_any (S := S) l a o _ _ (HR.out.ext ((Ext.refl _).alloc _))).mono ?_; rintro e w1 ⟨rfl, hx1⟩; have HX1 := Lib.hid (((Ext.refl w).alloc _).trans hx1); clear hx1) | (go_at_call 13; refine (usesRight_any (S := S) l _ _ (HR.out.ext HX1.out)).mono ?_; rintro e w2 ⟨rfl, hx2⟩))
    go_ret
    exact ⟨ret_int HE.out.symm, HX1.out.trans hx2⟩
end Go.Proofs.Ytdhcbbbmajjehaa

/- The walks of UseOf, the program's and the reference's. -/
import Derived.Test.YtocomclenbhhaaaGreatUsesE
import Derived.Test.YtocomclenbhhaaaGreatUsesD
namespace Go.Proofs.YtocomclenbhhaaaGreat
open Go.RowKit
attribute [local irreducible] wpQuiet

set_option maxHeartbeats 1000000 in
set_option maxRecDepth 50000 in
theorem indexFunc_Use {S : Nat → Prop} (l : List Use) (p : Use → Bool) (v : Value) (f : Nat) (caps : Array Value) (w : World) (h : Rd EUse S w v l) (hcall : ∀ (args : Array Value) (W : World), (callFunc f args).run Tryz.prog W = .ok (.enter f args) W)
    (hf : ∀ (cs : List Value) (x : Use) (w1 : World), Ext w w1 → EUse.rel S w1 cs x → Calls Tryz.prog f (#[.agg cs.toArray] ++ caps) w1 fun e w' => e = .returned (.bool (p x)) ∧ Ext w1 w') :
    Calls Tryz.prog 151 #[v, .func (.func f) #[] caps] w fun e w' => e = .returned (.int .i64 (idxOf p l)) ∧ Ext w w' := by
  obtain ⟨A, c, rfl, h1, h2, hk⟩ := h.open_
  unfold maxLen at h2
  have HK := Lib.hid hk
  have HF := Lib.hid hf
  clear hk h hf
  go_enter Tryz.func151, Tryz.ntmps151
  go_wp2_with fail
  go_loopw [8] (fun i w' => ∃ k : Nat, k ≤ l.length ∧ i = .int .i64 k ∧ (∀ j, j < k → p (nth l j) = false) ∧ Ext w w') (fun i _ => l.length - (intOf i).toNat)
  case atStart => exact ⟨0, by omega, rfl, fun j hj => by omega, Ext.refl _⟩
  case round =>
    obtain ⟨k, hk1, rfl, hall, hx⟩ := hrel
    have HA := Lib.hid hall
    have HX := Lib.hid hx
    clear hall
    by_cases hlt : k < l.length
    · obtain ⟨b, o, cs, rfl, hb, hr, hc⟩ := HK.out k hlt
      have HR := Lib.hid (EUse.keep (hx.same S) hr)
      have HC := Lib.hid (hx.range hc)
      have HI : Hid ((Tryz.prog.info? 96).map (·.size) = some cs.length) := Lib.hid (by rw [EUse.len hr]; kernel_rfl)
      clear hr hc hx
      by_cases hp : p (nth l k) = true
      · have HE : Hid (idxOf p l = k) := Lib.hid (idxOf_some hlt HA.out hp)
        go_wp2_with (first | (refine wpList_load_mid rfl 96 _ rfl b (o + k * 4) rfl cs _ HC.out Tryz.underlying96 rfl HI.out ?_) | ((with_reducible refine (HF.out cs (nth l k) _ HX.out HR.out).mono ?_); rintro e w1 ⟨rfl, hx1⟩; have HX1 := Lib.hid hx1; clear hx1))
        go_ret
        exact ⟨ret_int HE.out.symm, HX.out.trans HX1.out⟩
      · simp only [Bool.not_eq_true] at hp
        have HE := Lib.hid (all_succ HA.out hp)
        go_wp2_with (first | (refine wpList_load_mid rfl 96 _ rfl b (o + k * 4) rfl cs _ HC.out Tryz.underlying96 rfl HI.out ?_) | ((with_reducible refine (HF.out cs (nth l k) _ HX.out HR.out).mono ?_); rintro e w1 ⟨rfl, hx1⟩; have HX1 := Lib.hid hx1; clear hx1))
        go_roundw
        case rel => exact ⟨k + 1, by omega, by go_num, HE.out, HX.out.trans HX1.out⟩
        case measure => simp [intOf]; omega
    · have HE : Hid (idxOf p l = -1) := Lib.hid (idxOf_none fun j hj => HA.out j (by omega))
      go_wp2_with fail
      go_ret
      exact ⟨ret_int HE.out.symm, HX.out⟩

theorem containsFunc_Use {S : Nat → Prop} (l : List Use) (p : Use → Bool) (v : Value) (f : Nat) (caps : Array Value) (w : World) (h : Rd EUse S w v l) (hcall : ∀ (args : Array Value) (W : World), (callFunc f args).run Tryz.prog W = .ok (.enter f args) W)
    (hf : ∀ (cs : List Value) (x : Use) (w1 : World), Ext w w1 → EUse.rel S w1 cs x → Calls Tryz.prog f (#[.agg cs.toArray] ++ caps) w1 fun e w' => e = .returned (.bool (p x)) ∧ Ext w1 w') :
    Calls Tryz.prog 69 #[v, .func (.func f) #[] caps] w fun e w' => e = .returned (.bool (l.any p)) ∧ Ext w w' := by
  have HE := Lib.hid (idxOf_any (p := p) (l := l))
  have H := Lib.hid (indexFunc_Use l p v f caps w h hcall hf)
  clear h hcall hf
  go_enter Tryz.func69, Tryz.ntmps69
  go_wp2_with (refine H.out.mono ?_; rintro e w1 ⟨rfl, hx1⟩; have HX1 := Lib.hid hx1; clear hx1)
  go_ret
  exact ⟨ret_bool HE.out, HX1.out⟩
theorem indexFunc_Use_0 {S : Nat → Prop} (l : List Use) (p : Use → Bool) (v : Value) (f : Nat) (w : World) (h : Rd EUse S w v l) (hcall : ∀ (args : Array Value) (W : World), (callFunc f args).run Tryz.prog W = .ok (.enter f args) W)
    (hf : ∀ (cs : List Value) (x : Use) (w1 : World), Ext w w1 → EUse.rel S w1 cs x → Calls Tryz.prog f #[.agg cs.toArray] w1 fun e w' => e = .returned (.bool (p x)) ∧ Ext w1 w') :
    Calls Tryz.prog 151 #[v, .func (.func f) #[] #[]] w fun e w' => e = .returned (.int .i64 (idxOf p l)) ∧ Ext w w' :=
  indexFunc_Use l p v f #[] w h hcall fun cs x w1 hx hr => by rw [show (#[.agg cs.toArray] ++ #[] : Array Value) = #[.agg cs.toArray] from rfl]; exact hf cs x w1 hx hr
theorem containsFunc_Use_0 {S : Nat → Prop} (l : List Use) (p : Use → Bool) (v : Value) (f : Nat) (w : World) (h : Rd EUse S w v l) (hcall : ∀ (args : Array Value) (W : World), (callFunc f args).run Tryz.prog W = .ok (.enter f args) W)
    (hf : ∀ (cs : List Value) (x : Use) (w1 : World), Ext w w1 → EUse.rel S w1 cs x → Calls Tryz.prog f #[.agg cs.toArray] w1 fun e w' => e = .returned (.bool (p x)) ∧ Ext w1 w') :
    Calls Tryz.prog 69 #[v, .func (.func f) #[] #[]] w fun e w' => e = .returned (.bool (l.any p)) ∧ Ext w w' :=
  containsFunc_Use l p v f #[] w h hcall fun cs x w1 hx hr => by rw [show (#[.agg cs.toArray] ++ #[] : Array Value) = #[.agg cs.toArray] from rfl]; exact hf cs x w1 hx hr
theorem indexFunc_Use_1 {S : Nat → Prop} (l : List Use) (p : Use → Bool) (v : Value) (f : Nat) (c1 : Value) (w : World) (h : Rd EUse S w v l) (hcall : ∀ (args : Array Value) (W : World), (callFunc f args).run Tryz.prog W = .ok (.enter f args) W)
    (hf : ∀ (cs : List Value) (x : Use) (w1 : World), Ext w w1 → EUse.rel S w1 cs x → Calls Tryz.prog f #[.agg cs.toArray, c1] w1 fun e w' => e = .returned (.bool (p x)) ∧ Ext w1 w') :
    Calls Tryz.prog 151 #[v, .func (.func f) #[] #[c1]] w fun e w' => e = .returned (.int .i64 (idxOf p l)) ∧ Ext w w' :=
  indexFunc_Use l p v f #[c1] w h hcall fun cs x w1 hx hr => by rw [show (#[.agg cs.toArray] ++ #[c1] : Array Value) = #[.agg cs.toArray, c1] from rfl]; exact hf cs x w1 hx hr
theorem containsFunc_Use_1 {S : Nat → Prop} (l : List Use) (p : Use → Bool) (v : Value) (f : Nat) (c1 : Value) (w : World) (h : Rd EUse S w v l) (hcall : ∀ (args : Array Value) (W : World), (callFunc f args).run Tryz.prog W = .ok (.enter f args) W)
    (hf : ∀ (cs : List Value) (x : Use) (w1 : World), Ext w w1 → EUse.rel S w1 cs x → Calls Tryz.prog f #[.agg cs.toArray, c1] w1 fun e w' => e = .returned (.bool (p x)) ∧ Ext w1 w') :
    Calls Tryz.prog 69 #[v, .func (.func f) #[] #[c1]] w fun e w' => e = .returned (.bool (l.any p)) ∧ Ext w w' :=
  containsFunc_Use l p v f #[c1] w h hcall fun cs x w1 hx hr => by rw [show (#[.agg cs.toArray] ++ #[c1] : Array Value) = #[.agg cs.toArray, c1] from rfl]; exact hf cs x w1 hx hr
theorem indexFunc_Use_2 {S : Nat → Prop} (l : List Use) (p : Use → Bool) (v : Value) (f : Nat) (c1 c2 : Value) (w : World) (h : Rd EUse S w v l) (hcall : ∀ (args : Array Value) (W : World), (callFunc f args).run Tryz.prog W = .ok (.enter f args) W)
    (hf : ∀ (cs : List Value) (x : Use) (w1 : World), Ext w w1 → EUse.rel S w1 cs x → Calls Tryz.prog f #[.agg cs.toArray, c1, c2] w1 fun e w' => e = .returned (.bool (p x)) ∧ Ext w1 w') :
    Calls Tryz.prog 151 #[v, .func (.func f) #[] #[c1, c2]] w fun e w' => e = .returned (.int .i64 (idxOf p l)) ∧ Ext w w' :=
  indexFunc_Use l p v f #[c1, c2] w h hcall fun cs x w1 hx hr => by rw [show (#[.agg cs.toArray] ++ #[c1, c2] : Array Value) = #[.agg cs.toArray, c1, c2] from rfl]; exact hf cs x w1 hx hr
theorem containsFunc_Use_2 {S : Nat → Prop} (l : List Use) (p : Use → Bool) (v : Value) (f : Nat) (c1 c2 : Value) (w : World) (h : Rd EUse S w v l) (hcall : ∀ (args : Array Value) (W : World), (callFunc f args).run Tryz.prog W = .ok (.enter f args) W)
    (hf : ∀ (cs : List Value) (x : Use) (w1 : World), Ext w w1 → EUse.rel S w1 cs x → Calls Tryz.prog f #[.agg cs.toArray, c1, c2] w1 fun e w' => e = .returned (.bool (p x)) ∧ Ext w1 w') :
    Calls Tryz.prog 69 #[v, .func (.func f) #[] #[c1, c2]] w fun e w' => e = .returned (.bool (l.any p)) ∧ Ext w w' :=
  containsFunc_Use l p v f #[c1, c2] w h hcall fun cs x w1 hx hr => by rw [show (#[.agg cs.toArray] ++ #[c1, c2] : Array Value) = #[.agg cs.toArray, c1, c2] from rfl]; exact hf cs x w1 hx hr
theorem indexFunc_Use_3 {S : Nat → Prop} (l : List Use) (p : Use → Bool) (v : Value) (f : Nat) (c1 c2 c3 : Value) (w : World) (h : Rd EUse S w v l) (hcall : ∀ (args : Array Value) (W : World), (callFunc f args).run Tryz.prog W = .ok (.enter f args) W)
    (hf : ∀ (cs : List Value) (x : Use) (w1 : World), Ext w w1 → EUse.rel S w1 cs x → Calls Tryz.prog f #[.agg cs.toArray, c1, c2, c3] w1 fun e w' => e = .returned (.bool (p x)) ∧ Ext w1 w') :
    Calls Tryz.prog 151 #[v, .func (.func f) #[] #[c1, c2, c3]] w fun e w' => e = .returned (.int .i64 (idxOf p l)) ∧ Ext w w' :=
  indexFunc_Use l p v f #[c1, c2, c3] w h hcall fun cs x w1 hx hr => by rw [show (#[.agg cs.toArray] ++ #[c1, c2, c3] : Array Value) = #[.agg cs.toArray, c1, c2, c3] from rfl]; exact hf cs x w1 hx hr
theorem containsFunc_Use_3 {S : Nat → Prop} (l : List Use) (p : Use → Bool) (v : Value) (f : Nat) (c1 c2 c3 : Value) (w : World) (h : Rd EUse S w v l) (hcall : ∀ (args : Array Value) (W : World), (callFunc f args).run Tryz.prog W = .ok (.enter f args) W)
    (hf : ∀ (cs : List Value) (x : Use) (w1 : World), Ext w w1 → EUse.rel S w1 cs x → Calls Tryz.prog f #[.agg cs.toArray, c1, c2, c3] w1 fun e w' => e = .returned (.bool (p x)) ∧ Ext w1 w') :
    Calls Tryz.prog 69 #[v, .func (.func f) #[] #[c1, c2, c3]] w fun e w' => e = .returned (.bool (l.any p)) ∧ Ext w w' :=
  containsFunc_Use l p v f #[c1, c2, c3] w h hcall fun cs x w1 hx hr => by rw [show (#[.agg cs.toArray] ++ #[c1, c2, c3] : Array Value) = #[.agg cs.toArray, c1, c2, c3] from rfl]; exact hf cs x w1 hx hr

/-- Has this label and this owner. -/
def isUse (a : Label) (o : ByteArray) (x : Use) : Bool := decide (x.label = a) && decide (x.owner = o)
def useOf (l : List Use) (a : Label) (o : ByteArray) : Int := if o.size ≤ 8000 ∧ usesRight l = true then ((l.find? (isUse a o)).map (·.used)).getD 0 else 0

theorem useOf_some {l : List Use} {a : Label} {o : ByteArray} {k : Nat} (h0 : o.size ≤ 8000) (hr : usesRight l = true) (hk : k < l.length) (h : ∀ j, j < k → isUse a o (nth l j) = false) (hp : isUse a o (nth l k) = true) : useOf l a o = (nth l k).used := by
  have : l.find? (isUse a o) = some (nth l k) := by
    rw [List.find?_eq_some_iff_getElem]
    refine ⟨hp, k, hk, (nth_eq hk).symm, fun j hj => ?_⟩
    have := h j hj
    rw [nth_eq (by omega)] at this
    simpa using this
  rw [useOf, if_pos ⟨h0, hr⟩, this]; rfl
theorem useOf_none {l : List Use} {a : Label} {o : ByteArray} (h : ∀ j, j < l.length → isUse a o (nth l j) = false) : useOf l a o = 0 := by
  have : l.find? (isUse a o) = none := List.find?_eq_none.2 fun x hx => by
    obtain ⟨i, hi, rfl⟩ := List.getElem_of_mem hx
    have := h i hi
    rw [nth_eq hi] at this
    simpa using this
  rw [useOf, this]
  split <;> rfl
theorem isUse_iff {a : Label} {o : ByteArray} {x : Use} : isUse a o x = (decide (x.label.level = a.level) && decide (x.label.set = a.set) && decide (x.owner.toList = o.toList)) := by
  obtain ⟨⟨l, s⟩, p, u⟩ := x
  obtain ⟨m, t⟩ := a
  simp [isUse, bytes_iff]

def useIx (l : List Use) (a : Label) (o : ByteArray) : Int := idxOf (isUse a o) l

theorem idxOf_cases {α : Type} [Inhabited α] (p : α → Bool) (l : List α) : (idxOf p l = -1 ∧ ∀ j, j < l.length → p (nth l j) = false) ∨ ∃ k : Nat, k < l.length ∧ idxOf p l = k ∧ p (nth l k) = true ∧ ∀ j, j < k → p (nth l j) = false := by
  unfold idxOf
  cases h : l.findIdx? p with
  | none =>
    rw [List.findIdx?_eq_none_iff] at h
    exact .inl ⟨rfl, fun j hj => h _ (nth_mem hj)⟩
  | some i =>
    obtain ⟨hi, hp, hb⟩ := List.findIdx?_eq_some_iff_getElem.1 h
    refine .inr ⟨i, hi, rfl, by rw [nth_eq hi]; exact hp, fun j hj => ?_⟩
    have := hb j hj
    rw [nth_eq (by omega)]
    simpa using this

theorem useAt_true {l : List Use} (hu : usesRight l = true) {k : Nat} (hk : k < l.length) : useAt l k = true := by
  simp only [usesRight, Bool.and_eq_true, List.all_eq_true] at hu
  exact hu.2 k (List.mem_range.mpr hk)
theorem useOk_true {l : List Use} (hu : usesRight l = true) {k : Nat} (hk : k < l.length) : useOk (nth l k) = true := by
  have := useAt_true hu hk
  simp only [useAt, Bool.and_eq_true] at this
  exact this.1.1
theorem name_short {s : ByteArray} (h : nameRight s = true) : s.size ≤ 20 := by
  simp only [nameRight, Bool.and_eq_true, decide_eq_true_eq] at h
  omega
theorem short_of {l : List Use} {a : Label} {o : ByteArray} (hu : usesRight l = true) {k : Nat} (hk : k < l.length) (hp : isUse a o (nth l k) = true) : o.size ≤ 8000 := by
  have h1 := useOk_true hu hk
  simp only [useOk, Bool.and_eq_true] at h1
  simp only [isUse, Bool.and_eq_true, decide_eq_true_eq] at hp
  have := name_short h1.1.2
  rw [hp.2] at this
  omega
end Go.Proofs.YtocomclenbhhaaaGreat

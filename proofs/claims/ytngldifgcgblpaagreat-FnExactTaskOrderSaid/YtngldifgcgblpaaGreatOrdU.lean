/- The walks of UseOf, the program's and the reference's. The order of uses is linear up to the label and the owner; adding a use, in plain Lean. -/
import Derived.Test.YtngldifgcgblpaaGreatUsesE
import Derived.Test.YtngldifgcgblpaaGreatUsesD
import Derived.Sort.Statements
namespace Go.Proofs.YtngldifgcgblpaaGreat
open Go.RowKit
attribute [local irreducible] wpQuiet
set_option maxHeartbeats 1000000 in
set_option maxRecDepth 50000 in
theorem indexFunc_Use {S : Nat → Prop} (l : List Use) (p : Use → Bool) (v : Value) (f : Nat) (caps : Array Value) (w : World) (h : Rd EUse S w v l) (hcall : ∀ (args : Array Value) (W : World), (callFunc f args).run Tryz.prog W = .ok (.enter f args) W)
    (hf : ∀ (cs : List Value) (x : Use) (w1 : World), Ext w w1 → EUse.rel S w1 cs x → Calls Tryz.prog f (#[.agg cs.toArray] ++ caps) w1 fun e w' => e = .returned (.bool (p x)) ∧ Ext w1 w') :
    Calls Tryz.prog 243 #[v, .func (.func f) #[] caps] w fun e w' => e = .returned (.int .i64 (idxOf p l)) ∧ Ext w w' := by
  obtain ⟨A, c, rfl, h1, h2, hk⟩ := h.open_
  unfold maxLen at h2
  have HK := Lib.hid hk
  have HF := Lib.hid hf
  clear hk h hf
  go_enter Tryz.func243, Tryz.ntmps243
  go_wp2_with fail
  go_loopw [8] (fun i w' => ∃ k : Nat, k ≤ l.length ∧ i = .int .i64 k ∧ (∀ j, j < k → p (nth l j) = false) ∧ Ext w w') (fun i _ => l.length - (intOf i).toNat)
  case atStart => exact ⟨0, by omega, rfl, fun j hj => by omega, Ext.refl _⟩
  case round =>
    obtain ⟨k, hk1, rfl, hall, hx⟩ := hrel
    have HA := Lib.hid hall
    have HX := Lib.hid hx
    clear hall
    by_cases hlt : k < l.length
    · obtain ⟨b, o, cs, rfl, hb, hr, hc⟩ := HK.out k hlt
      have HR := Lib.hid (EUse.keep (hx.same S) hr)
      have HC := Lib.hid (hx.range hc)
      have HI : Hid ((Tryz.prog.info? 155).map (·.size) = some cs.length) := Lib.hid (by rw [EUse.len hr]; kernel_rfl)
      clear hr hc hx
      by_cases hp : p (nth l k) = true
      · have HE : Hid (idxOf p l = k) := Lib.hid (idxOf_some hlt HA.out hp)
        go_wp2_with (first | (refine wpList_load_mid rfl 155 _ rfl b (o + k * 4) rfl cs _ HC.out Tryz.underlying155 rfl HI.out ?_) | ((with_reducible refine (HF.out cs (nth l k) _ HX.out HR.out).mono ?_); rintro e w1 ⟨rfl, hx1⟩; have HX1 := Lib.hid hx1; clear hx1))
        go_ret
        exact ⟨ret_int HE.out.symm, HX.out.trans HX1.out⟩
      · simp only [Bool.not_eq_true] at hp
        have HE := Lib.hid (all_succ HA.out hp)
        go_wp2_with (first | (refine wpList_load_mid rfl 155 _ rfl b (o + k * 4) rfl cs _ HC.out Tryz.underlying155 rfl HI.out ?_) | ((with_reducible refine (HF.out cs (nth l k) _ HX.out HR.out).mono ?_); rintro e w1 ⟨rfl, hx1⟩; have HX1 := Lib.hid hx1; clear hx1))
        go_roundw
        case rel => exact ⟨k + 1, by omega, by go_num, HE.out, HX.out.trans HX1.out⟩
        case measure => simp [intOf]; omega
    · have HE : Hid (idxOf p l = -1) := Lib.hid (idxOf_none fun j hj => HA.out j (by omega))
      go_wp2_with fail
      go_ret
      exact ⟨ret_int HE.out.symm, HX.out⟩
theorem containsFunc_Use {S : Nat → Prop} (l : List Use) (p : Use → Bool) (v : Value) (f : Nat) (caps : Array Value) (w : World) (h : Rd EUse S w v l) (hcall : ∀ (args : Array Value) (W : World), (callFunc f args).run Tryz.prog W = .ok (.enter f args) W)
    (hf : ∀ (cs : List Value) (x : Use) (w1 : World), Ext w w1 → EUse.rel S w1 cs x → Calls Tryz.prog f (#[.agg cs.toArray] ++ caps) w1 fun e w' => e = .returned (.bool (p x)) ∧ Ext w1 w') :
    Calls Tryz.prog 153 #[v, .func (.func f) #[] caps] w fun e w' => e = .returned (.bool (l.any p)) ∧ Ext w w' := by
  have HE := Lib.hid (idxOf_any (p := p) (l := l))
  have H := Lib.hid (indexFunc_Use l p v f caps w h hcall hf)
  clear h hcall hf
  go_enter Tryz.func153, Tryz.ntmps153
  go_wp2_with (refine H.out.mono ?_; rintro e w1 ⟨rfl, hx1⟩; have HX1 := Lib.hid hx1; clear hx1)
  go_ret
  exact ⟨ret_bool HE.out, HX1.out⟩
theorem containsFunc_Use_1 {S : Nat → Prop} (l : List Use) (p : Use → Bool) (v : Value) (f : Nat) (c1 : Value) (w : World) (h : Rd EUse S w v l) (hcall : ∀ (args : Array Value) (W : World), (callFunc f args).run Tryz.prog W = .ok (.enter f args) W)
    (hf : ∀ (cs : List Value) (x : Use) (w1 : World), Ext w w1 → EUse.rel S w1 cs x → Calls Tryz.prog f #[.agg cs.toArray, c1] w1 fun e w' => e = .returned (.bool (p x)) ∧ Ext w1 w') :
    Calls Tryz.prog 153 #[v, .func (.func f) #[] #[c1]] w fun e w' => e = .returned (.bool (l.any p)) ∧ Ext w w' :=
  containsFunc_Use l p v f #[c1] w h hcall fun cs x w1 hx hr => by rw [show (#[.agg cs.toArray] ++ #[c1] : Array Value) = #[.agg cs.toArray, c1] from rfl]; exact hf cs x w1 hx hr
theorem idxOf_cases {α : Type} [Inhabited α] (p : α → Bool) (l : List α) : (idxOf p l = -1 ∧ ∀ j, j < l.length → p (nth l j) = false) ∨ ∃ k : Nat, k < l.length ∧ idxOf p l = k ∧ p (nth l k) = true ∧ ∀ j, j < k → p (nth l j) = false := by
  unfold idxOf
  cases h : l.findIdx? p with
  | none =>
    rw [List.findIdx?_eq_none_iff] at h
    exact .inl ⟨rfl, fun j hj => h _ (nth_mem hj)⟩
  | some i =>
    obtain ⟨hi, hp, hb⟩ := List.findIdx?_eq_some_iff_getElem.1 h
    refine .inr ⟨i, hi, rfl, by rw [nth_eq hi]; exact hp, fun j hj => ?_⟩
    have := hb j hj
    rw [nth_eq (by omega)]
    simpa using this
end Go.Proofs.YtngldifgcgblpaaGreat
namespace Go.Proofs.YtngldifgcgblpaaGreat
open Go.RowKit
structure Lin {α : Type} (c : α → α → Int) : Prop where
  anti : ∀ x y, c y x = - c x y
  trans : ∀ x y z, c x y ≤ 0 → c y z ≤ 0 → c x z ≤ 0
theorem Lin.comap {α β : Type} {c : α → α → Int} (h : Lin c) (f : β → α) : Lin fun x y => c (f x) (f y) := ⟨fun _ _ => h.anti _ _, fun _ _ _ => h.trans _ _ _⟩
theorem Lin.self {α : Type} {c : α → α → Int} (h : Lin c) (x : α) : c x x = 0 := by have := h.anti x x; omega
theorem Lin.lex {α : Type} {c d : α → α → Int} (h : Lin c) (k : Lin d) : Lin fun x y => if c x y = 0 then d x y else c x y := by
  refine ⟨fun x y => ?_, fun x y z => ?_⟩
  · have h1 := h.anti x y
    have h2 := k.anti x y
    split <;> split <;> omega
  · have a1 := h.anti x y
    have a2 := h.anti y z
    have a3 := h.anti x z
    have t1 := h.trans x y z
    have t2 := h.trans z x y
    have t3 := h.trans y z x
    have k1 := k.trans x y z
    split <;> split <;> split <;> omega
theorem lin_cmp3 : Lin cmp3 := by
  refine ⟨fun x y => ?_, fun x y z => ?_⟩ <;> unfold cmp3
  · (repeat' split) <;> omega
  · (repeat' split) <;> omega
theorem orOf_two (a b : Int) : orOf [a, b] = if a = 0 then b else a := by
  simp only [orOf]
  split <;> (try split) <;> simp_all
end Go.Proofs.YtngldifgcgblpaaGreat

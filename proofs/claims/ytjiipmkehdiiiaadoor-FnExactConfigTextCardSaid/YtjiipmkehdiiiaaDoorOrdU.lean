/- The walks of UseOf, the program's and the reference's. The order of uses is linear up to the label and the owner; adding a use, in plain Lean. -/
import Derived.Test.YtjiipmkehdiiiaaDoorUsesE
import Derived.Test.YtjiipmkehdiiiaaDoorUsesD
import Derived.Sort.Statements
namespace Go.Proofs.YtjiipmkehdiiiaaDoor
open Go.RowKit
attribute [local irreducible] wpQuiet

/-- Has this label and this owner. -/
def isUse (a : Label) (o : ByteArray) (x : Use) : Bool := decide (x.label = a) && decide (x.owner = o)
def useOf (l : List Use) (a : Label) (o : ByteArray) : Int := if o.size ≤ 8000 ∧ usesRight l = true then ((l.find? (isUse a o)).map (·.used)).getD 0 else 0

theorem useOf_some {l : List Use} {a : Label} {o : ByteArray} {k : Nat} (h0 : o.size ≤ 8000) (hr : usesRight l = true) (hk : k < l.length) (h : ∀ j, j < k → isUse a o (nth l j) = false) (hp : isUse a o (nth l k) = true) : useOf l a o = (nth l k).used := by
  have : l.find? (isUse a o) = some (nth l k) := by
    rw [List.find?_eq_some_iff_getElem]
    refine ⟨hp, k, hk, (nth_eq hk).symm, fun j hj => ?_⟩
    have := h j hj
    rw [nth_eq (by omega)] at this
    simpa using this
  rw [useOf, if_pos ⟨h0, hr⟩, this]; rfl
theorem useOf_none {l : List Use} {a : Label} {o : ByteArray} (h : ∀ j, j < l.length → isUse a o (nth l j) = false) : useOf l a o = 0 := by
  have : l.find? (isUse a o) = none := List.find?_eq_none.2 fun x hx => by
    obtain ⟨i, hi, rfl⟩ := List.getElem_of_mem hx
    have := h i hi
    rw [nth_eq hi] at this
    simpa using this
  rw [useOf, this]
  split <;> rfl
theorem isUse_iff {a : Label} {o : ByteArray} {x : Use} : isUse a o x = (decide (x.label.level = a.level) && decide (x.label.set = a.set) && decide (x.owner.toList = o.toList)) := by
  obtain ⟨⟨l, s⟩, p, u⟩ := x
  obtain ⟨m, t⟩ := a
  simp [isUse, bytes_iff]

def useIx (l : List Use) (a : Label) (o : ByteArray) : Int := idxOf (isUse a o) l

theorem idxOf_cases {α : Type} [Inhabited α] (p : α → Bool) (l : List α) : (idxOf p l = -1 ∧ ∀ j, j < l.length → p (nth l j) = false) ∨ ∃ k : Nat, k < l.length ∧ idxOf p l = k ∧ p (nth l k) = true ∧ ∀ j, j < k → p (nth l j) = false := by
  unfold idxOf
  cases h : l.findIdx? p with
  | none =>
    rw [List.findIdx?_eq_none_iff] at h
    exact .inl ⟨rfl, fun j hj => h _ (nth_mem hj)⟩
  | some i =>
    obtain ⟨hi, hp, hb⟩ := List.findIdx?_eq_some_iff_getElem.1 h
    refine .inr ⟨i, hi, rfl, by rw [nth_eq hi]; exact hp, fun j hj => ?_⟩
    have := hb j hj
    rw [nth_eq (by omega)]
    simpa using this

theorem useAt_true {l : List Use} (hu : usesRight l = true) {k : Nat} (hk : k < l.length) : useAt l k = true := by
  simp only [usesRight, Bool.and_eq_true, List.all_eq_true] at hu
  exact hu.2 k (List.mem_range.mpr hk)
theorem useOk_true {l : List Use} (hu : usesRight l = true) {k : Nat} (hk : k < l.length) : useOk (nth l k) = true := by
  have := useAt_true hu hk
  simp only [useAt, Bool.and_eq_true] at this
  exact this.1.1
theorem name_short {s : ByteArray} (h : nameRight s = true) : s.size ≤ 20 := by
  simp only [nameRight, Bool.and_eq_true, decide_eq_true_eq] at h
  omega
theorem short_of {l : List Use} {a : Label} {o : ByteArray} (hu : usesRight l = true) {k : Nat} (hk : k < l.length) (hp : isUse a o (nth l k) = true) : o.size ≤ 8000 := by
  have h1 := useOk_true hu hk
  simp only [useOk, Bool.and_eq_true] at h1
  simp only [isUse, Bool.and_eq_true, decide_eq_true_eq] at hp
  have := name_short h1.1.2
  rw [hp.2] at this
  omega
end Go.Proofs.YtjiipmkehdiiiaaDoor

namespace Go.Proofs.YtjiipmkehdiiiaaDoor
open Go.RowKit

structure Lin {α : Type} (c : α → α → Int) : Prop where
  anti : ∀ x y, c y x = - c x y
  trans : ∀ x y z, c x y ≤ 0 → c y z ≤ 0 → c x z ≤ 0
theorem Lin.comap {α β : Type} {c : α → α → Int} (h : Lin c) (f : β → α) : Lin fun x y => c (f x) (f y) := ⟨fun _ _ => h.anti _ _, fun _ _ _ => h.trans _ _ _⟩
theorem Lin.self {α : Type} {c : α → α → Int} (h : Lin c) (x : α) : c x x = 0 := by have := h.anti x x; omega
theorem Lin.lex {α : Type} {c d : α → α → Int} (h : Lin c) (k : Lin d) : Lin fun x y => if c x y = 0 then d x y else c x y := by
  refine ⟨fun x y => ?_, fun x y z => ?_⟩
  · have h1 := h.anti x y
    have h2 := k.anti x y
    split <;> split <;> omega
  · have a1 := h.anti x y
    have a2 := h.anti y z
    have a3 := h.anti x z
    have t1 := h.trans x y z
    have t2 := h.trans z x y
    have t3 := h.trans y z x
    have k1 := k.trans x y z
    split <;> split <;> split <;> omega
theorem lin_cmp3 : Lin cmp3 := by
  refine ⟨fun x y => ?_, fun x y z => ?_⟩ <;> unfold cmp3
  · (repeat' split) <;> omega
  · (repeat' split) <;> omega
theorem bytes_anti : ∀ a b : List UInt8, Lib.compareBytes b a = - Lib.compareBytes a b
  | [], [] => rfl
  | [], _ :: _ => rfl
  | _ :: _, [] => rfl
  | a :: l, b :: m => by
    have ih := bytes_anti l m
    unfold Lib.compareBytes
    by_cases h1 : a < b
    · have h2 : ¬ b < a := fun h => absurd (UInt8.lt_trans h1 h) (UInt8.lt_irrefl _)
      simp [h1, h2]
    · by_cases h2 : b < a
      · simp [h1, h2]
      · simp [h1, h2, ih]
theorem bytes_trans : ∀ a b c : List UInt8, Lib.compareBytes a b ≤ 0 → Lib.compareBytes b c ≤ 0 → Lib.compareBytes a c ≤ 0
  | [], _, [], _, _ => by simp [Lib.compareBytes]
  | [], _, _ :: _, _, _ => by simp [Lib.compareBytes]
  | _ :: _, [], _, h, _ => by simp [Lib.compareBytes] at h
  | _ :: _, _ :: _, [], _, h => by simp [Lib.compareBytes] at h
  | a :: l, b :: m, c :: n, h, k => by
    have ih := bytes_trans l m n
    unfold Lib.compareBytes at h k ⊢
    by_cases h1 : a < b
    · by_cases k1 : b < c
      · simp [UInt8.lt_trans h1 k1]
      · by_cases k2 : c < b
        · simp [k1, k2] at k
        · obtain rfl : b = c := UInt8.le_antisymm (UInt8.not_lt.mp k2) (UInt8.not_lt.mp k1)
          simp [h1]
    · by_cases h2 : b < a
      · simp [h1, h2] at h
      · obtain rfl : a = b := UInt8.le_antisymm (UInt8.not_lt.mp h2) (UInt8.not_lt.mp h1)
        simp only [h1, if_false] at h
        by_cases k1 : a < c
        · simp [k1]
        · by_cases k2 : c < a
          · simp [k1, k2] at k
          · simp only [k1, k2, if_false] at k ⊢
            exact ih h k
theorem bytes_eq : ∀ a b : List UInt8, Lib.compareBytes a b = 0 → a = b
  | [], [], _ => rfl
  | [], _ :: _, h => by simp [Lib.compareBytes] at h
  | _ :: _, [], h => by simp [Lib.compareBytes] at h
  | a :: l, b :: m, h => by
    unfold Lib.compareBytes at h
    by_cases h1 : a < b
    · simp [h1] at h
    · by_cases h2 : b < a
      · simp [h1, h2] at h
      · simp only [h1, h2, if_false] at h
        obtain rfl : a = b := UInt8.le_antisymm (UInt8.not_lt.mp h2) (UInt8.not_lt.mp h1)
        rw [bytes_eq l m h]
theorem orOf_two (a b : Int) : orOf [a, b] = if a = 0 then b else a := by
  simp only [orOf]
  split <;> (try split) <;> simp_all
theorem lin_uses : Lin cmpUses := by
  have h1 : Lin cmpLabels := by
    have := Lin.lex (lin_cmp3.comap Label.level) (lin_cmp3.comap Label.set)
    have e : cmpLabels = fun x y => if cmp3 x.level y.level = 0 then cmp3 x.set y.set else cmp3 x.level y.level := by funext x y; rw [cmpLabels, orOf_two]
    rw [e]; exact this
  have h2 : Lin Lib.compareBytes := ⟨bytes_anti, bytes_trans⟩
  have := Lin.lex (h1.comap Use.label) (h2.comap fun x : Use => x.owner.data.toList)
  have e : cmpUses = fun x y => if cmpLabels x.label y.label = 0 then Lib.compareBytes x.owner.data.toList y.owner.data.toList else cmpLabels x.label y.label := by funext x y; rw [cmpUses, orOf_two]
  rw [e]; exact this
theorem cmp3_eq {a b : Int} (h : cmp3 a b = 0) : a = b := by
  unfold cmp3 at h
  split at h
  · omega
  · split at h <;> omega
theorem cmpUses_eq {x y : Use} (h : cmpUses x y = 0) : x.label = y.label ∧ x.owner = y.owner := by
  rw [cmpUses, orOf_two] at h
  have h1 : cmpLabels x.label y.label = 0 := by split at h <;> omega
  rw [if_pos h1] at h
  rw [cmpLabels, orOf_two] at h1
  have h2 : cmp3 x.label.level y.label.level = 0 := by split at h1 <;> omega
  rw [if_pos h2] at h1
  have e := bytes_eq _ _ h
  refine ⟨Label.ext (cmp3_eq h2) (cmp3_eq h1), ByteArray.ext (Array.toList_inj.1 e)⟩
theorem cmpUses_same {x y : Use} (h1 : x.label = y.label) (h2 : x.owner = y.owner) : cmpUses x y = 0 := by
  have h := lin_uses.self x
  simp only [cmpUses] at h ⊢
  rw [← h1, ← h2]; exact h
end Go.Proofs.YtjiipmkehdiiiaaDoor

/- The order of uses is linear up to the label and the owner; adding a use, in plain Lean. -/
import Derived.Test.YtocomclenbhhaaaGreatUseOf
import Derived.Sort.Statements
namespace Go.Proofs.YtocomclenbhhaaaGreat
open Go.RowKit

structure Lin {α : Type} (c : α → α → Int) : Prop where
  anti : ∀ x y, c y x = - c x y
  trans : ∀ x y z, c x y ≤ 0 → c y z ≤ 0 → c x z ≤ 0
theorem Lin.comap {α β : Type} {c : α → α → Int} (h : Lin c) (f : β → α) : Lin fun x y => c (f x) (f y) := ⟨fun _ _ => h.anti _ _, fun _ _ _ => h.trans _ _ _⟩
theorem Lin.self {α : Type} {c : α → α → Int} (h : Lin c) (x : α) : c x x = 0 := by have := h.anti x x; omega
theorem Lin.lex {α : Type} {c d : α → α → Int} (h : Lin c) (k : Lin d) : Lin fun x y => if c x y = 0 then d x y else c x y := by
  refine ⟨fun x y => ?_, fun x y z => ?_⟩
  · have h1 := h.anti x y
    have h2 := k.anti x y
    split <;> split <;> omega
  · have a1 := h.anti x y
    have a2 := h.anti y z
    have a3 := h.anti x z
    have t1 := h.trans x y z
    have t2 := h.trans z x y
    have t3 := h.trans y z x
    have k1 := k.trans x y z
    split <;> split <;> split <;> omega
theorem lin_cmp3 : Lin cmp3 := by
  refine ⟨fun x y => ?_, fun x y z => ?_⟩ <;> unfold cmp3
  · (repeat' split) <;> omega
  · (repeat' split) <;> omega
theorem bytes_anti : ∀ a b : List UInt8, Lib.compareBytes b a = - Lib.compareBytes a b
  | [], [] => rfl
  | [], _ :: _ => rfl
  | _ :: _, [] => rfl
  | a :: l, b :: m => by
    have ih := bytes_anti l m
    unfold Lib.compareBytes
    by_cases h1 : a < b
    · have h2 : ¬ b < a := fun h => absurd (UInt8.lt_trans h1 h) (UInt8.lt_irrefl _)
      simp [h1, h2]
    · by_cases h2 : b < a
      · simp [h1, h2]
      · simp [h1, h2, ih]
theorem bytes_trans : ∀ a b c : List UInt8, Lib.compareBytes a b ≤ 0 → Lib.compareBytes b c ≤ 0 → Lib.compareBytes a c ≤ 0
  | [], _, [], _, _ => by simp [Lib.compareBytes]
  | [], _, _ :: _, _, _ => by simp [Lib.compareBytes]
  | _ :: _, [], _, h, _ => by simp [Lib.compareBytes] at h
  | _ :: _, _ :: _, [], _, h => by simp [Lib.compareBytes] at h
  | a :: l, b :: m, c :: n, h, k => by
    have ih := bytes_trans l m n
    unfold Lib.compareBytes at h k ⊢
    by_cases h1 : a < b
    · by_cases k1 : b < c
      · simp [UInt8.lt_trans h1 k1]
      · by_cases k2 : c < b
        · simp [k1, k2] at k
        · obtain rfl : b = c := UInt8.le_antisymm (UInt8.not_lt.mp k2) (UInt8.not_lt.mp k1)
          simp [h1]
    · by_cases h2 : b < a
      · simp [h1, h2] at h
      · obtain rfl : a = b := UInt8.le_antisymm (UInt8.not_lt.mp h2) (UInt8.not_lt.mp h1)
        simp only [h1, if_false] at h
        by_cases k1 : a < c
        · simp [k1]
        · by_cases k2 : c < a
          · simp [k1, k2] at k
          · simp only [k1, k2, if_false] at k ⊢
            exact ih h k
theorem bytes_eq : ∀ a b : List UInt8, Lib.compareBytes a b = 0 → a = b
  | [], [], _ => rfl
  | [], _ :: _, h => by simp [Lib.compareBytes] at h
  | _ :: _, [], h => by simp [Lib.compareBytes] at h
  | a :: l, b :: m, h => by
    unfold Lib.compareBytes at h
    by_cases h1 : a < b
    · simp [h1] at h
    · by_cases h2 : b < a
      · simp [h1, h2] at h
      · simp only [h1, h2, if_false] at h
        obtain rfl : a = b := UInt8.le_antisymm (UInt8.not_lt.mp h2) (UInt8.not_lt.mp h1)
        rw [bytes_eq l m h]
theorem orOf_two (a b : Int) : orOf [a, b] = if a = 0 then b else a := by
  simp only [orOf]
  split <;> (try split) <;> simp_all
theorem lin_uses : Lin cmpUses := by
  have h1 : Lin cmpLabels := by
    have := Lin.lex (lin_cmp3.comap Label.level) (lin_cmp3.comap Label.set)
    have e : cmpLabels = fun x y => if cmp3 x.level y.level = 0 then cmp3 x.set y.set else cmp3 x.level y.level := by funext x y; rw [cmpLabels, orOf_two]
    rw [e]; exact this
  have h2 : Lin Lib.compareBytes := ⟨bytes_anti, bytes_trans⟩
  have := Lin.lex (h1.comap Use.label) (h2.comap fun x : Use => x.owner.data.toList)
  have e : cmpUses = fun x y => if cmpLabels x.label y.label = 0 then Lib.compareBytes x.owner.data.toList y.owner.data.toList else cmpLabels x.label y.label := by funext x y; rw [cmpUses, orOf_two]
  rw [e]; exact this
theorem cmp3_eq {a b : Int} (h : cmp3 a b = 0) : a = b := by
  unfold cmp3 at h
  split at h
  · omega
  · split at h <;> omega
theorem cmpUses_eq {x y : Use} (h : cmpUses x y = 0) : x.label = y.label ∧ x.owner = y.owner := by
  rw [cmpUses, orOf_two] at h
  have h1 : cmpLabels x.label y.label = 0 := by split at h <;> omega
  rw [if_pos h1] at h
  rw [cmpLabels, orOf_two] at h1
  have h2 : cmp3 x.label.level y.label.level = 0 := by split at h1 <;> omega
  rw [if_pos h2] at h1
  have e := bytes_eq _ _ h
  refine ⟨Label.ext (cmp3_eq h2) (cmp3_eq h1), ByteArray.ext (Array.toList_inj.1 e)⟩
theorem cmpUses_same {x y : Use} (h1 : x.label = y.label) (h2 : x.owner = y.owner) : cmpUses x y = 0 := by
  have h := lin_uses.self x
  simp only [cmpUses] at h ⊢
  rw [← h1, ← h2]; exact h
end Go.Proofs.YtocomclenbhhaaaGreat

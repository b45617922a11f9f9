/- TasksRight as plain Lean: what the program asks and what the reference asks say the same. -/
import Derived.Test.YtocomclenbhhaaaGreatTaskAt
namespace Go.Proofs.YtocomclenbhhaaaGreat
open Go.RowKit

theorem cmp_key {a b : Label} (ha : labelRight a = true) (hb : labelRight b = true) : (keyOf a < keyOf b ∧ cmpLabels a b < 0) ∨ (a = b ∧ cmpLabels a b = 0) ∨ (keyOf b < keyOf a ∧ 0 < cmpLabels a b) := by
  obtain ⟨l, s⟩ := a
  obtain ⟨m, t⟩ := b
  simp only [labelRight, isB, Bool.and_eq_true, decide_eq_true_eq] at ha hb
  simp only [keyOf, cmpLabels, cmp3, orOf, Label.mk.injEq]
  rcases Int.lt_trichotomy l m with h | h | h
  · left; simp [h]; omega
  · subst h
    rcases Int.lt_trichotomy s t with h | h | h
    · left; simp [h]
    · subst h; right; left; simp
    · right; right
      have : ¬ s < t := by omega
      simp [h, this]
  · right; right
    have : ¬ l < m := by omega
    simp [h, this]; omega

def idOk (l : List Task) (i : Nat) : Bool :=
  if i = 0 then decide ((nth l i).id = 1)
  else if 0 < cmpLabels (nth l (i - 1)).label (nth l i).label then false
  else if cmpLabels (nth l (i - 1)).label (nth l i).label = 0 then decide ((nth l i).id = (nth l (i - 1)).id + 1) else decide ((nth l i).id = 1)
def depI (l : List Task) (x : Task) : Bool := decide (x.after = 0) || decide (0 ≤ taskIx l x.under x.after)
def tI (l : List Task) (i : Nat) : Bool := taskRight (nth l i) && idOk l i && depI l (nth l i)
def tS (l : List Task) (i : Nat) : Bool := taskRight (nth l i) && idOk l i && depI (l.take i) (nth l i)
def tasksRight (l : List Task) : Bool := decide (l.length ≤ 96) && (List.range l.length).all (tI l)

theorem taskRight_label {x : Task} (h : taskRight x = true) : labelRight x.label = true := by
  simp only [taskRight, Bool.and_eq_true] at h
  exact h.1.1.1.1.1.1.1
theorem taskRight_id {x : Task} (h : taskRight x = true) : 1 ≤ x.id ∧ x.id ≤ 12 := by
  simp only [taskRight, Bool.and_eq_true] at h
  exact isB_true h.1.1.1.1.1.1.2
theorem taskRight_under {x : Task} (h : taskRight x = true) : underOk x = true := by
  simp only [taskRight, Bool.and_eq_true] at h
  exact h.1.2
theorem idOk_step {l : List Task} {m : Nat} (h : idOk l (m + 1) = true) (h1 : taskRight (nth l m) = true) (h2 : taskRight (nth l (m + 1)) = true) :
    (keyOf (nth l m).label < keyOf (nth l (m + 1)).label ∧ (nth l (m + 1)).id = 1) ∨ ((nth l m).label = (nth l (m + 1)).label ∧ (nth l (m + 1)).id = (nth l m).id + 1) := by
  simp only [idOk, Nat.add_one_ne_zero, if_false, Nat.add_sub_cancel] at h
  rcases cmp_key (taskRight_label h1) (taskRight_label h2) with ⟨k, c⟩ | ⟨k, c⟩ | ⟨k, c⟩
  · left
    rw [if_neg (by omega), if_neg (by omega)] at h
    exact ⟨k, by simpa using h⟩
  · right
    rw [if_neg (by omega), if_pos c] at h
    exact ⟨k, by simpa using h⟩
  · rw [if_pos c] at h
    cases h
theorem taskIx_mem {l : List Task} {a : Label} {n : Int} : 0 ≤ taskIx l a n ↔ ∃ j, j < l.length ∧ (nth l j).label = a ∧ (nth l j).id = n := by
  unfold taskIx
  rcases idxOf_cases (isTask a n) l with ⟨h, hn⟩ | ⟨k, hk, h, hp, _⟩
  · rw [h]
    refine ⟨fun h => absurd h (by decide), fun ⟨j, hj, h1, h2⟩ => ?_⟩
    have := hn j hj
    simp [isTask, h1, h2] at this
  · rw [h]
    refine ⟨fun _ => ⟨k, hk, ?_⟩, fun _ => Int.natCast_nonneg _⟩
    simpa [isTask] using hp
theorem nth_take {α : Type} [Inhabited α] {l : List α} {i j : Nat} (h : j < i) (hi : i ≤ l.length) : nth (l.take i) j = nth l j := by
  rw [nth_eq (by rw [List.length_take]; omega), nth_eq (by omega)]
  simp
theorem bits_le {a b : Int} (ha : isB a 0 7 = true) (hb : isB b 0 7 = true) (h : bits .and .i64 a b = a) : a ≤ b := by
  have h1 := isB_true ha
  have h2 := isB_true hb
  rcases (show a = 0 ∨ a = 1 ∨ a = 2 ∨ a = 3 ∨ a = 4 ∨ a = 5 ∨ a = 6 ∨ a = 7 by omega) with rfl | rfl | rfl | rfl | rfl | rfl | rfl | rfl <;>
  rcases (show b = 0 ∨ b = 1 ∨ b = 2 ∨ b = 3 ∨ b = 4 ∨ b = 5 ∨ b = 6 ∨ b = 7 by omega) with rfl | rfl | rfl | rfl | rfl | rfl | rfl | rfl <;>
  first | omega | (exfalso; revert h; decide)
theorem below_key {a b : Label} (h : belowOk a b = true) : keyOf a ≤ keyOf b := by
  simp only [belowOk, belowB, labelRight, Bool.and_eq_true, decide_eq_true_eq, beq_iff_eq] at h
  have := bits_le h.1.1.2 h.1.2.2 h.2.2
  have h3 := h.2.1
  unfold keyOf
  omega
/-- In tasks that are right and in order: labels ascend; within a label the numbers do. -/
theorem order_of {l : List Task} {i j : Nat} (hj : j < l.length) (h : ∀ k, k < l.length → tI l k = true) (hij : i ≤ j) : keyOf (nth l i).label ≤ keyOf (nth l j).label ∧ ((nth l i).label = (nth l j).label → (nth l i).id + (j - i : Nat) = (nth l j).id) := by
  induction j with
  | zero => obtain rfl : i = 0 := by omega
            exact ⟨Int.le_refl _, fun _ => by simp⟩
  | succ j ih =>
    rcases Nat.lt_or_ge j i with hlt | hge
    · obtain rfl : i = j + 1 := by omega
      exact ⟨Int.le_refl _, fun _ => by simp⟩
    · obtain ⟨h1, h2⟩ := ih (by omega) hge
      have a := h j (by omega)
      have b := h (j + 1) hj
      simp only [tI, Bool.and_eq_true] at a b
      have e : j + 1 - i = (j - i) + 1 := by omega
      rcases idOk_step b.1.2 a.1.1 b.1.1 with ⟨k, c⟩ | ⟨k, c⟩
      · refine ⟨by omega, fun he => ?_⟩
        rw [← he] at k
        omega
      · refine ⟨by rw [← k]; exact h1, fun he => ?_⟩
        have := h2 (he.trans k.symm)
        rw [c, e]
        omega
theorem tI_of_tS {l : List Task} {i : Nat} (hi : i < l.length) (h : tS l i = true) : tI l i = true := by
  simp only [tS, tI, Bool.and_eq_true, depI, Bool.or_eq_true, decide_eq_true_eq] at h ⊢
  refine ⟨h.1, ?_⟩
  rcases h.2 with h | h
  · exact .inl h
  · right
    obtain ⟨j, hj, h1, h2⟩ := taskIx_mem.1 h
    rw [List.length_take] at hj
    rw [nth_take (by omega) (by omega)] at h1 h2
    exact taskIx_mem.2 ⟨j, by omega, h1, h2⟩
theorem tS_of_tI {l : List Task} (h : ∀ k, k < l.length → tI l k = true) {i : Nat} (hi : i < l.length) : tS l i = true := by
  have hh := h i hi
  simp only [tS, tI, Bool.and_eq_true, depI, Bool.or_eq_true, decide_eq_true_eq] at hh ⊢
  refine ⟨hh.1, ?_⟩
  by_cases h0 : (nth l i).after = 0
  · exact .inl h0
  right
  obtain ⟨j, hj, h1, h2⟩ := taskIx_mem.1 (hh.2.resolve_left h0)
  have hu := taskRight_under hh.1.1
  simp only [underOk, h0, if_false, Bool.and_eq_true, Bool.not_eq_true', Bool.and_eq_false_iff, decide_eq_false_iff_not] at hu
  obtain ⟨⟨_, hb⟩, hn⟩ := hu
  have hk := below_key hb
  rcases Nat.lt_or_ge j i with hlt | hge
  · exact taskIx_mem.2 ⟨j, by rw [List.length_take]; omega, by rw [nth_take hlt (by omega)]; exact h1, by rw [nth_take hlt (by omega)]; exact h2⟩
  · exfalso
    obtain ⟨o1, o2⟩ := order_of hj h hge
    rw [h1] at o1 o2
    have hl := taskRight_label hh.1.1
    have hlj : labelRight (nth l i).under = true := by
      simp only [belowOk, Bool.and_eq_true] at hb
      exact hb.1.1
    have he : (nth l i).under = (nth l i).label := key_inj hlj hl (by omega)
    have o3 := o2 he.symm
    rcases hn with hn | hn
    · exact hn he
    · rw [h2] at o3
      omega
theorem tasksRight_of {l : List Task} (h : ∀ i, i < l.length → tI l i = true) : tasksRight l = decide (l.length ≤ 96) := by
  unfold tasksRight
  rw [List.all_eq_true.mpr (fun k hk => h k (List.mem_range.mp hk)), Bool.and_true]
theorem tasksRight_false {l : List Task} {i : Nat} (hi : i < l.length) (h : tI l i = false) : tasksRight l = false := by
  unfold tasksRight
  rw [List.all_eq_false.mpr ⟨i, List.mem_range.mpr hi, by simp [h]⟩, Bool.and_false]
theorem tasksRight_falseS {l : List Task} {i : Nat} (hi : i < l.length) (h : tS l i = false) : tasksRight l = false := by
  rw [← Bool.not_eq_true]
  intro ht
  simp only [tasksRight, Bool.and_eq_true, List.all_eq_true, List.mem_range] at ht
  rw [tS_of_tI ht.2 hi] at h
  cases h
theorem tasksRight_ofS {l : List Task} (h : ∀ i, i < l.length → tS l i = true) : tasksRight l = decide (l.length ≤ 96) := tasksRight_of fun i hi => tI_of_tS hi (h i hi)
theorem tasksRight_long {l : List Task} (h : 96 < l.length) : tasksRight l = false := by unfold tasksRight; rw [decide_eq_false (by omega)]; rfl
end Go.Proofs.YtocomclenbhhaaaGreat

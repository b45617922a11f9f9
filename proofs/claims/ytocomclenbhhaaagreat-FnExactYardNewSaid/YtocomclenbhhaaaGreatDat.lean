/- The plain data of the scheduler, and what its small functions compute, in plain Lean. -/
import Derived.Test.YtocomclenbhhaaaGreatTypes
namespace Go.Proofs.YtocomclenbhhaaaGreat

def isB (n a b : Int) : Bool := decide (a ≤ n ∧ n ≤ b)
theorem isB_true {n a b : Int} (h : isB n a b = true) : a ≤ n ∧ n ≤ b := by simpa [isB] using h
theorem isB_iff {n a b : Int} : isB n a b = true ↔ a ≤ n ∧ n ≤ b := by simp [isB]

/-- Element k of a list. -/
def nth {α : Type} [Inhabited α] (l : List α) (k : Nat) : α := l.getD k default
theorem nth_eq {α : Type} [Inhabited α] {l : List α} {k : Nat} (h : k < l.length) : nth l k = l[k] := by simp [nth, List.getElem?_eq_getElem h]
theorem nth_mem {α : Type} [Inhabited α] {l : List α} {k : Nat} (h : k < l.length) : nth l k ∈ l := by rw [nth_eq h]; exact List.getElem_mem h
theorem get_nth {α : Type} [Inhabited α] {l : List α} {k : Nat} (h : k < l.length) : l[k]? = some (nth l k) := by rw [nth_eq h]; exact List.getElem?_eq_getElem h

theorem eq_of_nth {α : Type} [Inhabited α] {l m : List α} (h : l.length = m.length) (hk : ∀ j, j < l.length → nth l j = nth m j) : l = m := by
  refine List.ext_getElem h fun j h1 h2 => ?_
  have := hk j h1
  rwa [nth_eq h1, nth_eq h2] at this
theorem drop_nth {α : Type} [Inhabited α] {l : List α} {k : Nat} (h : k < l.length) : l.drop k = nth l k :: l.drop (k + 1) := by rw [nth_eq h]; exact List.drop_eq_getElem_cons h

/-- The place of the first element with p, or -1. -/
def idxOf {α : Type} (p : α → Bool) (l : List α) : Int := (l.findIdx? p).elim (-1) (fun i => (i : Int))
theorem idxOf_none {α : Type} [Inhabited α] {p : α → Bool} {l : List α} (h : ∀ j, j < l.length → p (nth l j) = false) : idxOf p l = -1 := by
  have : l.findIdx? p = none := List.findIdx?_eq_none_iff.2 fun x hx => by
    obtain ⟨i, hi, rfl⟩ := List.getElem_of_mem hx
    have := h i hi
    rwa [nth_eq hi] at this
  rw [idxOf, this]; rfl
theorem idxOf_some {α : Type} [Inhabited α] {p : α → Bool} {l : List α} {k : Nat} (hk : k < l.length) (h : ∀ j, j < k → p (nth l j) = false) (hp : p (nth l k) = true) : idxOf p l = k := by
  have : l.findIdx? p = some k := List.findIdx?_eq_some_iff_getElem.2 ⟨hk, by rwa [nth_eq hk] at hp, fun j hj => by
    have := h j hj
    rw [nth_eq (by omega)] at this
    simp [this]⟩
  rw [idxOf, this]; rfl
theorem idxOf_any {α : Type} {p : α → Bool} {l : List α} : decide (0 ≤ idxOf p l) = l.any p := by
  unfold idxOf
  cases h : l.findIdx? p with
  | none =>
    rw [List.findIdx?_eq_none_iff] at h
    have : l.any p = false := by rw [List.any_eq_false]; intro x hx; rw [h x hx]; simp
    rw [this]; simp
  | some i =>
    obtain ⟨hi, hp, _⟩ := List.findIdx?_eq_some_iff_getElem.1 h
    have : l.any p = true := List.any_eq_true.2 ⟨_, List.getElem_mem hi, hp⟩
    rw [this]; simp
/-- Whether p holds of each of the first elements is decided at the first that fails. -/
theorem all_of_nth {α : Type} [Inhabited α] {p : α → Bool} {l : List α} (h : ∀ j, j < l.length → p (nth l j) = true) : l.all p = true := List.all_eq_true.2 fun x hx => by
  obtain ⟨i, hi, rfl⟩ := List.getElem_of_mem hx
  have := h i hi
  rwa [nth_eq hi] at this
theorem all_fails {α : Type} [Inhabited α] {p : α → Bool} {l : List α} {k : Nat} (hk : k < l.length) (h : p (nth l k) = false) : l.all p = false := List.all_eq_false.2 ⟨_, nth_mem hk, by simp [h]⟩

def timeOk (n : Int) : Bool := isB n 0 1000000
def spanRight (x : Span) : Bool := timeOk x.from_ && timeOk x.to_ && decide (x.from_ < x.to_)
/-- What is asked of element i of a list of spans. -/
def spanAt (l : List Span) (i : Nat) : Bool := spanRight (nth l i) && (decide (i = 0) || decide ((nth l (i - 1)).to_ ≤ (nth l i).from_))
def spansRight (l : List Span) : Bool := decide (l.length ≤ 20) && (List.range l.length).all (spanAt l)

theorem spansRight_false {l : List Span} {i : Nat} (hi : i < l.length) (h : spanAt l i = false) : spansRight l = false := by
  unfold spansRight
  rw [Bool.and_eq_false_iff]
  right
  rw [List.all_eq_false]
  exact ⟨i, List.mem_range.2 hi, by simp [h]⟩
theorem spansRight_of {l : List Span} (h : ∀ i, i < l.length → spanAt l i = true) : spansRight l = decide (l.length ≤ 20) := by
  unfold spansRight
  have : (List.range l.length).all (spanAt l) = true := List.all_eq_true.2 fun i hi => h i (List.mem_range.1 hi)
  rw [this, Bool.and_true]
theorem spanAt_zero {l : List Span} : spanAt l 0 = spanRight (nth l 0) := by simp [spanAt]
theorem spanAt_succ {l : List Span} {m : Nat} : spanAt l (m + 1) = (spanRight (nth l (m + 1)) && decide ((nth l m).to_ ≤ (nth l (m + 1)).from_)) := by simp [spanAt]
theorem spanAt_bad {l : List Span} {k : Nat} (h : spanRight (nth l k) = false) : spanAt l k = false := by simp [spanAt, h]
theorem all_succ {p : Nat → Prop} {k : Nat} (h : ∀ j, j < k → p j) (hk : p k) : ∀ j, j < k + 1 → p j := fun j hj => by
  rcases Nat.lt_or_ge j k with h1 | h1
  · exact h j h1
  · obtain rfl : j = k := by omega
    exact hk
end Go.Proofs.YtocomclenbhhaaaGreat

/- The walk of ownersOf. UsesRight as plain Lean. -/
import Derived.Test.YtjiipmkehdiiiaaDoorUses
namespace Go.Proofs.YtjiipmkehdiiiaaDoor
open Go.RowKit
attribute [local irreducible] wpQuiet

def ownersOf (l : List Use) (a : Label) : Nat := l.countP fun x => decide (x.label = a)
theorem ownersOf_succ {l : List Use} {a : Label} {k : Nat} (hk : k < l.length) : ownersOf (l.take (k + 1)) a = ownersOf (l.take k) a + if (nth l k).label = a then 1 else 0 := by
  have h : l.take (k + 1) = l.take k ++ [nth l k] := by
    rw [List.take_succ_eq_append_getElem hk, nth_eq hk]
  rw [h]
  simp [ownersOf, List.countP_append, List.countP_cons]
theorem ownersOf_le (l : List Use) (a : Label) : ownersOf l a ≤ l.length := List.countP_le_length

end Go.Proofs.YtjiipmkehdiiiaaDoor

namespace Go.Proofs.YtjiipmkehdiiiaaDoor
open Go.RowKit

def useOk (x : Use) : Bool := labelRight x.label && nameRight x.owner && isB x.used 1 100000
def useAfter (l : List Use) (k : Nat) : Bool := decide (k = 0) || decide (cmpUses (nth l (k - 1)) (nth l k) < 0)
def useAt (l : List Use) (k : Nat) : Bool := useOk (nth l k) && useAfter l k && decide (ownersOf (l.take k) (nth l k).label ≠ 6)
def usesRight (l : List Use) : Bool := decide (l.length ≤ 48) && (List.range l.length).all (useAt l)

theorem usesRight_of {l : List Use} (h : ∀ k, k < l.length → useAt l k = true) : usesRight l = decide (l.length ≤ 48) := by
  unfold usesRight
  rw [List.all_eq_true.mpr (fun k hk => h k (List.mem_range.mp hk)), Bool.and_true]
theorem usesRight_false {l : List Use} {k : Nat} (hk : k < l.length) (h : useAt l k = false) : usesRight l = false := by
  unfold usesRight
  rw [List.all_eq_false.mpr ⟨k, List.mem_range.mpr hk, by simp [h]⟩, Bool.and_false]
theorem useAt_bad {l : List Use} {k : Nat} (h : useOk (nth l k) = false) : useAt l k = false := by simp [useAt, h]
theorem useAt_after {l : List Use} {k : Nat} (h : useAfter l k = false) : useAt l k = false := by simp [useAt, h]
theorem useAt_many {l : List Use} {k : Nat} (h : ownersOf (l.take k) (nth l k).label = 6) : useAt l k = false := by simp [useAt, h]
theorem useAfter_zero (l : List Use) : useAfter l 0 = true := by simp [useAfter]
theorem useAfter_succ (l : List Use) (m : Nat) : useAfter l (m + 1) = decide (cmpUses (nth l m) (nth l (m + 1)) < 0) := by simp [useAfter]
theorem useAt_all {l : List Use} {k : Nat} (h1 : labelRight (nth l k).label = true) (h2 : nameRight (nth l k).owner = true) (h3 : isB (nth l k).used 1 100000 = true) (h4 : useAfter l k = true) (h5 : ownersOf (l.take k) (nth l k).label ≠ 6) : useAt l k = true := by
  simp [useAt, useOk, h1, h2, h3, h4, h5]

theorem Rd.take {α : Type} {E : Elem α} {S : Nat → Prop} {w : World} {A : Option Addr} {n c k : Nat} {l : List α} (h : Rd E S w (.slice A n c) l) (hk : k ≤ l.length) : Rd E S w (.slice A k c) (l.take k) := by
  obtain ⟨A', c', hv, h1, h2, hK⟩ := h
  cases hv
  refine ⟨A, c, by rw [List.length_take, Nat.min_eq_left hk], by rw [List.length_take]; omega, h2, fun i x hi => ?_⟩
  exact hK i x (by rw [List.getElem?_take] at hi; split at hi <;> simp_all)

/-- What a label is ordered by. -/
def keyOf (a : Label) : Int := 8 * a.level + a.set
theorem key_inj {a b : Label} (ha : labelRight a = true) (hb : labelRight b = true) (h : keyOf a = keyOf b) : a = b := by
  simp only [labelRight, isB, Bool.and_eq_true, decide_eq_true_eq] at ha hb
  unfold keyOf at h
  apply Label.ext <;> omega
theorem key_le {x y : Use} (hx : labelRight x.label = true) (hy : labelRight y.label = true) (h : cmpUses x y < 0) : keyOf x.label ≤ keyOf y.label := by
  by_cases he : x.label = y.label
  · rw [he]; exact Int.le_refl _
  · obtain ⟨a, o, n⟩ := x
    obtain ⟨b, p, m⟩ := y
    have hh := less_other o p n m hx hy he
    rw [decide_eq_true h] at hh
    have h8 := of_decide_eq_true hh.symm
    simp only [keyOf] at h8 ⊢
    omega
theorem useAt_label {l : List Use} {k : Nat} (h : useAt l k = true) : labelRight (nth l k).label = true := by
  simp only [useAt, useOk, Bool.and_eq_true] at h
  exact h.1.1.1.1
theorem useAt_less {l : List Use} {k : Nat} (h : useAt l (k + 1) = true) : cmpUses (nth l k) (nth l (k + 1)) < 0 := by
  simp only [useAt, Bool.and_eq_true, useAfter_succ, decide_eq_true_eq] at h
  exact h.1.2
theorem keys_le {l : List Use} {k : Nat} (h : ∀ j, j < k + 1 → useAt l j = true) : ∀ j, j < k + 1 → keyOf (nth l j).label ≤ keyOf (nth l k).label := by
  induction k with
  | zero => intro j hj; obtain rfl : j = 0 := by omega
            exact Int.le_refl _
  | succ k ih =>
    intro j hj
    have hs := key_le (useAt_label (h k (by omega))) (useAt_label (h (k + 1) (by omega))) (useAt_less (h (k + 1) (by omega)))
    rcases Nat.lt_or_ge j (k + 1) with h1 | h1
    · exact Int.le_trans (ih (fun i hi => h i (by omega)) j h1) hs
    · obtain rfl : j = k + 1 := by omega
      exact Int.le_refl _
/-- Where the label changes, none of the elements before has the new one. -/
theorem ownersOf_new {l : List Use} {m : Nat} (hm : m + 1 < l.length) (h : ∀ j, j < m + 1 → useAt l j = true) (hl : labelRight (nth l (m + 1)).label = true) (hc : cmpUses (nth l m) (nth l (m + 1)) < 0) (hne : (nth l m).label ≠ (nth l (m + 1)).label) : ownersOf (l.take (m + 1)) (nth l (m + 1)).label = 0 := by
  unfold ownersOf
  rw [List.countP_eq_zero]
  intro x hx
  obtain ⟨j, hj, rfl⟩ := List.getElem_of_mem hx
  rw [List.length_take] at hj
  rw [List.getElem_take, ← nth_eq]
  intro he
  have he := of_decide_eq_true he
  have h1 := keys_le h j (by omega)
  have hlm := useAt_label (h m (by omega))
  have h2 := key_le hlm hl hc
  rw [he] at h1
  exact hne (key_inj hlm hl (by omega))
end Go.Proofs.YtjiipmkehdiiiaaDoor

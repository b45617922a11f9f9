/- The walks of UseOf, the program's and the reference's. -/
import Derived.Test.YtdhcbbbmajjehaaGreatUsesE
import Derived.Test.YtdhcbbbmajjehaaGreatUsesD
namespace Go.Proofs.YtdhcbbbmajjehaaGreat
open Go.RowKit
attribute [local irreducible] wpQuiet

/-- Has this label and this owner. -/
def isUse (a : Label) (o : ByteArray) (x : Use) : Bool := decide (x.label = a) && decide (x.owner = o)
def useOf (l : List Use) (a : Label) (o : ByteArray) : Int := if o.size ≤ 8000 ∧ usesRight l = true then ((l.find? (isUse a o)).map (·.used)).getD 0 else 0

theorem useOf_some {l : List Use} {a : Label} {o : ByteArray} {k : Nat} (h0 : o.size ≤ 8000) (hr : usesRight l = true) (hk : k < l.length) (h : ∀ j, j < k → isUse a o (nth l j) = false) (hp : isUse a o (nth l k) = true) : useOf l a o = (nth l k).used := by
  have : l.find? (isUse a o) = some (nth l k) := by
    rw [List.find?_eq_some_iff_getElem]
    refine ⟨hp, k, hk, (nth_eq hk).symm, fun j hj => ?_⟩
    have := h j hj
    rw [nth_eq (by omega)] at this
    simpa using this
  rw [useOf, if_pos ⟨h0, hr⟩, this]; rfl
theorem useOf_none {l : List Use} {a : Label} {o : ByteArray} (h : ∀ j, j < l.length → isUse a o (nth l j) = false) : useOf l a o = 0 := by
  have : l.find? (isUse a o) = none := List.find?_eq_none.2 fun x hx => by
    obtain ⟨i, hi, rfl⟩ := List.getElem_of_mem hx
    have := h i hi
    rw [nth_eq hi] at this
    simpa using this
  rw [useOf, this]
  split <;> rfl
theorem isUse_iff {a : Label} {o : ByteArray} {x : Use} : isUse a o x = (decide (x.label.level = a.level) && decide (x.label.set = a.set) && decide (x.owner.toList = o.toList)) := by
  obtain ⟨⟨l, s⟩, p, u⟩ := x
  obtain ⟨m, t⟩ := a
  simp [isUse, bytes_iff]

def useIx (l : List Use) (a : Label) (o : ByteArray) : Int := idxOf (isUse a o) l

theorem idxOf_cases {α : Type} [Inhabited α] (p : α → Bool) (l : List α) : (idxOf p l = -1 ∧ ∀ j, j < l.length → p (nth l j) = false) ∨ ∃ k : Nat, k < l.length ∧ idxOf p l = k ∧ p (nth l k) = true ∧ ∀ j, j < k → p (nth l j) = false := by
  unfold idxOf
  cases h : l.findIdx? p with
  | none =>
    rw [List.findIdx?_eq_none_iff] at h
    exact .inl ⟨rfl, fun j hj => h _ (nth_mem hj)⟩
  | some i =>
    obtain ⟨hi, hp, hb⟩ := List.findIdx?_eq_some_iff_getElem.1 h
    refine .inr ⟨i, hi, rfl, by rw [nth_eq hi]; exact hp, fun j hj => ?_⟩
    have := hb j hj
    rw [nth_eq (by omega)]
    simpa using this

theorem useAt_true {l : List Use} (hu : usesRight l = true) {k : Nat} (hk : k < l.length) : useAt l k = true := by
  simp only [usesRight, Bool.and_eq_true, List.all_eq_true] at hu
  exact hu.2 k (List.mem_range.mpr hk)
theorem useOk_true {l : List Use} (hu : usesRight l = true) {k : Nat} (hk : k < l.length) : useOk (nth l k) = true := by
  have := useAt_true hu hk
  simp only [useAt, Bool.and_eq_true] at this
  exact this.1.1
theorem name_short {s : ByteArray} (h : nameRight s = true) : s.size ≤ 20 := by
  simp only [nameRight, Bool.and_eq_true, decide_eq_true_eq] at h
  omega
theorem short_of {l : List Use} {a : Label} {o : ByteArray} (hu : usesRight l = true) {k : Nat} (hk : k < l.length) (hp : isUse a o (nth l k) = true) : o.size ≤ 8000 := by
  have h1 := useOk_true hu hk
  simp only [useOk, Bool.and_eq_true] at h1
  simp only [isUse, Bool.and_eq_true, decide_eq_true_eq] at hp
  have := name_short h1.1.2
  rw [hp.2] at this
  omega
end Go.Proofs.YtdhcbbbmajjehaaGreat

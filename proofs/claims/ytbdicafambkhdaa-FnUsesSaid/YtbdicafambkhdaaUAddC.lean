/- Uses that are right stay right when a use is added. -/
import Derived.Test.YtbdicafambkhdaaUAddP
import Derived.Test.YtbdicafambkhdaaOwn
import Derived.Test.YtbdicafambkhdaaHalf
namespace Go.Proofs.Ytbdicafambkhdaa
open Go.RowKit

theorem nth_takeU {α : Type} [Inhabited α] {l : List α} {i k : Nat} (h : i < k) (hk : k ≤ l.length) : nth (l.take k) i = nth l i := by
  rw [nth_eq (by rw [List.length_take]; omega), nth_eq (by omega)]; simp
theorem right_iff {l : List Use} : usesRight l = true ↔ l.length ≤ 48 ∧ (∀ x ∈ l, useOk x = true) ∧ (l.Pairwise fun a b => cmpUses a b < 0) ∧ ∀ a, ownersOf l a ≤ 6 := by
  constructor
  · intro hu
    refine ⟨by simp only [usesRight, Bool.and_eq_true, decide_eq_true_eq] at hu; exact hu.1, fun x hx => ?_, ?_, fun a => ?_⟩
    · obtain ⟨i, hi, rfl⟩ := List.getElem_of_mem hx
      rw [← nth_eq hi]
      exact useOk_true hu hi
    · rw [List.pairwise_iff_getElem]
      intro i j hi hj hij
      have := uses_lt hu hij hj
      rwa [nth_eq hi, nth_eq hj] at this
    · have := owners_six hu a l.length (Nat.le_refl _)
      rwa [List.take_length] at this
  · rintro ⟨h1, h2, h3, h4⟩
    rw [usesRight_of (fun k hk => ?_)]
    · simpa using h1
    · have ok := h2 _ (nth_mem hk)
      have hs := ownersOf_succ (a := (nth l k).label) hk
      rw [if_pos rfl] at hs
      have hle : ownersOf (l.take (k + 1)) (nth l k).label ≤ ownersOf l (nth l k).label := by
        have e := congrArg (fun m => ownersOf m (nth l k).label) (List.take_append_drop (k + 1) l)
        simp only [ownersOf, List.countP_append] at e ⊢
        omega
      have h6 := h4 (nth l k).label
      have ha : useAfter l k = true := by
        rcases k with _ | k
        · exact useAfter_zero l
        · rw [useAfter_succ]
          have := List.pairwise_iff_getElem.1 h3 k (k + 1) (by omega) hk (by omega)
          rw [← nth_eq (by omega), ← nth_eq hk] at this
          simpa using this
      simp only [useAt, Bool.and_eq_true, decide_eq_true_eq]
      exact ⟨⟨ok, ha⟩, by omega⟩
theorem cmp_keys {x x' y y' : Use} (h1 : x.label = x'.label) (h2 : x.owner = x'.owner) (h3 : y.label = y'.label) (h4 : y.owner = y'.owner) : cmpUses x y = cmpUses x' y' := by
  rw [cmpUses, cmpUses, h1, h2, h3, h4]
theorem addAt_right {l : List Use} {k : Nat} {n : Int} (hu : usesRight l = true) (hk : k < l.length) (hn : 1 ≤ n) : usesRight (addAt l k n) = true := by
  obtain ⟨h1, h2, h3, h4⟩ := right_iff.1 hu
  have hl : (addAt l k n).length = l.length := by simp [addAt]
  have hget : ∀ i (hi : i < l.length), (nth (addAt l k n) i).label = (nth l i).label ∧ (nth (addAt l k n) i).owner = (nth l i).owner := fun i hi => by
    by_cases e : i = k
    · subst e
      rw [addAt, nth_set_eq hi]
      exact ⟨rfl, rfl⟩
    · rw [addAt, nth_set_ne e hi]
      exact ⟨rfl, rfl⟩
  refine right_iff.2 ⟨by omega, fun x hx => ?_, ?_, fun a => ?_⟩
  · rcases List.mem_or_eq_of_mem_set hx with hx | rfl
    · exact h2 x hx
    · have ok := h2 _ (nth_mem hk)
      simp only [useOk, Bool.and_eq_true] at ok ⊢
      refine ⟨ok.1, ?_⟩
      have := isB_true ok.2
      simp only [isB, decide_eq_true_eq]
      omega
  · rw [List.pairwise_iff_getElem]
    intro i j hi hj hij
    have hi' : i < l.length := by omega
    have hj' : j < l.length := by omega
    have := List.pairwise_iff_getElem.1 h3 i j hi' hj' hij
    rw [← nth_eq hi, ← nth_eq hj]
    rw [← nth_eq hi', ← nth_eq hj'] at this
    rwa [cmp_keys (hget i hi').1 (hget i hi').2 (hget j hj').1 (hget j hj').2]
  · have e : (addAt l k n).map (·.label) = l.map (·.label) := by
      apply List.ext_getElem (by simp [addAt])
      intro i hi hj
      simp only [List.getElem_map]
      have := (hget i (by simpa using hj)).1
      rwa [nth_eq (by simpa using hi), nth_eq (by simpa using hj)] at this
    have e2 : ∀ m : List Use, ownersOf m a = (m.map (·.label)).countP (fun b => decide (b = a)) := fun m => by
      rw [List.countP_map]; rfl
    rw [e2, e, ← e2]
    exact h4 a
theorem insU_right {l : List Use} {x : Use} (hu : usesRight l = true) (hn : ∀ j, j < l.length → cmpUses x (nth l j) ≠ 0) (hx : useOk x = true) (h48 : l.length ≠ 48) (h6 : ownersOf l x.label ≠ 6) : usesRight (insU l x) = true := by
  obtain ⟨h1, h2, h3, h4⟩ := right_iff.1 hu
  have hp := insU_perm l x
  refine right_iff.2 ⟨?_, fun y hy => ?_, insU_sorted hu hn, fun a => ?_⟩
  · have := hp.length_eq
    simp at this
    omega
  · have := hp.mem_iff.1 hy
    rw [List.mem_append, List.mem_singleton] at this
    rcases this with h | rfl
    · exact h2 y h
    · exact hx
  · have e : ownersOf (insU l x) a = ownersOf (l ++ [x]) a := by unfold ownersOf; exact hp.countP_eq _
    rw [e]
    have e2 : ownersOf (l ++ [x]) a = ownersOf l a + if x.label = a then 1 else 0 := by
      simp only [ownersOf, List.countP_append, List.countP_cons, List.countP_nil]
      split <;> simp_all
    rw [e2]
    have := h4 a
    split
    · rename_i h
      rw [h] at h6
      omega
    · omega
theorem useAdd_right {l : List Use} (a : Label) (o : ByteArray) (n : Int) (hu : usesRight l = true) : usesRight (useAdd l a o n) = true := by
  unfold useAdd
  split
  · rfl
  split
  · exact hu
  rename_i hok
  simp only [Bool.not_eq_false, Bool.and_eq_true] at hok
  have hn := isB_true hok.2
  rcases idxOf_cases (isUse a o) l with ⟨hi, hnone⟩ | ⟨k, hk, hi, _, _⟩
  · rw [if_neg (by rw [hi]; decide)]
    split
    · exact hu
    · rename_i h
      exact insU_right hu (fun j hj => isUse_cmp (hnone j hj)) (by simp only [useOk, Bool.and_eq_true]; exact ⟨⟨hok.1.1.2, hok.1.2⟩, hok.2⟩) (fun h1 => h (.inl h1)) (fun h1 => h (.inr h1))
  · rw [if_pos (by rw [hi]; omega), hi, Int.toNat_natCast]
    exact addAt_right hu hk hn.1

/-- What one has used: all entries of that label and owner together. -/
def sumOf (l : List Use) (a : Label) (o : ByteArray) : Int := ((l.filter (isUse a o)).map (·.used)).sum
theorem sumOf_append (l m : List Use) (a : Label) (o : ByteArray) : sumOf (l ++ m) a o = sumOf l a o + sumOf m a o := by simp [sumOf]
theorem perm_sum {l m : List Int} (h : l.Perm m) : l.sum = m.sum := by
  induction h with
  | nil => rfl
  | cons x _ ih => simp [ih]
  | swap x y l => simp only [List.sum_cons]; omega
  | trans _ _ h1 h2 => exact h1.trans h2
theorem sumOf_perm {l m : List Use} (h : l.Perm m) (a : Label) (o : ByteArray) : sumOf l a o = sumOf m a o := by
  unfold sumOf
  have h2 := (h.filter (isUse a o)).map (·.used)
  exact perm_sum h2
theorem isUse_iff' {a : Label} {o : ByteArray} {x : Use} : isUse a o x = true ↔ x.label = a ∧ x.owner = o := by simp [isUse]
theorem none_of {l : List Use} {p : Use → Bool} (h : ∀ j, j < l.length → p (nth l j) = false) : ∀ x ∈ l, p x = false := fun x hx => by
  obtain ⟨i, hi, rfl⟩ := List.getElem_of_mem hx
  rw [← nth_eq hi]; exact h i hi
/-- Where one is found in a right list, the others are others. -/
theorem only_one {l : List Use} {a : Label} {o : ByteArray} {k : Nat} (hu : usesRight l = true) (hk : k < l.length) (hp : isUse a o (nth l k) = true) :
    (∀ x ∈ l.take k, isUse a o x = false) ∧ (∀ x ∈ l.drop (k + 1), isUse a o x = false) := by
  obtain ⟨h1, h2⟩ := isUse_iff'.1 hp
  have no : ∀ j, j < l.length → j ≠ k → isUse a o (nth l j) = false := fun j hj hne => by
    cases h : isUse a o (nth l j) with
    | false => rfl
    | true =>
      obtain ⟨h3, h4⟩ := isUse_iff'.1 h
      rcases Nat.lt_or_gt_of_ne hne with hlt | hlt
      · have := uses_lt hu hlt hk
        rw [cmpUses_same (by rw [h1, h3]) (by rw [h2, h4])] at this
        omega
      · have := uses_lt hu hlt hj
        rw [cmpUses_same (by rw [h1, h3]) (by rw [h2, h4])] at this
        omega
  constructor
  · intro x hx
    obtain ⟨i, hi, rfl⟩ := List.getElem_of_mem hx
    rw [List.length_take] at hi
    rw [List.getElem_take, ← nth_eq (by omega)]
    exact no i (by omega) (by omega)
  · intro x hx
    obtain ⟨i, hi, rfl⟩ := List.getElem_of_mem hx
    rw [List.length_drop] at hi
    rw [List.getElem_drop, ← nth_eq (by omega)]
    exact no _ (by omega) (by omega)
theorem split_at {l : List Use} {k : Nat} (hk : k < l.length) : l = l.take k ++ nth l k :: l.drop (k + 1) := by
  rw [nth_eq hk, List.getElem_cons_drop, List.take_append_drop]
theorem sumOf_none {l : List Use} {a : Label} {o : ByteArray} (h : ∀ x ∈ l, isUse a o x = false) : sumOf l a o = 0 := by
  rw [sumOf, List.filter_eq_nil_iff.2 (fun x hx => by simp [h x hx])]; rfl
theorem sumOf_one {l : List Use} {a : Label} {o : ByteArray} {k : Nat} (hu : usesRight l = true) (hk : k < l.length) (hp : isUse a o (nth l k) = true) : sumOf l a o = (nth l k).used := by
  obtain ⟨h1, h2⟩ := only_one hu hk hp
  conv => lhs; rw [split_at hk]
  rw [sumOf_append, sumOf_none h1, show nth l k :: List.drop (k + 1) l = [nth l k] ++ List.drop (k + 1) l from rfl, sumOf_append, sumOf_none h2]
  simp [sumOf, hp]
theorem useOf_sum {l : List Use} {a : Label} {o : ByteArray} (hu : usesRight l = true) (h0 : o.size ≤ 8000) : useOf l a o = sumOf l a o := by
  rcases idxOf_cases (isUse a o) l with ⟨_, hnone⟩ | ⟨k, hk, _, hp, hb⟩
  · rw [useOf_none hnone, sumOf_none (none_of hnone)]
  · rw [useOf_some h0 hu hk hb hp, sumOf_one hu hk hp]
theorem useOf_bad {l : List Use} {a : Label} {o : ByteArray} (h : ¬ usesRight l = true) : useOf l a o = 0 := by
  rw [useOf, if_neg (fun h2 => h h2.2)]
/-- What adding a use leaves, in some order. -/
def addP (l : List Use) (a : Label) (o : ByteArray) (n : Int) : List Use := l.filter (fun y => !isUse a o y) ++ [⟨a, o, min 100000 (sumOf l a o + n)⟩]
def addOk (a : Label) (o : ByteArray) (n : Int) : Bool := labelRight a && nameRight o && isB n 1 100000
theorem useAdd_not {l : List Use} {a : Label} {o : ByteArray} {n : Int} (h : ¬ (usesRight l = true ∧ addOk a o n = true)) (hl : l.length ≤ 400) (ho : o.size ≤ 8000) : useAdd l a o n = l := by
  unfold useAdd
  rw [if_neg (by omega), if_pos]
  simp only [addOk, Bool.and_eq_true] at h
  rw [← Bool.not_eq_true]
  simp only [Bool.and_eq_true]
  intro h2
  exact h ⟨h2.1.1.1, ⟨h2.1.1.2, h2.1.2⟩, h2.2⟩
theorem useAdd_perm {l : List Use} {a : Label} {o : ByteArray} {n : Int} (hu : usesRight l = true) (hok : addOk a o n = true) : useAdd l a o n = l ∨ (useAdd l a o n).Perm (addP l a o n) := by
  have hok' := hok
  simp only [addOk, Bool.and_eq_true] at hok'
  have h48 := usesRight_length hu
  have hsz := name_short hok'.1.2
  unfold useAdd
  rw [if_neg (by omega), if_neg (by simp [hu, hok'.1.1, hok'.1.2, hok'.2])]
  rcases idxOf_cases (isUse a o) l with ⟨hi, hnone⟩ | ⟨k, hk, hi, hp, _⟩
  · rw [if_neg (by rw [hi]; decide)]
    split
    · exact .inl rfl
    · right
      have hn := isB_true hok'.2
      refine (insU_perm l _).trans ?_
      unfold addP
      rw [sumOf_none (none_of hnone), List.filter_eq_self.2 (fun x hx => by simp [none_of hnone x hx]), show min 100000 (0 + n) = n by omega]
  · right
    rw [if_pos (by rw [hi]; omega), hi, Int.toNat_natCast]
    obtain ⟨h1, h2⟩ := only_one hu hk hp
    obtain ⟨h3, h4⟩ := isUse_iff'.1 hp
    have e : addAt l k n = l.take k ++ ⟨a, o, min 100000 (sumOf l a o + n)⟩ :: l.drop (k + 1) := by
      rw [addAt, List.set_eq_take_append_cons_drop, if_pos hk, sumOf_one hu hk hp, ← h3, ← h4]
    have e2 : l.filter (fun y => !isUse a o y) = l.take k ++ l.drop (k + 1) := by
      conv => lhs; rw [split_at hk]
      rw [List.filter_append, List.filter_cons_of_neg (by simp [hp]), List.filter_eq_self.2 (fun x hx => by simp [h1 x hx]), List.filter_eq_self.2 (fun x hx => by simp [h2 x hx])]
    rw [e, addP, e2]
    refine List.perm_middle.trans ?_
    exact (List.perm_append_singleton _ _).symm
theorem useAdd_small {l : List Use} {a : Label} {o : ByteArray} {n : Int} (hu : usesRight l = true) (hok : addOk a o n = true) (h5 : l.length ≤ 5) : (useAdd l a o n).Perm (addP l a o n) := by
  have hok' := hok
  simp only [addOk, Bool.and_eq_true] at hok'
  rcases useAdd_perm hu hok with he | hp
  · have hsz := name_short hok'.1.2
    rcases idxOf_cases (isUse a o) l with ⟨hi, hnone⟩ | ⟨k, hk, hi, hp, _⟩
    · have h6 := ownersOf_le l a
      have : useAdd l a o n = insU l ⟨a, o, n⟩ := by
        unfold useAdd
        rw [if_neg (by omega), if_neg (by simp [hu, hok'.1.1, hok'.1.2, hok'.2]), if_neg (by rw [hi]; decide), if_neg (by omega)]
      have hl := (insU_perm l ⟨a, o, n⟩).length_eq
      rw [← this, he] at hl
      simp at hl
    · have : useAdd l a o n = addAt l k n := by
        unfold useAdd
        rw [if_neg (by omega), if_neg (by simp [hu, hok'.1.1, hok'.1.2, hok'.2]), if_pos (by rw [hi]; omega), hi, Int.toNat_natCast]
      obtain ⟨h1, h2⟩ := only_one hu hk hp
      obtain ⟨h3, h4⟩ := isUse_iff'.1 hp
      have e : addAt l k n = l.take k ++ ⟨a, o, min 100000 (sumOf l a o + n)⟩ :: l.drop (k + 1) := by
        rw [addAt, List.set_eq_take_append_cons_drop, if_pos hk, sumOf_one hu hk hp, ← h3, ← h4]
      have e2 : l.filter (fun y => !isUse a o y) = l.take k ++ l.drop (k + 1) := by
        conv => lhs; rw [split_at hk]
        rw [List.filter_append, List.filter_cons_of_neg (by simp [hp]), List.filter_eq_self.2 (fun x hx => by simp [h1 x hx]), List.filter_eq_self.2 (fun x hx => by simp [h2 x hx])]
      rw [this, e, addP, e2]
      refine List.perm_middle.trans ?_
      exact (List.perm_append_singleton _ _).symm
  · exact hp
theorem right_unique {l m : List Use} (hl : usesRight l = true) (hm : usesRight m = true) (hp : l.Perm m) : l = m := by
  refine List.Perm.eq_of_pairwise (le := fun a b => cmpUses a b < 0) ?_ (right_iff.1 hl).2.2.1 (right_iff.1 hm).2.2.1 hp
  intro a b _ _ h1 h2
  have := lin_uses.anti a b
  omega
theorem addP_perm {l m : List Use} (h : l.Perm m) (a : Label) (o : ByteArray) (n : Int) : (addP l a o n).Perm (addP m a o n) := by
  unfold addP
  rw [sumOf_perm h]
  exact (h.filter _).append_right _
theorem addOk_n {a : Label} {o : ByteArray} {n : Int} (h : addOk a o n = true) : 1 ≤ n ∧ n ≤ 100000 := by
  simp only [addOk, Bool.and_eq_true] at h
  exact isB_true h.2
theorem addOk_o {a : Label} {o : ByteArray} {n : Int} (h : addOk a o n = true) : o.size ≤ 8000 := by
  simp only [addOk, Bool.and_eq_true] at h
  have := name_short h.1.2
  omega
theorem key_ne {a b : Label} {o p : ByteArray} (h : ¬ (a = b ∧ o = p)) {x : Use} (hx : isUse a o x = true) : isUse b p x = false := by
  obtain ⟨h1, h2⟩ := isUse_iff'.1 hx
  cases hb : isUse b p x with
  | false => rfl
  | true =>
    obtain ⟨h3, h4⟩ := isUse_iff'.1 hb
    exact absurd ⟨h1.symm.trans h3, h2.symm.trans h4⟩ h
theorem sumOf_addP_same (l : List Use) (a : Label) (o : ByteArray) (n : Int) : sumOf (addP l a o n) a o = min 100000 (sumOf l a o + n) := by
  rw [addP, sumOf_append, sumOf_none (fun x hx => by have := (List.mem_filter.1 hx).2; simpa using this)]
  simp [sumOf, isUse]
theorem sumOf_addP_other {a b : Label} {o p : ByteArray} (h : ¬ (a = b ∧ o = p)) (l : List Use) (n : Int) : sumOf (addP l a o n) b p = sumOf l b p := by
  rw [addP, sumOf_append]
  have e1 : sumOf [(⟨a, o, min 100000 (sumOf l a o + n)⟩ : Use)] b p = 0 := sumOf_none (fun x hx => by
    rw [List.mem_singleton] at hx
    subst hx
    exact key_ne h (isUse_iff'.2 ⟨rfl, rfl⟩))
  rw [e1, Int.add_zero]
  unfold sumOf
  rw [List.filter_filter]
  congr 2
  refine List.filter_congr fun x _ => ?_
  cases hb : isUse b p x with
  | false => simp
  | true => simp [key_ne (fun e => h ⟨e.1.symm, e.2.symm⟩) hb]
theorem addP_comm {l : List Use} {a b : Label} {o p : ByteArray} {n m : Int} (h1 : 1 ≤ n) (h2 : 1 ≤ m) : (addP (addP l a o n) b p m).Perm (addP (addP l b p m) a o n) := by
  by_cases h : a = b ∧ o = p
  · obtain ⟨rfl, rfl⟩ := h
    have e : ∀ k, (addP l a o k).filter (fun y => !isUse a o y) = l.filter (fun y => !isUse a o y) := fun k => by
      rw [addP, List.filter_append, List.filter_filter]
      simp [isUse]
    rw [addP, e, sumOf_addP_same, addP, e, sumOf_addP_same, show min 100000 (min 100000 (sumOf l a o + n) + m) = min 100000 (min 100000 (sumOf l a o + m) + n) by omega]
  · have h' : ¬ (b = a ∧ p = o) := fun e => h ⟨e.1.symm, e.2.symm⟩
    rw [addP, sumOf_addP_other h, addP, addP, sumOf_addP_other h', addP, List.filter_append, List.filter_append, List.filter_filter, List.filter_filter]
    rw [List.filter_eq_self (l := [_]) (p := fun y => !isUse b p y) |>.2 (fun x hx => by rw [List.mem_singleton] at hx; subst hx; simp [key_ne h (x := (⟨a, o, min 100000 (sumOf l a o + n)⟩ : Use)) (isUse_iff'.2 ⟨rfl, rfl⟩)])]
    rw [List.filter_eq_self (l := [_]) (p := fun y => !isUse a o y) |>.2 (fun x hx => by rw [List.mem_singleton] at hx; subst hx; simp [key_ne h' (x := (⟨b, p, min 100000 (sumOf l b p + m)⟩ : Use)) (isUse_iff'.2 ⟨rfl, rfl⟩)])]
    rw [List.append_assoc, List.append_assoc]
    have e : l.filter (fun y => (!isUse b p y) && (!isUse a o y)) = l.filter (fun y => (!isUse a o y) && (!isUse b p y)) := List.filter_congr fun x _ => Bool.and_comm _ _
    first
      | (rw [e]; exact (List.Perm.refl _).append (List.perm_append_comm))
      | (rw [← e]; exact (List.Perm.refl _).append (List.perm_append_comm))
theorem useAdd_length (l : List Use) (a : Label) (o : ByteArray) (n : Int) : (useAdd l a o n).length ≤ l.length + 1 := by
  unfold useAdd
  split
  · simp
  split
  · omega
  split
  · simp [addAt]
  split
  · omega
  · have := (insU_perm l ⟨a, o, n⟩).length_eq
    simp at this
    omega
/-- Two additions commute in a short list. -/
theorem useAdd_comm {l : List Use} {a b : Label} {o p : ByteArray} {n m : Int} (h4 : l.length ≤ 4) (ho : o.size ≤ 8000) (hp : p.size ≤ 8000) : useAdd (useAdd l a o n) b p m = useAdd (useAdd l b p m) a o n := by
  have l1 := useAdd_length l a o n
  have l2 := useAdd_length l b p m
  by_cases hu : usesRight l = true
  · by_cases hA : addOk a o n = true
    · by_cases hB : addOk b p m = true
      · have ra := useAdd_right a o n hu
        have rb := useAdd_right b p m hu
        refine right_unique (useAdd_right b p m ra) (useAdd_right a o n rb) ?_
        refine (useAdd_small ra hB (by omega)).trans (((addP_perm (useAdd_small hu hA (by omega)) b p m).trans ?_).trans ((useAdd_small rb hA (by omega)).trans (addP_perm (useAdd_small hu hB (by omega)) a o n)).symm)
        exact addP_comm (addOk_n hA).1 (addOk_n hB).1
      · rw [useAdd_not (l := l) (a := b) (fun h => hB h.2) (by omega) hp, useAdd_not (a := b) (fun h => hB h.2) (by omega) hp]
    · rw [useAdd_not (l := l) (a := a) (fun h => hA h.2) (by omega) ho, useAdd_not (a := a) (fun h => hA h.2) (by omega) ho]
  · rw [useAdd_not (l := l) (a := a) (fun h => hu h.1) (by omega) ho, useAdd_not (l := l) (a := b) (fun h => hu h.1) (by omega) hp, useAdd_not (l := l) (a := a) (fun h => hu h.1) (by omega) ho]
/-- What one used more is counted for that one alone. -/
theorem useOf_other {l : List Use} {a b : Label} {o p : ByteArray} {n : Int} (h : ¬ (a = b ∧ o = p)) (hl : l.length ≤ 400) (ho : o.size ≤ 8000) (hp : p.size ≤ 8000) : useOf (useAdd l a o n) b p = useOf l b p := by
  by_cases hu : usesRight l = true ∧ addOk a o n = true
  · obtain ⟨hu, hok⟩ := hu
    rcases useAdd_perm hu hok with he | hperm
    · rw [he]
    · rw [useOf_sum (useAdd_right a o n hu) hp, useOf_sum hu hp, sumOf_perm hperm, sumOf_addP_other h]
  · rw [useAdd_not hu hl ho]
theorem useOf_same {l : List Use} {a : Label} {o : ByteArray} {n : Int} (h4 : l.length ≤ 4) (hu : usesRight l = true) (ha : labelRight a = true) (ho : nameRight o = true) (hn : 1 ≤ n ∧ n ≤ 1000) (hm : useOf l a o ≤ 90000) : useOf (useAdd l a o n) a o = useOf l a o + n := by
  have hok : addOk a o n = true := by simp only [addOk, ha, ho, Bool.true_and]; exact isB_iff.2 (by omega)
  rw [useOf_sum hu (addOk_o hok)] at hm ⊢
  rw [useOf_sum (useAdd_right a o n hu) (addOk_o hok), sumOf_perm (useAdd_small hu hok (by omega)), sumOf_addP_same]
  omega
theorem halves_filter (a : Label) (o : ByteArray) : ∀ l : List Use, (halves l).filter (isUse a o) = halves (l.filter (isUse a o))
  | [] => rfl
  | x :: l => by
    have ih := halves_filter a o l
    have e : isUse a o (half x) = isUse a o x := rfl
    by_cases h1 : 0 < x.used / 2 <;> by_cases h2 : isUse a o x = true <;> simp [halves, h1, h2, e, ih]
theorem halves_mem {x : Use} : ∀ {l : List Use}, x ∈ halves l → ∃ y ∈ l, x = half y ∧ 0 < y.used / 2
  | [], h => by cases h
  | y :: l, h => by
    unfold halves at h
    split at h
    · rcases List.mem_cons.1 h with rfl | h
      · exact ⟨y, by simp, rfl, by assumption⟩
      · obtain ⟨z, h1, h2⟩ := halves_mem h
        exact ⟨z, List.mem_cons_of_mem _ h1, h2⟩
    · obtain ⟨z, h1, h2⟩ := halves_mem h
      exact ⟨z, List.mem_cons_of_mem _ h1, h2⟩
theorem halves_pair : ∀ {l : List Use}, (l.Pairwise fun a b => cmpUses a b < 0) → (halves l).Pairwise fun a b => cmpUses a b < 0
  | [], _ => List.Pairwise.nil
  | y :: l, h => by
    rw [List.pairwise_cons] at h
    have ih := halves_pair h.2
    unfold halves
    split
    · rw [List.pairwise_cons]
      refine ⟨fun x hx => ?_, ih⟩
      obtain ⟨z, h1, rfl, _⟩ := halves_mem hx
      have := h.1 z h1
      rwa [cmp_keys (x := y) (x' := half y) (y := z) (y' := half z) rfl rfl rfl rfl] at this
    · exact ih
theorem halves_owners (a : Label) : ∀ l : List Use, ownersOf (halves l) a ≤ ownersOf l a
  | [] => Nat.le_refl _
  | y :: l => by
    have ih := halves_owners a l
    have e : (half y).label = y.label := rfl
    unfold halves
    split
    · simp only [ownersOf, List.countP_cons, e] at ih ⊢
      omega
    · simp only [ownersOf, List.countP_cons] at ih ⊢
      omega
theorem halves_right {l : List Use} (hu : usesRight l = true) : usesRight (halves l) = true := by
  obtain ⟨h1, h2, h3, h4⟩ := right_iff.1 hu
  refine right_iff.2 ⟨Nat.le_trans (halves_length l) h1, fun x hx => ?_, halves_pair h3, fun a => Nat.le_trans (halves_owners a l) (h4 a)⟩
  obtain ⟨y, hy, rfl, h5⟩ := halves_mem hx
  have ok := h2 y hy
  simp only [useOk, half, Bool.and_eq_true] at ok ⊢
  refine ⟨ok.1, ?_⟩
  have := isB_true ok.2
  exact isB_iff.2 (by omega)
theorem useOf_half (l : List Use) (a : Label) (o : ByteArray) : useOf (usesHalf l) a o = useOf l a o / 2 := by
  by_cases h0 : o.size ≤ 8000
  · unfold usesHalf
    split
    · rename_i hu
      rw [useOf_sum (halves_right hu) h0, useOf_sum hu h0]
      unfold sumOf
      rw [halves_filter]
      rcases idxOf_cases (isUse a o) l with ⟨_, hnone⟩ | ⟨k, hk, _, hp, _⟩
      · rw [List.filter_eq_nil_iff.2 (fun x hx => by simp [none_of hnone x hx])]
        rfl
      · obtain ⟨h1, h2⟩ := only_one hu hk hp
        have e : l.filter (isUse a o) = [nth l k] := by
          conv => lhs; rw [split_at hk]
          rw [List.filter_append, List.filter_cons_of_pos hp, List.filter_eq_nil_iff.2 (fun x hx => by simp [h1 x hx]), List.filter_eq_nil_iff.2 (fun x hx => by simp [h2 x hx])]
          rfl
        have hb := used_bounds hu hk
        rw [e]
        unfold halves
        split
        · simp [halves, half]
        · simp [halves]
          omega
    · rename_i hu
      rw [useOf_bad hu, useOf_none (fun j hj => by simp at hj)]
      rfl
  · rw [useOf, if_neg (fun h => h0 h.1), useOf, if_neg (fun h => h0 h.1)]
    rfl
end Go.Proofs.Ytbdicafambkhdaa

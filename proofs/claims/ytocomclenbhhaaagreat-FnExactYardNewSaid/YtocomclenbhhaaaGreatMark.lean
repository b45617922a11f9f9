/- Lists whose elements bear numbers in a row; in plain Lean. -/
import Derived.Test.YtocomclenbhhaaaGreatOwn
namespace Go.Proofs.YtocomclenbhhaaaGreat
open Go.RowKit

section
variable {α : Type}
/-- How many numbers the elements take. -/
def cntL (n : α → Nat) : List α → Nat
  | [] => 0
  | x :: l => n x + cntL n l
/-- Each element marked, from q on. -/
def markL (m : Int → α → α) (n : α → Nat) : Int → List α → List α
  | _, [] => []
  | q, x :: l => m q x :: markL m n (q + n x) l
variable {m : Int → α → α} {n : α → Nat}
theorem markL_length : ∀ (l : List α) (q : Int), (markL m n q l).length = l.length
  | [], _ => rfl
  | x :: l, q => by simp [markL, markL_length l]
theorem cntL_succ [Inhabited α] : ∀ {l : List α} {k : Nat}, k < l.length → cntL n (l.take (k + 1)) = cntL n (l.take k) + n (nth l k)
  | x :: l, 0, _ => by simp [cntL, nth]
  | x :: l, k + 1, h => by
    have := cntL_succ (l := l) (k := k) (by simpa using h)
    simp only [List.take_succ_cons, cntL, this]
    simp [nth]
    omega
theorem cntL_take_le : ∀ (l : List α) (k : Nat), cntL n (l.take k) ≤ cntL n l
  | [], k => by simp
  | x :: l, 0 => by simp [cntL]
  | x :: l, k + 1 => by
    have := cntL_take_le l k
    simp only [List.take_succ_cons, cntL]
    omega
theorem cntL_at [Inhabited α] {l : List α} {k : Nat} (h : k < l.length) : cntL n (l.take k) + n (nth l k) ≤ cntL n l := by
  rw [← cntL_succ h]; exact cntL_take_le l (k + 1)
theorem markL_nth [Inhabited α] : ∀ {l : List α} {k : Nat} (q : Int), k < l.length → nth (markL m n q l) k = m (q + cntL n (l.take k)) (nth l k)
  | x :: l, 0, q, _ => by simp [markL, nth, cntL]
  | x :: l, k + 1, q, h => by
    have := markL_nth (l := l) (k := k) (q + n x) (by simpa using h)
    simp only [List.take_succ_cons, cntL, markL]
    have e : ∀ (a : α) (r : List α), nth (a :: r) (k + 1) = nth r k := fun a r => by simp [nth]
    rw [e, e, this]
    congr 1
    push_cast
    omega
/-- The first k are marked. -/
def mixL (m : Int → α → α) (n : α → Nat) (q : Int) (l : List α) (k : Nat) : List α := (markL m n q l).take k ++ l.drop k
theorem mixL_zero (q : Int) (l : List α) : mixL m n q l 0 = l := by simp [mixL]
theorem mixL_full (q : Int) (l : List α) : mixL m n q l l.length = markL m n q l := by
  rw [mixL, List.drop_length, List.append_nil, List.take_of_length_le (by rw [markL_length]; exact Nat.le_refl _)]
theorem mixL_length (q : Int) (l : List α) (k : Nat) (h : k ≤ l.length) : (mixL m n q l k).length = l.length := by
  simp [mixL, markL_length]; omega
theorem mixL_nth [Inhabited α] {q : Int} {l : List α} {k : Nat} (h : k < l.length) : nth (mixL m n q l k) k = nth l k := by
  have hl : ((markL m n q l).take k).length = k := by simp [markL_length]; omega
  have := nth_append_right (l := (markL m n q l).take k) (m := l.drop k) (k := 0) (by simp; omega)
  rw [hl, Nat.add_zero] at this
  rw [mixL, this, nth_eq (by simp; omega), nth_eq h]
  simp
theorem mixL_set [Inhabited α] {q : Int} {l : List α} {k : Nat} (h : k < l.length) : (mixL m n q l k).set k (m (q + cntL n (l.take k)) (nth l k)) = mixL m n q l (k + 1) := by
  have hl : ((markL m n q l).take k).length = k := by simp [markL_length]; omega
  rw [mixL, mixL, List.set_append_right _ _ (by omega), hl, Nat.sub_self, drop_nth h, List.set_cons_zero, List.take_succ_eq_append_getElem (by rw [markL_length]; exact h), ← nth_eq (by rw [markL_length]; exact h), markL_nth q h]
  simp
end

theorem OwS.cast_mark {α : Type} [Inhabited α] {E : Elem α} {O : Own E} {T : TypeId} {w : World} {v : Value} {m : Int → α → α} {n : α → Nat} {q q' : Int} {l : List α} {F : List Nat} (h : OwS O T w v (markL m n q l) F) (e : q = q') : OwS O T w v (markL m n q' l) F := e ▸ h
theorem Rd.cast_mark {α : Type} {E : Elem α} {S : Nat → Prop} {w : World} {v : Value} {m : Int → α → α} {n : α → Nat} {q q' : Int} {l : List α} (h : Rd E S w v (markL m n q l)) (e : q = q') : Rd E S w v (markL m n q' l) := e ▸ h
end Go.Proofs.YtocomclenbhhaaaGreat

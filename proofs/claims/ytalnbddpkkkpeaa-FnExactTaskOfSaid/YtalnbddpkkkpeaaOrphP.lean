/- Orphans as plain Lean: built element by element, or written in place, it comes to the same. -/
import Derived.Test.YtalnbddpkkkpeaaTasksP
import Derived.Test.YtalnbddpkkkpeaaOwn2
namespace Go.Proofs.Ytalnbddpkkkpeaa
open Go.RowKit

def gone (x : Task) : Task := { x with state := 6, start := 0, nodes := [] }
def badEnd (n : Int) : Bool := decide (n = 5) || decide (n = 6)
def waits (x : Task) : Bool := !decide (x.after = 0) && (decide (x.state = 1) || decide (x.state = 3))
def lost (m : List Task) (x : Task) : Bool := waits x && badEnd (nth m (taskIx m x.under x.after).toNat).state
def orphStep (m : List Task) (x : Task) : List Task := m ++ [if lost m x = true then gone x else x]
def orphL (l : List Task) : List Task := l.foldl orphStep []
def orphans (l : List Task) : List Task := if tasksRight l = true then orphL l else []

theorem orphL_succ {l : List Task} {k : Nat} (hk : k < l.length) : orphL (l.take (k + 1)) = orphStep (orphL (l.take k)) (nth l k) := by
  unfold orphL
  rw [List.take_succ_eq_append_getElem hk, List.foldl_append, ← nth_eq hk]
  rfl
theorem orphL_length : ∀ (l : List Task), (orphL l).length = l.length := by
  have h : ∀ (l a : List Task), (l.foldl orphStep a).length = a.length + l.length := by
    intro l
    induction l with
    | nil => simp
    | cons x l ih => intro a; rw [List.foldl_cons, ih]; simp [orphStep]; omega
  intro l
  have := h l []
  simpa [orphL] using this
theorem orphL_same (l : List Task) : ∀ k, k ≤ l.length → ∀ j, j < k → (nth (orphL (l.take k)) j).label = (nth l j).label ∧ (nth (orphL (l.take k)) j).id = (nth l j).id := by
  intro k
  induction k with
  | zero => intro _ j hj; omega
  | succ k ih =>
    intro hk j hj
    have hlen : (orphL (l.take k)).length = k := by rw [orphL_length, List.length_take]; omega
    rw [orphL_succ (by omega), orphStep]
    rcases Nat.lt_or_ge j k with h | h
    · rw [nth_append_left (by omega)]
      exact ih (by omega) j h
    · obtain rfl : j = k := by omega
      have e := nth_append_right (l := orphL (l.take j)) (m := [if lost (orphL (l.take j)) (nth l j) = true then gone (nth l j) else nth l j]) (k := 0) (by simp)
      rw [hlen, Nat.add_zero] at e
      rw [e, show ∀ y : Task, nth [y] 0 = y from fun _ => rfl]
      split <;> exact ⟨rfl, rfl⟩
theorem taskIx_front {a b : List Task} {x : Label} {n : Int} (h : 0 ≤ taskIx a x n) : taskIx (a ++ b) x n = taskIx a x n := by
  unfold taskIx at *
  rcases idxOf_cases (isTask x n) a with ⟨h1, _⟩ | ⟨k, hk, h1, hp, hf⟩
  · rw [h1] at h; omega
  · rw [h1]
    refine idxOf_some (by rw [List.length_append]; omega) (fun j hj => ?_) ?_
    · rw [nth_append_left (by omega)]; exact hf j hj
    · rw [nth_append_left hk]; exact hp
theorem taskIx_lt {a : List Task} {x : Label} {n : Int} (h : 0 ≤ taskIx a x n) : (taskIx a x n).toNat < a.length ∧ ((taskIx a x n).toNat : Int) = taskIx a x n := by
  unfold taskIx at *
  rcases idxOf_cases (isTask x n) a with ⟨h1, _⟩ | ⟨k, hk, h1, hp, hf⟩
  · rw [h1] at h; omega
  · rw [h1]; exact ⟨by simpa using hk, by simp⟩
theorem taskIx_some_of {a : List Task} {x : Label} {n : Int} {j : Nat} (hj : j < a.length) (h1 : (nth a j).label = x) (h2 : (nth a j).id = n) : 0 ≤ taskIx a x n := taskIx_mem.2 ⟨j, hj, h1, h2⟩
theorem lost_front {a b : List Task} {x : Task} (h : waits x = true → 0 ≤ taskIx a x.under x.after) : lost (a ++ b) x = lost a x := by
  unfold lost
  cases hw : waits x with
  | false => rfl
  | true =>
    have h0 := h hw
    rw [taskIx_front h0, nth_append_left (taskIx_lt h0).1]
/-- What an element depends on stands ahead of it, also behind k rounds. -/
theorem dep_front {l : List Task} {k : Nat} (hk : k < l.length) (h : tasksRight l = true) (hw : waits (nth l k) = true) : 0 ≤ taskIx (orphL (l.take k)) (nth l k).under (nth l k).after := by
  simp only [tasksRight, Bool.and_eq_true, List.all_eq_true, List.mem_range] at h
  have hs := tS_of_tI h.2 hk
  simp only [tS, depI, Bool.and_eq_true, Bool.or_eq_true, decide_eq_true_eq] at hs
  have hn : (nth l k).after ≠ 0 := by
    intro e
    simp [waits, e] at hw
  obtain ⟨j, hj, h1, h2⟩ := taskIx_mem.1 (hs.2.resolve_left hn)
  have hjk : j < k := by rw [List.length_take] at hj; omega
  rw [nth_take hjk (by omega)] at h1 h2
  obtain ⟨e1, e2⟩ := orphL_same l k (by omega) j hjk
  exact taskIx_some_of (by rw [orphL_length, List.length_take]; omega) (e1.trans h1) (e2.trans h2)
/-- The first k rounds done in place. -/
def orphM (l : List Task) (k : Nat) : List Task := orphL (l.take k) ++ l.drop k
theorem orphM_zero (l : List Task) : orphM l 0 = l := by simp [orphM, orphL]
theorem orphM_full (l : List Task) : orphM l l.length = orphL l := by simp [orphM]
theorem orphM_length {l : List Task} {k : Nat} (hk : k ≤ l.length) : (orphM l k).length = l.length := by rw [orphM, List.length_append, orphL_length, List.length_take, List.length_drop]; omega
theorem orphM_nth {l : List Task} {k : Nat} (hk : k < l.length) : nth (orphM l k) k = nth l k := by
  have hlen : (orphL (l.take k)).length = k := by rw [orphL_length, List.length_take]; omega
  have e := nth_append_right (l := orphL (l.take k)) (m := l.drop k) (k := 0) (by rw [List.length_drop]; omega)
  rw [hlen, Nat.add_zero] at e
  rw [orphM, e, nth_eq (by rw [List.length_drop]; omega), nth_eq hk]
  simp
theorem orphM_lost {l : List Task} {k : Nat} (hk : k < l.length) (h : tasksRight l = true) : lost (orphM l k) (nth l k) = lost (orphL (l.take k)) (nth l k) := lost_front fun hw => dep_front hk h hw
theorem orphM_yes {l : List Task} {k : Nat} (hk : k < l.length) (h : tasksRight l = true) (hl : lost (orphM l k) (nth l k) = true) : (orphM l k).set k (gone (nth l k)) = orphM l (k + 1) := by
  have hlen : (orphL (l.take k)).length = k := by rw [orphL_length, List.length_take]; omega
  rw [orphM_lost hk h] at hl
  rw [orphM, orphM, orphL_succ hk, orphStep, if_pos hl, List.set_append_right _ _ (by omega), hlen, Nat.sub_self, drop_nth hk, List.set_cons_zero, List.append_assoc]
  rfl
theorem orphM_no {l : List Task} {k : Nat} (hk : k < l.length) (h : tasksRight l = true) (hl : lost (orphM l k) (nth l k) = false) : orphM l k = orphM l (k + 1) := by
  rw [orphM_lost hk h] at hl
  rw [orphM, orphM, orphL_succ hk, orphStep, hl, if_neg (by simp), drop_nth hk, List.append_assoc]
  rfl
end Go.Proofs.Ytalnbddpkkkpeaa

/- compareUses once more: the world that it leaves is the one before with draws and new blocks alone. Printed by wip/cmpg.py. UseAdd in plain Lean. -/
import Derived.Test.YtjiipmkehdiiiaaDoorUses
import Derived.Sort.Grow
import Derived.Test.YtjiipmkehdiiiaaDoorOrdU
namespace Go.Proofs.YtjiipmkehdiiiaaDoor
open Go.RowKit Go.Sort
attribute [local irreducible] wpQuiet

/-- w' is w with draws and new blocks. -/
def Gr (w w' : World) : Prop := ∃ (q : Nat) (os : Array Obj), w' = grow (w.drewN q) os
theorem Gr.refl (w : World) : Gr w w := ⟨0, #[], by simp [grow, World.drewN]⟩
theorem Gr.trans {a b c : World} (h : Gr a b) (k : Gr b c) : Gr a c := by
  obtain ⟨q, os, rfl⟩ := h
  obtain ⟨r, ps, rfl⟩ := k
  exact ⟨q + r, os ++ ps, by simp [grow, World.drewN, Nat.add_assoc]⟩
theorem Gr.alloc {a b : World} (h : Gr a b) (o : Obj) : Gr a (b.alloc o) := h.trans ⟨0, #[o], by rw [alloc_eq_grow]; simp [grow, World.drewN]⟩
theorem Gr.drew {a b : World} (h : Gr a b) : Gr a b.drew := h.trans ⟨1, #[], by rw [grow_empty]; rfl⟩
theorem Gr.ext {a b : World} (h : Gr a b) : Ext a b := by
  obtain ⟨q, os, rfl⟩ := h
  refine ⟨rfl, rfl, rfl, by simp [grow, World.drewN], fun i hi => ?_⟩
  show (a.heap ++ os)[i]? = a.heap[i]?
  rw [Array.getElem?_append_left hi]

set_option maxHeartbeats 2000000 in
theorem or_gr {S : Nat → Prop} (l : List Int) (v : Value) (w : World) (h : Rd EInt S w v l) :
    Calls Tryd.prog 68 #[v] w fun e w' => e = .returned (.int .i64 (orOf l)) ∧ Gr w w' := by
  obtain ⟨A, c, rfl, h1, h2, hk⟩ := h.open_
  unfold maxLen at h2
  have HK := Lib.hid hk
  clear hk h
  go_enter Tryd.func68, Tryd.ntmps68
  go_wp2_with fail
  go_loopw [8] (fun i w' => ∃ k : Nat, k ≤ l.length ∧ i = .int .i64 k ∧ (∀ j, j < k → nth l j = 0) ∧ Gr w w') (fun i _ => l.length - (intOf i).toNat)
  case atStart => exact ⟨0, by omega, rfl, fun j hj => by omega, Gr.refl _⟩
  case round =>
    obtain ⟨k, hk1, rfl, hall, hx⟩ := hrel
    have HA := Lib.hid hall
    have HX := Lib.hid hx
    clear hall
    by_cases hlt : k < l.length
    · obtain ⟨b, o, cs, rfl, _, ⟨rfl, _⟩, hc⟩ := HK.out k hlt
      have c0 := Ext.some hx.ext (hc 0 _ rfl)
      simp only [EInt, Nat.mul_one, Nat.add_zero] at c0
      clear hc hx
      by_cases he : nth l k = 0
      · have HE := Lib.hid he
        have e1 : (nth l k != 0) = false := by simp [he]
        clear he
        go_wp2_with fail
        go_roundw
        case rel => exact ⟨k + 1, by omega, by go_num, all_succ HA.out HE.out, HX.out⟩
        case measure => simp [intOf]; omega
      · have HE := Lib.hid he
        have e1 : (nth l k != 0) = true := by simp [he]
        clear he
        go_wp2_with fail
        go_ret
        exact ⟨ret_int (orOf_first hlt HA.out HE.out).symm, HX.out⟩
    · have HE := Lib.hid (orOf_none (l := l) fun j hj => HA.out j (by omega))
      go_wp2_with fail
      go_ret
      exact ⟨ret_int HE.out.symm, HX.out⟩

set_option maxHeartbeats 4000000 in
theorem compareLabels_gr {S S' : Nat → Prop} (a b : Label) (cs ds : List Value) (w : World) (h : ELabel.rel S w cs a) (g : ELabel.rel S' w ds b) :
    Calls Tryd.prog 54 #[.agg cs.toArray, .agg ds.toArray] w fun e w' => e = .returned (.int .i64 (cmpLabels a b)) ∧ Gr w w' := by
  obtain ⟨rfl, hi⟩ := h
  obtain ⟨rfl, gi⟩ := g
  clear hi gi
  simp only [cellsLabel]
  go_enter Tryd.func54, Tryd.ntmps54
  go_upto_region 1 with (fail)
  obtain ⟨W, B, hW, hB, hx0, a0, b0⟩ := boxes2 w #[.int .i64 a.level, .int .i64 a.set] #[.int .i64 b.level, .int .i64 b.set] 44 44
  rw [← hW, ← hB]
  have XX : Hid (Gr w W) := Lib.hid (by rw [hW]; exact ((Gr.refl w).alloc _).alloc _)
  clear hW hB
  have al : ∀ V, Gr W V → ∀ i, V.cell? ⟨B, i, none⟩ = _ := fun V hx => (a0.ext hx.ext).cell
  have bl : ∀ V, Gr W V → ∀ i, V.cell? ⟨B + 1, i, none⟩ = _ := fun V hx => (b0.ext hx.ext).cell
  clear hx0 a0 b0
  go_region_held3 (fun w' => Gr W w') (first | exact (Gr.refl _).drew | assumption | exact Gr.alloc (by assumption) _ | exact Gr.trans (by assumption) hx9) (first | (go_at_call 69; refine (compare_any _ _ _).mono ?_; rintro e w1 ⟨rfl, rfl⟩) | (go_at_call 68; refine (or_gr [cmp3 a.level b.level, cmp3 a.set b.set] _ _ ((rd_two W _ _ _ (cmp3_i64 _ _) (cmp3_i64 _ _)).ext (Ext.refl _).drew)).mono ?_; rintro e w9 ⟨rfl, hx9⟩))
  all_goals
    clear al bl
    go_wp2_with fail
    go_ret
    exact ⟨rfl, XX.out.trans (by assumption)⟩

end Go.Proofs.YtjiipmkehdiiiaaDoor

namespace Go.Proofs.YtjiipmkehdiiiaaDoor
open Go.RowKit

theorem Lin.lt_trans {α : Type} {c : α → α → Int} (h : Lin c) {x y z : α} (h1 : c x y < 0) (h2 : c y z < 0) : c x z < 0 := by
  have h3 := h.trans x y z (by omega) (by omega)
  rcases Int.lt_or_eq_of_le h3 with h4 | h4
  · exact h4
  · have h5 := h.anti x z
    have h6 := h.trans z x y (by omega) (by omega)
    have h7 := h.anti y z
    omega
theorem uses_lt {l : List Use} (hu : usesRight l = true) {i j : Nat} (hij : i < j) (hj : j < l.length) : cmpUses (nth l i) (nth l j) < 0 := by
  induction j with
  | zero => omega
  | succ j ih =>
    have h1 := useAt_less (useAt_true hu hj)
    rcases Nat.lt_or_ge i j with h2 | h2
    · exact lin_uses.lt_trans (ih h2 (by omega)) h1
    · obtain rfl : i = j := by omega
      exact h1
theorem owners_six {l : List Use} (hu : usesRight l = true) (a : Label) : ∀ k, k ≤ l.length → ownersOf (l.take k) a ≤ 6
  | 0, _ => by simp [ownersOf]
  | k + 1, hk => by
    have ih := owners_six hu a k (by omega)
    have h1 := useAt_true hu (show k < l.length by omega)
    simp only [useAt, Bool.and_eq_true, decide_eq_true_eq] at h1
    rw [ownersOf_succ (by omega)]
    split
    · rename_i he
      rw [he] at h1
      have := h1.2
      omega
    · omega
def insP (l : List Use) (x : Use) : Nat := (l.takeWhile fun y => !decide (cmpUses x y < 0)).length
def insU (l : List Use) (x : Use) : List Use := l.take (insP l x) ++ x :: l.drop (insP l x)
def addAt (l : List Use) (k : Nat) (n : Int) : List Use := l.set k { nth l k with used := min 100000 ((nth l k).used + n) }
def useAdd (l : List Use) (a : Label) (o : ByteArray) (n : Int) : List Use :=
  if 400 < l.length ∨ 8000 < o.size then []
  else if (usesRight l && labelRight a && nameRight o && isB n 1 100000) = false then l
  else if 0 ≤ idxOf (isUse a o) l then addAt l (idxOf (isUse a o) l).toNat n
  else if l.length = 48 ∨ ownersOf l a = 6 then l
  else insU l ⟨a, o, n⟩
theorem insP_le (l : List Use) (x : Use) : insP l x ≤ l.length := by
  unfold insP
  induction l with
  | nil => simp
  | cons y l ih =>
    rw [List.takeWhile_cons]
    split
    · simpa using ih
    · simp
theorem insP_low : ∀ (l : List Use) (x : Use) (k : Nat), k < insP l x → ¬ cmpUses x (nth l k) < 0
  | [], x, k, h => by simp [insP] at h
  | y :: l, x, k, h => by
    unfold insP at h
    rw [List.takeWhile_cons] at h
    split at h
    · rename_i hy
      rcases k with _ | k
      · simpa [nth] using hy
      · exact insP_low l x k (by unfold insP; simpa using h)
    · simp at h
theorem insP_at : ∀ (l : List Use) (x : Use), insP l x < l.length → cmpUses x (nth l (insP l x)) < 0
  | [], x, h => by simp at h
  | y :: l, x, h => by
    unfold insP at h ⊢
    rw [List.takeWhile_cons] at h ⊢
    split
    · rename_i hy
      rw [if_pos hy] at h
      exact insP_at l x (by unfold insP; simpa using h)
    · rename_i hy
      simpa [nth] using hy
theorem insP_high {l : List Use} (hu : usesRight l = true) (x : Use) {k : Nat} (h1 : insP l x ≤ k) (hk : k < l.length) : cmpUses x (nth l k) < 0 := by
  have h2 := insP_at l x (by omega)
  rcases Nat.lt_or_ge (insP l x) k with h3 | h3
  · exact lin_uses.lt_trans h2 (uses_lt hu h3 hk)
  · obtain rfl : insP l x = k := by omega
    exact h2
theorem insU_perm (l : List Use) (x : Use) : (insU l x).Perm (l ++ [x]) := by
  unfold insU
  have h1 : (List.take (insP l x) l ++ x :: List.drop (insP l x) l).Perm (x :: (List.take (insP l x) l ++ List.drop (insP l x) l)) := List.perm_middle
  rw [List.take_append_drop] at h1
  exact h1.trans (List.perm_append_singleton x l).symm
theorem insU_sorted {l : List Use} {x : Use} (hu : usesRight l = true) (hn : ∀ j, j < l.length → cmpUses x (nth l j) ≠ 0) : (insU l x).Pairwise fun a b => cmpUses a b < 0 := by
  have hl : l.Pairwise fun a b => cmpUses a b < 0 := by
    rw [List.pairwise_iff_getElem]
    intro i j hi hj hij
    have := uses_lt hu hij hj
    rwa [nth_eq hi, nth_eq hj] at this
  unfold insU
  rw [List.pairwise_append]
  refine ⟨hl.sublist (List.take_sublist _ _), List.pairwise_cons.2 ⟨fun y hy => ?_, hl.sublist (List.drop_sublist _ _)⟩, fun a ha b hb => ?_⟩
  · obtain ⟨i, hi, rfl⟩ := List.getElem_of_mem hy
    rw [List.length_drop] at hi
    have := insP_high hu x (k := insP l x + i) (by omega) (by omega)
    rw [nth_eq (by omega)] at this
    simpa using this
  · obtain ⟨i, hi, rfl⟩ := List.getElem_of_mem ha
    rw [List.length_take] at hi
    have h1 := insP_low l x i (by omega)
    have h2 := hn i (by omega)
    have h3 := lin_uses.anti x (nth l i)
    have h4 : cmpUses (nth l i) x < 0 := by omega
    have e : (List.take (insP l x) l)[i]'(by rw [List.length_take]; omega) = nth l i := by rw [nth_eq (by omega)]; simp
    rw [e]
    rcases List.mem_cons.1 hb with rfl | hb
    · exact h4
    · obtain ⟨j, hj, rfl⟩ := List.getElem_of_mem hb
      rw [List.length_drop] at hj
      have := insP_high hu x (k := insP l x + j) (by omega) (by omega)
      rw [nth_eq (by omega)] at this
      have e2 : (List.drop (insP l x) l)[j]'(by rw [List.length_drop]; omega) = l[insP l x + j]'(by omega) := by simp
      rw [e2]
      exact lin_uses.lt_trans h4 this
theorem sort_eq {l m : List Use} {x : Use} (hu : usesRight l = true) (hn : ∀ j, j < l.length → cmpUses x (nth l j) ≠ 0) (hp : m.Perm (l ++ [x])) (hs : m.Pairwise fun a b => cmpUses a b ≤ 0) : m = insU l x := by
  have hi := insU_sorted hu hn
  have hp2 : m.Perm (insU l x) := hp.trans (insU_perm l x).symm
  refine List.Perm.eq_of_pairwise (le := fun a b => cmpUses a b ≤ 0) ?_ hs (hi.imp fun h => Int.le_of_lt h) hp2
  intro a b ha hb h1 h2
  have ha' := hp2.mem_iff.1 ha
  obtain ⟨i, hi1, rfl⟩ := List.getElem_of_mem ha'
  obtain ⟨j, hj1, rfl⟩ := List.getElem_of_mem hb
  rcases Nat.lt_trichotomy i j with h | h | h
  · have := List.pairwise_iff_getElem.1 hi i j hi1 hj1 h
    have h3 := lin_uses.anti (insU l x)[i] (insU l x)[j]
    omega
  · subst h; rfl
  · have := List.pairwise_iff_getElem.1 hi j i hj1 hi1 h
    have h3 := lin_uses.anti (insU l x)[j] (insU l x)[i]
    omega
theorem isUse_cmp {a : Label} {o : ByteArray} {n : Int} {y : Use} (h : isUse a o y = false) : cmpUses ⟨a, o, n⟩ y ≠ 0 := fun h0 => by
  obtain ⟨h1, h2⟩ := cmpUses_eq h0
  simp only at h1 h2
  rw [isUse, ← h1, ← h2] at h
  simp at h
end Go.Proofs.YtjiipmkehdiiiaaDoor

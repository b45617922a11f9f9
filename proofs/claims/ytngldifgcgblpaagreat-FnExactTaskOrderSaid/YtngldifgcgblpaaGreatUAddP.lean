/- compareUses once more: the world that it leaves is the one before with draws and new blocks alone. Printed by wip/cmpg.py. UseAdd in plain Lean. -/
import Derived.Test.YtngldifgcgblpaaGreatUses
import Derived.Sort.Grow
import Derived.Test.YtngldifgcgblpaaGreatOrdU
namespace Go.Proofs.YtngldifgcgblpaaGreat
open Go.RowKit Go.Sort
attribute [local irreducible] wpQuiet
/-- w' is w with draws and new blocks. -/
def Gr (w w' : World) : Prop := ∃ (q : Nat) (os : Array Obj), w' = grow (w.drewN q) os
theorem Gr.refl (w : World) : Gr w w := ⟨0, #[], by simp [grow, World.drewN]⟩
theorem Gr.trans {a b c : World} (h : Gr a b) (k : Gr b c) : Gr a c := by
  obtain ⟨q, os, rfl⟩ := h
  obtain ⟨r, ps, rfl⟩ := k
  exact ⟨q + r, os ++ ps, by simp [grow, World.drewN, Nat.add_assoc]⟩
theorem Gr.alloc {a b : World} (h : Gr a b) (o : Obj) : Gr a (b.alloc o) := h.trans ⟨0, #[o], by rw [alloc_eq_grow]; simp [grow, World.drewN]⟩
theorem Gr.drew {a b : World} (h : Gr a b) : Gr a b.drew := h.trans ⟨1, #[], by rw [grow_empty]; rfl⟩
theorem Gr.ext {a b : World} (h : Gr a b) : Ext a b := by
  obtain ⟨q, os, rfl⟩ := h
  refine ⟨rfl, rfl, rfl, by simp [grow, World.drewN], fun i hi => ?_⟩
  show (a.heap ++ os)[i]? = a.heap[i]?
  rw [Array.getElem?_append_left hi]
set_option maxHeartbeats 2000000 in
theorem or_gr {S : Nat → Prop} (l : List Int) (v : Value) (w : World) (h : Rd EInt S w v l) :
    Calls Tryz.prog 194 #[v] w fun e w' => e = .returned (.int .i64 (orOf l)) ∧ Gr w w' := by
  obtain ⟨A, c, rfl, h1, h2, hk⟩ := h.open_
  unfold maxLen at h2
  have HK := Lib.hid hk
  clear hk h
  go_enter Tryz.func194, Tryz.ntmps194
  go_wp2_with fail
  go_loopw [8] (fun i w' => ∃ k : Nat, k ≤ l.length ∧ i = .int .i64 k ∧ (∀ j, j < k → nth l j = 0) ∧ Gr w w') (fun i _ => l.length - (intOf i).toNat)
  case atStart => exact ⟨0, by omega, rfl, fun j hj => by omega, Gr.refl _⟩
  case round =>
    obtain ⟨k, hk1, rfl, hall, hx⟩ := hrel
    have HA := Lib.hid hall
    have HX := Lib.hid hx
    clear hall
    by_cases hlt : k < l.length
    · obtain ⟨b, o, cs, rfl, _, ⟨rfl, _⟩, hc⟩ := HK.out k hlt
      have c0 := Ext.some hx.ext (hc 0 _ rfl)
      simp only [EInt, Nat.mul_one, Nat.add_zero] at c0
      clear hc hx
      by_cases he : nth l k = 0
      · have HE := Lib.hid he
        have e1 : (nth l k != 0) = false := by simp [he]
        clear he
        go_wp2_with fail
        go_roundw
        case rel => exact ⟨k + 1, by omega, by go_num, all_succ HA.out HE.out, HX.out⟩
        case measure => simp [intOf]; omega
      · have HE := Lib.hid he
        have e1 : (nth l k != 0) = true := by simp [he]
        clear he
        go_wp2_with fail
        go_ret
        exact ⟨ret_int (orOf_first hlt HA.out HE.out).symm, HX.out⟩
    · have HE := Lib.hid (orOf_none (l := l) fun j hj => HA.out j (by omega))
      go_wp2_with fail
      go_ret
      exact ⟨ret_int HE.out.symm, HX.out⟩
set_option maxHeartbeats 4000000 in
theorem compareLabels_gr {S S' : Nat → Prop} (a b : Label) (cs ds : List Value) (w : World) (h : ELabel.rel S w cs a) (g : ELabel.rel S' w ds b) :
    Calls Tryz.prog 195 #[.agg cs.toArray, .agg ds.toArray] w fun e w' => e = .returned (.int .i64 (cmpLabels a b)) ∧ Gr w w' := by
  obtain ⟨rfl, hi⟩ := h
  obtain ⟨rfl, gi⟩ := g
  clear hi gi
  simp only [cellsLabel]
  go_enter Tryz.func195, Tryz.ntmps195
  go_upto_region 1 with (fail)
  obtain ⟨W, B, hW, hB, hx0, a0, b0⟩ := boxes2 w #[.int .i64 a.level, .int .i64 a.set] #[.int .i64 b.level, .int .i64 b.set] 49 49
  rw [← hW, ← hB]
  have XX : Hid (Gr w W) := Lib.hid (by rw [hW]; exact ((Gr.refl w).alloc _).alloc _)
  clear hW hB
  have al : ∀ V, Gr W V → ∀ i, V.cell? ⟨B, i, none⟩ = _ := fun V hx => (a0.ext hx.ext).cell
  have bl : ∀ V, Gr W V → ∀ i, V.cell? ⟨B + 1, i, none⟩ = _ := fun V hx => (b0.ext hx.ext).cell
  clear hx0 a0 b0
  go_region_held3 (fun w' => Gr W w') (first | exact (Gr.refl _).drew | assumption | exact Gr.alloc (by assumption) _ | exact Gr.trans (by assumption) hx9) (first | (go_at_call 196; refine (compare_any _ _ _).mono ?_; rintro e w1 ⟨rfl, rfl⟩) | (go_at_call 194; refine (or_gr [cmp3 a.level b.level, cmp3 a.set b.set] _ _ ((rd_two W _ _ _ (cmp3_i64 _ _) (cmp3_i64 _ _)).ext (Ext.refl _).drew)).mono ?_; rintro e w9 ⟨rfl, hx9⟩))
  all_goals
    clear al bl
    go_wp2_with fail
    go_ret
    exact ⟨rfl, XX.out.trans (by assumption)⟩
end Go.Proofs.YtngldifgcgblpaaGreat
namespace Go.Proofs.YtngldifgcgblpaaGreat
open Go.RowKit
theorem Lin.lt_trans {α : Type} {c : α → α → Int} (h : Lin c) {x y z : α} (h1 : c x y < 0) (h2 : c y z < 0) : c x z < 0 := by
  have h3 := h.trans x y z (by omega) (by omega)
  rcases Int.lt_or_eq_of_le h3 with h4 | h4
  · exact h4
  · have h5 := h.anti x z
    have h6 := h.trans z x y (by omega) (by omega)
    have h7 := h.anti y z
    omega
end Go.Proofs.YtngldifgcgblpaaGreat

/- The walks of compareUses, ownersOf, l09Ord and l11Less. -/
import Derived.Test.YtbdicafambkhdaaCmp
import Derived.Test.YtbdicafambkhdaaShelf
import Derived.Test.YtbdicafambkhdaaLabels
import Derived.Lib.Bytealg
namespace Go.Proofs.Ytbdicafambkhdaa
open Go.RowKit
attribute [local irreducible] wpQuiet

def cmpUses (a b : Use) : Int := orOf [cmpLabels a.label b.label, Lib.compareBytes a.owner.data.toList b.owner.data.toList]
theorem compareBytes_range : ∀ a b : List UInt8, -1 ≤ Lib.compareBytes a b ∧ Lib.compareBytes a b ≤ 1
  | [], [] => by simp [Lib.compareBytes]
  | [], _ :: _ => by simp [Lib.compareBytes]
  | _ :: _, [] => by simp [Lib.compareBytes]
  | a :: l, b :: m => by
    unfold Lib.compareBytes
    split
    · omega
    · split
      · omega
      · exact compareBytes_range l m
theorem compareBytes_i64 (a b : List UInt8) : I64 (Lib.compareBytes a b) := by
  have := compareBytes_range a b
  unfold I64
  omega
theorem cmp3_range (a b : Int) : -1 ≤ cmp3 a b ∧ cmp3 a b ≤ 1 := by unfold cmp3; split <;> (try split) <;> omega
theorem cmpLabels_i64 (a b : Label) : I64 (cmpLabels a b) := by
  have h1 := cmp3_range a.level b.level
  have h2 := cmp3_range a.set b.set
  unfold cmpLabels I64 orOf orOf orOf
  split <;> (try split) <;> omega

set_option maxHeartbeats 4000000 in
theorem compareUses_any {S S' : Nat → Prop} (a b : Use) (cs ds : List Value) (w : World) (h : EUse.rel S w cs a) (g : EUse.rel S' w ds b) :
    Calls Try.prog 122 #[.agg cs.toArray, .agg ds.toArray] w fun e w' => e = .returned (.int .i64 (cmpUses a b)) ∧ Ext w w' := by
  obtain ⟨rfl, hi⟩ := h
  obtain ⟨rfl, gi⟩ := g
  have ha : FitLabel a.label := ⟨hi.1, hi.2.1⟩
  have hb : FitLabel b.label := ⟨gi.1, gi.2.1⟩
  have HA := Lib.hid ha
  have HB := Lib.hid hb
  clear hi gi ha hb
  simp only [cellsUse]
  go_enter Try.func122, Try.ntmps122
  go_upto_region 1 with (fail)
  obtain ⟨W, B, hW, hB, hx0, a0, b0⟩ := boxes2 w #[.int .i64 a.label.level, .int .i64 a.label.set, .string a.owner, .int .i64 a.used] #[.int .i64 b.label.level, .int .i64 b.label.set, .string b.owner, .int .i64 b.used] 124 124
  rw [← hW, ← hB]
  clear hW hB
  have XX := Lib.hid hx0
  have al : ∀ V, Ext W V → ∀ i, V.cell? ⟨B, i, none⟩ = _ := fun V hx => (a0.ext hx).cell
  have bl : ∀ V, Ext W V → ∀ i, V.cell? ⟨B + 1, i, none⟩ = _ := fun V hx => (b0.ext hx).cell
  clear hx0 a0 b0
  go_region_held3 (fun w' => Ext W w') (first | exact (Ext.refl _).drew | assumption | exact Ext.alloc (by assumption) _ | exact Ext.trans (by assumption) hx9 | exact Ext.trans (by assumption) hx8) (first | (go_at_call 107; (refine (compareLabels_any (S := fun _ => True) (S' := fun _ => True) a.label b.label _ _ _ (rel_Label HA.out) (rel_Label HB.out)).mono ?_); rintro e w8 ⟨rfl, hx8⟩) | (go_at_call 153; refine (Try.strings_Compare _ _ _).mono ?_; rintro e w1 ⟨rfl, rfl⟩) | (go_at_call 143; refine (or_any [cmpLabels a.label b.label, Lib.compareBytes a.owner.data.toList b.owner.data.toList] _ _ (rd_two _ _ _ _ (cmpLabels_i64 _ _) (compareBytes_i64 _ _))).mono ?_; rintro e w9 ⟨rfl, hx9⟩))
  all_goals
    clear al bl
    go_wp2_with fail
    go_ret
    exact ⟨rfl, XX.out.trans (by assumption)⟩

theorem l09Ord_any (l s : Int) (w : World) (hl : isB l 0 3 = true) (hs : isB s 0 7 = true) :
    Calls Try.prog 109 #[.agg #[.int .i64 l, .int .i64 s]] w fun e w' => e = .returned (.int .i64 (8 * l + s)) ∧ Ext w w' := by
  simp only [isB, decide_eq_true_eq] at hl hs
  go_enter Try.func109, Try.ntmps109
  go_wp2_with fail
  go_ret
  exact ⟨ret_int (by omega), (Ext.refl _).alloc _⟩

theorem bytesLess_eq : ∀ a b : List UInt8, Op.bytesLess a b = decide (Lib.compareBytes a b < 0)
  | [], [] => by simp [Op.bytesLess, Lib.compareBytes]
  | [], _ :: _ => by simp [Op.bytesLess, Lib.compareBytes]
  | _ :: _, [] => by simp [Op.bytesLess, Lib.compareBytes]
  | a :: l, b :: m => by
    unfold Op.bytesLess Lib.compareBytes
    rw [bytesLess_eq l m]
    by_cases h : a < b
    · simp [h]
    · by_cases h' : b < a
      · have hn : a ≠ b := fun e => by subst e; exact h h'
        simp [h, h', hn]
      · have hn : a = b := UInt8.le_antisymm (UInt8.not_lt.mp h') (UInt8.not_lt.mp h)
        simp [hn]
theorem toList_data (a : ByteArray) : a.toList = a.data.toList := ByteArray.toList_eq a

theorem less_same (x : Label) (a b : ByteArray) (m n : Int) : decide (cmpUses ⟨x, a, m⟩ ⟨x, b, n⟩ < 0) = Op.bytesLess a.toList b.toList := by
  have h : cmpLabels x x = 0 := by simp [cmpLabels, orOf, cmp3]
  rw [bytesLess_eq, toList_data, toList_data]
  simp only [cmpUses, h, orOf, if_true]
  split <;> simp_all
theorem less_other {x y : Label} (a b : ByteArray) (m n : Int) (hx : labelRight x = true) (hy : labelRight y = true) (hne : x ≠ y) : decide (cmpUses ⟨x, a, m⟩ ⟨y, b, n⟩ < 0) = decide (8 * x.level + x.set < 8 * y.level + y.set) := by
  obtain ⟨l, s⟩ := x
  obtain ⟨l', s'⟩ := y
  simp only [labelRight, isB, Bool.and_eq_true, decide_eq_true_eq] at hx hy
  simp only [ne_eq, Label.mk.injEq, not_and] at hne
  simp only [cmpUses, cmpLabels, cmp3, orOf]
  by_cases h : l = l'
  · subst h
    have := hne rfl
    simp only [Int.lt_irrefl, if_false, if_true]
    by_cases h2 : s < s'
    · simp [h2]
    · have h3 : s' < s := by omega
      simp [h2, h3]
  · by_cases h2 : l < l'
    · simp only [h2, if_true]
      simp
      omega
    · have h3 : l' < l := by omega
      simp only [h2, h3, if_false, if_true]
      simp
      omega

set_option maxHeartbeats 4000000 in
set_option maxRecDepth 50000 in
theorem l11Less_any {S S' : Nat → Prop} (a b : Use) (cs ds : List Value) (w : World) (h : EUse.rel S w cs a) (g : EUse.rel S' w ds b) (hl : labelRight a.label = true) (hm : labelRight b.label = true) :
    Calls Try.prog 124 #[.agg cs.toArray, .agg ds.toArray] w fun e w' => e = .returned (.bool (decide (cmpUses a b < 0))) ∧ Ext w w' := by
  obtain ⟨rfl, hi⟩ := h
  obtain ⟨rfl, gi⟩ := g
  clear hi gi
  obtain ⟨⟨l, s⟩, o, u⟩ := a
  obtain ⟨⟨m, t⟩, p, v⟩ := b
  have hl' := hl
  have hm' := hm
  simp only [labelRight, Bool.and_eq_true] at hl' hm'
  have HA := Lib.hid hl'
  have HB := Lib.hid hm'
  clear hl' hm'
  simp only [cellsUse]
  by_cases he : (⟨l, s⟩ : Label) = ⟨m, t⟩
  · obtain ⟨rfl, rfl⟩ := by simpa using he
    have HE := Lib.hid (less_same ⟨l, s⟩ o p u v)
    clear he hl hm
    go_enter Try.func124, Try.ntmps124
    go_wp2_with fail
    go_ret
    exact ⟨ret_bool HE.out.symm, ((Ext.refl _).alloc _).alloc _⟩
  · have HE := Lib.hid (less_other o p u v hl hm he)
    simp only [Label.mk.injEq, not_and] at he
    clear hl hm
    by_cases h1 : l = m
    · subst h1
      have h2 := he rfl
      clear he
      go_enter Try.func124, Try.ntmps124
      go_wp2_with fail
      obtain ⟨W, B, hW, hB, hx0, a0, b0⟩ := boxes2 w #[.int .i64 l, .int .i64 s, .string o, .int .i64 u] #[.int .i64 l, .int .i64 t, .string p, .int .i64 v] 124 124
      rw [← hW, ← hB]
      clear hW hB
      have XX := Lib.hid hx0
      have al : ∀ V, Ext W V → ∀ i, V.cell? ⟨B, i, none⟩ = _ := fun V hx => (a0.ext hx).cell
      have bl : ∀ V, Ext W V → ∀ i, V.cell? ⟨B + 1, i, none⟩ = _ := fun V hx => (b0.ext hx).cell
      clear hx0 a0 b0
      go_region_held3 (fun w' => Ext W w') (first | exact Ext.refl _ | exact (Ext.refl _).drew | assumption | exact Ext.trans (by assumption) hx9 | exact Ext.trans (by assumption) hx8) (first | (go_at_call 109; (refine (l09Ord_any l s _ HA.out.1 HA.out.2).mono ?_); rintro e w8 ⟨rfl, hx8⟩) | (go_at_call 109; (refine (l09Ord_any l t _ HB.out.1 HB.out.2).mono ?_); rintro e w9 ⟨rfl, hx9⟩))
      all_goals
        clear al bl
        go_wp2_with fail
        go_ret
        exact ⟨ret_bool (by rw [HE.out]; first | done | exact decide_eq_decide.mpr (by omega)), XX.out.trans (by assumption)⟩
    · clear he
      go_enter Try.func124, Try.ntmps124
      go_wp2_with fail
      obtain ⟨W, B, hW, hB, hx0, a0, b0⟩ := boxes2 w #[.int .i64 l, .int .i64 s, .string o, .int .i64 u] #[.int .i64 m, .int .i64 t, .string p, .int .i64 v] 124 124
      rw [← hW, ← hB]
      clear hW hB
      have XX := Lib.hid hx0
      have al : ∀ V, Ext W V → ∀ i, V.cell? ⟨B, i, none⟩ = _ := fun V hx => (a0.ext hx).cell
      have bl : ∀ V, Ext W V → ∀ i, V.cell? ⟨B + 1, i, none⟩ = _ := fun V hx => (b0.ext hx).cell
      clear hx0 a0 b0
      go_region_held3 (fun w' => Ext W w') (first | exact Ext.refl _ | exact (Ext.refl _).drew | assumption | exact Ext.trans (by assumption) hx9 | exact Ext.trans (by assumption) hx8) (first | (go_at_call 109; (refine (l09Ord_any l s _ HA.out.1 HA.out.2).mono ?_); rintro e w8 ⟨rfl, hx8⟩) | (go_at_call 109; (refine (l09Ord_any m t _ HB.out.1 HB.out.2).mono ?_); rintro e w9 ⟨rfl, hx9⟩))
      all_goals
        clear al bl
        go_wp2_with fail
        go_ret
        exact ⟨ret_bool (by rw [HE.out]; first | done | exact decide_eq_decide.mpr (by omega)), XX.out.trans (by assumption)⟩
end Go.Proofs.Ytbdicafambkhdaa

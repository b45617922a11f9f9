/- The walks of compareUses, ownersOf, l09Ord and l11Less. -/
import Derived.Test.YtjiipmkehdiiiaaDoorCmp
import Derived.Test.YtjiipmkehdiiiaaDoorShelf
import Derived.Test.YtjiipmkehdiiiaaDoorLabels
import Derived.Lib.Bytealg
namespace Go.Proofs.YtjiipmkehdiiiaaDoor
open Go.RowKit
attribute [local irreducible] wpQuiet

def cmpUses (a b : Use) : Int := orOf [cmpLabels a.label b.label, Lib.compareBytes a.owner.data.toList b.owner.data.toList]
theorem compareBytes_range : ∀ a b : List UInt8, -1 ≤ Lib.compareBytes a b ∧ Lib.compareBytes a b ≤ 1
  | [], [] => by simp [Lib.compareBytes]
  | [], _ :: _ => by simp [Lib.compareBytes]
  | _ :: _, [] => by simp [Lib.compareBytes]
  | a :: l, b :: m => by
    unfold Lib.compareBytes
    split
    · omega
    · split
      · omega
      · exact compareBytes_range l m
theorem compareBytes_i64 (a b : List UInt8) : I64 (Lib.compareBytes a b) := by
  have := compareBytes_range a b
  unfold I64
  omega
theorem cmp3_range (a b : Int) : -1 ≤ cmp3 a b ∧ cmp3 a b ≤ 1 := by unfold cmp3; split <;> (try split) <;> omega
theorem cmpLabels_i64 (a b : Label) : I64 (cmpLabels a b) := by
  have h1 := cmp3_range a.level b.level
  have h2 := cmp3_range a.set b.set
  unfold cmpLabels I64 orOf orOf orOf
  split <;> (try split) <;> omega

theorem l09Ord_any (l s : Int) (w : World) (hl : isB l 0 3 = true) (hs : isB s 0 7 = true) :
    Calls Tryd.prog 47 #[.agg #[.int .i64 l, .int .i64 s]] w fun e w' => e = .returned (.int .i64 (8 * l + s)) ∧ Ext w w' := by
  simp only [isB, decide_eq_true_eq] at hl hs
  go_enter Tryd.func47, Tryd.ntmps47
  go_wp2_with fail
  go_ret
  exact ⟨ret_int (by omega), (Ext.refl _).alloc _⟩

theorem bytesLess_eq : ∀ a b : List UInt8, Op.bytesLess a b = decide (Lib.compareBytes a b < 0)
  | [], [] => by simp [Op.bytesLess, Lib.compareBytes]
  | [], _ :: _ => by simp [Op.bytesLess, Lib.compareBytes]
  | _ :: _, [] => by simp [Op.bytesLess, Lib.compareBytes]
  | a :: l, b :: m => by
    unfold Op.bytesLess Lib.compareBytes
    rw [bytesLess_eq l m]
    by_cases h : a < b
    · simp [h]
    · by_cases h' : b < a
      · have hn : a ≠ b := fun e => by subst e; exact h h'
        simp [h, h', hn]
      · have hn : a = b := UInt8.le_antisymm (UInt8.not_lt.mp h') (UInt8.not_lt.mp h)
        simp [hn]
theorem toList_data (a : ByteArray) : a.toList = a.data.toList := ByteArray.toList_eq a

theorem less_same (x : Label) (a b : ByteArray) (m n : Int) : decide (cmpUses ⟨x, a, m⟩ ⟨x, b, n⟩ < 0) = Op.bytesLess a.toList b.toList := by
  have h : cmpLabels x x = 0 := by simp [cmpLabels, orOf, cmp3]
  rw [bytesLess_eq, toList_data, toList_data]
  simp only [cmpUses, h, orOf, if_true]
  split <;> simp_all
theorem less_other {x y : Label} (a b : ByteArray) (m n : Int) (hx : labelRight x = true) (hy : labelRight y = true) (hne : x ≠ y) : decide (cmpUses ⟨x, a, m⟩ ⟨y, b, n⟩ < 0) = decide (8 * x.level + x.set < 8 * y.level + y.set) := by
  obtain ⟨l, s⟩ := x
  obtain ⟨l', s'⟩ := y
  simp only [labelRight, isB, Bool.and_eq_true, decide_eq_true_eq] at hx hy
  simp only [ne_eq, Label.mk.injEq, not_and] at hne
  simp only [cmpUses, cmpLabels, cmp3, orOf]
  by_cases h : l = l'
  · subst h
    have := hne rfl
    simp only [Int.lt_irrefl, if_false, if_true]
    by_cases h2 : s < s'
    · simp [h2]
    · have h3 : s' < s := by omega
      simp [h2, h3]
  · by_cases h2 : l < l'
    · simp only [h2, if_true]
      simp
      omega
    · have h3 : l' < l := by omega
      simp only [h2, h3, if_false, if_true]
      simp
      omega

end Go.Proofs.YtjiipmkehdiiiaaDoor

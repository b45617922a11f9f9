/- The walks of NameRight, the program's and the reference's: both answer nameRight. The walks of LabelRight, isWork, isNow and WishRight, the program's and the reference's. -/
import Derived.Test.YtjiipmkehdiiiaaDoorSmall
namespace Go.Proofs.YtjiipmkehdiiiaaDoor
open Go.RowKit
attribute [local irreducible] wpQuiet

/-- The byte at k, 0 behind the end. -/
def byteAt (s : ByteArray) (k : Nat) : Nat := if h : k < s.size then (s[k]'h).toNat else 0
theorem byteAt_eq {s : ByteArray} {k : Nat} (h : k < s.size) : (s[k]'h).toNat = byteAt s k := by rw [byteAt, dif_pos h]
theorem byteAt_lt (s : ByteArray) (k : Nat) : byteAt s k < 256 := by
  unfold byteAt
  split
  · exact (s[k]).toNat_lt
  · decide
def lowB (c : Nat) : Bool := decide (97 ≤ c ∧ c ≤ 122)
def restB (c : Nat) : Bool := lowB c || decide (48 ≤ c ∧ c ≤ 57) || decide (c = 95)
def nameAt (s : ByteArray) (k : Nat) : Bool := if k = 0 then lowB (byteAt s 0) else restB (byteAt s k)
def nameRight (s : ByteArray) : Bool := decide (1 ≤ s.size ∧ s.size ≤ 20) && (List.range s.size).all (nameAt s)
theorem nameRight_size {s : ByteArray} (h : ¬ (1 ≤ s.size ∧ s.size ≤ 20)) : nameRight s = false := by unfold nameRight; rw [decide_eq_false h]; rfl
theorem nameRight_bad {s : ByteArray} {k : Nat} (hk : k < s.size) (h : nameAt s k = false) : nameRight s = false := by
  unfold nameRight
  rw [Bool.and_eq_false_iff]
  right
  rw [List.all_eq_false]
  exact ⟨k, List.mem_range.2 hk, by simp [h]⟩
theorem nameRight_of {s : ByteArray} (h : 1 ≤ s.size ∧ s.size ≤ 20) (ha : ∀ k, k < s.size → nameAt s k = true) : nameRight s = true := by
  unfold nameRight
  rw [decide_eq_true h, Bool.true_and]
  exact List.all_eq_true.2 fun i hi => ha i (List.mem_range.1 hi)

end Go.Proofs.YtjiipmkehdiiiaaDoor

namespace Go.Proofs.YtjiipmkehdiiiaaDoor
open Go.RowKit
attribute [local irreducible] wpQuiet

def labelRight (a : Label) : Bool := isB a.level 0 3 && isB a.set 0 7
def isWorkB (need long prio : Int) : Bool := isB need 1 6 && isB long 1 20 && isB prio 0 9
def nowOk (n : Int) : Bool := isB n 0 999900
def wishRight (x : Wish) : Bool :=
  nameRight x.owner && isWorkB x.need x.long x.prio && isB x.count 1 4 && (if x.after = 0 then decide (x.under = ⟨0, 0⟩) else isB x.after 1 12 && labelRight x.under)

theorem specLabelRight_any {S : Nat → Prop} (x : Label) (cs : List Value) (w : World) (h : ELabel.rel S w cs x) :
    Calls Tryd.prog 30 #[.agg cs.toArray] w fun e w' => e = .returned (.bool (labelRight x)) ∧ Ext w w' := by
  obtain ⟨rfl, hi⟩ := h
  clear hi
  simp only [cellsLabel]
  go_enter Tryd.func30, Tryd.ntmps30
  go_wp2_with (go_at_call 26; refine (l02Is_any _ _ _ _).mono ?_; rintro e w' ⟨rfl, rfl⟩)
  all_goals (go_ret; exact ⟨ret_bool (by simp_all [labelRight]), (Ext.refl _).alloc _⟩)
theorem labelRight_any {S : Nat → Prop} (x : Label) (cs : List Value) (w : World) (h : ELabel.rel S w cs x) :
    Calls Tryd.prog 39 #[.agg cs.toArray] w fun e w' => e = .returned (.bool (labelRight x)) ∧ Ext w w' := by
  obtain ⟨rfl, hi⟩ := h
  clear hi
  simp only [cellsLabel]
  go_enter Tryd.func39, Tryd.ntmps39
  go_wp2_with (go_at_call 35; refine (within_any _ _ _ _).mono ?_; rintro e w' ⟨rfl, rfl⟩)
  all_goals (go_ret; exact ⟨ret_bool (by simp_all [labelRight]), (Ext.refl _).alloc _⟩)
end Go.Proofs.YtjiipmkehdiiiaaDoor

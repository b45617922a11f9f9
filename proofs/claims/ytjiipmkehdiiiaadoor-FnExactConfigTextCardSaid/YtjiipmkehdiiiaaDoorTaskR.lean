/- The walks of Below and TaskRight, the program's and the reference's. -/
import Derived.Test.YtjiipmkehdiiiaaDoorLabels
import Derived.Test.YtjiipmkehdiiiaaDoorNums
import Derived.Test.YtjiipmkehdiiiaaDoorBits
namespace Go.Proofs.YtjiipmkehdiiiaaDoor
open Go.RowKit
attribute [local irreducible] wpQuiet

def belowB (a b : Label) : Bool := decide (a.level ≤ b.level) && (bits .and .i64 a.set b.set == a.set)
def belowOk (a b : Label) : Bool := labelRight a && labelRight b && belowB a b

theorem l02Below_any {S S' : Nat → Prop} (a b : Label) (cs ds : List Value) (w : World) (h : ELabel.rel S w cs a) (g : ELabel.rel S' w ds b) :
    Calls Tryd.prog 46 #[.agg cs.toArray, .agg ds.toArray] w fun e w' => e = .returned (.bool (belowB a b)) ∧ Ext w w' := by
  obtain ⟨rfl, hi⟩ := h
  obtain ⟨rfl, gi⟩ := g
  clear hi gi
  simp only [cellsLabel]
  go_enter Tryd.func46, Tryd.ntmps46
  go_wp2
  all_goals (go_ret; exact ⟨ret_bool (by simp_all [belowB]; try (intro _; omega)), ((Ext.refl _).alloc _).alloc _⟩)
theorem below_any {S S' : Nat → Prop} (a b : Label) (cs ds : List Value) (w : World) (h : ELabel.rel S w cs a) (g : ELabel.rel S' w ds b) :
    Calls Tryd.prog 59 #[.agg cs.toArray, .agg ds.toArray] w fun e w' => e = .returned (.bool (belowB a b)) ∧ Ext w w' := by
  obtain ⟨rfl, hi⟩ := h
  obtain ⟨rfl, gi⟩ := g
  have HB := Lib.hid (bits_sub (b := a.set) (d := b.set) (by simp only [FitLabel] at hi; exact hi.2))
  clear hi gi
  simp only [cellsLabel]
  go_enter Tryd.func59, Tryd.ntmps59
  go_wp2
  all_goals (go_ret; exact ⟨ret_bool (by have hb := HB.out; go_light; simp_all [belowB]; try (intro _; omega)), ((Ext.refl _).alloc _).alloc _⟩)

theorem len_beq {α : Type} {l : List α} : ((l.length : Int) == 0) = decide (l = []) := by cases l <;> simp <;> omega
def underOk (x : Task) : Bool := if x.after = 0 then decide (x.under = ⟨0, 0⟩) else isB x.after 1 12 && belowOk x.under x.label && !(decide (x.under = x.label) && decide (x.id ≤ x.after))
def placeOk (x : Task) : Bool := if x.state = 2 ∨ (x.state = 1 ∧ 0 < x.nodes.length) then timeOk x.start && decide ((x.nodes.length : Int) = x.need) && numsOk x.nodes else decide (x.start = 0) && decide (x.nodes.length = 0)
def taskRight (x : Task) : Bool :=
  labelRight x.label && isB x.id 1 12 && nameRight x.owner && isWorkB x.need x.long x.prio && nowOk x.born && isB x.state 1 6 && underOk x && placeOk x

end Go.Proofs.YtjiipmkehdiiiaaDoor

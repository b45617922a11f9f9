/- What the laws YardBook, YardUnbook need, and no others. Laid by wip/split.py. -/
import Derived.Test.YtngldifgcgblpaaGreatLib
import Derived.Test.YtngldifgcgblpaaGreatNodes
import Derived.Test.YtngldifgcgblpaaGreatOwn2
import Derived.Test.YtngldifgcgblpaaGreatClones
import Derived.Deep.RegionHeld3
import Derived.Test.YtngldifgcgblpaaGreatNodeC
import Derived.Test.YtngldifgcgblpaaGreatOrdU
import Derived.Test.YtngldifgcgblpaaGreatShelf
import Derived.Shelf.Spec.SlicesInsertGrow
import Derived.Test.YtngldifgcgblpaaGreatGElems
import Derived.Test.YtngldifgcgblpaaGreatInsSpan
import Derived.Test.YtngldifgcgblpaaGreatCe
namespace Go.Proofs.YtngldifgcgblpaaGreat
open Go.RowKit
theorem rel_Span {S : Nat → Prop} {w : World} {x : Span} (hf : FitSpan x) : ESpan.rel S w [.int .i64 x.from_, .int .i64 x.to_] x := ⟨rfl, hf⟩
end Go.Proofs.YtngldifgcgblpaaGreat
namespace Go.Proofs.YtngldifgcgblpaaGreat
open Go.RowKit
end Go.Proofs.YtngldifgcgblpaaGreat
namespace Go.Proofs.YtngldifgcgblpaaGreat
open Go.RowKit
attribute [local irreducible] wpQuiet
theorem range_back {w : World} {B o : Nat} {a b b' : List Value} (h : w.rangeAt B o (a ++ b)) (ht : w.there B (o + a.length) b'.length) : (w.setCells B (o + a.length) b').rangeAt B o (a ++ b') := by
  intro j u hj
  by_cases hlt : j < a.length
  · rw [World.cell?_setCells_out B b' (o + a.length) w ⟨B, o + j, none⟩ (fun _ _ => by simp only; omega)]
    rw [List.getElem?_append_left hlt] at hj
    exact h j u (by rw [List.getElem?_append_left hlt]; exact hj)
  · rw [List.getElem?_append_right (by omega)] at hj
    have := World.rangeAt_setCells_same w B (o + a.length) b' ht (j - a.length) u hj
    rwa [show o + a.length + (j - a.length) = o + j by omega] at this
theorem blk_lt_of {T : TypeId} {B o n : Nat} {w w' : World} (h : RowBut T B o n w w') : B < w.heap.size := by
  obtain ⟨_, _, g, _⟩ := h
  exact blk_lt g
end Go.Proofs.YtngldifgcgblpaaGreat
namespace Go.Proofs.YtngldifgcgblpaaGreat
open Go.RowKit
attribute [local irreducible] wpQuiet
end Go.Proofs.YtngldifgcgblpaaGreat
namespace Go.Proofs.YtngldifgcgblpaaGreat
open Go.RowKit
attribute [local irreducible] wpQuiet
set_option maxHeartbeats 1000000 in
set_option maxRecDepth 50000 in
theorem indexFunc_Span {S : Nat → Prop} (l : List Span) (p : Span → Bool) (v : Value) (f : Nat) (caps : Array Value) (w : World) (h : Rd ESpan S w v l) (hcall : ∀ (args : Array Value) (W : World), (callFunc f args).run Tryz.prog W = .ok (.enter f args) W)
    (hf : ∀ (cs : List Value) (x : Span) (w1 : World), Ext w w1 → ESpan.rel S w1 cs x → Calls Tryz.prog f (#[.agg cs.toArray] ++ caps) w1 fun e w' => e = .returned (.bool (p x)) ∧ Ext w1 w') :
    Calls Tryz.prog 173 #[v, .func (.func f) #[] caps] w fun e w' => e = .returned (.int .i64 (idxOf p l)) ∧ Ext w w' := by
  obtain ⟨A, c, rfl, h1, h2, hk⟩ := h.open_
  unfold maxLen at h2
  have HK := Lib.hid hk
  have HF := Lib.hid hf
  clear hk h hf
  go_enter Tryz.func173, Tryz.ntmps173
  go_wp2_with fail
  go_loopw [8] (fun i w' => ∃ k : Nat, k ≤ l.length ∧ i = .int .i64 k ∧ (∀ j, j < k → p (nth l j) = false) ∧ Ext w w') (fun i _ => l.length - (intOf i).toNat)
  case atStart => exact ⟨0, by omega, rfl, fun j hj => by omega, Ext.refl _⟩
  case round =>
    obtain ⟨k, hk1, rfl, hall, hx⟩ := hrel
    have HA := Lib.hid hall
    have HX := Lib.hid hx
    clear hall
    by_cases hlt : k < l.length
    · obtain ⟨b, o, cs, rfl, hb, hr, hc⟩ := HK.out k hlt
      have HR := Lib.hid (ESpan.keep (hx.same S) hr)
      have HC := Lib.hid (hx.range hc)
      have HI : Hid ((Tryz.prog.info? 63).map (·.size) = some cs.length) := Lib.hid (by rw [ESpan.len hr]; kernel_rfl)
      clear hr hc hx
      by_cases hp : p (nth l k) = true
      · have HE : Hid (idxOf p l = k) := Lib.hid (idxOf_some hlt HA.out hp)
        go_wp2_with (first | (refine wpList_load_mid rfl 63 _ rfl b (o + k * 2) rfl cs _ HC.out Tryz.underlying63 rfl HI.out ?_) | ((with_reducible refine (HF.out cs (nth l k) _ HX.out HR.out).mono ?_); rintro e w1 ⟨rfl, hx1⟩; have HX1 := Lib.hid hx1; clear hx1))
        go_ret
        exact ⟨ret_int HE.out.symm, HX.out.trans HX1.out⟩
      · simp only [Bool.not_eq_true] at hp
        have HE := Lib.hid (all_succ HA.out hp)
        go_wp2_with (first | (refine wpList_load_mid rfl 63 _ rfl b (o + k * 2) rfl cs _ HC.out Tryz.underlying63 rfl HI.out ?_) | ((with_reducible refine (HF.out cs (nth l k) _ HX.out HR.out).mono ?_); rintro e w1 ⟨rfl, hx1⟩; have HX1 := Lib.hid hx1; clear hx1))
        go_roundw
        case rel => exact ⟨k + 1, by omega, by go_num, HE.out, HX.out.trans HX1.out⟩
        case measure => simp [intOf]; omega
    · have HE : Hid (idxOf p l = -1) := Lib.hid (idxOf_none fun j hj => HA.out j (by omega))
      go_wp2_with fail
      go_ret
      exact ⟨ret_int HE.out.symm, HX.out⟩
end Go.Proofs.YtngldifgcgblpaaGreat
namespace Go.Proofs.YtngldifgcgblpaaGreat
open Go.RowKit
attribute [local irreducible] wpQuiet
section
variable {α : Type} [Inhabited α] {E : Elem α} {T : TypeId} {w : World} {l ys : List α} {P : Program} {hfl : ∀ {S S' : Nat → Prop} {w w' : World} {cs x}, E.rel S w cs x → E.rel S' w' cs x}
end
end Go.Proofs.YtngldifgcgblpaaGreat
namespace Go.Proofs.YtngldifgcgblpaaGreat
open Go.RowKit
variable {T : TypeId} {w w' : World} {v : Value} {l : List Span} {F : List Nat}
end Go.Proofs.YtngldifgcgblpaaGreat
namespace Go.Proofs.YtngldifgcgblpaaGreat
open Go.RowKit Go.Lib
attribute [local irreducible] wpQuiet
end Go.Proofs.YtngldifgcgblpaaGreat
namespace Go.Proofs.YtngldifgcgblpaaGreat
open Go.RowKit Go.Lib
attribute [local irreducible] wpQuiet
end Go.Proofs.YtngldifgcgblpaaGreat

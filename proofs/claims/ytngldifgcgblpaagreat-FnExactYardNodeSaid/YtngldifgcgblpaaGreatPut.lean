/- SpanPut and what it stands on: the program's and the reference's. -/
import Derived.Test.YtngldifgcgblpaaGreatInsSpan
import Derived.Test.YtngldifgcgblpaaGreatClones
import Derived.Test.YtngldifgcgblpaaGreatNodeC
import Derived.BigQuiet
namespace Go.Proofs.YtngldifgcgblpaaGreat
open Go.RowKit
attribute [local irreducible] wpQuiet
def ahead (x o : Span) : Bool := decide (o.from_ < x.from_)
theorem Rd.drop {α : Type} {E : Elem α} {S : Nat → Prop} {w : World} {b o n c k : Nat} {l : List α} (h : Rd E S w (.slice (some ⟨b, o, none⟩) n c) l) (hk : k ≤ l.length) : Rd E S w (.slice (some ⟨b, o + k * E.size, none⟩) (n - k) (c - k)) (l.drop k) := by
  obtain ⟨A, c', hv, h1, h2, hall⟩ := h
  injection hv with e1 e2 e3
  subst e1 e2 e3
  refine ⟨_, _, by rw [List.length_drop], by rw [List.length_drop]; omega, by omega, fun j x hx => ?_⟩
  rw [List.getElem?_drop] at hx
  obtain ⟨b', o', cs, hA, hS, hr, hc⟩ := hall _ x hx
  injection hA with hA
  cases hA
  refine ⟨_, _, cs, rfl, hS, hr, ?_⟩
  rw [show o + k * E.size + j * E.size = o + (k + j) * E.size by rw [Nat.add_mul]; omega]
  exact hc
end Go.Proofs.YtngldifgcgblpaaGreat

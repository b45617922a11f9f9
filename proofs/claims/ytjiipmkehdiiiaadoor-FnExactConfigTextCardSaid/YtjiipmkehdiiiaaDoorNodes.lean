/- The walks of the functions on spans. The walk of impl.SpansRight. The walks of NodesRight, the program's and the reference's: both answer nodesRight. -/
import Derived.Test.YtjiipmkehdiiiaaDoorSmall
namespace Go.Proofs.YtjiipmkehdiiiaaDoor
open Go.RowKit
attribute [local irreducible] wpQuiet

theorem Rd.span {S : Nat → Prop} {w : World} {v : Value} {l : List Span} (h : Rd ESpan S w v l) :
    ∃ A c, v = .slice A l.length c ∧ l.length ≤ c ∧ c ≤ maxLen ∧
      ∀ k, k < l.length → ∃ b o, A = some ⟨b, o, none⟩ ∧ b < w.heap.size ∧ w.cell? ⟨b, o + k * 2, none⟩ = some (.int .i64 (nth l k).from_) ∧ w.cell? ⟨b, o + k * 2 + 1, none⟩ = some (.int .i64 (nth l k).to_) := by
  obtain ⟨A, c, hv, h1, h2, hk⟩ := h.open_
  refine ⟨A, c, hv, h1, h2, fun k hlt => ?_⟩
  obtain ⟨b, o, cs, hA, _, ⟨rfl, _⟩, hc⟩ := hk k hlt
  have h0 := hc 0 _ rfl
  exact ⟨b, o, hA, World.block_lt_of_cell? w ⟨b, o + k * 2, none⟩ h0, h0, hc 1 _ rfl⟩

end Go.Proofs.YtjiipmkehdiiiaaDoor

namespace Go.Proofs.YtjiipmkehdiiiaaDoor
open Go.RowKit
attribute [local irreducible] wpQuiet

end Go.Proofs.YtjiipmkehdiiiaaDoor

namespace Go.Proofs.YtjiipmkehdiiiaaDoor
open Go.RowKit
attribute [local irreducible] wpQuiet

def stateOk (n : Int) : Bool := isB n 1 3
def nodeOk (x : Node) : Bool := stateOk x.state && (decide (x.books.length ≤ 4) && spansRight x.books)
def nodesRight (l : List Node) : Bool := isB (l.length : Int) 1 6 && l.all nodeOk
def nodeBad (x : Node) : Bool := !nodeOk x

theorem any_nodeBad (l : List Node) : (!l.any nodeBad) = l.all nodeOk := by
  rw [List.not_any_eq_all_not]
  simp [nodeBad]

end Go.Proofs.YtjiipmkehdiiiaaDoor

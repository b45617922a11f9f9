/- What the functions on nodes compute, in plain Lean. Small functions on nodes. Copies of nodes, with reservations of their own. Printed by wip/nodec.py. -/
import Derived.Test.YtjiipmkehdiiiaaDoorNodes
import Derived.Test.YtjiipmkehdiiiaaDoorOwn2
import Derived.Test.YtjiipmkehdiiiaaDoorClones
import Derived.Deep.RegionHeld3
namespace Go.Proofs.YtjiipmkehdiiiaaDoor
open Go.RowKit

def rowOfNode (shut : Int) (x : Node) : List Span := if shut ≤ x.state then [⟨0, 1000000⟩] else x.books
def rowsOf (l : List Node) (shut : Int) : List (List Span) := if nodesRight l = true then l.map (rowOfNode shut) else []
def passed (now : Int) (x : Span) : Bool := decide (now < x.to_)
def passNode (now : Int) (x : Node) : Node := { x with books := x.books.filter (passed now) }
def booksPass (l : List Node) (now : Int) : List Node := if nodesRight l = true then l.map (passNode now) else []
def nodesNew (n : Int) : List Node := if isB n 1 6 = true then List.replicate n.toNat ⟨1, []⟩ else []
def isNode (l : List Node) (n : Int) : Bool := isB n 0 ((l.length : Int) - 1)
def nodeSet (l : List Node) (n state : Int) : NodesOut :=
  if 400 < l.length then ⟨[], 2⟩ else if nodesRight l = false ∨ stateOk state = false then ⟨[], 1⟩ else if isNode l n = false then ⟨[], 6⟩ else if (nth l n.toNat).state = state then ⟨[], 10⟩
  else ⟨l.set n.toNat { nth l n.toNat with state := state }, 0⟩
def bookAt (l : List Span) (from_ : Int) : Int := idxOf (fun x => decide (x.from_ = from_)) l
def bookCut (l : List Node) (n from_ : Int) : NodesOut :=
  if 400 < l.length then ⟨[], 2⟩ else if nodesRight l = false then ⟨[], 1⟩ else if isNode l n = false then ⟨[], 6⟩ else if bookAt (nth l n.toNat).books from_ < 0 then ⟨[], 6⟩
  else ⟨l.set n.toNat { nth l n.toNat with books := (nth l n.toNat).books.filter fun x => !decide (x.from_ = from_) }, 0⟩

theorem nodesRight_length {l : List Node} (h : nodesRight l = true) : 1 ≤ l.length ∧ l.length ≤ 6 := by
  simp only [nodesRight, Bool.and_eq_true] at h
  have := isB_true h.1
  omega
theorem nodesRight_node {l : List Node} (h : nodesRight l = true) {k : Nat} (hk : k < l.length) : nodeOk (nth l k) = true := by
  simp only [nodesRight, Bool.and_eq_true, List.all_eq_true] at h
  exact h.2 _ (nth_mem hk)
theorem nodesRight_books {l : List Node} (h : nodesRight l = true) {k : Nat} (hk : k < l.length) : (nth l k).books.length ≤ 4 ∧ spansRight (nth l k).books = true := by
  have := nodesRight_node h hk
  simp only [nodeOk, Bool.and_eq_true, decide_eq_true_eq] at this
  exact this.2
theorem nodesRight_state {l : List Node} (h : nodesRight l = true) {k : Nat} (hk : k < l.length) : 1 ≤ (nth l k).state ∧ (nth l k).state ≤ 3 := by
  have := nodesRight_node h hk
  simp only [nodeOk, Bool.and_eq_true] at this
  exact isB_true this.1
end Go.Proofs.YtjiipmkehdiiiaaDoor

namespace Go.Proofs.YtjiipmkehdiiiaaDoor
open Go.RowKit
attribute [local irreducible] wpQuiet

theorem isNode_nat {l : List Node} {n : Int} (h : isNode l n = true) : ∃ d : Nat, n = (d : Int) ∧ d < l.length := by
  have := isB_true h
  exact ⟨n.toNat, by omega, by omega⟩
theorem fit_state {st : Int} {x : Node} (h : stateOk st = true) : FitNode { x with state := st } := by
  have := isB_true h
  unfold FitNode I64
  simp only
  omega
theorem range_back {w : World} {B o : Nat} {a b b' : List Value} (h : w.rangeAt B o (a ++ b)) (ht : w.there B (o + a.length) b'.length) : (w.setCells B (o + a.length) b').rangeAt B o (a ++ b') := by
  intro j u hj
  by_cases hlt : j < a.length
  · rw [World.cell?_setCells_out B b' (o + a.length) w ⟨B, o + j, none⟩ (fun _ _ => by simp only; omega)]
    rw [List.getElem?_append_left hlt] at hj
    exact h j u (by rw [List.getElem?_append_left hlt]; exact hj)
  · rw [List.getElem?_append_right (by omega)] at hj
    have := World.rangeAt_setCells_same w B (o + a.length) b' ht (j - a.length) u hj
    rwa [show o + a.length + (j - a.length) = o + j by omega] at this
theorem there_ext {w w' : World} {B o n : Nat} (h : w.there B o n) (hx : Ext w w') (hB : B < w.heap.size) : w'.there B o n := fun j hj => by
  rw [hx.cells B (o + j) hB, hx.frozens B (o + j) hB]
  exact h j hj
theorem there_sub {w : World} {B o n m : Nat} {i : Nat} (h : w.there B o n) (hi : i + m ≤ n) : w.there B (o + i) m := fun j hj => by
  have := h (i + j) (by omega)
  rwa [← Nat.add_assoc] at this
theorem blk_lt_of {T : TypeId} {B o n : Nat} {w w' : World} (h : RowBut T B o n w w') : B < w.heap.size := by
  obtain ⟨_, _, g, _⟩ := h
  exact blk_lt g

end Go.Proofs.YtjiipmkehdiiiaaDoor

namespace Go.Proofs.YtjiipmkehdiiiaaDoor
open Go.RowKit
attribute [local irreducible] wpQuiet

end Go.Proofs.YtjiipmkehdiiiaaDoor

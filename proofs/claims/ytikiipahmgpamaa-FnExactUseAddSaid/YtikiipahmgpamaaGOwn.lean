/- What each type of data has for itself in memory. Printed by wip/gen2.py. -/
import Derived.Test.YtikiipahmgpamaaOwn
namespace Go.Proofs.Ytikiipahmgpamaa
open Go.RowKit

def OInt : Own EInt := OFlat EInt fun h => h
def OSpan : Own ESpan := OFlat ESpan fun h => h
def OLabel : Own ELabel := OFlat ELabel fun h => h
def ONode : Own ENode where
  own := fun w cs x F => ∃ v1, cs = cellsNode x v1 ∧ FitNode x ∧ OwS OSpan 31 w v1 x.books F
  rel := by rintro _ _ _ _ ⟨v1, rfl, hf, h1⟩; exact ⟨_, rfl, hf, h1.rd⟩
  keep := by rintro _ _ _ _ _ hb ⟨v1, rfl, hf, h1⟩; exact ⟨_, rfl, hf, h1.keep hb⟩
  lt := by rintro _ _ _ _ ⟨_, rfl, _, h1⟩; exact h1.lt
  nodup := by rintro _ _ _ _ ⟨_, rfl, _, h1⟩; exact h1.nodup
def OUse : Own EUse := OFlat EUse fun h => h
def OTask : Own ETask where
  own := fun w cs x F => ∃ v1, cs = cellsTask x v1 ∧ FitTask x ∧ OwS OInt 2 w v1 x.nodes F
  rel := by rintro _ _ _ _ ⟨v1, rfl, hf, h1⟩; exact ⟨_, rfl, hf, h1.rd⟩
  keep := by rintro _ _ _ _ _ hb ⟨v1, rfl, hf, h1⟩; exact ⟨_, rfl, hf, h1.keep hb⟩
  lt := by rintro _ _ _ _ ⟨_, rfl, _, h1⟩; exact h1.lt
  nodup := by rintro _ _ _ _ ⟨_, rfl, _, h1⟩; exact h1.nodup
def ONodesOut : Own ENodesOut where
  own := fun w cs x F => ∃ v1, cs = cellsNodesOut x v1 ∧ FitNodesOut x ∧ OwS ONode 72 w v1 x.nodes F
  rel := by rintro _ _ _ _ ⟨v1, rfl, hf, h1⟩; exact ⟨_, rfl, hf, h1.rd⟩
  keep := by rintro _ _ _ _ _ hb ⟨v1, rfl, hf, h1⟩; exact ⟨_, rfl, hf, h1.keep hb⟩
  lt := by rintro _ _ _ _ ⟨_, rfl, _, h1⟩; exact h1.lt
  nodup := by rintro _ _ _ _ ⟨_, rfl, _, h1⟩; exact h1.nodup
def OTaskOut : Own ETaskOut where
  own := fun w cs x F => ∃ v1, cs = cellsTaskOut x v1 ∧ FitTaskOut x ∧ OwS OInt 2 w v1 x.task.nodes F
  rel := by rintro _ _ _ _ ⟨v1, rfl, hf, h1⟩; exact ⟨_, rfl, hf, h1.rd⟩
  keep := by rintro _ _ _ _ _ hb ⟨v1, rfl, hf, h1⟩; exact ⟨_, rfl, hf, h1.keep hb⟩
  lt := by rintro _ _ _ _ ⟨_, rfl, _, h1⟩; exact h1.lt
  nodup := by rintro _ _ _ _ ⟨_, rfl, _, h1⟩; exact h1.nodup
end Go.Proofs.Ytikiipahmgpamaa

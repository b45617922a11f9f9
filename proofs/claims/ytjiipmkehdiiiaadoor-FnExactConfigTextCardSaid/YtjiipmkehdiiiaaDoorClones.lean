/- What each type of data has for itself in memory. Printed by wip/gen2.py. slices.Clone at the types that lead to no memory. -/
import Derived.Test.YtjiipmkehdiiiaaDoorOwn
import Derived.Test.YtjiipmkehdiiiaaDoorRows
import Derived.Lib.LazyBuf
namespace Go.Proofs.YtjiipmkehdiiiaaDoor
open Go.RowKit

def OInt : Own EInt := OFlat EInt fun h => h
def OSpan : Own ESpan := OFlat ESpan fun h => h
def OLabel : Own ELabel := OFlat ELabel fun h => h
def OUse : Own EUse := OFlat EUse fun h => h
def OTask : Own ETask where
  own := fun w cs x F => ∃ v1, cs = cellsTask x v1 ∧ FitTask x ∧ OwS OInt 2 w v1 x.nodes F
  rel := by rintro _ _ _ _ ⟨v1, rfl, hf, h1⟩; exact ⟨_, rfl, hf, h1.rd⟩
  keep := by rintro _ _ _ _ _ hb ⟨v1, rfl, hf, h1⟩; exact ⟨_, rfl, hf, h1.keep hb⟩
  lt := by rintro _ _ _ _ ⟨_, rfl, _, h1⟩; exact h1.lt
  nodup := by rintro _ _ _ _ ⟨_, rfl, _, h1⟩; exact h1.nodup
def OPair : Own EPair := OFlat EPair fun h => h
def OQuota : Own EQuota := OFlat EQuota fun h => h
def OConfig : Own EConfig where
  own := fun w cs x F => ∃ v1 v2 v3 F1 F2 F3, cs = cellsConfig x v1 v2 v3 ∧ FitConfig x ∧ OwS (ORow OLabel 44) 41 w v1 x.nodes F1 ∧ OwS OPair 46 w v2 x.pairs F2 ∧ OwS OQuota 49 w v3 x.quotas F3 ∧ F = F1 ++ (F2 ++ F3) ∧ F.Nodup
  rel := by rintro _ _ _ _ ⟨v1, v2, v3, F1, F2, F3, rfl, hf, h1, h2, h3, rfl, _⟩; exact ⟨_, _, _, rfl, hf, h1.rd.sub (fun b hb => by simp [hb]), h2.rd.sub (fun b hb => by simp [hb]), h3.rd.sub (fun b hb => by simp [hb])⟩
  keep := by rintro _ _ _ _ _ hb ⟨v1, v2, v3, F1, F2, F3, rfl, hf, h1, h2, h3, rfl, hn⟩; exact ⟨_, _, _, _, _, _, rfl, hf, h1.keep (fun b hm => hb b (by simp [hm])), h2.keep (fun b hm => hb b (by simp [hm])), h3.keep (fun b hm => hb b (by simp [hm])), rfl, hn⟩
  lt := by rintro _ _ _ _ ⟨v1, v2, v3, F1, F2, F3, rfl, _, h1, h2, h3, rfl, _⟩ b hb; simp only [List.mem_append] at hb; rcases hb with hb | hb | hb <;> first | exact h1.lt b hb | exact h2.lt b hb | exact h3.lt b hb
  nodup := by rintro _ _ _ _ ⟨v1, v2, v3, F1, F2, F3, rfl, _, _, _, _, rfl, hn⟩; exact hn
def ONote : Own ENote := OFlat ENote fun h => h
def OTaskOut : Own ETaskOut where
  own := fun w cs x F => ∃ v1, cs = cellsTaskOut x v1 ∧ FitTaskOut x ∧ OwS OInt 2 w v1 x.task.nodes F
  rel := by rintro _ _ _ _ ⟨v1, rfl, hf, h1⟩; exact ⟨_, rfl, hf, h1.rd⟩
  keep := by rintro _ _ _ _ _ hb ⟨v1, rfl, hf, h1⟩; exact ⟨_, rfl, hf, h1.keep hb⟩
  lt := by rintro _ _ _ _ ⟨_, rfl, _, h1⟩; exact h1.lt
  nodup := by rintro _ _ _ _ ⟨_, rfl, _, h1⟩; exact h1.nodup
end Go.Proofs.YtjiipmkehdiiiaaDoor

namespace Go.Proofs.YtjiipmkehdiiiaaDoor
open Go.RowKit
attribute [local irreducible] wpQuiet

end Go.Proofs.YtjiipmkehdiiiaaDoor

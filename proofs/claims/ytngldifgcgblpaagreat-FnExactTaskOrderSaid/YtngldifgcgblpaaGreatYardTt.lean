/- What becomes of a yard in which a task gets another state, in plain Lean; its memory. The walks of the program's isLabelOf, find, turn. The walks of the program's turn, and of what calls it. Printed by wip/yardt.py. -/
import Derived.Test.YtngldifgcgblpaaGreatYardCp
import Derived.Test.YtngldifgcgblpaaGreatYardS
import Derived.Test.YtngldifgcgblpaaGreatNodeC
import Derived.Test.YtngldifgcgblpaaGreatCopies
import Derived.Test.YtngldifgcgblpaaGreatCounts
namespace Go.Proofs.YtngldifgcgblpaaGreat
open Go.RowKit
attribute [local irreducible] wpQuiet
def blankYard : Yard := ⟨⟨[], [], [], 0⟩, [], [], [], 0⟩
theorem few_rightT {c : Config} (h : configRight c = true) : FewC c := by
  have hc := config_clear h
  have hn := clear_length hc
  have h' := h
  simp only [configRight, pairsOk, quotasOk, Bool.and_eq_true, decide_eq_true_eq] at h'
  refine ⟨by omega, fun k hk => ?_, by have := h'.2.1.2.1; omega, by have := h'.2.2.1; omega⟩
  have := (chain_length (clear_chain hc _ (nth_mem hk))).2
  omega
def illY (code : Int) : YardOut := ⟨blankYard, 0, code⟩
theorem right_config {y : Yard} (h : yardRight y = true) : configRight y.config = true := by
  simp only [yardRight, yardHead, Bool.and_eq_true] at h
  exact h.1.1.1.1.1.1.1.1
theorem right_tasks {y : Yard} (h : yardRight y = true) : tasksRight y.tasks = true := by
  simp only [yardRight, yardHead, Bool.and_eq_true] at h
  exact h.1.1.1.1.1.2
theorem few_yard {y : Yard} (h : yardRight y = true) : FewY y := by
  have hc := few_rightT (right_config h)
  have ht := right_tasks h
  simp only [yardRight, yardHead, Bool.and_eq_true] at h
  have hn := h.1.1.1.1.1.1.2
  have hu := h.1.1.1.1.2
  refine ⟨hc, by have := nodesRight_length hn; omega, fun k hk => by have := (nodesRight_books hn hk).1; omega, by have := few_tasks ht; omega, fun k hk => ?_, ?_⟩
  · have h := all_right ht hk
    simp only [taskRight, isWorkB, isB, placeOk, Bool.and_eq_true, decide_eq_true_eq] at h
    split at h <;> simp only [Bool.and_eq_true, decide_eq_true_eq] at h <;> omega
  · simp only [usesRight, Bool.and_eq_true, decide_eq_true_eq] at hu
    omega
end Go.Proofs.YtngldifgcgblpaaGreat
namespace Go.Proofs.YtngldifgcgblpaaGreat
open Go.RowKit
attribute [local irreducible] wpQuiet
end Go.Proofs.YtngldifgcgblpaaGreat
namespace Go.Proofs.YtngldifgcgblpaaGreat
open Go.RowKit
attribute [local irreducible] wpQuiet
theorem own_ill (w : World) (c : Int) (h : I64 c) : OYardOut.own w [.slice none 0 0, .slice none 0 0, .slice none 0 0, .int .i64 0, .slice none 0 0, .slice none 0 0, .slice none 0 0, .int .i64 0, .int .i64 0, .int .i64 c] (illY c) [] :=
  ⟨_, _, _, _, _, _, [], [], [], [], [], [], rfl, ⟨show I64 0 by unfold I64; decide, show I64 0 by unfold I64; decide, show I64 0 by unfold I64; decide, h⟩, OwS.nil _, OwS.nil _, OwS.nil _, OwS.nil _, OwS.nil _, OwS.nil _, rfl, List.nodup_nil⟩
theorem own_out {y : Yard} {w : World} {v1 v2 v3 v4 v5 v6 : Value} {F : List Nat} (h : OYard.own w [v1, v2, v3, .int .i64 y.config.half, v4, v5, v6, .int .i64 y.now] y F) :
    OYardOut.own w [v1, v2, v3, .int .i64 y.config.half, v4, v5, v6, .int .i64 y.now, .int .i64 0, .int .i64 0] ⟨y, 0, 0⟩ F := by
  obtain ⟨u1, u2, u3, u4, u5, u6, F1, F2, F3, F4, F5, F6, hc, hf, o1, o2, o3, o4, o5, o6, hF, hn⟩ := h
  simp only [cellsYard, List.cons.injEq, true_and, and_true] at hc
  obtain ⟨rfl, rfl, rfl, rfl, rfl, rfl⟩ := hc
  exact ⟨_, _, _, _, _, _, F1, F2, F3, F4, F5, F6, rfl, ⟨hf.1, hf.2, show I64 0 by unfold I64; decide, show I64 0 by unfold I64; decide⟩, o1, o2, o3, o4, o5, o6, hF, hn⟩
theorem caps_nil (v : Value) : (#[v] ++ #[] : Array Value) = #[v] := rfl
end Go.Proofs.YtngldifgcgblpaaGreat

/- TaskOf in plain Lean. The bytes of a number, in plain Lean. The walk of the program's PutNum. The walk of the reference's PutNum. The walks of PutText and putNums. The walks of TaskBytes, the program's. The walk of the reference's TaskBytes. Printed by wip/tbs.py. -/
import Derived.Test.YtngldifgcgblpaaGreatTasksP
import Derived.Test.YtngldifgcgblpaaGreatOwn2
import Derived.Laws.IdiomStrings
import Derived.Laws.BytesArg
import Derived.Test.YtngldifgcgblpaaGreatRows
import Derived.Laws.BitsAllLaws
import Derived.Test.YtngldifgcgblpaaGreatSmall
import Derived.Test.YtngldifgcgblpaaGreatTaskRI
import Derived.Deep.RegionHeld3
import Derived.Test.YtngldifgcgblpaaGreatTaskRS
namespace Go.Proofs.YtngldifgcgblpaaGreat
theorem taskRight_nodes {x : Task} (h : taskRight x = true) : x.nodes.length ≤ 6 := by
  simp only [taskRight, isWorkB, isB, placeOk, Bool.and_eq_true, decide_eq_true_eq] at h
  split at h <;> simp only [Bool.and_eq_true, decide_eq_true_eq] at h <;> omega
theorem tasksRight_at {l : List Task} (h : tasksRight l = true) {k : Nat} (hk : k < l.length) : taskRight (nth l k) = true := by
  simp only [tasksRight, Bool.and_eq_true, List.all_eq_true, List.mem_range] at h
  have := h.2 k hk
  simp only [tI, Bool.and_eq_true] at this
  exact this.1.1
theorem tasksRight_small {l : List Task} (h : tasksRight l = true) : ∀ k, k < l.length → (nth l k).nodes.length ≤ 1000000000 := fun k hk => by
  have := taskRight_nodes (tasksRight_at h hk)
  omega

def noTask : Task := ⟨⟨0, 0⟩, 0, ⟨#[]⟩, 0, 0, 0, ⟨0, 0⟩, 0, 0, 0, 0, []⟩
theorem fit_noTask : FitTask noTask := by simp [FitTask, noTask, I64, Str, ByteArray.size]
def taskOf (l : List Task) (a : Label) (n : Int) : Task := if tasksRight l = true then (if 0 ≤ taskIx l a n then nth l (taskIx l a n).toNat else noTask) else noTask
end Go.Proofs.YtngldifgcgblpaaGreat

namespace Go.Proofs.YtngldifgcgblpaaGreat
open Go.RowKit

end Go.Proofs.YtngldifgcgblpaaGreat

namespace Go.Proofs.YtngldifgcgblpaaGreat
open Go.RowKit
attribute [local irreducible] wpQuiet

end Go.Proofs.YtngldifgcgblpaaGreat

namespace Go.Proofs.YtngldifgcgblpaaGreat
open Go.RowKit
attribute [local irreducible] wpQuiet

end Go.Proofs.YtngldifgcgblpaaGreat

namespace Go.Proofs.YtngldifgcgblpaaGreat
open Go.RowKit
attribute [local irreducible] wpQuiet

end Go.Proofs.YtngldifgcgblpaaGreat

namespace Go.Proofs.YtngldifgcgblpaaGreat
open Go.RowKit
attribute [local irreducible] wpQuiet

end Go.Proofs.YtngldifgcgblpaaGreat

namespace Go.Proofs.YtngldifgcgblpaaGreat
open Go.RowKit
attribute [local irreducible] wpQuiet

end Go.Proofs.YtngldifgcgblpaaGreat

/- A variable that is made ahead of a call. -/
import Derived.Test.YtalnbddpkkkpeaaLib
namespace Go.Proofs.Ytalnbddpkkkpeaa
open Go.RowKit

/-- A variable made ahead of a call. -/
theorem box_new3 {bw V wn : World} {cs : Array Value} {T : TypeId} (hx : Ext (V.alloc (.cells cs T)) wn) (h : Ext bw V) : Blk wn V.heap.size T cs ∧ bw.heap.size ≤ V.heap.size ∧ V.heap.size < (V.alloc (.cells cs T)).heap.size :=
  ⟨(Blk.new V T cs).ext hx, h.size, by simp⟩

end Go.Proofs.Ytalnbddpkkkpeaa

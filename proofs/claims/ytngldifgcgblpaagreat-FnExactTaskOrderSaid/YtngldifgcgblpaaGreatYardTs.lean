/- The walks of the reference's l13Has, l13Code, l13Turn, and of what calls them. Printed by wip/yardt.py. -/
import Derived.Test.YtngldifgcgblpaaGreatYardTt
import Derived.Test.YtngldifgcgblpaaGreatCopies
import Derived.Test.YtngldifgcgblpaaGreatLive
import Derived.Test.YtngldifgcgblpaaGreatTasksS
import Derived.Test.YtngldifgcgblpaaGreatTasksP
import Derived.Test.YtngldifgcgblpaaGreatOwn2
import Derived.Laws.IdiomStrings
import Derived.Laws.BytesArg
import Derived.Test.YtngldifgcgblpaaGreatRows
import Derived.Laws.BitsAllLaws
import Derived.Test.YtngldifgcgblpaaGreatSmall
import Derived.Test.YtngldifgcgblpaaGreatTaskRI
import Derived.Deep.RegionHeld3
import Derived.Test.YtngldifgcgblpaaGreatTaskRS
import Derived.Test.YtngldifgcgblpaaGreatCounts
namespace Go.Proofs.YtngldifgcgblpaaGreat
open Go.RowKit
attribute [local irreducible] wpQuiet
theorem field_state (c0 c1 c2 c3 c4 c5 c6 c7 c8 c9 c10 c12 c13 : Value) (c11 : Int) (w : World) : (Instr.field 87 (.agg #[c0, c1, c2, c3, c4, c5, c6, c7, c8, c9, c10, .int .i64 c11, c12, c13]) 9).run Tryz.prog w = .ok (.int .i64 c11) w := by kernel_rfl
set_option maxHeartbeats 4000000 in
theorem l13IllT_any (n : Int) (w : World) :
    Calls Tryz.prog 52 #[.int .i64 n] w fun e w' => e = .returned (.agg #[.slice none 0 0, .slice none 0 0, .slice none 0 0, .int .i64 0, .slice none 0 0, .slice none 0 0, .slice none 0 0, .int .i64 0, .int .i64 0, .int .i64 n]) ∧ Ext w w' := by
  go_enter Tryz.func52, Tryz.ntmps52
  go_upto_region 1 with (fail)
  obtain ⟨W, B, hW, hB, hx0, r0⟩ : ∃ W B, W = w.alloc (.cells #[.slice none 0 0, .slice none 0 0, .slice none 0 0, .int .i64 0, .slice none 0 0, .slice none 0 0, .slice none 0 0, .int .i64 0, .int .i64 0, .int .i64 0] 46) ∧ B = w.heap.size ∧ Ext w W ∧ Blk W B 46 #[.slice none 0 0, .slice none 0 0, .slice none 0 0, .int .i64 0, .slice none 0 0, .slice none 0 0, .slice none 0 0, .int .i64 0, .int .i64 0, .int .i64 0] := ⟨_, _, rfl, rfl, (Ext.refl w).alloc _, Blk.new _ _ _⟩
  rw [← hW, ← hB]
  have HB : Hid (w.heap.size ≤ B) := Lib.hid (by omega)
  have R := Lib.hid r0
  have X := Lib.hid hx0
  clear hW hB hx0 r0
  go_wp2_with (refine wpList_store_mid rfl 46 _ _ rfl B 0 #[.slice none 0 0, .slice none 0 0, .slice none 0 0, .int .i64 0, .slice none 0 0, .slice none 0 0, .slice none 0 0, .int .i64 0, .int .i64 0, .int .i64 n] rfl rfl (Blk.there (t := 46) (cs := #[.slice none 0 0, .slice none 0 0, .slice none 0 0, .int .i64 0, .slice none 0 0, .slice none 0 0, .slice none 0 0, .int .i64 0, .int .i64 0, .int .i64 0]) R.out) (by kernel_rfl) (all_oneCell_toArray (cs := [.slice none 0 0, .slice none 0 0, .slice none 0 0, .int .i64 0, .slice none 0 0, .slice none 0 0, .slice none 0 0, .int .i64 0, .int .i64 0, .int .i64 n]) (by simp [Value.oneCell'])) ?_)
  exact bodyPost_ret (v := .agg #[.slice none 0 0, .slice none 0 0, .slice none 0 0, .int .i64 0, .slice none 0 0, .slice none 0 0, .slice none 0 0, .int .i64 0, .int .i64 0, .int .i64 n]) (results_blk Tryz.results52 rfl (Blk.setAll (t := 46) (cs := #[.slice none 0 0, .slice none 0 0, .slice none 0 0, .int .i64 0, .slice none 0 0, .slice none 0 0, .slice none 0 0, .int .i64 0, .int .i64 0, .int .i64 0]) (vs := #[.slice none 0 0, .slice none 0 0, .slice none 0 0, .int .i64 0, .slice none 0 0, .slice none 0 0, .slice none 0 0, .int .i64 0, .int .i64 0, .int .i64 n]) R.out rfl) Tryz.underlying46 rfl (by kernel_rfl)) rfl ⟨rfl, setCells_ext HB.out _ _ _ X.out⟩
end Go.Proofs.YtngldifgcgblpaaGreat

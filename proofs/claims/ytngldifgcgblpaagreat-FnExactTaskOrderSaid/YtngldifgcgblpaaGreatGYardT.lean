/- The copies: to... Printed by wip/gen.py. The copies: to..., what they hand back has memory of its own. Printed by wip/gen.py. The generated words of types that are new with this seat. Printed by wip/genx.py. -/
import Derived.Test.YtngldifgcgblpaaGreatRows
import Derived.Test.YtngldifgcgblpaaGreatGElems
import Derived.Test.YtngldifgcgblpaaGreatGSmall
import Derived.Test.YtngldifgcgblpaaGreatClones
namespace Go.Proofs.YtngldifgcgblpaaGreat
open Go.RowKit
attribute [local irreducible] wpQuiet
set_option maxHeartbeats 4000000 in
theorem toLabel_any {S : Nat → Prop} (x : Label) (cs : List Value) (w : World) (h : ELabel.rel S w cs x) (_hs : SmLabel x) :
    Calls Tryz.prog 16 #[.agg cs.toArray] w (RetS ELabel x w) := by
  obtain ⟨rfl, hi⟩ := h
  have HI := Lib.hid hi
  clear hi
  simp only [cellsLabel]
  go_enter Tryz.func16, Tryz.ntmps16
  go_wp2
  exact bodyPost_ret (v := .agg #[.int .i64 x.level, .int .i64 x.set]) (by simp [results, Tryz.results16, go_sem]) rfl ⟨_, rfl, ⟨rfl, HI.out⟩, (((Ext.refl _).alloc _).alloc _).alloc _⟩
theorem mk_Int64S (n : Nat) (hn : n ≤ 1048576) (W : World) : (Instr.makeSlice 85 (.int .i64 (n : Int)) (.int .i64 (n : Int))).run Tryz.prog W = .ok (.slice (some ⟨W.heap.size, 0, none⟩) n n) (W.alloc (.cells (madeCells #[.int .i64 0] (n * 1)) 2)) := by
  obtain ⟨i0, hi, hz0, hz1, hz2⟩ := info_parts (show (Tryz.prog.info? 2).map (fun i => (i.zero, i.size, i.bytes)) = some (some (.int .i64 0), 1, 8) by kernel_rfl)
  have := run_make (P := Tryz.prog) W 85 2 i0 _ Tryz.underlying85 hi hz0 .i64 .i64 n n (by omega) (by omega) (by rw [hz2]; omega) (by omega)
  simpa [hz1, Value.cells] using this
set_option maxHeartbeats 1000000 in
theorem toInt64S_any {S : Nat → Prop} (l : List Int) (v : Value) (w : World) (h : Rd EInt S w v l) (hs : SmInt64S l) :
    Calls Tryz.prog 216 #[v] w (RetL EInt l w) := by
  have hn : l.length ≤ 1048576 := hs.1
  have HS := Lib.hid hs
  obtain ⟨A, c, rfl, h1, h2, hk⟩ := h.open_
  unfold maxLen at h2
  have HK := Lib.hid hk
  clear hk h hs
  have hmk := mk_Int64S l.length hn
  go_enter Tryz.func216, Tryz.ntmps216
  go_wp2_with fail
  have hp0 := Part.new (E := EInt) (l := l) (T := 2) w (madeCells #[.int .i64 0] (l.length * 1)) (by rw [size_madeCells]; rfl)
  have hx0 : Ext w (w.alloc (.cells (madeCells #[.int .i64 0] (l.length * 1)) 2)) := (Ext.refl w).alloc _
  simp only [Nat.mul_one] at hp0 hx0 ⊢
  generalize hB : w.heap.size = B at hp0 ⊢
  have HB := Lib.hid hB
  clear hB
  go_loopw [4] (fun i w' => ∃ k : Nat, k ≤ l.length ∧ i = .int .i64 k ∧ Part EInt w' B 2 l k ∧ Ext w w') (fun i _ => l.length - (intOf i).toNat)
  case atStart => exact ⟨0, by omega, rfl, hp0, hx0⟩
  case round =>
    obtain ⟨k, hk1, rfl, hp, hx⟩ := hrel
    clear hp0 hx0
    by_cases hlt : k < l.length
    · obtain ⟨b, o, cs, rfl, hb, hr, hc⟩ := HK.out k hlt
      obtain ⟨rfl, hi⟩ := hr
      have c0 := Ext.some hx (hc 0 _ rfl)
      have ht := hp.there hlt 0 (by decide)
      obtain ⟨u, hu⟩ := Option.isSome_iff_exists.1 ht.1
      have hf := ht.2
      have HI := Lib.hid hi
      have HP := Lib.hid hp
      simp only [EInt, Nat.mul_one, Nat.add_zero] at c0 hu hf
      clear hc ht hi hp hmk
      go_wp2_with fail
      refine ⟨⟨k + 1, by omega, by go_num, ?_, hx.setCell (p := ⟨B, k, none⟩) (by rw [HB.out]; exact Nat.le_refl _) _⟩, ?_⟩
      · have := HP.out.step (cs := [.int .i64 (nth l k)]) hlt ⟨rfl, HI.out⟩
        simpa [World.setCells, EInt] using this
      simp [intOf]
      omega
    · obtain rfl : k = l.length := by omega
      go_wp2_with fail
      go_ret
      exact ⟨_, rfl, (hp.done (by unfold maxLen; omega)).sub (fun b hb => by rw [HB.out]; exact hb), hx⟩
set_option maxHeartbeats 4000000 in
theorem toPair_any {S : Nat → Prop} (x : Pair) (cs : List Value) (w : World) (h : EPair.rel S w cs x) (_hs : SmPair x) :
    Calls Tryz.prog 213 #[.agg cs.toArray] w (RetS EPair x w) := by
  obtain ⟨rfl, hi⟩ := h
  have HI := Lib.hid hi
  clear hi
  simp only [cellsPair]
  go_enter Tryz.func213, Tryz.ntmps213
  go_wp2_with fail
  obtain ⟨W, B, hW, hB, hx0, a0, r0, o0⟩ := boxes3 w #[.int .i64 x.from_.level, .int .i64 x.from_.set, .int .i64 x.to_.level, .int .i64 x.to_.set, .int .i64 x.rate] #[.int .i64 0, .int .i64 0, .int .i64 0, .int .i64 0, .int .i64 0] #[.int .i64 0, .int .i64 0, .int .i64 0, .int .i64 0, .int .i64 0] 217 214 214
  rw [← hW, ← hB]
  have HB := Lib.hid hB
  clear hW hB
  have a_0 := Lib.hid a0
  have r_0 := Lib.hid r0
  have o_0 := Lib.hid o0
  have X_0 := Lib.hid hx0
  clear a0 r0 o0 hx0
  refine (toLabel_any x.from_ [.int .i64 x.from_.level, .int .i64 x.from_.set] _ (S := S) ⟨rfl, (by have hf := HI.out; simp only [FitPair] at hf; simp only [FitLabel, hf, and_self])⟩ trivial).mono ?_
  rintro e w1 ⟨_, rfl, ⟨rfl, _⟩, hx⟩
  simp only [cellsLabel]
  have a_1 : Hid (Blk w1 B 217 #[.int .i64 x.from_.level, .int .i64 x.from_.set, .int .i64 x.to_.level, .int .i64 x.to_.set, .int .i64 x.rate]) := Lib.hid (Blk.ext (by repeat (first | with_reducible exact a_0.out | refine Blk.far ?_ (by simp <;> omega) _)) hx)
  have r_1 : Hid (Blk w1 (B + 1) 214 #[.int .i64 0, .int .i64 0, .int .i64 0, .int .i64 0, .int .i64 0]) := Lib.hid (Blk.ext (by repeat (first | with_reducible exact r_0.out | refine Blk.far ?_ (by simp <;> omega) _)) hx)
  have o_1 : Hid (Blk w1 (B + 1 + 1) 214 #[.int .i64 0, .int .i64 0, .int .i64 0, .int .i64 0, .int .i64 0]) := Lib.hid (Blk.ext (by simpa using o_0.out) hx)
  have X_1 : Hid (Ext w w1) := Lib.hid (Ext.trans (by repeat (first | with_reducible exact X_0.out | refine Ext.setCell ?_ (by show w.heap.size ≤ B + 1 + 1; rw [← HB.out]; omega) _)) hx)
  clear hx
  have ac := a_1.out.cell
  have oc := o_1.out.cell
  have of := o_1.out.frozen
  clear a_0 r_0 o_0 X_0
  go_wp2_with fail
  refine (toLabel_any x.to_ [.int .i64 x.to_.level, .int .i64 x.to_.set] _ (S := S) ⟨rfl, (by have hf := HI.out; simp only [FitPair] at hf; simp only [FitLabel, hf, and_self])⟩ trivial).mono ?_
  rintro e w2 ⟨_, rfl, ⟨rfl, _⟩, hx⟩
  simp only [cellsLabel]
  have a_2 : Hid (Blk w2 B 217 #[.int .i64 x.from_.level, .int .i64 x.from_.set, .int .i64 x.to_.level, .int .i64 x.to_.set, .int .i64 x.rate]) := Lib.hid (Blk.ext (by repeat (first | with_reducible exact a_1.out | refine Blk.far ?_ (by simp <;> omega) _)) hx)
  have r_2 : Hid (Blk w2 (B + 1) 214 #[.int .i64 0, .int .i64 0, .int .i64 0, .int .i64 0, .int .i64 0]) := Lib.hid (Blk.ext (by repeat (first | with_reducible exact r_1.out | refine Blk.far ?_ (by simp <;> omega) _)) hx)
  have o_2 : Hid (Blk w2 (B + 1 + 1) 214 #[.int .i64 x.from_.level, .int .i64 x.from_.set, .int .i64 0, .int .i64 0, .int .i64 0]) := Lib.hid (Blk.ext (by simpa using ((o_1.out.set_ 0 (.int .i64 x.from_.level)).set_ 1 (.int .i64 x.from_.set))) hx)
  have X_2 : Hid (Ext w w2) := Lib.hid (Ext.trans (by repeat (first | with_reducible exact X_1.out | refine Ext.setCell ?_ (by show w.heap.size ≤ B + 1 + 1; rw [← HB.out]; omega) _)) hx)
  clear hx ac oc of
  have ac := a_2.out.cell
  have oc := o_2.out.cell
  have of := o_2.out.frozen
  clear a_1 r_1 o_1 X_1
  go_wp2_with (first
    | (refine wpList_load_mid rfl 214 _ rfl (B + 1 + 1) 0 rfl [.int .i64 x.from_.level, .int .i64 x.from_.set, .int .i64 x.to_.level, .int .i64 x.to_.set, .int .i64 x.rate] _ ?hl Tryz.underlying214 rfl (by kernel_rfl) ?_)
    | (refine wpList_store_mid rfl 214 _ _ rfl (B + 1) 0 #[.int .i64 x.from_.level, .int .i64 x.from_.set, .int .i64 x.to_.level, .int .i64 x.to_.set, .int .i64 x.rate] rfl rfl ?ht (by kernel_rfl) ?ho ?_))
  case hl => exact Blk.range (t := 214) (cs := #[.int .i64 x.from_.level, .int .i64 x.from_.set, .int .i64 x.to_.level, .int .i64 x.to_.set, .int .i64 x.rate]) (by simpa using (((o_2.out.set_ 2 (.int .i64 x.to_.level)).set_ 3 (.int .i64 x.to_.set)).set_ 4 (.int .i64 x.rate)))
  case ht => exact Blk.there (t := 214) (cs := #[.int .i64 0, .int .i64 0, .int .i64 0, .int .i64 0, .int .i64 0]) (by repeat (first | with_reducible exact r_2.out | refine Blk.far ?_ (by simp <;> omega) _))
  case ho => exact all_oneCell_toArray (cs := [.int .i64 x.from_.level, .int .i64 x.from_.set, .int .i64 x.to_.level, .int .i64 x.to_.set, .int .i64 x.rate]) (by simp [Value.oneCell'])
  exact bodyPost_ret (v := .agg #[.int .i64 x.from_.level, .int .i64 x.from_.set, .int .i64 x.to_.level, .int .i64 x.to_.set, .int .i64 x.rate]) (results_blk Tryz.results213 rfl (Blk.setAll (t := 214) (cs := #[.int .i64 0, .int .i64 0, .int .i64 0, .int .i64 0, .int .i64 0]) (vs := #[.int .i64 x.from_.level, .int .i64 x.from_.set, .int .i64 x.to_.level, .int .i64 x.to_.set, .int .i64 x.rate]) (by repeat (first | with_reducible exact r_2.out | refine Blk.far ?_ (by simp <;> omega) _)) rfl) Tryz.underlying214 rfl (by kernel_rfl)) rfl ⟨_, rfl, ⟨rfl, HI.out⟩, setCells_ext (by rw [← HB.out]; omega) _ _ _ (by repeat (first | with_reducible exact X_2.out | refine Ext.setCell ?_ (by show w.heap.size ≤ B + 1 + 1; rw [← HB.out]; omega) _))⟩
set_option maxHeartbeats 4000000 in
theorem toQuota_any {S : Nat → Prop} (x : Quota) (cs : List Value) (w : World) (h : EQuota.rel S w cs x) (_hs : SmQuota x) :
    Calls Tryz.prog 214 #[.agg cs.toArray] w (RetS EQuota x w) := by
  obtain ⟨rfl, hi⟩ := h
  have HI := Lib.hid hi
  clear hi
  simp only [cellsQuota]
  go_enter Tryz.func214, Tryz.ntmps214
  go_wp2_with fail
  obtain ⟨W, B, hW, hB, hx0, a0, r0, o0⟩ := boxes3 w #[.int .i64 x.label.level, .int .i64 x.label.set, .int .i64 x.most] #[.int .i64 0, .int .i64 0, .int .i64 0] #[.int .i64 0, .int .i64 0, .int .i64 0] 220 205 205
  rw [← hW, ← hB]
  have HB := Lib.hid hB
  clear hW hB
  have a_0 := Lib.hid a0
  have r_0 := Lib.hid r0
  have o_0 := Lib.hid o0
  have X_0 := Lib.hid hx0
  clear a0 r0 o0 hx0
  refine (toLabel_any x.label [.int .i64 x.label.level, .int .i64 x.label.set] _ (S := S) ⟨rfl, (by have hf := HI.out; simp only [FitQuota] at hf; simp only [FitLabel, hf, and_self])⟩ trivial).mono ?_
  rintro e w1 ⟨_, rfl, ⟨rfl, _⟩, hx⟩
  simp only [cellsLabel]
  have a_1 : Hid (Blk w1 B 220 #[.int .i64 x.label.level, .int .i64 x.label.set, .int .i64 x.most]) := Lib.hid (Blk.ext (by repeat (first | with_reducible exact a_0.out | refine Blk.far ?_ (by simp <;> omega) _)) hx)
  have r_1 : Hid (Blk w1 (B + 1) 205 #[.int .i64 0, .int .i64 0, .int .i64 0]) := Lib.hid (Blk.ext (by repeat (first | with_reducible exact r_0.out | refine Blk.far ?_ (by simp <;> omega) _)) hx)
  have o_1 : Hid (Blk w1 (B + 1 + 1) 205 #[.int .i64 0, .int .i64 0, .int .i64 0]) := Lib.hid (Blk.ext (by simpa using o_0.out) hx)
  have X_1 : Hid (Ext w w1) := Lib.hid (Ext.trans (by repeat (first | with_reducible exact X_0.out | refine Ext.setCell ?_ (by show w.heap.size ≤ B + 1 + 1; rw [← HB.out]; omega) _)) hx)
  clear hx
  have ac := a_1.out.cell
  have oc := o_1.out.cell
  have of := o_1.out.frozen
  clear a_0 r_0 o_0 X_0
  go_wp2_with (first
    | (refine wpList_load_mid rfl 205 _ rfl (B + 1 + 1) 0 rfl [.int .i64 x.label.level, .int .i64 x.label.set, .int .i64 x.most] _ ?hl Tryz.underlying205 rfl (by kernel_rfl) ?_)
    | (refine wpList_store_mid rfl 205 _ _ rfl (B + 1) 0 #[.int .i64 x.label.level, .int .i64 x.label.set, .int .i64 x.most] rfl rfl ?ht (by kernel_rfl) ?ho ?_))
  case hl => exact Blk.range (t := 205) (cs := #[.int .i64 x.label.level, .int .i64 x.label.set, .int .i64 x.most]) (by simpa using (((o_1.out.set_ 0 (.int .i64 x.label.level)).set_ 1 (.int .i64 x.label.set)).set_ 2 (.int .i64 x.most)))
  case ht => exact Blk.there (t := 205) (cs := #[.int .i64 0, .int .i64 0, .int .i64 0]) (by repeat (first | with_reducible exact r_1.out | refine Blk.far ?_ (by simp <;> omega) _))
  case ho => exact all_oneCell_toArray (cs := [.int .i64 x.label.level, .int .i64 x.label.set, .int .i64 x.most]) (by simp [Value.oneCell'])
  exact bodyPost_ret (v := .agg #[.int .i64 x.label.level, .int .i64 x.label.set, .int .i64 x.most]) (results_blk Tryz.results214 rfl (Blk.setAll (t := 205) (cs := #[.int .i64 0, .int .i64 0, .int .i64 0]) (vs := #[.int .i64 x.label.level, .int .i64 x.label.set, .int .i64 x.most]) (by repeat (first | with_reducible exact r_1.out | refine Blk.far ?_ (by simp <;> omega) _)) rfl) Tryz.underlying205 rfl (by kernel_rfl)) rfl ⟨_, rfl, ⟨rfl, HI.out⟩, setCells_ext (by rw [← HB.out]; omega) _ _ _ (by repeat (first | with_reducible exact X_1.out | refine Ext.setCell ?_ (by show w.heap.size ≤ B + 1 + 1; rw [← HB.out]; omega) _))⟩
theorem mk_LabelS (n : Nat) (hn : n ≤ 1048576) (W : World) : (Instr.makeSlice 167 (.int .i64 (n : Int)) (.int .i64 (n : Int))).run Tryz.prog W = .ok (.slice (some ⟨W.heap.size, 0, none⟩) n n) (W.alloc (.cells (madeCells #[.int .i64 0, .int .i64 0] (n * 2)) 49)) := by
  obtain ⟨i0, hi, hz0, hz1, hz2⟩ := info_parts (show (Tryz.prog.info? 49).map (fun i => (i.zero, i.size, i.bytes)) = some (some (.agg #[.int .i64 0, .int .i64 0]), 2, 16) by kernel_rfl)
  have := run_make (P := Tryz.prog) W 167 49 i0 _ Tryz.underlying167 hi hz0 .i64 .i64 n n (by omega) (by omega) (by rw [hz2]; omega) (by omega)
  simpa [hz1, Value.cells] using this
set_option maxHeartbeats 1000000 in
theorem toLabelS_any {S : Nat → Prop} (l : List Label) (v : Value) (w : World) (h : Rd ELabel S w v l) (hs : SmLabelS l) :
    Calls Tryz.prog 212 #[v] w (RetL ELabel l w) := by
  have hn : l.length ≤ 1048576 := hs.1
  have HS := Lib.hid hs
  obtain ⟨A, c, rfl, h1, h2, hk⟩ := h.open_
  unfold maxLen at h2
  have HK := Lib.hid hk
  clear hk h hs
  have hmk := mk_LabelS l.length hn
  go_enter Tryz.func212, Tryz.ntmps212
  go_wp2_with fail
  have hp0 := Part.new (E := ELabel) (l := l) (T := 49) w (madeCells #[.int .i64 0, .int .i64 0] (l.length * 2)) (by rw [size_madeCells]; rfl)
  have hx0 : Ext w (w.alloc (.cells (madeCells #[.int .i64 0, .int .i64 0] (l.length * 2)) 49)) := (Ext.refl w).alloc _
  generalize hB : w.heap.size = B at hp0 ⊢
  have HB := Lib.hid hB
  clear hB
  go_loopw [4] (fun i w' => ∃ k : Nat, k ≤ l.length ∧ i = .int .i64 k ∧ Part ELabel w' B 49 l k ∧ Ext w w') (fun i _ => l.length - (intOf i).toNat)
  case atStart => exact ⟨0, by omega, rfl, hp0, hx0⟩
  case round =>
    obtain ⟨k, hk1, rfl, hp, hx⟩ := hrel
    clear hp0 hx0
    by_cases hlt : k < l.length
    · obtain ⟨b, o, cs, rfl, hb, hr, hc⟩ := HK.out k hlt
      have HC := Lib.hid (hx.range hc)
      have HI : Hid ((Tryz.prog.info? 33).map (·.size) = some cs.length) := Lib.hid (by rw [ELabel.len hr]; kernel_rfl)
      have HR := Lib.hid (ELabel.keep (hx.same S) hr)
      have HP := Lib.hid hp
      have HM := Lib.hid (HS.out.2 (nth l k) (nth_mem hlt))
      clear hc hr hmk hp
      go_wp2_with (first
        | (go_at_call 16; refine (toLabel_any (nth l k) cs _ HR.out HM.out).mono ?_; rintro e w1 ⟨cs', rfl, hr1, hx1⟩; have HR1 := Lib.hid hr1; clear hr1)
        | (refine wpList_load_mid rfl 33 _ rfl b (o + k * 2) rfl cs _ HC.out Tryz.underlying33 rfl HI.out ?_)
        | (refine wpList_store_mid rfl 49 _ _ rfl B (k * 2) _ rfl rfl ?ht ?hi ?ho ?_))
      case ht => have := (HP.out.ext hx1).there hlt; rw [List.size_toArray, ELabel.len HR1.out]; exact this
      case hi => rw [List.size_toArray, ELabel.len HR1.out]; kernel_rfl
      case ho => exact all_oneCell_toArray (ELabel.one HR1.out)
      refine ⟨⟨k + 1, by omega, by go_num, (HP.out.ext hx1).step hlt (ELabel.sub (fun b hb => Nat.lt_of_lt_of_le HP.out.lt hb) HR1.out), setCells_ext (by rw [HB.out]; exact Nat.le_refl _) _ _ _ (hx.trans hx1)⟩, ?_⟩
      simp [intOf]
      omega
    · obtain rfl : k = l.length := by omega
      go_wp2_with fail
      go_ret
      exact ⟨_, rfl, (hp.done (by unfold maxLen; omega)).sub (fun b hb => by rw [HB.out]; exact hb), hx⟩
theorem mk_LabelSS (n : Nat) (hn : n ≤ 1048576) (W : World) : (Instr.makeSlice 35 (.int .i64 (n : Int)) (.int .i64 (n : Int))).run Tryz.prog W = .ok (.slice (some ⟨W.heap.size, 0, none⟩) n n) (W.alloc (.cells (madeCells #[.slice none 0 0] (n * 1)) 167)) := by
  obtain ⟨i0, hi, hz0, hz1, hz2⟩ := info_parts (show (Tryz.prog.info? 167).map (fun i => (i.zero, i.size, i.bytes)) = some (some (.slice none 0 0), 1, 24) by kernel_rfl)
  have := run_make (P := Tryz.prog) W 35 167 i0 _ Tryz.underlying35 hi hz0 .i64 .i64 n n (by omega) (by omega) (by rw [hz2]; omega) (by omega)
  simpa [hz1, Value.cells] using this
set_option maxHeartbeats 1000000 in
theorem toLabelSS_any {S : Nat → Prop} (l : List (List Label)) (v : Value) (w : World) (h : Rd (ERow ELabel) S w v l) (hs : SmLabelSS l) :
    Calls Tryz.prog 124 #[v] w (RetL (ERow ELabel) l w) := by
  have hn : l.length ≤ 1048576 := hs.1
  have HS := Lib.hid hs
  obtain ⟨A, c, rfl, h1, h2, hk⟩ := h.open_
  unfold maxLen at h2
  have HK := Lib.hid hk
  clear hk h hs
  have hmk := mk_LabelSS l.length hn
  go_enter Tryz.func124, Tryz.ntmps124
  go_wp2_with fail
  have hp0 := Part.new (E := (ERow ELabel)) (l := l) (T := 167) w (madeCells #[.slice none 0 0] (l.length * 1)) (by rw [size_madeCells]; rfl)
  have hx0 : Ext w (w.alloc (.cells (madeCells #[.slice none 0 0] (l.length * 1)) 167)) := (Ext.refl w).alloc _
  simp only [Nat.mul_one] at hp0 hx0 ⊢
  generalize hB : w.heap.size = B at hp0 ⊢
  have HB := Lib.hid hB
  clear hB
  go_loopw [4] (fun i w' => ∃ k : Nat, k ≤ l.length ∧ i = .int .i64 k ∧ Part (ERow ELabel) w' B 167 l k ∧ Ext w w') (fun i _ => l.length - (intOf i).toNat)
  case atStart => exact ⟨0, by omega, rfl, hp0, hx0⟩
  case round =>
    obtain ⟨k, hk1, rfl, hp, hx⟩ := hrel
    clear hp0 hx0
    by_cases hlt : k < l.length
    · obtain ⟨b, o, cs, rfl, hb, hr, hc⟩ := HK.out k hlt
      obtain ⟨v, rfl, hr⟩ := hr
      have c0 := Ext.some hx (hc 0 _ rfl)
      have ht := hp.there hlt 0 (by decide)
      obtain ⟨u, hu⟩ := Option.isSome_iff_exists.1 ht.1
      have HR := Lib.hid (hr.ext hx)
      have HP := Lib.hid hp
      have HM := Lib.hid (HS.out.2 (nth l k) (nth_mem hlt))
      simp only [ERow, Nat.mul_one, Nat.add_zero] at c0 hu
      clear hc ht hp hmk hr hu
      go_wp2_with fail
      refine (toLabelS_any (nth l k) v _ HR.out HM.out).mono ?_
      rintro e w1 ⟨v1, rfl, hr1, hx1⟩
      obtain ⟨A1, c1, rfl, -⟩ := id hr1
      have HR1 := Lib.hid hr1
      have ht := (HP.out.ext hx1).there hlt 0 (by decide)
      obtain ⟨u, hu⟩ := Option.isSome_iff_exists.1 ht.1
      have hf := ht.2
      simp only [ERow, Nat.mul_one, Nat.add_zero] at hu hf
      clear hr1 ht
      go_wp2_with fail
      refine ⟨⟨k + 1, by omega, by go_num, ?_, (hx.trans hx1).setCell (p := ⟨B, k, none⟩) (by rw [HB.out]; exact Nat.le_refl _) _⟩, ?_⟩
      · have := (HP.out.ext hx1).step (cs := [.slice A1 (nth l k).length c1]) hlt ⟨_, rfl, HR1.out.sub (fun b hb => Nat.lt_of_lt_of_le HP.out.lt hb)⟩
        simpa [World.setCells, ERow] using this
      simp [intOf]
      omega
    · obtain rfl : k = l.length := by omega
      go_wp2_with fail
      go_ret
      exact ⟨_, rfl, (hp.done (by unfold maxLen; omega)).sub (fun b hb => by rw [HB.out]; exact hb), hx⟩
theorem mk_PairS (n : Nat) (hn : n ≤ 1048576) (W : World) : (Instr.makeSlice 36 (.int .i64 (n : Int)) (.int .i64 (n : Int))).run Tryz.prog W = .ok (.slice (some ⟨W.heap.size, 0, none⟩) n n) (W.alloc (.cells (madeCells #[.int .i64 0, .int .i64 0, .int .i64 0, .int .i64 0, .int .i64 0] (n * 5)) 214)) := by
  obtain ⟨i0, hi, hz0, hz1, hz2⟩ := info_parts (show (Tryz.prog.info? 214).map (fun i => (i.zero, i.size, i.bytes)) = some (some (.agg #[.int .i64 0, .int .i64 0, .int .i64 0, .int .i64 0, .int .i64 0]), 5, 40) by kernel_rfl)
  have := run_make (P := Tryz.prog) W 36 214 i0 _ Tryz.underlying36 hi hz0 .i64 .i64 n n (by omega) (by omega) (by rw [hz2]; omega) (by omega)
  simpa [hz1, Value.cells] using this
set_option maxHeartbeats 1000000 in
theorem toPairS_any {S : Nat → Prop} (l : List Pair) (v : Value) (w : World) (h : Rd EPair S w v l) (hs : SmPairS l) :
    Calls Tryz.prog 125 #[v] w (RetL EPair l w) := by
  have hn : l.length ≤ 1048576 := hs.1
  have HS := Lib.hid hs
  obtain ⟨A, c, rfl, h1, h2, hk⟩ := h.open_
  unfold maxLen at h2
  have HK := Lib.hid hk
  clear hk h hs
  have hmk := mk_PairS l.length hn
  go_enter Tryz.func125, Tryz.ntmps125
  go_wp2_with fail
  have hp0 := Part.new (E := EPair) (l := l) (T := 214) w (madeCells #[.int .i64 0, .int .i64 0, .int .i64 0, .int .i64 0, .int .i64 0] (l.length * 5)) (by rw [size_madeCells]; rfl)
  have hx0 : Ext w (w.alloc (.cells (madeCells #[.int .i64 0, .int .i64 0, .int .i64 0, .int .i64 0, .int .i64 0] (l.length * 5)) 214)) := (Ext.refl w).alloc _
  generalize hB : w.heap.size = B at hp0 ⊢
  have HB := Lib.hid hB
  clear hB
  go_loopw [4] (fun i w' => ∃ k : Nat, k ≤ l.length ∧ i = .int .i64 k ∧ Part EPair w' B 214 l k ∧ Ext w w') (fun i _ => l.length - (intOf i).toNat)
  case atStart => exact ⟨0, by omega, rfl, hp0, hx0⟩
  case round =>
    obtain ⟨k, hk1, rfl, hp, hx⟩ := hrel
    clear hp0 hx0
    by_cases hlt : k < l.length
    · obtain ⟨b, o, cs, rfl, hb, hr, hc⟩ := HK.out k hlt
      have HC := Lib.hid (hx.range hc)
      have HI : Hid ((Tryz.prog.info? 217).map (·.size) = some cs.length) := Lib.hid (by rw [EPair.len hr]; kernel_rfl)
      have HR := Lib.hid (EPair.keep (hx.same S) hr)
      have HP := Lib.hid hp
      have HM := Lib.hid (HS.out.2 (nth l k) (nth_mem hlt))
      clear hc hr hmk hp
      go_wp2_with (first
        | (go_at_call 213; refine (toPair_any (nth l k) cs _ HR.out HM.out).mono ?_; rintro e w1 ⟨cs', rfl, hr1, hx1⟩; have HR1 := Lib.hid hr1; clear hr1)
        | (refine wpList_load_mid rfl 217 _ rfl b (o + k * 5) rfl cs _ HC.out Tryz.underlying217 rfl HI.out ?_)
        | (refine wpList_store_mid rfl 214 _ _ rfl B (k * 5) _ rfl rfl ?ht ?hi ?ho ?_))
      case ht => have := (HP.out.ext hx1).there hlt; rw [List.size_toArray, EPair.len HR1.out]; exact this
      case hi => rw [List.size_toArray, EPair.len HR1.out]; kernel_rfl
      case ho => exact all_oneCell_toArray (EPair.one HR1.out)
      refine ⟨⟨k + 1, by omega, by go_num, (HP.out.ext hx1).step hlt (EPair.sub (fun b hb => Nat.lt_of_lt_of_le HP.out.lt hb) HR1.out), setCells_ext (by rw [HB.out]; exact Nat.le_refl _) _ _ _ (hx.trans hx1)⟩, ?_⟩
      simp [intOf]
      omega
    · obtain rfl : k = l.length := by omega
      go_wp2_with fail
      go_ret
      exact ⟨_, rfl, (hp.done (by unfold maxLen; omega)).sub (fun b hb => by rw [HB.out]; exact hb), hx⟩
theorem mk_QuotaS (n : Nat) (hn : n ≤ 1048576) (W : World) : (Instr.makeSlice 37 (.int .i64 (n : Int)) (.int .i64 (n : Int))).run Tryz.prog W = .ok (.slice (some ⟨W.heap.size, 0, none⟩) n n) (W.alloc (.cells (madeCells #[.int .i64 0, .int .i64 0, .int .i64 0] (n * 3)) 205)) := by
  obtain ⟨i0, hi, hz0, hz1, hz2⟩ := info_parts (show (Tryz.prog.info? 205).map (fun i => (i.zero, i.size, i.bytes)) = some (some (.agg #[.int .i64 0, .int .i64 0, .int .i64 0]), 3, 24) by kernel_rfl)
  have := run_make (P := Tryz.prog) W 37 205 i0 _ Tryz.underlying37 hi hz0 .i64 .i64 n n (by omega) (by omega) (by rw [hz2]; omega) (by omega)
  simpa [hz1, Value.cells] using this
set_option maxHeartbeats 1000000 in
theorem toQuotaS_any {S : Nat → Prop} (l : List Quota) (v : Value) (w : World) (h : Rd EQuota S w v l) (hs : SmQuotaS l) :
    Calls Tryz.prog 126 #[v] w (RetL EQuota l w) := by
  have hn : l.length ≤ 1048576 := hs.1
  have HS := Lib.hid hs
  obtain ⟨A, c, rfl, h1, h2, hk⟩ := h.open_
  unfold maxLen at h2
  have HK := Lib.hid hk
  clear hk h hs
  have hmk := mk_QuotaS l.length hn
  go_enter Tryz.func126, Tryz.ntmps126
  go_wp2_with fail
  have hp0 := Part.new (E := EQuota) (l := l) (T := 205) w (madeCells #[.int .i64 0, .int .i64 0, .int .i64 0] (l.length * 3)) (by rw [size_madeCells]; rfl)
  have hx0 : Ext w (w.alloc (.cells (madeCells #[.int .i64 0, .int .i64 0, .int .i64 0] (l.length * 3)) 205)) := (Ext.refl w).alloc _
  generalize hB : w.heap.size = B at hp0 ⊢
  have HB := Lib.hid hB
  clear hB
  go_loopw [4] (fun i w' => ∃ k : Nat, k ≤ l.length ∧ i = .int .i64 k ∧ Part EQuota w' B 205 l k ∧ Ext w w') (fun i _ => l.length - (intOf i).toNat)
  case atStart => exact ⟨0, by omega, rfl, hp0, hx0⟩
  case round =>
    obtain ⟨k, hk1, rfl, hp, hx⟩ := hrel
    clear hp0 hx0
    by_cases hlt : k < l.length
    · obtain ⟨b, o, cs, rfl, hb, hr, hc⟩ := HK.out k hlt
      have HC := Lib.hid (hx.range hc)
      have HI : Hid ((Tryz.prog.info? 220).map (·.size) = some cs.length) := Lib.hid (by rw [EQuota.len hr]; kernel_rfl)
      have HR := Lib.hid (EQuota.keep (hx.same S) hr)
      have HP := Lib.hid hp
      have HM := Lib.hid (HS.out.2 (nth l k) (nth_mem hlt))
      clear hc hr hmk hp
      go_wp2_with (first
        | (go_at_call 214; refine (toQuota_any (nth l k) cs _ HR.out HM.out).mono ?_; rintro e w1 ⟨cs', rfl, hr1, hx1⟩; have HR1 := Lib.hid hr1; clear hr1)
        | (refine wpList_load_mid rfl 220 _ rfl b (o + k * 3) rfl cs _ HC.out Tryz.underlying220 rfl HI.out ?_)
        | (refine wpList_store_mid rfl 205 _ _ rfl B (k * 3) _ rfl rfl ?ht ?hi ?ho ?_))
      case ht => have := (HP.out.ext hx1).there hlt; rw [List.size_toArray, EQuota.len HR1.out]; exact this
      case hi => rw [List.size_toArray, EQuota.len HR1.out]; kernel_rfl
      case ho => exact all_oneCell_toArray (EQuota.one HR1.out)
      refine ⟨⟨k + 1, by omega, by go_num, (HP.out.ext hx1).step hlt (EQuota.sub (fun b hb => Nat.lt_of_lt_of_le HP.out.lt hb) HR1.out), setCells_ext (by rw [HB.out]; exact Nat.le_refl _) _ _ _ (hx.trans hx1)⟩, ?_⟩
      simp [intOf]
      omega
    · obtain rfl : k = l.length := by omega
      go_wp2_with fail
      go_ret
      exact ⟨_, rfl, (hp.done (by unfold maxLen; omega)).sub (fun b hb => by rw [HB.out]; exact hb), hx⟩
set_option maxHeartbeats 4000000 in
theorem toConfig_any {S : Nat → Prop} (x : Config) (cs : List Value) (w : World) (h : EConfig.rel S w cs x) (hs : SmConfig x) :
    Calls Tryz.prog 56 #[.agg cs.toArray] w (RetS EConfig x w) := by
  obtain ⟨v1, v2, v3, rfl, hi, h1, h2, h3⟩ := h
  have HI := Lib.hid hi
  have H1 := Lib.hid h1
  have H2 := Lib.hid h2
  have H3 := Lib.hid h3
  clear hi h1 h2 h3
  simp only [cellsConfig]
  go_enter Tryz.func56, Tryz.ntmps56
  have HS := Lib.hid hs
  clear hs
  go_wp2_with fail
  obtain ⟨W, B, hW, hB, hx0, a0, r0, o0⟩ := boxes3 w #[v1, v2, v3, .int .i64 x.half] #[.slice none 0 0, .slice none 0 0, .slice none 0 0, .int .i64 0] #[.slice none 0 0, .slice none 0 0, .slice none 0 0, .int .i64 0] 26 39 39
  rw [← hW, ← hB]
  have HB := Lib.hid hB
  clear hW hB
  have a_0 := Lib.hid a0
  have r_0 := Lib.hid r0
  have o_0 := Lib.hid o0
  have X_0 := Lib.hid hx0
  clear a0 r0 o0 hx0
  refine (toLabelSS_any x.nodes v1 _ (H1.out.ext (by repeat (first | with_reducible exact X_0.out | refine Ext.setCell ?_ (by show w.heap.size ≤ B + 1 + 1; rw [← HB.out]; omega) _))) (by have h := HS.out; simp only [SmConfig] at h; first | exact h | exact h.1 | exact h.2 | exact h.2.1 | exact h.2.2 | exact h.2.2.1 | exact h.2.2.2 | exact h.2.2.2.1 | exact h.2.2.2.2)).mono ?_
  rintro e w1 ⟨u1, rfl, q1, hx⟩
  obtain ⟨p1, k1, rfl, -⟩ := q1.form
  have Q1 := Lib.hid (q1.sub (S' := fun b => B + 1 + 1 < b) (fun b hb => Nat.lt_of_lt_of_le (by have hl := (show Blk _ _ _ _ from o_0.out).lt; exact hl) hb))
  clear q1
  have a_1 : Hid (Blk w1 B 26 #[v1, v2, v3, .int .i64 x.half]) := Lib.hid (Blk.ext (by repeat (first | with_reducible exact a_0.out | refine Blk.far ?_ (by simp <;> omega) _)) hx)
  have r_1 : Hid (Blk w1 (B + 1) 39 #[.slice none 0 0, .slice none 0 0, .slice none 0 0, .int .i64 0]) := Lib.hid (Blk.ext (by repeat (first | with_reducible exact r_0.out | refine Blk.far ?_ (by simp <;> omega) _)) hx)
  have o_1 : Hid (Blk w1 (B + 1 + 1) 39 #[.slice none 0 0, .slice none 0 0, .slice none 0 0, .int .i64 0]) := Lib.hid (Blk.ext (by simpa using o_0.out) hx)
  have X_1 : Hid (Ext w w1) := Lib.hid (Ext.trans (by repeat (first | with_reducible exact X_0.out | refine Ext.setCell ?_ (by show w.heap.size ≤ B + 1 + 1; rw [← HB.out]; omega) _)) hx)
  clear hx
  have ac := a_1.out.cell
  have oc := o_1.out.cell
  have of := o_1.out.frozen
  clear a_0 r_0 o_0 X_0
  go_wp2_with fail
  refine (toPairS_any x.pairs v2 _ (H2.out.ext (by repeat (first | with_reducible exact X_1.out | refine Ext.setCell ?_ (by show w.heap.size ≤ B + 1 + 1; rw [← HB.out]; omega) _))) (by have h := HS.out; simp only [SmConfig] at h; first | exact h | exact h.1 | exact h.2 | exact h.2.1 | exact h.2.2 | exact h.2.2.1 | exact h.2.2.2 | exact h.2.2.2.1 | exact h.2.2.2.2)).mono ?_
  rintro e w2 ⟨u2, rfl, q2, hx⟩
  obtain ⟨p2, k2, rfl, -⟩ := q2.form
  have Q2 := Lib.hid (q2.sub (S' := fun b => B + 1 + 1 < b) (fun b hb => Nat.lt_of_lt_of_le (by have hl := (show Blk _ _ _ _ from (o_1.out.set_ 0 (.slice p1 x.nodes.length k1))).lt; exact hl) hb))
  clear q2
  have a_2 : Hid (Blk w2 B 26 #[v1, v2, v3, .int .i64 x.half]) := Lib.hid (Blk.ext (by repeat (first | with_reducible exact a_1.out | refine Blk.far ?_ (by simp <;> omega) _)) hx)
  have r_2 : Hid (Blk w2 (B + 1) 39 #[.slice none 0 0, .slice none 0 0, .slice none 0 0, .int .i64 0]) := Lib.hid (Blk.ext (by repeat (first | with_reducible exact r_1.out | refine Blk.far ?_ (by simp <;> omega) _)) hx)
  have o_2 : Hid (Blk w2 (B + 1 + 1) 39 #[.slice p1 x.nodes.length k1, .slice none 0 0, .slice none 0 0, .int .i64 0]) := Lib.hid (Blk.ext (by simpa using (o_1.out.set_ 0 (.slice p1 x.nodes.length k1))) hx)
  have X_2 : Hid (Ext w w2) := Lib.hid (Ext.trans (by repeat (first | with_reducible exact X_1.out | refine Ext.setCell ?_ (by show w.heap.size ≤ B + 1 + 1; rw [← HB.out]; omega) _)) hx)
  replace Q1 := Lib.hid (Rd.ext (Q1.out.keep (by repeat (first | with_reducible exact Same.refl _ _ | refine Same.setCell ?_ (by simp) _))) hx)
  clear hx ac oc of
  have ac := a_2.out.cell
  have oc := o_2.out.cell
  have of := o_2.out.frozen
  clear a_1 r_1 o_1 X_1
  go_wp2_with fail
  refine (toQuotaS_any x.quotas v3 _ (H3.out.ext (by repeat (first | with_reducible exact X_2.out | refine Ext.setCell ?_ (by show w.heap.size ≤ B + 1 + 1; rw [← HB.out]; omega) _))) (by have h := HS.out; simp only [SmConfig] at h; first | exact h | exact h.1 | exact h.2 | exact h.2.1 | exact h.2.2 | exact h.2.2.1 | exact h.2.2.2 | exact h.2.2.2.1 | exact h.2.2.2.2)).mono ?_
  rintro e w3 ⟨u3, rfl, q3, hx⟩
  obtain ⟨p3, k3, rfl, -⟩ := q3.form
  have Q3 := Lib.hid (q3.sub (S' := fun b => B + 1 + 1 < b) (fun b hb => Nat.lt_of_lt_of_le (by have hl := (show Blk _ _ _ _ from (o_2.out.set_ 1 (.slice p2 x.pairs.length k2))).lt; exact hl) hb))
  clear q3
  have a_3 : Hid (Blk w3 B 26 #[v1, v2, v3, .int .i64 x.half]) := Lib.hid (Blk.ext (by repeat (first | with_reducible exact a_2.out | refine Blk.far ?_ (by simp <;> omega) _)) hx)
  have r_3 : Hid (Blk w3 (B + 1) 39 #[.slice none 0 0, .slice none 0 0, .slice none 0 0, .int .i64 0]) := Lib.hid (Blk.ext (by repeat (first | with_reducible exact r_2.out | refine Blk.far ?_ (by simp <;> omega) _)) hx)
  have o_3 : Hid (Blk w3 (B + 1 + 1) 39 #[.slice p1 x.nodes.length k1, .slice p2 x.pairs.length k2, .slice none 0 0, .int .i64 0]) := Lib.hid (Blk.ext (by simpa using (o_2.out.set_ 1 (.slice p2 x.pairs.length k2))) hx)
  have X_3 : Hid (Ext w w3) := Lib.hid (Ext.trans (by repeat (first | with_reducible exact X_2.out | refine Ext.setCell ?_ (by show w.heap.size ≤ B + 1 + 1; rw [← HB.out]; omega) _)) hx)
  replace Q1 := Lib.hid (Rd.ext (Q1.out.keep (by repeat (first | with_reducible exact Same.refl _ _ | refine Same.setCell ?_ (by simp) _))) hx)
  replace Q2 := Lib.hid (Rd.ext (Q2.out.keep (by repeat (first | with_reducible exact Same.refl _ _ | refine Same.setCell ?_ (by simp) _))) hx)
  clear hx ac oc of
  have ac := a_3.out.cell
  have oc := o_3.out.cell
  have of := o_3.out.frozen
  clear a_2 r_2 o_2 X_2
  go_wp2_with (first
    | (refine wpList_load_mid rfl 39 _ rfl (B + 1 + 1) 0 rfl [.slice p1 x.nodes.length k1, .slice p2 x.pairs.length k2, .slice p3 x.quotas.length k3, .int .i64 x.half] _ ?hl Tryz.underlying39 rfl (by kernel_rfl) ?_)
    | (refine wpList_store_mid rfl 39 _ _ rfl (B + 1) 0 #[.slice p1 x.nodes.length k1, .slice p2 x.pairs.length k2, .slice p3 x.quotas.length k3, .int .i64 x.half] rfl rfl ?ht (by kernel_rfl) ?ho ?_))
  case hl => exact Blk.range (t := 39) (cs := #[.slice p1 x.nodes.length k1, .slice p2 x.pairs.length k2, .slice p3 x.quotas.length k3, .int .i64 x.half]) (by simpa using ((o_3.out.set_ 2 (.slice p3 x.quotas.length k3)).set_ 3 (.int .i64 x.half)))
  case ht => exact Blk.there (t := 39) (cs := #[.slice none 0 0, .slice none 0 0, .slice none 0 0, .int .i64 0]) (by repeat (first | with_reducible exact r_3.out | refine Blk.far ?_ (by simp <;> omega) _))
  case ho => exact all_oneCell_toArray (cs := [.slice p1 x.nodes.length k1, .slice p2 x.pairs.length k2, .slice p3 x.quotas.length k3, .int .i64 x.half]) (by simp [Value.oneCell'])
  exact bodyPost_ret (v := .agg #[.slice p1 x.nodes.length k1, .slice p2 x.pairs.length k2, .slice p3 x.quotas.length k3, .int .i64 x.half]) (results_blk Tryz.results56 rfl (Blk.setAll (t := 39) (cs := #[.slice none 0 0, .slice none 0 0, .slice none 0 0, .int .i64 0]) (vs := #[.slice p1 x.nodes.length k1, .slice p2 x.pairs.length k2, .slice p3 x.quotas.length k3, .int .i64 x.half]) (by repeat (first | with_reducible exact r_3.out | refine Blk.far ?_ (by simp <;> omega) _)) rfl) Tryz.underlying39 rfl (by kernel_rfl)) rfl ⟨_, rfl, ⟨_, _, _, rfl, HI.out, Rd.sub (Q1.out.keep (setCells_same' (by repeat (first | with_reducible exact Same.refl _ _ | refine Same.setCell ?_ (by simp) _)) (by simp))) (fun b hb => by rw [← HB.out]; omega), Rd.sub (Q2.out.keep (setCells_same' (by repeat (first | with_reducible exact Same.refl _ _ | refine Same.setCell ?_ (by simp) _)) (by simp))) (fun b hb => by rw [← HB.out]; omega), Rd.sub (Q3.out.keep (setCells_same' (by repeat (first | with_reducible exact Same.refl _ _ | refine Same.setCell ?_ (by simp) _)) (by simp))) (fun b hb => by rw [← HB.out]; omega)⟩, setCells_ext (by rw [← HB.out]; omega) _ _ _ (by repeat (first | with_reducible exact X_3.out | refine Ext.setCell ?_ (by show w.heap.size ≤ B + 1 + 1; rw [← HB.out]; omega) _))⟩
end Go.Proofs.YtngldifgcgblpaaGreat
namespace Go.Proofs.YtngldifgcgblpaaGreat
open Go.RowKit
attribute [local irreducible] wpQuiet
set_option maxHeartbeats 4000000 in
theorem toLabel_own {S : Nat → Prop} (x : Label) (cs : List Value) (w : World) (h : ELabel.rel S w cs x) (_hs : SmLabel x) :
    Calls Tryz.prog 16 #[.agg cs.toArray] w (RetOS OLabel x w) := by
  obtain ⟨rfl, hi⟩ := h
  have HI := Lib.hid hi
  clear hi
  simp only [cellsLabel]
  go_enter Tryz.func16, Tryz.ntmps16
  go_wp2
  exact bodyPost_ret (v := .agg #[.int .i64 x.level, .int .i64 x.set]) (by simp [results, Tryz.results16, go_sem]) rfl ⟨_, [], rfl, ⟨⟨rfl, HI.out⟩, rfl⟩, fun b hb => (by cases hb), (((Ext.refl _).alloc _).alloc _).alloc _⟩
set_option maxHeartbeats 1000000 in
theorem toInt64S_own {S : Nat → Prop} (l : List Int) (v : Value) (w : World) (h : Rd EInt S w v l) (hs : SmInt64S l) :
    Calls Tryz.prog 216 #[v] w (RetO OInt 2 l w) := by
  have hn : l.length ≤ 1048576 := hs.1
  have HS := Lib.hid hs
  obtain ⟨A, c, rfl, h1, h2, hk⟩ := h.open_
  unfold maxLen at h2
  have HK := Lib.hid hk
  clear hk h hs
  have hmk := mk_Int64S l.length hn
  go_enter Tryz.func216, Tryz.ntmps216
  go_wp2_with fail
  have hp0 := PartO.new (O := OInt) (l := l) (T := 2) w (madeCells #[.int .i64 0] (l.length * 1)) (by rw [size_madeCells]; rfl)
  have hx0 : Ext w (w.alloc (.cells (madeCells #[.int .i64 0] (l.length * 1)) 2)) := (Ext.refl w).alloc _
  simp only [Nat.mul_one] at hp0 hx0 ⊢
  generalize hB : w.heap.size = B at hp0 ⊢
  have HB := Lib.hid hB
  clear hB
  go_loopw [4] (fun i w' => ∃ k : Nat, k ≤ l.length ∧ i = .int .i64 k ∧ PartO OInt w' B 2 l k ∧ Ext w w') (fun i _ => l.length - (intOf i).toNat)
  case atStart => exact ⟨0, by omega, rfl, hp0, hx0⟩
  case round =>
    obtain ⟨k, hk1, rfl, hp, hx⟩ := hrel
    clear hp0 hx0
    by_cases hlt : k < l.length
    · obtain ⟨b, o, cs, rfl, hb, hr, hc⟩ := HK.out k hlt
      obtain ⟨rfl, hi⟩ := hr
      have c0 := Ext.some hx (hc 0 _ rfl)
      have ht := hp.there hlt 0 (by decide)
      obtain ⟨u, hu⟩ := Option.isSome_iff_exists.1 ht.1
      have hf := ht.2
      have HI := Lib.hid hi
      have HP := Lib.hid hp
      simp only [EInt, Nat.mul_one, Nat.add_zero] at c0 hu hf
      clear hc ht hi hp hmk
      go_wp2_with fail
      refine ⟨⟨k + 1, by omega, by go_num, ?_, hx.setCell (p := ⟨B, k, none⟩) (by rw [HB.out]; exact Nat.le_refl _) _⟩, ?_⟩
      · have := HP.out.step (Ext.refl _) (cs := [.int .i64 (nth l k)]) (G := []) hlt ⟨⟨rfl, HI.out⟩, rfl⟩ (fun b hb => by cases hb)
        simpa [World.setCells, EInt] using this
      simp [intOf]
      omega
    · obtain rfl : k = l.length := by omega
      go_wp2_with fail
      go_ret
      obtain ⟨F, hF, hge⟩ := hp.done (by unfold maxLen; omega)
      exact ⟨_, F, rfl, hF, fun b hb => by rw [HB.out]; exact hge b hb, hx⟩
set_option maxHeartbeats 4000000 in
theorem toPair_own {S : Nat → Prop} (x : Pair) (cs : List Value) (w : World) (h : EPair.rel S w cs x) (_hs : SmPair x) :
    Calls Tryz.prog 213 #[.agg cs.toArray] w (RetOS OPair x w) := by
  obtain ⟨rfl, hi⟩ := h
  have HI := Lib.hid hi
  clear hi
  simp only [cellsPair]
  go_enter Tryz.func213, Tryz.ntmps213
  go_wp2_with fail
  obtain ⟨W, B, hW, hB, hx0, a0, r0, o0⟩ := boxes3 w #[.int .i64 x.from_.level, .int .i64 x.from_.set, .int .i64 x.to_.level, .int .i64 x.to_.set, .int .i64 x.rate] #[.int .i64 0, .int .i64 0, .int .i64 0, .int .i64 0, .int .i64 0] #[.int .i64 0, .int .i64 0, .int .i64 0, .int .i64 0, .int .i64 0] 217 214 214
  rw [← hW, ← hB]
  have HB := Lib.hid hB
  clear hW hB
  have a_0 := Lib.hid a0
  have r_0 := Lib.hid r0
  have o_0 := Lib.hid o0
  have X_0 := Lib.hid hx0
  clear a0 r0 o0 hx0
  refine (toLabel_any x.from_ [.int .i64 x.from_.level, .int .i64 x.from_.set] _ (S := S) ⟨rfl, (by have hf := HI.out; simp only [FitPair] at hf; simp only [FitLabel, hf, and_self])⟩ trivial).mono ?_
  rintro e w1 ⟨_, rfl, ⟨rfl, _⟩, hx⟩
  simp only [cellsLabel]
  have a_1 : Hid (Blk w1 B 217 #[.int .i64 x.from_.level, .int .i64 x.from_.set, .int .i64 x.to_.level, .int .i64 x.to_.set, .int .i64 x.rate]) := Lib.hid (Blk.ext (by repeat (first | with_reducible exact a_0.out | refine Blk.far ?_ (by simp <;> omega) _)) hx)
  have r_1 : Hid (Blk w1 (B + 1) 214 #[.int .i64 0, .int .i64 0, .int .i64 0, .int .i64 0, .int .i64 0]) := Lib.hid (Blk.ext (by repeat (first | with_reducible exact r_0.out | refine Blk.far ?_ (by simp <;> omega) _)) hx)
  have o_1 : Hid (Blk w1 (B + 1 + 1) 214 #[.int .i64 0, .int .i64 0, .int .i64 0, .int .i64 0, .int .i64 0]) := Lib.hid (Blk.ext (by simpa using o_0.out) hx)
  have X_1 : Hid (Ext w w1) := Lib.hid (Ext.trans (by repeat (first | with_reducible exact X_0.out | refine Ext.setCell ?_ (by show w.heap.size ≤ B + 1 + 1; rw [← HB.out]; omega) _)) hx)
  clear hx
  have ac := a_1.out.cell
  have oc := o_1.out.cell
  have of := o_1.out.frozen
  clear a_0 r_0 o_0 X_0
  go_wp2_with fail
  refine (toLabel_any x.to_ [.int .i64 x.to_.level, .int .i64 x.to_.set] _ (S := S) ⟨rfl, (by have hf := HI.out; simp only [FitPair] at hf; simp only [FitLabel, hf, and_self])⟩ trivial).mono ?_
  rintro e w2 ⟨_, rfl, ⟨rfl, _⟩, hx⟩
  simp only [cellsLabel]
  have a_2 : Hid (Blk w2 B 217 #[.int .i64 x.from_.level, .int .i64 x.from_.set, .int .i64 x.to_.level, .int .i64 x.to_.set, .int .i64 x.rate]) := Lib.hid (Blk.ext (by repeat (first | with_reducible exact a_1.out | refine Blk.far ?_ (by simp <;> omega) _)) hx)
  have r_2 : Hid (Blk w2 (B + 1) 214 #[.int .i64 0, .int .i64 0, .int .i64 0, .int .i64 0, .int .i64 0]) := Lib.hid (Blk.ext (by repeat (first | with_reducible exact r_1.out | refine Blk.far ?_ (by simp <;> omega) _)) hx)
  have o_2 : Hid (Blk w2 (B + 1 + 1) 214 #[.int .i64 x.from_.level, .int .i64 x.from_.set, .int .i64 0, .int .i64 0, .int .i64 0]) := Lib.hid (Blk.ext (by simpa using ((o_1.out.set_ 0 (.int .i64 x.from_.level)).set_ 1 (.int .i64 x.from_.set))) hx)
  have X_2 : Hid (Ext w w2) := Lib.hid (Ext.trans (by repeat (first | with_reducible exact X_1.out | refine Ext.setCell ?_ (by show w.heap.size ≤ B + 1 + 1; rw [← HB.out]; omega) _)) hx)
  clear hx ac oc of
  have ac := a_2.out.cell
  have oc := o_2.out.cell
  have of := o_2.out.frozen
  clear a_1 r_1 o_1 X_1
  go_wp2_with (first
    | (refine wpList_load_mid rfl 214 _ rfl (B + 1 + 1) 0 rfl [.int .i64 x.from_.level, .int .i64 x.from_.set, .int .i64 x.to_.level, .int .i64 x.to_.set, .int .i64 x.rate] _ ?hl Tryz.underlying214 rfl (by kernel_rfl) ?_)
    | (refine wpList_store_mid rfl 214 _ _ rfl (B + 1) 0 #[.int .i64 x.from_.level, .int .i64 x.from_.set, .int .i64 x.to_.level, .int .i64 x.to_.set, .int .i64 x.rate] rfl rfl ?ht (by kernel_rfl) ?ho ?_))
  case hl => exact Blk.range (t := 214) (cs := #[.int .i64 x.from_.level, .int .i64 x.from_.set, .int .i64 x.to_.level, .int .i64 x.to_.set, .int .i64 x.rate]) (by simpa using (((o_2.out.set_ 2 (.int .i64 x.to_.level)).set_ 3 (.int .i64 x.to_.set)).set_ 4 (.int .i64 x.rate)))
  case ht => exact Blk.there (t := 214) (cs := #[.int .i64 0, .int .i64 0, .int .i64 0, .int .i64 0, .int .i64 0]) (by repeat (first | with_reducible exact r_2.out | refine Blk.far ?_ (by simp <;> omega) _))
  case ho => exact all_oneCell_toArray (cs := [.int .i64 x.from_.level, .int .i64 x.from_.set, .int .i64 x.to_.level, .int .i64 x.to_.set, .int .i64 x.rate]) (by simp [Value.oneCell'])
  exact bodyPost_ret (v := .agg #[.int .i64 x.from_.level, .int .i64 x.from_.set, .int .i64 x.to_.level, .int .i64 x.to_.set, .int .i64 x.rate]) (results_blk Tryz.results213 rfl (Blk.setAll (t := 214) (cs := #[.int .i64 0, .int .i64 0, .int .i64 0, .int .i64 0, .int .i64 0]) (vs := #[.int .i64 x.from_.level, .int .i64 x.from_.set, .int .i64 x.to_.level, .int .i64 x.to_.set, .int .i64 x.rate]) (by repeat (first | with_reducible exact r_2.out | refine Blk.far ?_ (by simp <;> omega) _)) rfl) Tryz.underlying214 rfl (by kernel_rfl)) rfl ⟨_, [], rfl, ⟨⟨rfl, HI.out⟩, rfl⟩, fun b hb => (by cases hb), setCells_ext (by rw [← HB.out]; omega) _ _ _ (by repeat (first | with_reducible exact X_2.out | refine Ext.setCell ?_ (by show w.heap.size ≤ B + 1 + 1; rw [← HB.out]; omega) _))⟩
set_option maxHeartbeats 4000000 in
theorem toQuota_own {S : Nat → Prop} (x : Quota) (cs : List Value) (w : World) (h : EQuota.rel S w cs x) (_hs : SmQuota x) :
    Calls Tryz.prog 214 #[.agg cs.toArray] w (RetOS OQuota x w) := by
  obtain ⟨rfl, hi⟩ := h
  have HI := Lib.hid hi
  clear hi
  simp only [cellsQuota]
  go_enter Tryz.func214, Tryz.ntmps214
  go_wp2_with fail
  obtain ⟨W, B, hW, hB, hx0, a0, r0, o0⟩ := boxes3 w #[.int .i64 x.label.level, .int .i64 x.label.set, .int .i64 x.most] #[.int .i64 0, .int .i64 0, .int .i64 0] #[.int .i64 0, .int .i64 0, .int .i64 0] 220 205 205
  rw [← hW, ← hB]
  have HB := Lib.hid hB
  clear hW hB
  have a_0 := Lib.hid a0
  have r_0 := Lib.hid r0
  have o_0 := Lib.hid o0
  have X_0 := Lib.hid hx0
  clear a0 r0 o0 hx0
  refine (toLabel_any x.label [.int .i64 x.label.level, .int .i64 x.label.set] _ (S := S) ⟨rfl, (by have hf := HI.out; simp only [FitQuota] at hf; simp only [FitLabel, hf, and_self])⟩ trivial).mono ?_
  rintro e w1 ⟨_, rfl, ⟨rfl, _⟩, hx⟩
  simp only [cellsLabel]
  have a_1 : Hid (Blk w1 B 220 #[.int .i64 x.label.level, .int .i64 x.label.set, .int .i64 x.most]) := Lib.hid (Blk.ext (by repeat (first | with_reducible exact a_0.out | refine Blk.far ?_ (by simp <;> omega) _)) hx)
  have r_1 : Hid (Blk w1 (B + 1) 205 #[.int .i64 0, .int .i64 0, .int .i64 0]) := Lib.hid (Blk.ext (by repeat (first | with_reducible exact r_0.out | refine Blk.far ?_ (by simp <;> omega) _)) hx)
  have o_1 : Hid (Blk w1 (B + 1 + 1) 205 #[.int .i64 0, .int .i64 0, .int .i64 0]) := Lib.hid (Blk.ext (by simpa using o_0.out) hx)
  have X_1 : Hid (Ext w w1) := Lib.hid (Ext.trans (by repeat (first | with_reducible exact X_0.out | refine Ext.setCell ?_ (by show w.heap.size ≤ B + 1 + 1; rw [← HB.out]; omega) _)) hx)
  clear hx
  have ac := a_1.out.cell
  have oc := o_1.out.cell
  have of := o_1.out.frozen
  clear a_0 r_0 o_0 X_0
  go_wp2_with (first
    | (refine wpList_load_mid rfl 205 _ rfl (B + 1 + 1) 0 rfl [.int .i64 x.label.level, .int .i64 x.label.set, .int .i64 x.most] _ ?hl Tryz.underlying205 rfl (by kernel_rfl) ?_)
    | (refine wpList_store_mid rfl 205 _ _ rfl (B + 1) 0 #[.int .i64 x.label.level, .int .i64 x.label.set, .int .i64 x.most] rfl rfl ?ht (by kernel_rfl) ?ho ?_))
  case hl => exact Blk.range (t := 205) (cs := #[.int .i64 x.label.level, .int .i64 x.label.set, .int .i64 x.most]) (by simpa using (((o_1.out.set_ 0 (.int .i64 x.label.level)).set_ 1 (.int .i64 x.label.set)).set_ 2 (.int .i64 x.most)))
  case ht => exact Blk.there (t := 205) (cs := #[.int .i64 0, .int .i64 0, .int .i64 0]) (by repeat (first | with_reducible exact r_1.out | refine Blk.far ?_ (by simp <;> omega) _))
  case ho => exact all_oneCell_toArray (cs := [.int .i64 x.label.level, .int .i64 x.label.set, .int .i64 x.most]) (by simp [Value.oneCell'])
  exact bodyPost_ret (v := .agg #[.int .i64 x.label.level, .int .i64 x.label.set, .int .i64 x.most]) (results_blk Tryz.results214 rfl (Blk.setAll (t := 205) (cs := #[.int .i64 0, .int .i64 0, .int .i64 0]) (vs := #[.int .i64 x.label.level, .int .i64 x.label.set, .int .i64 x.most]) (by repeat (first | with_reducible exact r_1.out | refine Blk.far ?_ (by simp <;> omega) _)) rfl) Tryz.underlying205 rfl (by kernel_rfl)) rfl ⟨_, [], rfl, ⟨⟨rfl, HI.out⟩, rfl⟩, fun b hb => (by cases hb), setCells_ext (by rw [← HB.out]; omega) _ _ _ (by repeat (first | with_reducible exact X_1.out | refine Ext.setCell ?_ (by show w.heap.size ≤ B + 1 + 1; rw [← HB.out]; omega) _))⟩
set_option maxHeartbeats 1000000 in
theorem toLabelS_own {S : Nat → Prop} (l : List Label) (v : Value) (w : World) (h : Rd ELabel S w v l) (hs : SmLabelS l) :
    Calls Tryz.prog 212 #[v] w (RetO OLabel 49 l w) := by
  have hn : l.length ≤ 1048576 := hs.1
  have HS := Lib.hid hs
  obtain ⟨A, c, rfl, h1, h2, hk⟩ := h.open_
  unfold maxLen at h2
  have HK := Lib.hid hk
  clear hk h hs
  have hmk := mk_LabelS l.length hn
  go_enter Tryz.func212, Tryz.ntmps212
  go_wp2_with fail
  have hp0 := PartO.new (O := OLabel) (l := l) (T := 49) w (madeCells #[.int .i64 0, .int .i64 0] (l.length * 2)) (by rw [size_madeCells]; rfl)
  have hx0 : Ext w (w.alloc (.cells (madeCells #[.int .i64 0, .int .i64 0] (l.length * 2)) 49)) := (Ext.refl w).alloc _
  generalize hB : w.heap.size = B at hp0 ⊢
  have HB := Lib.hid hB
  clear hB
  go_loopw [4] (fun i w' => ∃ k : Nat, k ≤ l.length ∧ i = .int .i64 k ∧ PartO OLabel w' B 49 l k ∧ Ext w w') (fun i _ => l.length - (intOf i).toNat)
  case atStart => exact ⟨0, by omega, rfl, hp0, hx0⟩
  case round =>
    obtain ⟨k, hk1, rfl, hp, hx⟩ := hrel
    clear hp0 hx0
    by_cases hlt : k < l.length
    · obtain ⟨b, o, cs, rfl, hb, hr, hc⟩ := HK.out k hlt
      have HC := Lib.hid (hx.range hc)
      have HI : Hid ((Tryz.prog.info? 33).map (·.size) = some cs.length) := Lib.hid (by rw [ELabel.len hr]; kernel_rfl)
      have HR := Lib.hid (ELabel.keep (hx.same S) hr)
      have HP := Lib.hid hp
      have HM := Lib.hid (HS.out.2 (nth l k) (nth_mem hlt))
      clear hc hr hmk hp
      go_wp2_with (first
        | (go_at_call 16; refine (toLabel_own (nth l k) cs _ HR.out HM.out).mono ?_; rintro e w1 ⟨cs', G1, rfl, hr1, hG1, hx1⟩; have HR1 := Lib.hid hr1; have HG1 := Lib.hid hG1; clear hr1 hG1)
        | (refine wpList_load_mid rfl 33 _ rfl b (o + k * 2) rfl cs _ HC.out Tryz.underlying33 rfl HI.out ?_)
        | (refine wpList_store_mid rfl 49 _ _ rfl B (k * 2) _ rfl rfl ?ht ?hi ?ho ?_))
      case ht => have := (HP.out.ext hx1).there hlt; rw [List.size_toArray, ELabel.len (OLabel.rel HR1.out)]; exact this
      case hi => rw [List.size_toArray, ELabel.len (OLabel.rel HR1.out)]; kernel_rfl
      case ho => exact all_oneCell_toArray (ELabel.one (OLabel.rel HR1.out))
      refine ⟨⟨k + 1, by omega, by go_num, HP.out.step hx1 hlt HR1.out HG1.out, setCells_ext (by rw [HB.out]; exact Nat.le_refl _) _ _ _ (hx.trans hx1)⟩, ?_⟩
      simp [intOf]
      omega
    · obtain rfl : k = l.length := by omega
      go_wp2_with fail
      go_ret
      obtain ⟨F, hF, hge⟩ := hp.done (by unfold maxLen; omega)
      exact ⟨_, F, rfl, hF, fun b hb => by rw [HB.out]; exact hge b hb, hx⟩
set_option maxHeartbeats 1000000 in
theorem toLabelSS_own {S : Nat → Prop} (l : List (List Label)) (v : Value) (w : World) (h : Rd (ERow ELabel) S w v l) (hs : SmLabelSS l) :
    Calls Tryz.prog 124 #[v] w (RetO (ORow OLabel 49) 167 l w) := by
  have hn : l.length ≤ 1048576 := hs.1
  have HS := Lib.hid hs
  obtain ⟨A, c, rfl, h1, h2, hk⟩ := h.open_
  unfold maxLen at h2
  have HK := Lib.hid hk
  clear hk h hs
  have hmk := mk_LabelSS l.length hn
  go_enter Tryz.func124, Tryz.ntmps124
  go_wp2_with fail
  have hp0 := PartO.new (O := (ORow OLabel 49)) (l := l) (T := 167) w (madeCells #[.slice none 0 0] (l.length * 1)) (by rw [size_madeCells]; rfl)
  have hx0 : Ext w (w.alloc (.cells (madeCells #[.slice none 0 0] (l.length * 1)) 167)) := (Ext.refl w).alloc _
  simp only [Nat.mul_one] at hp0 hx0 ⊢
  generalize hB : w.heap.size = B at hp0 ⊢
  have HB := Lib.hid hB
  clear hB
  go_loopw [4] (fun i w' => ∃ k : Nat, k ≤ l.length ∧ i = .int .i64 k ∧ PartO (ORow OLabel 49) w' B 167 l k ∧ Ext w w') (fun i _ => l.length - (intOf i).toNat)
  case atStart => exact ⟨0, by omega, rfl, hp0, hx0⟩
  case round =>
    obtain ⟨k, hk1, rfl, hp, hx⟩ := hrel
    clear hp0 hx0
    by_cases hlt : k < l.length
    · obtain ⟨b, o, cs, rfl, hb, hr, hc⟩ := HK.out k hlt
      obtain ⟨v, rfl, hr⟩ := hr
      have c0 := Ext.some hx (hc 0 _ rfl)
      have ht := hp.there hlt 0 (by decide)
      obtain ⟨u, hu⟩ := Option.isSome_iff_exists.1 ht.1
      have HR := Lib.hid (hr.ext hx)
      have HP := Lib.hid hp
      have HM := Lib.hid (HS.out.2 (nth l k) (nth_mem hlt))
      simp only [ERow, Nat.mul_one, Nat.add_zero] at c0 hu
      clear hc ht hp hmk hr hu
      go_wp2_with fail
      refine (toLabelS_own (nth l k) v _ HR.out HM.out).mono ?_
      rintro e w1 ⟨v1, G1, rfl, hr1, hG1, hx1⟩
      have HG1 := Lib.hid hG1; clear hG1; obtain ⟨A1, c1, rfl, -⟩ := hr1.form
      have HR1 := Lib.hid hr1
      have ht := (HP.out.ext hx1).there hlt 0 (by decide)
      obtain ⟨u, hu⟩ := Option.isSome_iff_exists.1 ht.1
      have hf := ht.2
      simp only [ERow, Nat.mul_one, Nat.add_zero] at hu hf
      clear hr1 ht
      go_wp2_with fail
      refine ⟨⟨k + 1, by omega, by go_num, ?_, (hx.trans hx1).setCell (p := ⟨B, k, none⟩) (by rw [HB.out]; exact Nat.le_refl _) _⟩, ?_⟩
      · have := HP.out.step hx1 (cs := [.slice A1 (nth l k).length c1]) hlt ⟨_, rfl, HR1.out⟩ HG1.out
        simpa [World.setCells, ERow] using this
      simp [intOf]
      omega
    · obtain rfl : k = l.length := by omega
      go_wp2_with fail
      go_ret
      obtain ⟨F, hF, hge⟩ := hp.done (by unfold maxLen; omega)
      exact ⟨_, F, rfl, hF, fun b hb => by rw [HB.out]; exact hge b hb, hx⟩
set_option maxHeartbeats 1000000 in
theorem toPairS_own {S : Nat → Prop} (l : List Pair) (v : Value) (w : World) (h : Rd EPair S w v l) (hs : SmPairS l) :
    Calls Tryz.prog 125 #[v] w (RetO OPair 214 l w) := by
  have hn : l.length ≤ 1048576 := hs.1
  have HS := Lib.hid hs
  obtain ⟨A, c, rfl, h1, h2, hk⟩ := h.open_
  unfold maxLen at h2
  have HK := Lib.hid hk
  clear hk h hs
  have hmk := mk_PairS l.length hn
  go_enter Tryz.func125, Tryz.ntmps125
  go_wp2_with fail
  have hp0 := PartO.new (O := OPair) (l := l) (T := 214) w (madeCells #[.int .i64 0, .int .i64 0, .int .i64 0, .int .i64 0, .int .i64 0] (l.length * 5)) (by rw [size_madeCells]; rfl)
  have hx0 : Ext w (w.alloc (.cells (madeCells #[.int .i64 0, .int .i64 0, .int .i64 0, .int .i64 0, .int .i64 0] (l.length * 5)) 214)) := (Ext.refl w).alloc _
  generalize hB : w.heap.size = B at hp0 ⊢
  have HB := Lib.hid hB
  clear hB
  go_loopw [4] (fun i w' => ∃ k : Nat, k ≤ l.length ∧ i = .int .i64 k ∧ PartO OPair w' B 214 l k ∧ Ext w w') (fun i _ => l.length - (intOf i).toNat)
  case atStart => exact ⟨0, by omega, rfl, hp0, hx0⟩
  case round =>
    obtain ⟨k, hk1, rfl, hp, hx⟩ := hrel
    clear hp0 hx0
    by_cases hlt : k < l.length
    · obtain ⟨b, o, cs, rfl, hb, hr, hc⟩ := HK.out k hlt
      have HC := Lib.hid (hx.range hc)
      have HI : Hid ((Tryz.prog.info? 217).map (·.size) = some cs.length) := Lib.hid (by rw [EPair.len hr]; kernel_rfl)
      have HR := Lib.hid (EPair.keep (hx.same S) hr)
      have HP := Lib.hid hp
      have HM := Lib.hid (HS.out.2 (nth l k) (nth_mem hlt))
      clear hc hr hmk hp
      go_wp2_with (first
        | (go_at_call 213; refine (toPair_own (nth l k) cs _ HR.out HM.out).mono ?_; rintro e w1 ⟨cs', G1, rfl, hr1, hG1, hx1⟩; have HR1 := Lib.hid hr1; have HG1 := Lib.hid hG1; clear hr1 hG1)
        | (refine wpList_load_mid rfl 217 _ rfl b (o + k * 5) rfl cs _ HC.out Tryz.underlying217 rfl HI.out ?_)
        | (refine wpList_store_mid rfl 214 _ _ rfl B (k * 5) _ rfl rfl ?ht ?hi ?ho ?_))
      case ht => have := (HP.out.ext hx1).there hlt; rw [List.size_toArray, EPair.len (OPair.rel HR1.out)]; exact this
      case hi => rw [List.size_toArray, EPair.len (OPair.rel HR1.out)]; kernel_rfl
      case ho => exact all_oneCell_toArray (EPair.one (OPair.rel HR1.out))
      refine ⟨⟨k + 1, by omega, by go_num, HP.out.step hx1 hlt HR1.out HG1.out, setCells_ext (by rw [HB.out]; exact Nat.le_refl _) _ _ _ (hx.trans hx1)⟩, ?_⟩
      simp [intOf]
      omega
    · obtain rfl : k = l.length := by omega
      go_wp2_with fail
      go_ret
      obtain ⟨F, hF, hge⟩ := hp.done (by unfold maxLen; omega)
      exact ⟨_, F, rfl, hF, fun b hb => by rw [HB.out]; exact hge b hb, hx⟩
set_option maxHeartbeats 1000000 in
theorem toQuotaS_own {S : Nat → Prop} (l : List Quota) (v : Value) (w : World) (h : Rd EQuota S w v l) (hs : SmQuotaS l) :
    Calls Tryz.prog 126 #[v] w (RetO OQuota 205 l w) := by
  have hn : l.length ≤ 1048576 := hs.1
  have HS := Lib.hid hs
  obtain ⟨A, c, rfl, h1, h2, hk⟩ := h.open_
  unfold maxLen at h2
  have HK := Lib.hid hk
  clear hk h hs
  have hmk := mk_QuotaS l.length hn
  go_enter Tryz.func126, Tryz.ntmps126
  go_wp2_with fail
  have hp0 := PartO.new (O := OQuota) (l := l) (T := 205) w (madeCells #[.int .i64 0, .int .i64 0, .int .i64 0] (l.length * 3)) (by rw [size_madeCells]; rfl)
  have hx0 : Ext w (w.alloc (.cells (madeCells #[.int .i64 0, .int .i64 0, .int .i64 0] (l.length * 3)) 205)) := (Ext.refl w).alloc _
  generalize hB : w.heap.size = B at hp0 ⊢
  have HB := Lib.hid hB
  clear hB
  go_loopw [4] (fun i w' => ∃ k : Nat, k ≤ l.length ∧ i = .int .i64 k ∧ PartO OQuota w' B 205 l k ∧ Ext w w') (fun i _ => l.length - (intOf i).toNat)
  case atStart => exact ⟨0, by omega, rfl, hp0, hx0⟩
  case round =>
    obtain ⟨k, hk1, rfl, hp, hx⟩ := hrel
    clear hp0 hx0
    by_cases hlt : k < l.length
    · obtain ⟨b, o, cs, rfl, hb, hr, hc⟩ := HK.out k hlt
      have HC := Lib.hid (hx.range hc)
      have HI : Hid ((Tryz.prog.info? 220).map (·.size) = some cs.length) := Lib.hid (by rw [EQuota.len hr]; kernel_rfl)
      have HR := Lib.hid (EQuota.keep (hx.same S) hr)
      have HP := Lib.hid hp
      have HM := Lib.hid (HS.out.2 (nth l k) (nth_mem hlt))
      clear hc hr hmk hp
      go_wp2_with (first
        | (go_at_call 214; refine (toQuota_own (nth l k) cs _ HR.out HM.out).mono ?_; rintro e w1 ⟨cs', G1, rfl, hr1, hG1, hx1⟩; have HR1 := Lib.hid hr1; have HG1 := Lib.hid hG1; clear hr1 hG1)
        | (refine wpList_load_mid rfl 220 _ rfl b (o + k * 3) rfl cs _ HC.out Tryz.underlying220 rfl HI.out ?_)
        | (refine wpList_store_mid rfl 205 _ _ rfl B (k * 3) _ rfl rfl ?ht ?hi ?ho ?_))
      case ht => have := (HP.out.ext hx1).there hlt; rw [List.size_toArray, EQuota.len (OQuota.rel HR1.out)]; exact this
      case hi => rw [List.size_toArray, EQuota.len (OQuota.rel HR1.out)]; kernel_rfl
      case ho => exact all_oneCell_toArray (EQuota.one (OQuota.rel HR1.out))
      refine ⟨⟨k + 1, by omega, by go_num, HP.out.step hx1 hlt HR1.out HG1.out, setCells_ext (by rw [HB.out]; exact Nat.le_refl _) _ _ _ (hx.trans hx1)⟩, ?_⟩
      simp [intOf]
      omega
    · obtain rfl : k = l.length := by omega
      go_wp2_with fail
      go_ret
      obtain ⟨F, hF, hge⟩ := hp.done (by unfold maxLen; omega)
      exact ⟨_, F, rfl, hF, fun b hb => by rw [HB.out]; exact hge b hb, hx⟩
set_option maxHeartbeats 4000000 in
theorem toConfig_own {S : Nat → Prop} (x : Config) (cs : List Value) (w : World) (h : EConfig.rel S w cs x) (hs : SmConfig x) :
    Calls Tryz.prog 56 #[.agg cs.toArray] w (RetOS OConfig x w) := by
  obtain ⟨v1, v2, v3, rfl, hi, h1, h2, h3⟩ := h
  have HI := Lib.hid hi
  have H1 := Lib.hid h1
  have H2 := Lib.hid h2
  have H3 := Lib.hid h3
  clear hi h1 h2 h3
  simp only [cellsConfig]
  go_enter Tryz.func56, Tryz.ntmps56
  have HS := Lib.hid hs
  clear hs
  go_wp2_with fail
  obtain ⟨W, B, hW, hB, hx0, a0, r0, o0⟩ := boxes3 w #[v1, v2, v3, .int .i64 x.half] #[.slice none 0 0, .slice none 0 0, .slice none 0 0, .int .i64 0] #[.slice none 0 0, .slice none 0 0, .slice none 0 0, .int .i64 0] 26 39 39
  rw [← hW, ← hB]
  have HB := Lib.hid hB
  clear hW hB
  have a_0 := Lib.hid a0
  have r_0 := Lib.hid r0
  have o_0 := Lib.hid o0
  have X_0 := Lib.hid hx0
  clear a0 r0 o0 hx0
  refine (toLabelSS_own x.nodes v1 _ (H1.out.ext (by repeat (first | with_reducible exact X_0.out | refine Ext.setCell ?_ (by show w.heap.size ≤ B + 1 + 1; rw [← HB.out]; omega) _))) (by have h := HS.out; simp only [SmConfig] at h; first | exact h | exact h.1 | exact h.2 | exact h.2.1 | exact h.2.2 | exact h.2.2.1 | exact h.2.2.2 | exact h.2.2.2.1 | exact h.2.2.2.2)).mono ?_
  rintro e w1 ⟨u1, F1, rfl, q1, g1, hx⟩
  obtain ⟨p1, k1, rfl, -⟩ := q1.form
  have Q1 := Lib.hid q1
  have L1 : Hid (∀ b ∈ F1, B + 1 + 1 < b) := Lib.hid (fun b hb => Nat.lt_of_lt_of_le (by have hl := (show Blk _ _ _ _ from o_0.out).lt; exact hl) (g1 b hb))
  clear g1
  clear q1
  have a_1 : Hid (Blk w1 B 26 #[v1, v2, v3, .int .i64 x.half]) := Lib.hid (Blk.ext (by repeat (first | with_reducible exact a_0.out | refine Blk.far ?_ (by simp <;> omega) _)) hx)
  have r_1 : Hid (Blk w1 (B + 1) 39 #[.slice none 0 0, .slice none 0 0, .slice none 0 0, .int .i64 0]) := Lib.hid (Blk.ext (by repeat (first | with_reducible exact r_0.out | refine Blk.far ?_ (by simp <;> omega) _)) hx)
  have o_1 : Hid (Blk w1 (B + 1 + 1) 39 #[.slice none 0 0, .slice none 0 0, .slice none 0 0, .int .i64 0]) := Lib.hid (Blk.ext (by simpa using o_0.out) hx)
  have X_1 : Hid (Ext w w1) := Lib.hid (Ext.trans (by repeat (first | with_reducible exact X_0.out | refine Ext.setCell ?_ (by show w.heap.size ≤ B + 1 + 1; rw [← HB.out]; omega) _)) hx)
  clear hx
  have ac := a_1.out.cell
  have oc := o_1.out.cell
  have of := o_1.out.frozen
  clear a_0 r_0 o_0 X_0
  go_wp2_with fail
  refine (toPairS_own x.pairs v2 _ (H2.out.ext (by repeat (first | with_reducible exact X_1.out | refine Ext.setCell ?_ (by show w.heap.size ≤ B + 1 + 1; rw [← HB.out]; omega) _))) (by have h := HS.out; simp only [SmConfig] at h; first | exact h | exact h.1 | exact h.2 | exact h.2.1 | exact h.2.2 | exact h.2.2.1 | exact h.2.2.2 | exact h.2.2.2.1 | exact h.2.2.2.2)).mono ?_
  rintro e w2 ⟨u2, F2, rfl, q2, g2, hx⟩
  obtain ⟨p2, k2, rfl, -⟩ := q2.form
  have Q2 := Lib.hid q2
  have L2 : Hid (∀ b ∈ F2, B + 1 + 1 < b) := Lib.hid (fun b hb => Nat.lt_of_lt_of_le (by have hl := (show Blk _ _ _ _ from (o_1.out.set_ 0 (.slice p1 x.nodes.length k1))).lt; exact hl) (g2 b hb))
  have D1_2 : Hid (∀ b ∈ F1, b ∉ F2) := Lib.hid (fun b h1 h2 => by have a := Q1.out.lt b h1; have c := g2 b h2; (try simp only [World.setCell, Array.size_modify] at c); omega)
  clear g2
  clear q2
  have a_2 : Hid (Blk w2 B 26 #[v1, v2, v3, .int .i64 x.half]) := Lib.hid (Blk.ext (by repeat (first | with_reducible exact a_1.out | refine Blk.far ?_ (by simp <;> omega) _)) hx)
  have r_2 : Hid (Blk w2 (B + 1) 39 #[.slice none 0 0, .slice none 0 0, .slice none 0 0, .int .i64 0]) := Lib.hid (Blk.ext (by repeat (first | with_reducible exact r_1.out | refine Blk.far ?_ (by simp <;> omega) _)) hx)
  have o_2 : Hid (Blk w2 (B + 1 + 1) 39 #[.slice p1 x.nodes.length k1, .slice none 0 0, .slice none 0 0, .int .i64 0]) := Lib.hid (Blk.ext (by simpa using (o_1.out.set_ 0 (.slice p1 x.nodes.length k1))) hx)
  have X_2 : Hid (Ext w w2) := Lib.hid (Ext.trans (by repeat (first | with_reducible exact X_1.out | refine Ext.setCell ?_ (by show w.heap.size ≤ B + 1 + 1; rw [← HB.out]; omega) _)) hx)
  replace Q1 := Lib.hid (OwS.ext (Q1.out.kept (G := [B + 1, B + 1 + 1]) (by repeat (first | exact Kept.refl _ _ | refine Kept.setCell ?_ (by simp) _)) (fun b hb => by have := L1.out b hb; simp; omega)) hx)
  clear hx ac oc of
  have ac := a_2.out.cell
  have oc := o_2.out.cell
  have of := o_2.out.frozen
  clear a_1 r_1 o_1 X_1
  go_wp2_with fail
  refine (toQuotaS_own x.quotas v3 _ (H3.out.ext (by repeat (first | with_reducible exact X_2.out | refine Ext.setCell ?_ (by show w.heap.size ≤ B + 1 + 1; rw [← HB.out]; omega) _))) (by have h := HS.out; simp only [SmConfig] at h; first | exact h | exact h.1 | exact h.2 | exact h.2.1 | exact h.2.2 | exact h.2.2.1 | exact h.2.2.2 | exact h.2.2.2.1 | exact h.2.2.2.2)).mono ?_
  rintro e w3 ⟨u3, F3, rfl, q3, g3, hx⟩
  obtain ⟨p3, k3, rfl, -⟩ := q3.form
  have Q3 := Lib.hid q3
  have L3 : Hid (∀ b ∈ F3, B + 1 + 1 < b) := Lib.hid (fun b hb => Nat.lt_of_lt_of_le (by have hl := (show Blk _ _ _ _ from (o_2.out.set_ 1 (.slice p2 x.pairs.length k2))).lt; exact hl) (g3 b hb))
  have D1_3 : Hid (∀ b ∈ F1, b ∉ F3) := Lib.hid (fun b h1 h2 => by have a := Q1.out.lt b h1; have c := g3 b h2; (try simp only [World.setCell, Array.size_modify] at c); omega)
  have D2_3 : Hid (∀ b ∈ F2, b ∉ F3) := Lib.hid (fun b h1 h2 => by have a := Q2.out.lt b h1; have c := g3 b h2; (try simp only [World.setCell, Array.size_modify] at c); omega)
  clear g3
  clear q3
  have a_3 : Hid (Blk w3 B 26 #[v1, v2, v3, .int .i64 x.half]) := Lib.hid (Blk.ext (by repeat (first | with_reducible exact a_2.out | refine Blk.far ?_ (by simp <;> omega) _)) hx)
  have r_3 : Hid (Blk w3 (B + 1) 39 #[.slice none 0 0, .slice none 0 0, .slice none 0 0, .int .i64 0]) := Lib.hid (Blk.ext (by repeat (first | with_reducible exact r_2.out | refine Blk.far ?_ (by simp <;> omega) _)) hx)
  have o_3 : Hid (Blk w3 (B + 1 + 1) 39 #[.slice p1 x.nodes.length k1, .slice p2 x.pairs.length k2, .slice none 0 0, .int .i64 0]) := Lib.hid (Blk.ext (by simpa using (o_2.out.set_ 1 (.slice p2 x.pairs.length k2))) hx)
  have X_3 : Hid (Ext w w3) := Lib.hid (Ext.trans (by repeat (first | with_reducible exact X_2.out | refine Ext.setCell ?_ (by show w.heap.size ≤ B + 1 + 1; rw [← HB.out]; omega) _)) hx)
  replace Q1 := Lib.hid (OwS.ext (Q1.out.kept (G := [B + 1, B + 1 + 1]) (by repeat (first | exact Kept.refl _ _ | refine Kept.setCell ?_ (by simp) _)) (fun b hb => by have := L1.out b hb; simp; omega)) hx)
  replace Q2 := Lib.hid (OwS.ext (Q2.out.kept (G := [B + 1, B + 1 + 1]) (by repeat (first | exact Kept.refl _ _ | refine Kept.setCell ?_ (by simp) _)) (fun b hb => by have := L2.out b hb; simp; omega)) hx)
  clear hx ac oc of
  have ac := a_3.out.cell
  have oc := o_3.out.cell
  have of := o_3.out.frozen
  clear a_2 r_2 o_2 X_2
  go_wp2_with (first
    | (refine wpList_load_mid rfl 39 _ rfl (B + 1 + 1) 0 rfl [.slice p1 x.nodes.length k1, .slice p2 x.pairs.length k2, .slice p3 x.quotas.length k3, .int .i64 x.half] _ ?hl Tryz.underlying39 rfl (by kernel_rfl) ?_)
    | (refine wpList_store_mid rfl 39 _ _ rfl (B + 1) 0 #[.slice p1 x.nodes.length k1, .slice p2 x.pairs.length k2, .slice p3 x.quotas.length k3, .int .i64 x.half] rfl rfl ?ht (by kernel_rfl) ?ho ?_))
  case hl => exact Blk.range (t := 39) (cs := #[.slice p1 x.nodes.length k1, .slice p2 x.pairs.length k2, .slice p3 x.quotas.length k3, .int .i64 x.half]) (by simpa using ((o_3.out.set_ 2 (.slice p3 x.quotas.length k3)).set_ 3 (.int .i64 x.half)))
  case ht => exact Blk.there (t := 39) (cs := #[.slice none 0 0, .slice none 0 0, .slice none 0 0, .int .i64 0]) (by repeat (first | with_reducible exact r_3.out | refine Blk.far ?_ (by simp <;> omega) _))
  case ho => exact all_oneCell_toArray (cs := [.slice p1 x.nodes.length k1, .slice p2 x.pairs.length k2, .slice p3 x.quotas.length k3, .int .i64 x.half]) (by simp [Value.oneCell'])
  exact bodyPost_ret (v := .agg #[.slice p1 x.nodes.length k1, .slice p2 x.pairs.length k2, .slice p3 x.quotas.length k3, .int .i64 x.half]) (results_blk Tryz.results56 rfl (Blk.setAll (t := 39) (cs := #[.slice none 0 0, .slice none 0 0, .slice none 0 0, .int .i64 0]) (vs := #[.slice p1 x.nodes.length k1, .slice p2 x.pairs.length k2, .slice p3 x.quotas.length k3, .int .i64 x.half]) (by repeat (first | with_reducible exact r_3.out | refine Blk.far ?_ (by simp <;> omega) _)) rfl) Tryz.underlying39 rfl (by kernel_rfl)) rfl ⟨_, F1 ++ (F2 ++ F3), rfl, ⟨_, _, _, F1, F2, F3, rfl, HI.out, (Q1.out.kept (G := [B + 1, B + 1 + 1]) (Kept.setCells (by simp) _ _ _ (by repeat (first | exact Kept.refl _ _ | refine Kept.setCell ?_ (by simp) _))) (fun b hb => by have := L1.out b hb; simp; omega)), (Q2.out.kept (G := [B + 1, B + 1 + 1]) (Kept.setCells (by simp) _ _ _ (by repeat (first | exact Kept.refl _ _ | refine Kept.setCell ?_ (by simp) _))) (fun b hb => by have := L2.out b hb; simp; omega)), (Q3.out.kept (G := [B + 1, B + 1 + 1]) (Kept.setCells (by simp) _ _ _ (by repeat (first | exact Kept.refl _ _ | refine Kept.setCell ?_ (by simp) _))) (fun b hb => by have := L3.out b hb; simp; omega)), rfl, (nodup_two Q1.out.nodup (nodup_two Q2.out.nodup Q3.out.nodup (fun b hb hm => by (try simp only [List.mem_append] at hm); exact D2_3.out b hb hm)) (fun b hb hm => by (try simp only [List.mem_append] at hm); rcases hm with hm | hm <;> first | exact D1_2.out b hb hm | exact D1_3.out b hb hm))⟩, fun b hb => (by rw [← HB.out]; simp only [List.mem_append] at hb; rcases hb with hb | hb | hb <;> first | (have := L1.out b hb; omega) | (have := L2.out b hb; omega) | (have := L3.out b hb; omega)), setCells_ext (by rw [← HB.out]; omega) _ _ _ (by repeat (first | with_reducible exact X_3.out | refine Ext.setCell ?_ (by show w.heap.size ≤ B + 1 + 1; rw [← HB.out]; omega) _))⟩
end Go.Proofs.YtngldifgcgblpaaGreat
namespace Go.Proofs.YtngldifgcgblpaaGreat
open Go.RowKit
attribute [local irreducible] wpQuiet
def OYard : Own EYard where
  own := fun w cs x F => ∃ v1 v2 v3 v4 v5 v6 F1 F2 F3 F4 F5 F6, cs = cellsYard x v1 v2 v3 v4 v5 v6 ∧ FitYard x ∧ OwS (ORow OLabel 49) 167 w v1 x.config.nodes F1 ∧ OwS OPair 214 w v2 x.config.pairs F2 ∧ OwS OQuota 205 w v3 x.config.quotas F3 ∧ OwS ONode 151 w v4 x.nodes F4 ∧ OwS OTask 87 w v5 x.tasks F5 ∧ OwS OUse 155 w v6 x.uses F6 ∧ F = F1 ++ (F2 ++ (F3 ++ (F4 ++ (F5 ++ F6)))) ∧ F.Nodup
  rel := by rintro _ _ _ _ ⟨v1, v2, v3, v4, v5, v6, F1, F2, F3, F4, F5, F6, rfl, hf, h1, h2, h3, h4, h5, h6, rfl, _⟩; exact ⟨_, _, _, _, _, _, rfl, hf, h1.rd.sub (fun b hb => by simp [hb]), h2.rd.sub (fun b hb => by simp [hb]), h3.rd.sub (fun b hb => by simp [hb]), h4.rd.sub (fun b hb => by simp [hb]), h5.rd.sub (fun b hb => by simp [hb]), h6.rd.sub (fun b hb => by simp [hb])⟩
  keep := by rintro _ _ _ _ _ hb ⟨v1, v2, v3, v4, v5, v6, F1, F2, F3, F4, F5, F6, rfl, hf, h1, h2, h3, h4, h5, h6, rfl, hn⟩; exact ⟨_, _, _, _, _, _, _, _, _, _, _, _, rfl, hf, h1.keep (fun b hm => hb b (by simp [hm])), h2.keep (fun b hm => hb b (by simp [hm])), h3.keep (fun b hm => hb b (by simp [hm])), h4.keep (fun b hm => hb b (by simp [hm])), h5.keep (fun b hm => hb b (by simp [hm])), h6.keep (fun b hm => hb b (by simp [hm])), rfl, hn⟩
  lt := by rintro _ _ _ _ ⟨v1, v2, v3, v4, v5, v6, F1, F2, F3, F4, F5, F6, rfl, _, h1, h2, h3, h4, h5, h6, rfl, _⟩ b hb; simp only [List.mem_append] at hb; rcases hb with hb | hb | hb | hb | hb | hb <;> first | exact h1.lt b hb | exact h2.lt b hb | exact h3.lt b hb | exact h4.lt b hb | exact h5.lt b hb | exact h6.lt b hb
  nodup := by rintro _ _ _ _ ⟨v1, v2, v3, v4, v5, v6, F1, F2, F3, F4, F5, F6, rfl, _, _, _, _, _, _, _, rfl, hn⟩; exact hn
def OYardOut : Own EYardOut where
  own := fun w cs x F => ∃ v1 v2 v3 v4 v5 v6 F1 F2 F3 F4 F5 F6, cs = cellsYardOut x v1 v2 v3 v4 v5 v6 ∧ FitYardOut x ∧ OwS (ORow OLabel 49) 167 w v1 x.yard.config.nodes F1 ∧ OwS OPair 214 w v2 x.yard.config.pairs F2 ∧ OwS OQuota 205 w v3 x.yard.config.quotas F3 ∧ OwS ONode 151 w v4 x.yard.nodes F4 ∧ OwS OTask 87 w v5 x.yard.tasks F5 ∧ OwS OUse 155 w v6 x.yard.uses F6 ∧ F = F1 ++ (F2 ++ (F3 ++ (F4 ++ (F5 ++ F6)))) ∧ F.Nodup
  rel := by rintro _ _ _ _ ⟨v1, v2, v3, v4, v5, v6, F1, F2, F3, F4, F5, F6, rfl, hf, h1, h2, h3, h4, h5, h6, rfl, _⟩; exact ⟨_, _, _, _, _, _, rfl, hf, h1.rd.sub (fun b hb => by simp [hb]), h2.rd.sub (fun b hb => by simp [hb]), h3.rd.sub (fun b hb => by simp [hb]), h4.rd.sub (fun b hb => by simp [hb]), h5.rd.sub (fun b hb => by simp [hb]), h6.rd.sub (fun b hb => by simp [hb])⟩
  keep := by rintro _ _ _ _ _ hb ⟨v1, v2, v3, v4, v5, v6, F1, F2, F3, F4, F5, F6, rfl, hf, h1, h2, h3, h4, h5, h6, rfl, hn⟩; exact ⟨_, _, _, _, _, _, _, _, _, _, _, _, rfl, hf, h1.keep (fun b hm => hb b (by simp [hm])), h2.keep (fun b hm => hb b (by simp [hm])), h3.keep (fun b hm => hb b (by simp [hm])), h4.keep (fun b hm => hb b (by simp [hm])), h5.keep (fun b hm => hb b (by simp [hm])), h6.keep (fun b hm => hb b (by simp [hm])), rfl, hn⟩
  lt := by rintro _ _ _ _ ⟨v1, v2, v3, v4, v5, v6, F1, F2, F3, F4, F5, F6, rfl, _, h1, h2, h3, h4, h5, h6, rfl, _⟩ b hb; simp only [List.mem_append] at hb; rcases hb with hb | hb | hb | hb | hb | hb <;> first | exact h1.lt b hb | exact h2.lt b hb | exact h3.lt b hb | exact h4.lt b hb | exact h5.lt b hb | exact h6.lt b hb
  nodup := by rintro _ _ _ _ ⟨v1, v2, v3, v4, v5, v6, F1, F2, F3, F4, F5, F6, rfl, _, _, _, _, _, _, _, rfl, hn⟩; exact hn
set_option maxHeartbeats 4000000 in
theorem toSpan_any {S : Nat → Prop} (x : Span) (cs : List Value) (w : World) (h : ESpan.rel S w cs x) (_hs : SmSpan x) :
    Calls Tryz.prog 36 #[.agg cs.toArray] w (RetS ESpan x w) := by
  obtain ⟨rfl, hi⟩ := h
  have HI := Lib.hid hi
  clear hi
  simp only [cellsSpan]
  go_enter Tryz.func36, Tryz.ntmps36
  go_wp2
  exact bodyPost_ret (v := .agg #[.int .i64 x.from_, .int .i64 x.to_]) (by simp [results, Tryz.results36, go_sem]) rfl ⟨_, rfl, ⟨rfl, HI.out⟩, (((Ext.refl _).alloc _).alloc _).alloc _⟩
theorem mk_SpanS (n : Nat) (hn : n ≤ 1048576) (W : World) : (Instr.makeSlice 149 (.int .i64 (n : Int)) (.int .i64 (n : Int))).run Tryz.prog W = .ok (.slice (some ⟨W.heap.size, 0, none⟩) n n) (W.alloc (.cells (madeCells #[.int .i64 0, .int .i64 0] (n * 2)) 63)) := by
  obtain ⟨i0, hi, hz0, hz1, hz2⟩ := info_parts (show (Tryz.prog.info? 63).map (fun i => (i.zero, i.size, i.bytes)) = some (some (.agg #[.int .i64 0, .int .i64 0]), 2, 16) by kernel_rfl)
  have := run_make (P := Tryz.prog) W 149 63 i0 _ Tryz.underlying149 hi hz0 .i64 .i64 n n (by omega) (by omega) (by rw [hz2]; omega) (by omega)
  simpa [hz1, Value.cells] using this
set_option maxHeartbeats 1000000 in
theorem toSpanS_any {S : Nat → Prop} (l : List Span) (v : Value) (w : World) (h : Rd ESpan S w v l) (hs : SmSpanS l) :
    Calls Tryz.prog 215 #[v] w (RetL ESpan l w) := by
  have hn : l.length ≤ 1048576 := hs.1
  have HS := Lib.hid hs
  obtain ⟨A, c, rfl, h1, h2, hk⟩ := h.open_
  unfold maxLen at h2
  have HK := Lib.hid hk
  clear hk h hs
  have hmk := mk_SpanS l.length hn
  go_enter Tryz.func215, Tryz.ntmps215
  go_wp2_with fail
  have hp0 := Part.new (E := ESpan) (l := l) (T := 63) w (madeCells #[.int .i64 0, .int .i64 0] (l.length * 2)) (by rw [size_madeCells]; rfl)
  have hx0 : Ext w (w.alloc (.cells (madeCells #[.int .i64 0, .int .i64 0] (l.length * 2)) 63)) := (Ext.refl w).alloc _
  generalize hB : w.heap.size = B at hp0 ⊢
  have HB := Lib.hid hB
  clear hB
  go_loopw [4] (fun i w' => ∃ k : Nat, k ≤ l.length ∧ i = .int .i64 k ∧ Part ESpan w' B 63 l k ∧ Ext w w') (fun i _ => l.length - (intOf i).toNat)
  case atStart => exact ⟨0, by omega, rfl, hp0, hx0⟩
  case round =>
    obtain ⟨k, hk1, rfl, hp, hx⟩ := hrel
    clear hp0 hx0
    by_cases hlt : k < l.length
    · obtain ⟨b, o, cs, rfl, hb, hr, hc⟩ := HK.out k hlt
      have HC := Lib.hid (hx.range hc)
      have HI : Hid ((Tryz.prog.info? 61).map (·.size) = some cs.length) := Lib.hid (by rw [ESpan.len hr]; kernel_rfl)
      have HR := Lib.hid (ESpan.keep (hx.same S) hr)
      have HP := Lib.hid hp
      have HM := Lib.hid (HS.out.2 (nth l k) (nth_mem hlt))
      clear hc hr hmk hp
      go_wp2_with (first
        | (go_at_call 36; refine (toSpan_any (nth l k) cs _ HR.out HM.out).mono ?_; rintro e w1 ⟨cs', rfl, hr1, hx1⟩; have HR1 := Lib.hid hr1; clear hr1)
        | (refine wpList_load_mid rfl 61 _ rfl b (o + k * 2) rfl cs _ HC.out Tryz.underlying61 rfl HI.out ?_)
        | (refine wpList_store_mid rfl 63 _ _ rfl B (k * 2) _ rfl rfl ?ht ?hi ?ho ?_))
      case ht => have := (HP.out.ext hx1).there hlt; rw [List.size_toArray, ESpan.len HR1.out]; exact this
      case hi => rw [List.size_toArray, ESpan.len HR1.out]; kernel_rfl
      case ho => exact all_oneCell_toArray (ESpan.one HR1.out)
      refine ⟨⟨k + 1, by omega, by go_num, (HP.out.ext hx1).step hlt (ESpan.sub (fun b hb => Nat.lt_of_lt_of_le HP.out.lt hb) HR1.out), setCells_ext (by rw [HB.out]; exact Nat.le_refl _) _ _ _ (hx.trans hx1)⟩, ?_⟩
      simp [intOf]
      omega
    · obtain rfl : k = l.length := by omega
      go_wp2_with fail
      go_ret
      exact ⟨_, rfl, (hp.done (by unfold maxLen; omega)).sub (fun b hb => by rw [HB.out]; exact hb), hx⟩
set_option maxHeartbeats 4000000 in
theorem toNode_any {S : Nat → Prop} (x : Node) (cs : List Value) (w : World) (h : ENode.rel S w cs x) (hs : SmNode x) :
    Calls Tryz.prog 127 #[.agg cs.toArray] w (RetS ENode x w) := by
  obtain ⟨v1, rfl, hi, h1⟩ := h
  have HI := Lib.hid hi
  have H1 := Lib.hid h1
  clear hi h1
  simp only [cellsNode]
  go_enter Tryz.func127, Tryz.ntmps127
  have HS := Lib.hid hs
  clear hs
  go_wp2_with fail
  obtain ⟨W, B, hW, hB, hx0, a0, r0, o0⟩ := boxes3 w #[.int .i64 x.state, v1] #[.int .i64 0, .slice none 0 0] #[.int .i64 x.state, .slice none 0 0] 137 151 151
  rw [← hW, ← hB]
  have HB := Lib.hid hB
  clear hW hB
  have a_0 := Lib.hid a0
  have r_0 := Lib.hid r0
  have o_0 := Lib.hid o0
  have X_0 := Lib.hid hx0
  clear a0 r0 o0 hx0
  refine (toSpanS_any x.books v1 _ (H1.out.ext (by repeat (first | with_reducible exact X_0.out | refine Ext.setCell ?_ (by show w.heap.size ≤ B + 1 + 1; rw [← HB.out]; omega) _))) (by have h := HS.out; simp only [SmNode] at h; first | exact h | exact h.1 | exact h.2 | exact h.2.1 | exact h.2.2 | exact h.2.2.1 | exact h.2.2.2 | exact h.2.2.2.1 | exact h.2.2.2.2)).mono ?_
  rintro e w1 ⟨u1, rfl, q1, hx⟩
  obtain ⟨p1, k1, rfl, -⟩ := q1.form
  have Q1 := Lib.hid (q1.sub (S' := fun b => B + 1 + 1 < b) (fun b hb => Nat.lt_of_lt_of_le (by have hl := (show Blk _ _ _ _ from o_0.out).lt; exact hl) hb))
  clear q1
  have a_1 : Hid (Blk w1 B 137 #[.int .i64 x.state, v1]) := Lib.hid (Blk.ext (by repeat (first | with_reducible exact a_0.out | refine Blk.far ?_ (by simp <;> omega) _)) hx)
  have r_1 : Hid (Blk w1 (B + 1) 151 #[.int .i64 0, .slice none 0 0]) := Lib.hid (Blk.ext (by repeat (first | with_reducible exact r_0.out | refine Blk.far ?_ (by simp <;> omega) _)) hx)
  have o_1 : Hid (Blk w1 (B + 1 + 1) 151 #[.int .i64 x.state, .slice none 0 0]) := Lib.hid (Blk.ext (by simpa using o_0.out) hx)
  have X_1 : Hid (Ext w w1) := Lib.hid (Ext.trans (by repeat (first | with_reducible exact X_0.out | refine Ext.setCell ?_ (by show w.heap.size ≤ B + 1 + 1; rw [← HB.out]; omega) _)) hx)
  clear hx
  have ac := a_1.out.cell
  have oc := o_1.out.cell
  have of := o_1.out.frozen
  clear a_0 r_0 o_0 X_0
  go_wp2_with (first
    | (refine wpList_load_mid rfl 151 _ rfl (B + 1 + 1) 0 rfl [.int .i64 x.state, .slice p1 x.books.length k1] _ ?hl Tryz.underlying151 rfl (by kernel_rfl) ?_)
    | (refine wpList_store_mid rfl 151 _ _ rfl (B + 1) 0 #[.int .i64 x.state, .slice p1 x.books.length k1] rfl rfl ?ht (by kernel_rfl) ?ho ?_))
  case hl => exact Blk.range (t := 151) (cs := #[.int .i64 x.state, .slice p1 x.books.length k1]) (by simpa using (o_1.out.set_ 1 (.slice p1 x.books.length k1)))
  case ht => exact Blk.there (t := 151) (cs := #[.int .i64 0, .slice none 0 0]) (by repeat (first | with_reducible exact r_1.out | refine Blk.far ?_ (by simp <;> omega) _))
  case ho => exact all_oneCell_toArray (cs := [.int .i64 x.state, .slice p1 x.books.length k1]) (by simp [Value.oneCell'])
  exact bodyPost_ret (v := .agg #[.int .i64 x.state, .slice p1 x.books.length k1]) (results_blk Tryz.results127 rfl (Blk.setAll (t := 151) (cs := #[.int .i64 0, .slice none 0 0]) (vs := #[.int .i64 x.state, .slice p1 x.books.length k1]) (by repeat (first | with_reducible exact r_1.out | refine Blk.far ?_ (by simp <;> omega) _)) rfl) Tryz.underlying151 rfl (by kernel_rfl)) rfl ⟨_, rfl, ⟨_, rfl, HI.out, Rd.sub (Q1.out.keep (setCells_same' (by repeat (first | with_reducible exact Same.refl _ _ | refine Same.setCell ?_ (by simp) _)) (by simp))) (fun b hb => by rw [← HB.out]; omega)⟩, setCells_ext (by rw [← HB.out]; omega) _ _ _ (by repeat (first | with_reducible exact X_1.out | refine Ext.setCell ?_ (by show w.heap.size ≤ B + 1 + 1; rw [← HB.out]; omega) _))⟩
set_option maxHeartbeats 4000000 in
theorem toUse_any {S : Nat → Prop} (x : Use) (cs : List Value) (w : World) (h : EUse.rel S w cs x) (_hs : SmUse x) :
    Calls Tryz.prog 129 #[.agg cs.toArray] w (RetS EUse x w) := by
  obtain ⟨rfl, hi⟩ := h
  have HI := Lib.hid hi
  clear hi
  simp only [cellsUse]
  go_enter Tryz.func129, Tryz.ntmps129
  go_wp2_with fail
  obtain ⟨W, B, hW, hB, hx0, a0, r0, o0⟩ := boxes3 w #[.int .i64 x.label.level, .int .i64 x.label.set, .string x.owner, .int .i64 x.used] #[.int .i64 0, .int .i64 0, .string ⟨#[]⟩, .int .i64 0] #[.int .i64 0, .int .i64 0, .string ⟨#[]⟩, .int .i64 0] 143 155 155
  rw [← hW, ← hB]
  have HB := Lib.hid hB
  clear hW hB
  have a_0 := Lib.hid a0
  have r_0 := Lib.hid r0
  have o_0 := Lib.hid o0
  have X_0 := Lib.hid hx0
  clear a0 r0 o0 hx0
  refine (toLabel_any x.label [.int .i64 x.label.level, .int .i64 x.label.set] _ (S := S) ⟨rfl, (by have hf := HI.out; simp only [FitUse] at hf; simp only [FitLabel, hf, and_self])⟩ trivial).mono ?_
  rintro e w1 ⟨_, rfl, ⟨rfl, _⟩, hx⟩
  simp only [cellsLabel]
  have a_1 : Hid (Blk w1 B 143 #[.int .i64 x.label.level, .int .i64 x.label.set, .string x.owner, .int .i64 x.used]) := Lib.hid (Blk.ext (by repeat (first | with_reducible exact a_0.out | refine Blk.far ?_ (by simp <;> omega) _)) hx)
  have r_1 : Hid (Blk w1 (B + 1) 155 #[.int .i64 0, .int .i64 0, .string ⟨#[]⟩, .int .i64 0]) := Lib.hid (Blk.ext (by repeat (first | with_reducible exact r_0.out | refine Blk.far ?_ (by simp <;> omega) _)) hx)
  have o_1 : Hid (Blk w1 (B + 1 + 1) 155 #[.int .i64 0, .int .i64 0, .string ⟨#[]⟩, .int .i64 0]) := Lib.hid (Blk.ext (by simpa using o_0.out) hx)
  have X_1 : Hid (Ext w w1) := Lib.hid (Ext.trans (by repeat (first | with_reducible exact X_0.out | refine Ext.setCell ?_ (by show w.heap.size ≤ B + 1 + 1; rw [← HB.out]; omega) _)) hx)
  clear hx
  have ac := a_1.out.cell
  have oc := o_1.out.cell
  have of := o_1.out.frozen
  clear a_0 r_0 o_0 X_0
  go_wp2_with (first
    | (refine wpList_load_mid rfl 155 _ rfl (B + 1 + 1) 0 rfl [.int .i64 x.label.level, .int .i64 x.label.set, .string x.owner, .int .i64 x.used] _ ?hl Tryz.underlying155 rfl (by kernel_rfl) ?_)
    | (refine wpList_store_mid rfl 155 _ _ rfl (B + 1) 0 #[.int .i64 x.label.level, .int .i64 x.label.set, .string x.owner, .int .i64 x.used] rfl rfl ?ht (by kernel_rfl) ?ho ?_))
  case hl => exact Blk.range (t := 155) (cs := #[.int .i64 x.label.level, .int .i64 x.label.set, .string x.owner, .int .i64 x.used]) (by simpa using ((((o_1.out.set_ 0 (.int .i64 x.label.level)).set_ 1 (.int .i64 x.label.set)).set_ 2 (.string x.owner)).set_ 3 (.int .i64 x.used)))
  case ht => exact Blk.there (t := 155) (cs := #[.int .i64 0, .int .i64 0, .string ⟨#[]⟩, .int .i64 0]) (by repeat (first | with_reducible exact r_1.out | refine Blk.far ?_ (by simp <;> omega) _))
  case ho => exact all_oneCell_toArray (cs := [.int .i64 x.label.level, .int .i64 x.label.set, .string x.owner, .int .i64 x.used]) (by simp [Value.oneCell'])
  exact bodyPost_ret (v := .agg #[.int .i64 x.label.level, .int .i64 x.label.set, .string x.owner, .int .i64 x.used]) (results_blk Tryz.results129 rfl (Blk.setAll (t := 155) (cs := #[.int .i64 0, .int .i64 0, .string ⟨#[]⟩, .int .i64 0]) (vs := #[.int .i64 x.label.level, .int .i64 x.label.set, .string x.owner, .int .i64 x.used]) (by repeat (first | with_reducible exact r_1.out | refine Blk.far ?_ (by simp <;> omega) _)) rfl) Tryz.underlying155 rfl (by kernel_rfl)) rfl ⟨_, rfl, ⟨rfl, HI.out⟩, setCells_ext (by rw [← HB.out]; omega) _ _ _ (by repeat (first | with_reducible exact X_1.out | refine Ext.setCell ?_ (by show w.heap.size ≤ B + 1 + 1; rw [← HB.out]; omega) _))⟩
set_option maxHeartbeats 4000000 in
theorem toTask_any {S : Nat → Prop} (x : Task) (cs : List Value) (w : World) (h : ETask.rel S w cs x) (hs : SmTask x) :
    Calls Tryz.prog 128 #[.agg cs.toArray] w (RetS ETask x w) := by
  obtain ⟨v1, rfl, hi, h1⟩ := h
  have HI := Lib.hid hi
  have H1 := Lib.hid h1
  clear hi h1
  simp only [cellsTask]
  go_enter Tryz.func128, Tryz.ntmps128
  have HS := Lib.hid hs
  clear hs
  go_wp2_with fail
  obtain ⟨W, B, hW, hB, hx0, a0, r0, o0⟩ := boxes3 w #[.int .i64 x.label.level, .int .i64 x.label.set, .int .i64 x.id, .string x.owner, .int .i64 x.need, .int .i64 x.long, .int .i64 x.prio, .int .i64 x.under.level, .int .i64 x.under.set, .int .i64 x.after, .int .i64 x.born, .int .i64 x.state, .int .i64 x.start, v1] #[.int .i64 0, .int .i64 0, .int .i64 0, .string ⟨#[]⟩, .int .i64 0, .int .i64 0, .int .i64 0, .int .i64 0, .int .i64 0, .int .i64 0, .int .i64 0, .int .i64 0, .int .i64 0, .slice none 0 0] #[.int .i64 0, .int .i64 0, .int .i64 0, .string ⟨#[]⟩, .int .i64 0, .int .i64 0, .int .i64 0, .int .i64 0, .int .i64 0, .int .i64 0, .int .i64 0, .int .i64 0, .int .i64 0, .slice none 0 0] 140 87 87
  rw [← hW, ← hB]
  have HB := Lib.hid hB
  clear hW hB
  have a_0 := Lib.hid a0
  have r_0 := Lib.hid r0
  have o_0 := Lib.hid o0
  have X_0 := Lib.hid hx0
  clear a0 r0 o0 hx0
  refine (toLabel_any x.label [.int .i64 x.label.level, .int .i64 x.label.set] _ (S := S) ⟨rfl, (by have hf := HI.out; simp only [FitTask] at hf; simp only [FitLabel, hf, and_self])⟩ trivial).mono ?_
  rintro e w1 ⟨_, rfl, ⟨rfl, _⟩, hx⟩
  simp only [cellsLabel]
  have a_1 : Hid (Blk w1 B 140 #[.int .i64 x.label.level, .int .i64 x.label.set, .int .i64 x.id, .string x.owner, .int .i64 x.need, .int .i64 x.long, .int .i64 x.prio, .int .i64 x.under.level, .int .i64 x.under.set, .int .i64 x.after, .int .i64 x.born, .int .i64 x.state, .int .i64 x.start, v1]) := Lib.hid (Blk.ext (by repeat (first | with_reducible exact a_0.out | refine Blk.far ?_ (by simp <;> omega) _)) hx)
  have r_1 : Hid (Blk w1 (B + 1) 87 #[.int .i64 0, .int .i64 0, .int .i64 0, .string ⟨#[]⟩, .int .i64 0, .int .i64 0, .int .i64 0, .int .i64 0, .int .i64 0, .int .i64 0, .int .i64 0, .int .i64 0, .int .i64 0, .slice none 0 0]) := Lib.hid (Blk.ext (by repeat (first | with_reducible exact r_0.out | refine Blk.far ?_ (by simp <;> omega) _)) hx)
  have o_1 : Hid (Blk w1 (B + 1 + 1) 87 #[.int .i64 0, .int .i64 0, .int .i64 0, .string ⟨#[]⟩, .int .i64 0, .int .i64 0, .int .i64 0, .int .i64 0, .int .i64 0, .int .i64 0, .int .i64 0, .int .i64 0, .int .i64 0, .slice none 0 0]) := Lib.hid (Blk.ext (by simpa using o_0.out) hx)
  have X_1 : Hid (Ext w w1) := Lib.hid (Ext.trans (by repeat (first | with_reducible exact X_0.out | refine Ext.setCell ?_ (by show w.heap.size ≤ B + 1 + 1; rw [← HB.out]; omega) _)) hx)
  clear hx
  have ac := a_1.out.cell
  have oc := o_1.out.cell
  have of := o_1.out.frozen
  clear a_0 r_0 o_0 X_0
  go_wp2_with fail
  refine (toLabel_any x.under [.int .i64 x.under.level, .int .i64 x.under.set] _ (S := S) ⟨rfl, (by have hf := HI.out; simp only [FitTask] at hf; simp only [FitLabel, hf, and_self])⟩ trivial).mono ?_
  rintro e w2 ⟨_, rfl, ⟨rfl, _⟩, hx⟩
  simp only [cellsLabel]
  have a_2 : Hid (Blk w2 B 140 #[.int .i64 x.label.level, .int .i64 x.label.set, .int .i64 x.id, .string x.owner, .int .i64 x.need, .int .i64 x.long, .int .i64 x.prio, .int .i64 x.under.level, .int .i64 x.under.set, .int .i64 x.after, .int .i64 x.born, .int .i64 x.state, .int .i64 x.start, v1]) := Lib.hid (Blk.ext (by repeat (first | with_reducible exact a_1.out | refine Blk.far ?_ (by simp <;> omega) _)) hx)
  have r_2 : Hid (Blk w2 (B + 1) 87 #[.int .i64 0, .int .i64 0, .int .i64 0, .string ⟨#[]⟩, .int .i64 0, .int .i64 0, .int .i64 0, .int .i64 0, .int .i64 0, .int .i64 0, .int .i64 0, .int .i64 0, .int .i64 0, .slice none 0 0]) := Lib.hid (Blk.ext (by repeat (first | with_reducible exact r_1.out | refine Blk.far ?_ (by simp <;> omega) _)) hx)
  have o_2 : Hid (Blk w2 (B + 1 + 1) 87 #[.int .i64 x.label.level, .int .i64 x.label.set, .int .i64 x.id, .string x.owner, .int .i64 x.need, .int .i64 x.long, .int .i64 x.prio, .int .i64 0, .int .i64 0, .int .i64 0, .int .i64 0, .int .i64 0, .int .i64 0, .slice none 0 0]) := Lib.hid (Blk.ext (by simpa using (((((((o_1.out.set_ 0 (.int .i64 x.label.level)).set_ 1 (.int .i64 x.label.set)).set_ 2 (.int .i64 x.id)).set_ 3 (.string x.owner)).set_ 4 (.int .i64 x.need)).set_ 5 (.int .i64 x.long)).set_ 6 (.int .i64 x.prio))) hx)
  have X_2 : Hid (Ext w w2) := Lib.hid (Ext.trans (by repeat (first | with_reducible exact X_1.out | refine Ext.setCell ?_ (by show w.heap.size ≤ B + 1 + 1; rw [← HB.out]; omega) _)) hx)
  clear hx ac oc of
  have ac := a_2.out.cell
  have oc := o_2.out.cell
  have of := o_2.out.frozen
  clear a_1 r_1 o_1 X_1
  go_wp2_with fail
  refine (toInt64S_any x.nodes v1 _ (H1.out.ext (by repeat (first | with_reducible exact X_2.out | refine Ext.setCell ?_ (by show w.heap.size ≤ B + 1 + 1; rw [← HB.out]; omega) _))) (by have h := HS.out; simp only [SmTask] at h; first | exact h | exact h.1 | exact h.2 | exact h.2.1 | exact h.2.2 | exact h.2.2.1 | exact h.2.2.2 | exact h.2.2.2.1 | exact h.2.2.2.2)).mono ?_
  rintro e w3 ⟨u1, rfl, q1, hx⟩
  obtain ⟨p1, k1, rfl, -⟩ := q1.form
  have Q1 := Lib.hid (q1.sub (S' := fun b => B + 1 + 1 < b) (fun b hb => Nat.lt_of_lt_of_le (by have hl := (show Blk _ _ _ _ from ((((((o_2.out.set_ 7 (.int .i64 x.under.level)).set_ 8 (.int .i64 x.under.set)).set_ 9 (.int .i64 x.after)).set_ 10 (.int .i64 x.born)).set_ 11 (.int .i64 x.state)).set_ 12 (.int .i64 x.start))).lt; exact hl) hb))
  clear q1
  have a_3 : Hid (Blk w3 B 140 #[.int .i64 x.label.level, .int .i64 x.label.set, .int .i64 x.id, .string x.owner, .int .i64 x.need, .int .i64 x.long, .int .i64 x.prio, .int .i64 x.under.level, .int .i64 x.under.set, .int .i64 x.after, .int .i64 x.born, .int .i64 x.state, .int .i64 x.start, v1]) := Lib.hid (Blk.ext (by repeat (first | with_reducible exact a_2.out | refine Blk.far ?_ (by simp <;> omega) _)) hx)
  have r_3 : Hid (Blk w3 (B + 1) 87 #[.int .i64 0, .int .i64 0, .int .i64 0, .string ⟨#[]⟩, .int .i64 0, .int .i64 0, .int .i64 0, .int .i64 0, .int .i64 0, .int .i64 0, .int .i64 0, .int .i64 0, .int .i64 0, .slice none 0 0]) := Lib.hid (Blk.ext (by repeat (first | with_reducible exact r_2.out | refine Blk.far ?_ (by simp <;> omega) _)) hx)
  have o_3 : Hid (Blk w3 (B + 1 + 1) 87 #[.int .i64 x.label.level, .int .i64 x.label.set, .int .i64 x.id, .string x.owner, .int .i64 x.need, .int .i64 x.long, .int .i64 x.prio, .int .i64 x.under.level, .int .i64 x.under.set, .int .i64 x.after, .int .i64 x.born, .int .i64 x.state, .int .i64 x.start, .slice none 0 0]) := Lib.hid (Blk.ext (by simpa using ((((((o_2.out.set_ 7 (.int .i64 x.under.level)).set_ 8 (.int .i64 x.under.set)).set_ 9 (.int .i64 x.after)).set_ 10 (.int .i64 x.born)).set_ 11 (.int .i64 x.state)).set_ 12 (.int .i64 x.start))) hx)
  have X_3 : Hid (Ext w w3) := Lib.hid (Ext.trans (by repeat (first | with_reducible exact X_2.out | refine Ext.setCell ?_ (by show w.heap.size ≤ B + 1 + 1; rw [← HB.out]; omega) _)) hx)
  clear hx ac oc of
  have ac := a_3.out.cell
  have oc := o_3.out.cell
  have of := o_3.out.frozen
  clear a_2 r_2 o_2 X_2
  go_wp2_with (first
    | (refine wpList_load_mid rfl 87 _ rfl (B + 1 + 1) 0 rfl [.int .i64 x.label.level, .int .i64 x.label.set, .int .i64 x.id, .string x.owner, .int .i64 x.need, .int .i64 x.long, .int .i64 x.prio, .int .i64 x.under.level, .int .i64 x.under.set, .int .i64 x.after, .int .i64 x.born, .int .i64 x.state, .int .i64 x.start, .slice p1 x.nodes.length k1] _ ?hl Tryz.underlying87 rfl (by kernel_rfl) ?_)
    | (refine wpList_store_mid rfl 87 _ _ rfl (B + 1) 0 #[.int .i64 x.label.level, .int .i64 x.label.set, .int .i64 x.id, .string x.owner, .int .i64 x.need, .int .i64 x.long, .int .i64 x.prio, .int .i64 x.under.level, .int .i64 x.under.set, .int .i64 x.after, .int .i64 x.born, .int .i64 x.state, .int .i64 x.start, .slice p1 x.nodes.length k1] rfl rfl ?ht (by kernel_rfl) ?ho ?_))
  case hl => exact Blk.range (t := 87) (cs := #[.int .i64 x.label.level, .int .i64 x.label.set, .int .i64 x.id, .string x.owner, .int .i64 x.need, .int .i64 x.long, .int .i64 x.prio, .int .i64 x.under.level, .int .i64 x.under.set, .int .i64 x.after, .int .i64 x.born, .int .i64 x.state, .int .i64 x.start, .slice p1 x.nodes.length k1]) (by simpa using (o_3.out.set_ 13 (.slice p1 x.nodes.length k1)))
  case ht => exact Blk.there (t := 87) (cs := #[.int .i64 0, .int .i64 0, .int .i64 0, .string ⟨#[]⟩, .int .i64 0, .int .i64 0, .int .i64 0, .int .i64 0, .int .i64 0, .int .i64 0, .int .i64 0, .int .i64 0, .int .i64 0, .slice none 0 0]) (by repeat (first | with_reducible exact r_3.out | refine Blk.far ?_ (by simp <;> omega) _))
  case ho => exact all_oneCell_toArray (cs := [.int .i64 x.label.level, .int .i64 x.label.set, .int .i64 x.id, .string x.owner, .int .i64 x.need, .int .i64 x.long, .int .i64 x.prio, .int .i64 x.under.level, .int .i64 x.under.set, .int .i64 x.after, .int .i64 x.born, .int .i64 x.state, .int .i64 x.start, .slice p1 x.nodes.length k1]) (by simp [Value.oneCell'])
  exact bodyPost_ret (v := .agg #[.int .i64 x.label.level, .int .i64 x.label.set, .int .i64 x.id, .string x.owner, .int .i64 x.need, .int .i64 x.long, .int .i64 x.prio, .int .i64 x.under.level, .int .i64 x.under.set, .int .i64 x.after, .int .i64 x.born, .int .i64 x.state, .int .i64 x.start, .slice p1 x.nodes.length k1]) (results_blk Tryz.results128 rfl (Blk.setAll (t := 87) (cs := #[.int .i64 0, .int .i64 0, .int .i64 0, .string ⟨#[]⟩, .int .i64 0, .int .i64 0, .int .i64 0, .int .i64 0, .int .i64 0, .int .i64 0, .int .i64 0, .int .i64 0, .int .i64 0, .slice none 0 0]) (vs := #[.int .i64 x.label.level, .int .i64 x.label.set, .int .i64 x.id, .string x.owner, .int .i64 x.need, .int .i64 x.long, .int .i64 x.prio, .int .i64 x.under.level, .int .i64 x.under.set, .int .i64 x.after, .int .i64 x.born, .int .i64 x.state, .int .i64 x.start, .slice p1 x.nodes.length k1]) (by repeat (first | with_reducible exact r_3.out | refine Blk.far ?_ (by simp <;> omega) _)) rfl) Tryz.underlying87 rfl (by kernel_rfl)) rfl ⟨_, rfl, ⟨_, rfl, HI.out, Rd.sub (Q1.out.keep (setCells_same' (by repeat (first | with_reducible exact Same.refl _ _ | refine Same.setCell ?_ (by simp) _)) (by simp))) (fun b hb => by rw [← HB.out]; omega)⟩, setCells_ext (by rw [← HB.out]; omega) _ _ _ (by repeat (first | with_reducible exact X_3.out | refine Ext.setCell ?_ (by show w.heap.size ≤ B + 1 + 1; rw [← HB.out]; omega) _))⟩
theorem mk_NodeS (n : Nat) (hn : n ≤ 1048576) (W : World) : (Instr.makeSlice 40 (.int .i64 (n : Int)) (.int .i64 (n : Int))).run Tryz.prog W = .ok (.slice (some ⟨W.heap.size, 0, none⟩) n n) (W.alloc (.cells (madeCells #[.int .i64 0, .slice none 0 0] (n * 2)) 151)) := by
  obtain ⟨i0, hi, hz0, hz1, hz2⟩ := info_parts (show (Tryz.prog.info? 151).map (fun i => (i.zero, i.size, i.bytes)) = some (some (.agg #[.int .i64 0, .slice none 0 0]), 2, 32) by kernel_rfl)
  have := run_make (P := Tryz.prog) W 40 151 i0 _ Tryz.underlying40 hi hz0 .i64 .i64 n n (by omega) (by omega) (by rw [hz2]; omega) (by omega)
  simpa [hz1, Value.cells] using this
set_option maxHeartbeats 1000000 in
theorem toNodeS_any {S : Nat → Prop} (l : List Node) (v : Value) (w : World) (h : Rd ENode S w v l) (hs : SmNodeS l) :
    Calls Tryz.prog 57 #[v] w (RetL ENode l w) := by
  have hn : l.length ≤ 1048576 := hs.1
  have HS := Lib.hid hs
  obtain ⟨A, c, rfl, h1, h2, hk⟩ := h.open_
  unfold maxLen at h2
  have HK := Lib.hid hk
  clear hk h hs
  have hmk := mk_NodeS l.length hn
  go_enter Tryz.func57, Tryz.ntmps57
  go_wp2_with fail
  have hp0 := Part.new (E := ENode) (l := l) (T := 151) w (madeCells #[.int .i64 0, .slice none 0 0] (l.length * 2)) (by rw [size_madeCells]; rfl)
  have hx0 : Ext w (w.alloc (.cells (madeCells #[.int .i64 0, .slice none 0 0] (l.length * 2)) 151)) := (Ext.refl w).alloc _
  generalize hB : w.heap.size = B at hp0 ⊢
  have HB := Lib.hid hB
  clear hB
  go_loopw [4] (fun i w' => ∃ k : Nat, k ≤ l.length ∧ i = .int .i64 k ∧ Part ENode w' B 151 l k ∧ Ext w w') (fun i _ => l.length - (intOf i).toNat)
  case atStart => exact ⟨0, by omega, rfl, hp0, hx0⟩
  case round =>
    obtain ⟨k, hk1, rfl, hp, hx⟩ := hrel
    clear hp0 hx0
    by_cases hlt : k < l.length
    · obtain ⟨b, o, cs, rfl, hb, hr, hc⟩ := HK.out k hlt
      have HC := Lib.hid (hx.range hc)
      have HI : Hid ((Tryz.prog.info? 137).map (·.size) = some cs.length) := Lib.hid (by rw [ENode.len hr]; kernel_rfl)
      have HR := Lib.hid (ENode.keep (hx.same S) hr)
      have HP := Lib.hid hp
      have HM := Lib.hid (HS.out.2 (nth l k) (nth_mem hlt))
      clear hc hr hmk hp
      go_wp2_with (first
        | (go_at_call 127; refine (toNode_any (nth l k) cs _ HR.out HM.out).mono ?_; rintro e w1 ⟨cs', rfl, hr1, hx1⟩; have HR1 := Lib.hid hr1; clear hr1)
        | (refine wpList_load_mid rfl 137 _ rfl b (o + k * 2) rfl cs _ HC.out Tryz.underlying137 rfl HI.out ?_)
        | (refine wpList_store_mid rfl 151 _ _ rfl B (k * 2) _ rfl rfl ?ht ?hi ?ho ?_))
      case ht => have := (HP.out.ext hx1).there hlt; rw [List.size_toArray, ENode.len HR1.out]; exact this
      case hi => rw [List.size_toArray, ENode.len HR1.out]; kernel_rfl
      case ho => exact all_oneCell_toArray (ENode.one HR1.out)
      refine ⟨⟨k + 1, by omega, by go_num, (HP.out.ext hx1).step hlt (ENode.sub (fun b hb => Nat.lt_of_lt_of_le HP.out.lt hb) HR1.out), setCells_ext (by rw [HB.out]; exact Nat.le_refl _) _ _ _ (hx.trans hx1)⟩, ?_⟩
      simp [intOf]
      omega
    · obtain rfl : k = l.length := by omega
      go_wp2_with fail
      go_ret
      exact ⟨_, rfl, (hp.done (by unfold maxLen; omega)).sub (fun b hb => by rw [HB.out]; exact hb), hx⟩
theorem mk_TaskS (n : Nat) (hn : n ≤ 1048576) (W : World) : (Instr.makeSlice 41 (.int .i64 (n : Int)) (.int .i64 (n : Int))).run Tryz.prog W = .ok (.slice (some ⟨W.heap.size, 0, none⟩) n n) (W.alloc (.cells (madeCells #[.int .i64 0, .int .i64 0, .int .i64 0, .string ⟨#[]⟩, .int .i64 0, .int .i64 0, .int .i64 0, .int .i64 0, .int .i64 0, .int .i64 0, .int .i64 0, .int .i64 0, .int .i64 0, .slice none 0 0] (n * 14)) 87)) := by
  obtain ⟨i0, hi, hz0, hz1, hz2⟩ := info_parts (show (Tryz.prog.info? 87).map (fun i => (i.zero, i.size, i.bytes)) = some (some (.agg #[.int .i64 0, .int .i64 0, .int .i64 0, .string ⟨#[]⟩, .int .i64 0, .int .i64 0, .int .i64 0, .int .i64 0, .int .i64 0, .int .i64 0, .int .i64 0, .int .i64 0, .int .i64 0, .slice none 0 0]), 14, 136) by kernel_rfl)
  have := run_make (P := Tryz.prog) W 41 87 i0 _ Tryz.underlying41 hi hz0 .i64 .i64 n n (by omega) (by omega) (by rw [hz2]; omega) (by omega)
  simpa [hz1, Value.cells] using this
set_option maxHeartbeats 1000000 in
theorem toTaskS_any {S : Nat → Prop} (l : List Task) (v : Value) (w : World) (h : Rd ETask S w v l) (hs : SmTaskS l) :
    Calls Tryz.prog 58 #[v] w (RetL ETask l w) := by
  have hn : l.length ≤ 1048576 := hs.1
  have HS := Lib.hid hs
  obtain ⟨A, c, rfl, h1, h2, hk⟩ := h.open_
  unfold maxLen at h2
  have HK := Lib.hid hk
  clear hk h hs
  have hmk := mk_TaskS l.length hn
  go_enter Tryz.func58, Tryz.ntmps58
  go_wp2_with fail
  have hp0 := Part.new (E := ETask) (l := l) (T := 87) w (madeCells #[.int .i64 0, .int .i64 0, .int .i64 0, .string ⟨#[]⟩, .int .i64 0, .int .i64 0, .int .i64 0, .int .i64 0, .int .i64 0, .int .i64 0, .int .i64 0, .int .i64 0, .int .i64 0, .slice none 0 0] (l.length * 14)) (by rw [size_madeCells]; rfl)
  have hx0 : Ext w (w.alloc (.cells (madeCells #[.int .i64 0, .int .i64 0, .int .i64 0, .string ⟨#[]⟩, .int .i64 0, .int .i64 0, .int .i64 0, .int .i64 0, .int .i64 0, .int .i64 0, .int .i64 0, .int .i64 0, .int .i64 0, .slice none 0 0] (l.length * 14)) 87)) := (Ext.refl w).alloc _
  generalize hB : w.heap.size = B at hp0 ⊢
  have HB := Lib.hid hB
  clear hB
  go_loopw [4] (fun i w' => ∃ k : Nat, k ≤ l.length ∧ i = .int .i64 k ∧ Part ETask w' B 87 l k ∧ Ext w w') (fun i _ => l.length - (intOf i).toNat)
  case atStart => exact ⟨0, by omega, rfl, hp0, hx0⟩
  case round =>
    obtain ⟨k, hk1, rfl, hp, hx⟩ := hrel
    clear hp0 hx0
    by_cases hlt : k < l.length
    · obtain ⟨b, o, cs, rfl, hb, hr, hc⟩ := HK.out k hlt
      have HC := Lib.hid (hx.range hc)
      have HI : Hid ((Tryz.prog.info? 140).map (·.size) = some cs.length) := Lib.hid (by rw [ETask.len hr]; kernel_rfl)
      have HR := Lib.hid (ETask.keep (hx.same S) hr)
      have HP := Lib.hid hp
      have HM := Lib.hid (HS.out.2 (nth l k) (nth_mem hlt))
      clear hc hr hmk hp
      go_wp2_with (first
        | (go_at_call 128; refine (toTask_any (nth l k) cs _ HR.out HM.out).mono ?_; rintro e w1 ⟨cs', rfl, hr1, hx1⟩; have HR1 := Lib.hid hr1; clear hr1)
        | (refine wpList_load_mid rfl 140 _ rfl b (o + k * 14) rfl cs _ HC.out Tryz.underlying140 rfl HI.out ?_)
        | (refine wpList_store_mid rfl 87 _ _ rfl B (k * 14) _ rfl rfl ?ht ?hi ?ho ?_))
      case ht => have := (HP.out.ext hx1).there hlt; rw [List.size_toArray, ETask.len HR1.out]; exact this
      case hi => rw [List.size_toArray, ETask.len HR1.out]; kernel_rfl
      case ho => exact all_oneCell_toArray (ETask.one HR1.out)
      refine ⟨⟨k + 1, by omega, by go_num, (HP.out.ext hx1).step hlt (ETask.sub (fun b hb => Nat.lt_of_lt_of_le HP.out.lt hb) HR1.out), setCells_ext (by rw [HB.out]; exact Nat.le_refl _) _ _ _ (hx.trans hx1)⟩, ?_⟩
      simp [intOf]
      omega
    · obtain rfl : k = l.length := by omega
      go_wp2_with fail
      go_ret
      exact ⟨_, rfl, (hp.done (by unfold maxLen; omega)).sub (fun b hb => by rw [HB.out]; exact hb), hx⟩
theorem mk_UseS (n : Nat) (hn : n ≤ 1048576) (W : World) : (Instr.makeSlice 42 (.int .i64 (n : Int)) (.int .i64 (n : Int))).run Tryz.prog W = .ok (.slice (some ⟨W.heap.size, 0, none⟩) n n) (W.alloc (.cells (madeCells #[.int .i64 0, .int .i64 0, .string ⟨#[]⟩, .int .i64 0] (n * 4)) 155)) := by
  obtain ⟨i0, hi, hz0, hz1, hz2⟩ := info_parts (show (Tryz.prog.info? 155).map (fun i => (i.zero, i.size, i.bytes)) = some (some (.agg #[.int .i64 0, .int .i64 0, .string ⟨#[]⟩, .int .i64 0]), 4, 40) by kernel_rfl)
  have := run_make (P := Tryz.prog) W 42 155 i0 _ Tryz.underlying42 hi hz0 .i64 .i64 n n (by omega) (by omega) (by rw [hz2]; omega) (by omega)
  simpa [hz1, Value.cells] using this
set_option maxHeartbeats 1000000 in
theorem toUseS_any {S : Nat → Prop} (l : List Use) (v : Value) (w : World) (h : Rd EUse S w v l) (hs : SmUseS l) :
    Calls Tryz.prog 59 #[v] w (RetL EUse l w) := by
  have hn : l.length ≤ 1048576 := hs.1
  have HS := Lib.hid hs
  obtain ⟨A, c, rfl, h1, h2, hk⟩ := h.open_
  unfold maxLen at h2
  have HK := Lib.hid hk
  clear hk h hs
  have hmk := mk_UseS l.length hn
  go_enter Tryz.func59, Tryz.ntmps59
  go_wp2_with fail
  have hp0 := Part.new (E := EUse) (l := l) (T := 155) w (madeCells #[.int .i64 0, .int .i64 0, .string ⟨#[]⟩, .int .i64 0] (l.length * 4)) (by rw [size_madeCells]; rfl)
  have hx0 : Ext w (w.alloc (.cells (madeCells #[.int .i64 0, .int .i64 0, .string ⟨#[]⟩, .int .i64 0] (l.length * 4)) 155)) := (Ext.refl w).alloc _
  generalize hB : w.heap.size = B at hp0 ⊢
  have HB := Lib.hid hB
  clear hB
  go_loopw [4] (fun i w' => ∃ k : Nat, k ≤ l.length ∧ i = .int .i64 k ∧ Part EUse w' B 155 l k ∧ Ext w w') (fun i _ => l.length - (intOf i).toNat)
  case atStart => exact ⟨0, by omega, rfl, hp0, hx0⟩
  case round =>
    obtain ⟨k, hk1, rfl, hp, hx⟩ := hrel
    clear hp0 hx0
    by_cases hlt : k < l.length
    · obtain ⟨b, o, cs, rfl, hb, hr, hc⟩ := HK.out k hlt
      have HC := Lib.hid (hx.range hc)
      have HI : Hid ((Tryz.prog.info? 143).map (·.size) = some cs.length) := Lib.hid (by rw [EUse.len hr]; kernel_rfl)
      have HR := Lib.hid (EUse.keep (hx.same S) hr)
      have HP := Lib.hid hp
      have HM := Lib.hid (HS.out.2 (nth l k) (nth_mem hlt))
      clear hc hr hmk hp
      go_wp2_with (first
        | (go_at_call 129; refine (toUse_any (nth l k) cs _ HR.out HM.out).mono ?_; rintro e w1 ⟨cs', rfl, hr1, hx1⟩; have HR1 := Lib.hid hr1; clear hr1)
        | (refine wpList_load_mid rfl 143 _ rfl b (o + k * 4) rfl cs _ HC.out Tryz.underlying143 rfl HI.out ?_)
        | (refine wpList_store_mid rfl 155 _ _ rfl B (k * 4) _ rfl rfl ?ht ?hi ?ho ?_))
      case ht => have := (HP.out.ext hx1).there hlt; rw [List.size_toArray, EUse.len HR1.out]; exact this
      case hi => rw [List.size_toArray, EUse.len HR1.out]; kernel_rfl
      case ho => exact all_oneCell_toArray (EUse.one HR1.out)
      refine ⟨⟨k + 1, by omega, by go_num, (HP.out.ext hx1).step hlt (EUse.sub (fun b hb => Nat.lt_of_lt_of_le HP.out.lt hb) HR1.out), setCells_ext (by rw [HB.out]; exact Nat.le_refl _) _ _ _ (hx.trans hx1)⟩, ?_⟩
      simp [intOf]
      omega
    · obtain rfl : k = l.length := by omega
      go_wp2_with fail
      go_ret
      exact ⟨_, rfl, (hp.done (by unfold maxLen; omega)).sub (fun b hb => by rw [HB.out]; exact hb), hx⟩
set_option maxHeartbeats 4000000 in
theorem toYard_any {S : Nat → Prop} (x : Yard) (cs : List Value) (w : World) (h : EYard.rel S w cs x) (hs : SmYard x) :
    Calls Tryz.prog 15 #[.agg cs.toArray] w (RetS EYard x w) := by
  obtain ⟨v1, v2, v3, v4, v5, v6, rfl, hi, h1, h2, h3, h4, h5, h6⟩ := h
  have HI := Lib.hid hi
  have H1 := Lib.hid h1
  have H2 := Lib.hid h2
  have H3 := Lib.hid h3
  have H4 := Lib.hid h4
  have H5 := Lib.hid h5
  have H6 := Lib.hid h6
  clear hi h1 h2 h3 h4 h5 h6
  simp only [cellsYard]
  go_enter Tryz.func15, Tryz.ntmps15
  have HS := Lib.hid hs
  clear hs
  go_wp2_with fail
  obtain ⟨W, B, hW, hB, hx0, a0, r0, o0⟩ := boxes3 w #[v1, v2, v3, .int .i64 x.config.half, v4, v5, v6, .int .i64 x.now] #[.slice none 0 0, .slice none 0 0, .slice none 0 0, .int .i64 0, .slice none 0 0, .slice none 0 0, .slice none 0 0, .int .i64 0] #[.slice none 0 0, .slice none 0 0, .slice none 0 0, .int .i64 0, .slice none 0 0, .slice none 0 0, .slice none 0 0, .int .i64 0] 31 44 44
  rw [← hW, ← hB]
  have HB := Lib.hid hB
  clear hW hB
  have a_0 := Lib.hid a0
  have r_0 := Lib.hid r0
  have o_0 := Lib.hid o0
  have X_0 := Lib.hid hx0
  clear a0 r0 o0 hx0
  refine (toConfig_any x.config [v1, v2, v3, .int .i64 x.config.half] _ (S := S) ⟨v1, v2, v3, rfl, (by have hf := HI.out; simp only [FitYard] at hf; simp only [FitConfig, hf]), H1.out.ext (by repeat (first | with_reducible exact X_0.out | refine Ext.setCell ?_ (by show w.heap.size ≤ B + 1 + 1; rw [← HB.out]; omega) _)), H2.out.ext (by repeat (first | with_reducible exact X_0.out | refine Ext.setCell ?_ (by show w.heap.size ≤ B + 1 + 1; rw [← HB.out]; omega) _)), H3.out.ext (by repeat (first | with_reducible exact X_0.out | refine Ext.setCell ?_ (by show w.heap.size ≤ B + 1 + 1; rw [← HB.out]; omega) _))⟩ (by have h := HS.out; simp only [SmYard] at h; first | exact h | exact h.1 | exact h.2 | exact h.2.1 | exact h.2.2 | exact h.2.2.1 | exact h.2.2.2 | exact h.2.2.2.1 | exact h.2.2.2.2)).mono ?_
  rintro e w1 ⟨_, rfl, ⟨u1, u2, u3, rfl, _, q1, q2, q3⟩, hx⟩
  simp only [cellsConfig]
  obtain ⟨p1, k1, rfl, -⟩ := q1.form
  have Q1 := Lib.hid (q1.sub (S' := fun b => B + 1 + 1 < b) (fun b hb => Nat.lt_of_lt_of_le (by have hl := (show Blk _ _ _ _ from o_0.out).lt; exact hl) hb))
  clear q1
  obtain ⟨p2, k2, rfl, -⟩ := q2.form
  have Q2 := Lib.hid (q2.sub (S' := fun b => B + 1 + 1 < b) (fun b hb => Nat.lt_of_lt_of_le (by have hl := (show Blk _ _ _ _ from o_0.out).lt; exact hl) hb))
  clear q2
  obtain ⟨p3, k3, rfl, -⟩ := q3.form
  have Q3 := Lib.hid (q3.sub (S' := fun b => B + 1 + 1 < b) (fun b hb => Nat.lt_of_lt_of_le (by have hl := (show Blk _ _ _ _ from o_0.out).lt; exact hl) hb))
  clear q3
  have a_1 : Hid (Blk w1 B 31 #[v1, v2, v3, .int .i64 x.config.half, v4, v5, v6, .int .i64 x.now]) := Lib.hid (Blk.ext (by repeat (first | with_reducible exact a_0.out | refine Blk.far ?_ (by simp <;> omega) _)) hx)
  have r_1 : Hid (Blk w1 (B + 1) 44 #[.slice none 0 0, .slice none 0 0, .slice none 0 0, .int .i64 0, .slice none 0 0, .slice none 0 0, .slice none 0 0, .int .i64 0]) := Lib.hid (Blk.ext (by repeat (first | with_reducible exact r_0.out | refine Blk.far ?_ (by simp <;> omega) _)) hx)
  have o_1 : Hid (Blk w1 (B + 1 + 1) 44 #[.slice none 0 0, .slice none 0 0, .slice none 0 0, .int .i64 0, .slice none 0 0, .slice none 0 0, .slice none 0 0, .int .i64 0]) := Lib.hid (Blk.ext (by simpa using o_0.out) hx)
  have X_1 : Hid (Ext w w1) := Lib.hid (Ext.trans (by repeat (first | with_reducible exact X_0.out | refine Ext.setCell ?_ (by show w.heap.size ≤ B + 1 + 1; rw [← HB.out]; omega) _)) hx)
  clear hx
  have ac := a_1.out.cell
  have oc := o_1.out.cell
  have of := o_1.out.frozen
  clear a_0 r_0 o_0 X_0
  go_wp2_with fail
  refine (toNodeS_any x.nodes v4 _ (H4.out.ext (by repeat (first | with_reducible exact X_1.out | refine Ext.setCell ?_ (by show w.heap.size ≤ B + 1 + 1; rw [← HB.out]; omega) _))) (by have h := HS.out; simp only [SmYard] at h; first | exact h | exact h.1 | exact h.2 | exact h.2.1 | exact h.2.2 | exact h.2.2.1 | exact h.2.2.2 | exact h.2.2.2.1 | exact h.2.2.2.2)).mono ?_
  rintro e w2 ⟨u4, rfl, q4, hx⟩
  obtain ⟨p4, k4, rfl, -⟩ := q4.form
  have Q4 := Lib.hid (q4.sub (S' := fun b => B + 1 + 1 < b) (fun b hb => Nat.lt_of_lt_of_le (by have hl := (show Blk _ _ _ _ from ((((o_1.out.set_ 0 (.slice p1 x.config.nodes.length k1)).set_ 1 (.slice p2 x.config.pairs.length k2)).set_ 2 (.slice p3 x.config.quotas.length k3)).set_ 3 (.int .i64 x.config.half))).lt; exact hl) hb))
  clear q4
  have a_2 : Hid (Blk w2 B 31 #[v1, v2, v3, .int .i64 x.config.half, v4, v5, v6, .int .i64 x.now]) := Lib.hid (Blk.ext (by repeat (first | with_reducible exact a_1.out | refine Blk.far ?_ (by simp <;> omega) _)) hx)
  have r_2 : Hid (Blk w2 (B + 1) 44 #[.slice none 0 0, .slice none 0 0, .slice none 0 0, .int .i64 0, .slice none 0 0, .slice none 0 0, .slice none 0 0, .int .i64 0]) := Lib.hid (Blk.ext (by repeat (first | with_reducible exact r_1.out | refine Blk.far ?_ (by simp <;> omega) _)) hx)
  have o_2 : Hid (Blk w2 (B + 1 + 1) 44 #[.slice p1 x.config.nodes.length k1, .slice p2 x.config.pairs.length k2, .slice p3 x.config.quotas.length k3, .int .i64 x.config.half, .slice none 0 0, .slice none 0 0, .slice none 0 0, .int .i64 0]) := Lib.hid (Blk.ext (by simpa using ((((o_1.out.set_ 0 (.slice p1 x.config.nodes.length k1)).set_ 1 (.slice p2 x.config.pairs.length k2)).set_ 2 (.slice p3 x.config.quotas.length k3)).set_ 3 (.int .i64 x.config.half))) hx)
  have X_2 : Hid (Ext w w2) := Lib.hid (Ext.trans (by repeat (first | with_reducible exact X_1.out | refine Ext.setCell ?_ (by show w.heap.size ≤ B + 1 + 1; rw [← HB.out]; omega) _)) hx)
  replace Q1 := Lib.hid (Rd.ext (Q1.out.keep (by repeat (first | with_reducible exact Same.refl _ _ | refine Same.setCell ?_ (by simp) _))) hx)
  replace Q2 := Lib.hid (Rd.ext (Q2.out.keep (by repeat (first | with_reducible exact Same.refl _ _ | refine Same.setCell ?_ (by simp) _))) hx)
  replace Q3 := Lib.hid (Rd.ext (Q3.out.keep (by repeat (first | with_reducible exact Same.refl _ _ | refine Same.setCell ?_ (by simp) _))) hx)
  clear hx ac oc of
  have ac := a_2.out.cell
  have oc := o_2.out.cell
  have of := o_2.out.frozen
  clear a_1 r_1 o_1 X_1
  go_wp2_with fail
  refine (toTaskS_any x.tasks v5 _ (H5.out.ext (by repeat (first | with_reducible exact X_2.out | refine Ext.setCell ?_ (by show w.heap.size ≤ B + 1 + 1; rw [← HB.out]; omega) _))) (by have h := HS.out; simp only [SmYard] at h; first | exact h | exact h.1 | exact h.2 | exact h.2.1 | exact h.2.2 | exact h.2.2.1 | exact h.2.2.2 | exact h.2.2.2.1 | exact h.2.2.2.2)).mono ?_
  rintro e w3 ⟨u5, rfl, q5, hx⟩
  obtain ⟨p5, k5, rfl, -⟩ := q5.form
  have Q5 := Lib.hid (q5.sub (S' := fun b => B + 1 + 1 < b) (fun b hb => Nat.lt_of_lt_of_le (by have hl := (show Blk _ _ _ _ from (o_2.out.set_ 4 (.slice p4 x.nodes.length k4))).lt; exact hl) hb))
  clear q5
  have a_3 : Hid (Blk w3 B 31 #[v1, v2, v3, .int .i64 x.config.half, v4, v5, v6, .int .i64 x.now]) := Lib.hid (Blk.ext (by repeat (first | with_reducible exact a_2.out | refine Blk.far ?_ (by simp <;> omega) _)) hx)
  have r_3 : Hid (Blk w3 (B + 1) 44 #[.slice none 0 0, .slice none 0 0, .slice none 0 0, .int .i64 0, .slice none 0 0, .slice none 0 0, .slice none 0 0, .int .i64 0]) := Lib.hid (Blk.ext (by repeat (first | with_reducible exact r_2.out | refine Blk.far ?_ (by simp <;> omega) _)) hx)
  have o_3 : Hid (Blk w3 (B + 1 + 1) 44 #[.slice p1 x.config.nodes.length k1, .slice p2 x.config.pairs.length k2, .slice p3 x.config.quotas.length k3, .int .i64 x.config.half, .slice p4 x.nodes.length k4, .slice none 0 0, .slice none 0 0, .int .i64 0]) := Lib.hid (Blk.ext (by simpa using (o_2.out.set_ 4 (.slice p4 x.nodes.length k4))) hx)
  have X_3 : Hid (Ext w w3) := Lib.hid (Ext.trans (by repeat (first | with_reducible exact X_2.out | refine Ext.setCell ?_ (by show w.heap.size ≤ B + 1 + 1; rw [← HB.out]; omega) _)) hx)
  replace Q1 := Lib.hid (Rd.ext (Q1.out.keep (by repeat (first | with_reducible exact Same.refl _ _ | refine Same.setCell ?_ (by simp) _))) hx)
  replace Q2 := Lib.hid (Rd.ext (Q2.out.keep (by repeat (first | with_reducible exact Same.refl _ _ | refine Same.setCell ?_ (by simp) _))) hx)
  replace Q3 := Lib.hid (Rd.ext (Q3.out.keep (by repeat (first | with_reducible exact Same.refl _ _ | refine Same.setCell ?_ (by simp) _))) hx)
  replace Q4 := Lib.hid (Rd.ext (Q4.out.keep (by repeat (first | with_reducible exact Same.refl _ _ | refine Same.setCell ?_ (by simp) _))) hx)
  clear hx ac oc of
  have ac := a_3.out.cell
  have oc := o_3.out.cell
  have of := o_3.out.frozen
  clear a_2 r_2 o_2 X_2
  go_wp2_with fail
  refine (toUseS_any x.uses v6 _ (H6.out.ext (by repeat (first | with_reducible exact X_3.out | refine Ext.setCell ?_ (by show w.heap.size ≤ B + 1 + 1; rw [← HB.out]; omega) _))) (by have h := HS.out; simp only [SmYard] at h; first | exact h | exact h.1 | exact h.2 | exact h.2.1 | exact h.2.2 | exact h.2.2.1 | exact h.2.2.2 | exact h.2.2.2.1 | exact h.2.2.2.2)).mono ?_
  rintro e w4 ⟨u6, rfl, q6, hx⟩
  obtain ⟨p6, k6, rfl, -⟩ := q6.form
  have Q6 := Lib.hid (q6.sub (S' := fun b => B + 1 + 1 < b) (fun b hb => Nat.lt_of_lt_of_le (by have hl := (show Blk _ _ _ _ from (o_3.out.set_ 5 (.slice p5 x.tasks.length k5))).lt; exact hl) hb))
  clear q6
  have a_4 : Hid (Blk w4 B 31 #[v1, v2, v3, .int .i64 x.config.half, v4, v5, v6, .int .i64 x.now]) := Lib.hid (Blk.ext (by repeat (first | with_reducible exact a_3.out | refine Blk.far ?_ (by simp <;> omega) _)) hx)
  have r_4 : Hid (Blk w4 (B + 1) 44 #[.slice none 0 0, .slice none 0 0, .slice none 0 0, .int .i64 0, .slice none 0 0, .slice none 0 0, .slice none 0 0, .int .i64 0]) := Lib.hid (Blk.ext (by repeat (first | with_reducible exact r_3.out | refine Blk.far ?_ (by simp <;> omega) _)) hx)
  have o_4 : Hid (Blk w4 (B + 1 + 1) 44 #[.slice p1 x.config.nodes.length k1, .slice p2 x.config.pairs.length k2, .slice p3 x.config.quotas.length k3, .int .i64 x.config.half, .slice p4 x.nodes.length k4, .slice p5 x.tasks.length k5, .slice none 0 0, .int .i64 0]) := Lib.hid (Blk.ext (by simpa using (o_3.out.set_ 5 (.slice p5 x.tasks.length k5))) hx)
  have X_4 : Hid (Ext w w4) := Lib.hid (Ext.trans (by repeat (first | with_reducible exact X_3.out | refine Ext.setCell ?_ (by show w.heap.size ≤ B + 1 + 1; rw [← HB.out]; omega) _)) hx)
  replace Q1 := Lib.hid (Rd.ext (Q1.out.keep (by repeat (first | with_reducible exact Same.refl _ _ | refine Same.setCell ?_ (by simp) _))) hx)
  replace Q2 := Lib.hid (Rd.ext (Q2.out.keep (by repeat (first | with_reducible exact Same.refl _ _ | refine Same.setCell ?_ (by simp) _))) hx)
  replace Q3 := Lib.hid (Rd.ext (Q3.out.keep (by repeat (first | with_reducible exact Same.refl _ _ | refine Same.setCell ?_ (by simp) _))) hx)
  replace Q4 := Lib.hid (Rd.ext (Q4.out.keep (by repeat (first | with_reducible exact Same.refl _ _ | refine Same.setCell ?_ (by simp) _))) hx)
  replace Q5 := Lib.hid (Rd.ext (Q5.out.keep (by repeat (first | with_reducible exact Same.refl _ _ | refine Same.setCell ?_ (by simp) _))) hx)
  clear hx ac oc of
  have ac := a_4.out.cell
  have oc := o_4.out.cell
  have of := o_4.out.frozen
  clear a_3 r_3 o_3 X_3
  go_wp2_with (first
    | (refine wpList_load_mid rfl 44 _ rfl (B + 1 + 1) 0 rfl [.slice p1 x.config.nodes.length k1, .slice p2 x.config.pairs.length k2, .slice p3 x.config.quotas.length k3, .int .i64 x.config.half, .slice p4 x.nodes.length k4, .slice p5 x.tasks.length k5, .slice p6 x.uses.length k6, .int .i64 x.now] _ ?hl Tryz.underlying44 rfl (by kernel_rfl) ?_)
    | (refine wpList_store_mid rfl 44 _ _ rfl (B + 1) 0 #[.slice p1 x.config.nodes.length k1, .slice p2 x.config.pairs.length k2, .slice p3 x.config.quotas.length k3, .int .i64 x.config.half, .slice p4 x.nodes.length k4, .slice p5 x.tasks.length k5, .slice p6 x.uses.length k6, .int .i64 x.now] rfl rfl ?ht (by kernel_rfl) ?ho ?_))
  case hl => exact Blk.range (t := 44) (cs := #[.slice p1 x.config.nodes.length k1, .slice p2 x.config.pairs.length k2, .slice p3 x.config.quotas.length k3, .int .i64 x.config.half, .slice p4 x.nodes.length k4, .slice p5 x.tasks.length k5, .slice p6 x.uses.length k6, .int .i64 x.now]) (by simpa using ((o_4.out.set_ 6 (.slice p6 x.uses.length k6)).set_ 7 (.int .i64 x.now)))
  case ht => exact Blk.there (t := 44) (cs := #[.slice none 0 0, .slice none 0 0, .slice none 0 0, .int .i64 0, .slice none 0 0, .slice none 0 0, .slice none 0 0, .int .i64 0]) (by repeat (first | with_reducible exact r_4.out | refine Blk.far ?_ (by simp <;> omega) _))
  case ho => exact all_oneCell_toArray (cs := [.slice p1 x.config.nodes.length k1, .slice p2 x.config.pairs.length k2, .slice p3 x.config.quotas.length k3, .int .i64 x.config.half, .slice p4 x.nodes.length k4, .slice p5 x.tasks.length k5, .slice p6 x.uses.length k6, .int .i64 x.now]) (by simp [Value.oneCell'])
  exact bodyPost_ret (v := .agg #[.slice p1 x.config.nodes.length k1, .slice p2 x.config.pairs.length k2, .slice p3 x.config.quotas.length k3, .int .i64 x.config.half, .slice p4 x.nodes.length k4, .slice p5 x.tasks.length k5, .slice p6 x.uses.length k6, .int .i64 x.now]) (results_blk Tryz.results15 rfl (Blk.setAll (t := 44) (cs := #[.slice none 0 0, .slice none 0 0, .slice none 0 0, .int .i64 0, .slice none 0 0, .slice none 0 0, .slice none 0 0, .int .i64 0]) (vs := #[.slice p1 x.config.nodes.length k1, .slice p2 x.config.pairs.length k2, .slice p3 x.config.quotas.length k3, .int .i64 x.config.half, .slice p4 x.nodes.length k4, .slice p5 x.tasks.length k5, .slice p6 x.uses.length k6, .int .i64 x.now]) (by repeat (first | with_reducible exact r_4.out | refine Blk.far ?_ (by simp <;> omega) _)) rfl) Tryz.underlying44 rfl (by kernel_rfl)) rfl ⟨_, rfl, ⟨_, _, _, _, _, _, rfl, HI.out, Rd.sub (Q1.out.keep (setCells_same' (by repeat (first | with_reducible exact Same.refl _ _ | refine Same.setCell ?_ (by simp) _)) (by simp))) (fun b hb => by rw [← HB.out]; omega), Rd.sub (Q2.out.keep (setCells_same' (by repeat (first | with_reducible exact Same.refl _ _ | refine Same.setCell ?_ (by simp) _)) (by simp))) (fun b hb => by rw [← HB.out]; omega), Rd.sub (Q3.out.keep (setCells_same' (by repeat (first | with_reducible exact Same.refl _ _ | refine Same.setCell ?_ (by simp) _)) (by simp))) (fun b hb => by rw [← HB.out]; omega), Rd.sub (Q4.out.keep (setCells_same' (by repeat (first | with_reducible exact Same.refl _ _ | refine Same.setCell ?_ (by simp) _)) (by simp))) (fun b hb => by rw [← HB.out]; omega), Rd.sub (Q5.out.keep (setCells_same' (by repeat (first | with_reducible exact Same.refl _ _ | refine Same.setCell ?_ (by simp) _)) (by simp))) (fun b hb => by rw [← HB.out]; omega), Rd.sub (Q6.out.keep (setCells_same' (by repeat (first | with_reducible exact Same.refl _ _ | refine Same.setCell ?_ (by simp) _)) (by simp))) (fun b hb => by rw [← HB.out]; omega)⟩, setCells_ext (by rw [← HB.out]; omega) _ _ _ (by repeat (first | with_reducible exact X_4.out | refine Ext.setCell ?_ (by show w.heap.size ≤ B + 1 + 1; rw [← HB.out]; omega) _))⟩
set_option maxHeartbeats 4000000 in
theorem toSpan_own {S : Nat → Prop} (x : Span) (cs : List Value) (w : World) (h : ESpan.rel S w cs x) (_hs : SmSpan x) :
    Calls Tryz.prog 36 #[.agg cs.toArray] w (RetOS OSpan x w) := by
  obtain ⟨rfl, hi⟩ := h
  have HI := Lib.hid hi
  clear hi
  simp only [cellsSpan]
  go_enter Tryz.func36, Tryz.ntmps36
  go_wp2
  exact bodyPost_ret (v := .agg #[.int .i64 x.from_, .int .i64 x.to_]) (by simp [results, Tryz.results36, go_sem]) rfl ⟨_, [], rfl, ⟨⟨rfl, HI.out⟩, rfl⟩, fun b hb => (by cases hb), (((Ext.refl _).alloc _).alloc _).alloc _⟩
set_option maxHeartbeats 1000000 in
theorem toSpanS_own {S : Nat → Prop} (l : List Span) (v : Value) (w : World) (h : Rd ESpan S w v l) (hs : SmSpanS l) :
    Calls Tryz.prog 215 #[v] w (RetO OSpan 63 l w) := by
  have hn : l.length ≤ 1048576 := hs.1
  have HS := Lib.hid hs
  obtain ⟨A, c, rfl, h1, h2, hk⟩ := h.open_
  unfold maxLen at h2
  have HK := Lib.hid hk
  clear hk h hs
  have hmk := mk_SpanS l.length hn
  go_enter Tryz.func215, Tryz.ntmps215
  go_wp2_with fail
  have hp0 := PartO.new (O := OSpan) (l := l) (T := 63) w (madeCells #[.int .i64 0, .int .i64 0] (l.length * 2)) (by rw [size_madeCells]; rfl)
  have hx0 : Ext w (w.alloc (.cells (madeCells #[.int .i64 0, .int .i64 0] (l.length * 2)) 63)) := (Ext.refl w).alloc _
  generalize hB : w.heap.size = B at hp0 ⊢
  have HB := Lib.hid hB
  clear hB
  go_loopw [4] (fun i w' => ∃ k : Nat, k ≤ l.length ∧ i = .int .i64 k ∧ PartO OSpan w' B 63 l k ∧ Ext w w') (fun i _ => l.length - (intOf i).toNat)
  case atStart => exact ⟨0, by omega, rfl, hp0, hx0⟩
  case round =>
    obtain ⟨k, hk1, rfl, hp, hx⟩ := hrel
    clear hp0 hx0
    by_cases hlt : k < l.length
    · obtain ⟨b, o, cs, rfl, hb, hr, hc⟩ := HK.out k hlt
      have HC := Lib.hid (hx.range hc)
      have HI : Hid ((Tryz.prog.info? 61).map (·.size) = some cs.length) := Lib.hid (by rw [ESpan.len hr]; kernel_rfl)
      have HR := Lib.hid (ESpan.keep (hx.same S) hr)
      have HP := Lib.hid hp
      have HM := Lib.hid (HS.out.2 (nth l k) (nth_mem hlt))
      clear hc hr hmk hp
      go_wp2_with (first
        | (go_at_call 36; refine (toSpan_own (nth l k) cs _ HR.out HM.out).mono ?_; rintro e w1 ⟨cs', G1, rfl, hr1, hG1, hx1⟩; have HR1 := Lib.hid hr1; have HG1 := Lib.hid hG1; clear hr1 hG1)
        | (refine wpList_load_mid rfl 61 _ rfl b (o + k * 2) rfl cs _ HC.out Tryz.underlying61 rfl HI.out ?_)
        | (refine wpList_store_mid rfl 63 _ _ rfl B (k * 2) _ rfl rfl ?ht ?hi ?ho ?_))
      case ht => have := (HP.out.ext hx1).there hlt; rw [List.size_toArray, ESpan.len (OSpan.rel HR1.out)]; exact this
      case hi => rw [List.size_toArray, ESpan.len (OSpan.rel HR1.out)]; kernel_rfl
      case ho => exact all_oneCell_toArray (ESpan.one (OSpan.rel HR1.out))
      refine ⟨⟨k + 1, by omega, by go_num, HP.out.step hx1 hlt HR1.out HG1.out, setCells_ext (by rw [HB.out]; exact Nat.le_refl _) _ _ _ (hx.trans hx1)⟩, ?_⟩
      simp [intOf]
      omega
    · obtain rfl : k = l.length := by omega
      go_wp2_with fail
      go_ret
      obtain ⟨F, hF, hge⟩ := hp.done (by unfold maxLen; omega)
      exact ⟨_, F, rfl, hF, fun b hb => by rw [HB.out]; exact hge b hb, hx⟩
set_option maxHeartbeats 4000000 in
theorem toNode_own {S : Nat → Prop} (x : Node) (cs : List Value) (w : World) (h : ENode.rel S w cs x) (hs : SmNode x) :
    Calls Tryz.prog 127 #[.agg cs.toArray] w (RetOS ONode x w) := by
  obtain ⟨v1, rfl, hi, h1⟩ := h
  have HI := Lib.hid hi
  have H1 := Lib.hid h1
  clear hi h1
  simp only [cellsNode]
  go_enter Tryz.func127, Tryz.ntmps127
  have HS := Lib.hid hs
  clear hs
  go_wp2_with fail
  obtain ⟨W, B, hW, hB, hx0, a0, r0, o0⟩ := boxes3 w #[.int .i64 x.state, v1] #[.int .i64 0, .slice none 0 0] #[.int .i64 x.state, .slice none 0 0] 137 151 151
  rw [← hW, ← hB]
  have HB := Lib.hid hB
  clear hW hB
  have a_0 := Lib.hid a0
  have r_0 := Lib.hid r0
  have o_0 := Lib.hid o0
  have X_0 := Lib.hid hx0
  clear a0 r0 o0 hx0
  refine (toSpanS_own x.books v1 _ (H1.out.ext (by repeat (first | with_reducible exact X_0.out | refine Ext.setCell ?_ (by show w.heap.size ≤ B + 1 + 1; rw [← HB.out]; omega) _))) (by have h := HS.out; simp only [SmNode] at h; first | exact h | exact h.1 | exact h.2 | exact h.2.1 | exact h.2.2 | exact h.2.2.1 | exact h.2.2.2 | exact h.2.2.2.1 | exact h.2.2.2.2)).mono ?_
  rintro e w1 ⟨u1, F1, rfl, q1, g1, hx⟩
  obtain ⟨p1, k1, rfl, -⟩ := q1.form
  have Q1 := Lib.hid q1
  have L1 : Hid (∀ b ∈ F1, B + 1 + 1 < b) := Lib.hid (fun b hb => Nat.lt_of_lt_of_le (by have hl := (show Blk _ _ _ _ from o_0.out).lt; exact hl) (g1 b hb))
  clear g1
  clear q1
  have a_1 : Hid (Blk w1 B 137 #[.int .i64 x.state, v1]) := Lib.hid (Blk.ext (by repeat (first | with_reducible exact a_0.out | refine Blk.far ?_ (by simp <;> omega) _)) hx)
  have r_1 : Hid (Blk w1 (B + 1) 151 #[.int .i64 0, .slice none 0 0]) := Lib.hid (Blk.ext (by repeat (first | with_reducible exact r_0.out | refine Blk.far ?_ (by simp <;> omega) _)) hx)
  have o_1 : Hid (Blk w1 (B + 1 + 1) 151 #[.int .i64 x.state, .slice none 0 0]) := Lib.hid (Blk.ext (by simpa using o_0.out) hx)
  have X_1 : Hid (Ext w w1) := Lib.hid (Ext.trans (by repeat (first | with_reducible exact X_0.out | refine Ext.setCell ?_ (by show w.heap.size ≤ B + 1 + 1; rw [← HB.out]; omega) _)) hx)
  clear hx
  have ac := a_1.out.cell
  have oc := o_1.out.cell
  have of := o_1.out.frozen
  clear a_0 r_0 o_0 X_0
  go_wp2_with (first
    | (refine wpList_load_mid rfl 151 _ rfl (B + 1 + 1) 0 rfl [.int .i64 x.state, .slice p1 x.books.length k1] _ ?hl Tryz.underlying151 rfl (by kernel_rfl) ?_)
    | (refine wpList_store_mid rfl 151 _ _ rfl (B + 1) 0 #[.int .i64 x.state, .slice p1 x.books.length k1] rfl rfl ?ht (by kernel_rfl) ?ho ?_))
  case hl => exact Blk.range (t := 151) (cs := #[.int .i64 x.state, .slice p1 x.books.length k1]) (by simpa using (o_1.out.set_ 1 (.slice p1 x.books.length k1)))
  case ht => exact Blk.there (t := 151) (cs := #[.int .i64 0, .slice none 0 0]) (by repeat (first | with_reducible exact r_1.out | refine Blk.far ?_ (by simp <;> omega) _))
  case ho => exact all_oneCell_toArray (cs := [.int .i64 x.state, .slice p1 x.books.length k1]) (by simp [Value.oneCell'])
  exact bodyPost_ret (v := .agg #[.int .i64 x.state, .slice p1 x.books.length k1]) (results_blk Tryz.results127 rfl (Blk.setAll (t := 151) (cs := #[.int .i64 0, .slice none 0 0]) (vs := #[.int .i64 x.state, .slice p1 x.books.length k1]) (by repeat (first | with_reducible exact r_1.out | refine Blk.far ?_ (by simp <;> omega) _)) rfl) Tryz.underlying151 rfl (by kernel_rfl)) rfl ⟨_, F1, rfl, ⟨_, rfl, HI.out, (Q1.out.kept (G := [B + 1, B + 1 + 1]) (Kept.setCells (by simp) _ _ _ (by repeat (first | exact Kept.refl _ _ | refine Kept.setCell ?_ (by simp) _))) (fun b hb => by have := L1.out b hb; simp; omega))⟩, fun b hb => (by have := L1.out b hb; rw [← HB.out]; omega), setCells_ext (by rw [← HB.out]; omega) _ _ _ (by repeat (first | with_reducible exact X_1.out | refine Ext.setCell ?_ (by show w.heap.size ≤ B + 1 + 1; rw [← HB.out]; omega) _))⟩
set_option maxHeartbeats 4000000 in
theorem toUse_own {S : Nat → Prop} (x : Use) (cs : List Value) (w : World) (h : EUse.rel S w cs x) (_hs : SmUse x) :
    Calls Tryz.prog 129 #[.agg cs.toArray] w (RetOS OUse x w) := by
  obtain ⟨rfl, hi⟩ := h
  have HI := Lib.hid hi
  clear hi
  simp only [cellsUse]
  go_enter Tryz.func129, Tryz.ntmps129
  go_wp2_with fail
  obtain ⟨W, B, hW, hB, hx0, a0, r0, o0⟩ := boxes3 w #[.int .i64 x.label.level, .int .i64 x.label.set, .string x.owner, .int .i64 x.used] #[.int .i64 0, .int .i64 0, .string ⟨#[]⟩, .int .i64 0] #[.int .i64 0, .int .i64 0, .string ⟨#[]⟩, .int .i64 0] 143 155 155
  rw [← hW, ← hB]
  have HB := Lib.hid hB
  clear hW hB
  have a_0 := Lib.hid a0
  have r_0 := Lib.hid r0
  have o_0 := Lib.hid o0
  have X_0 := Lib.hid hx0
  clear a0 r0 o0 hx0
  refine (toLabel_any x.label [.int .i64 x.label.level, .int .i64 x.label.set] _ (S := S) ⟨rfl, (by have hf := HI.out; simp only [FitUse] at hf; simp only [FitLabel, hf, and_self])⟩ trivial).mono ?_
  rintro e w1 ⟨_, rfl, ⟨rfl, _⟩, hx⟩
  simp only [cellsLabel]
  have a_1 : Hid (Blk w1 B 143 #[.int .i64 x.label.level, .int .i64 x.label.set, .string x.owner, .int .i64 x.used]) := Lib.hid (Blk.ext (by repeat (first | with_reducible exact a_0.out | refine Blk.far ?_ (by simp <;> omega) _)) hx)
  have r_1 : Hid (Blk w1 (B + 1) 155 #[.int .i64 0, .int .i64 0, .string ⟨#[]⟩, .int .i64 0]) := Lib.hid (Blk.ext (by repeat (first | with_reducible exact r_0.out | refine Blk.far ?_ (by simp <;> omega) _)) hx)
  have o_1 : Hid (Blk w1 (B + 1 + 1) 155 #[.int .i64 0, .int .i64 0, .string ⟨#[]⟩, .int .i64 0]) := Lib.hid (Blk.ext (by simpa using o_0.out) hx)
  have X_1 : Hid (Ext w w1) := Lib.hid (Ext.trans (by repeat (first | with_reducible exact X_0.out | refine Ext.setCell ?_ (by show w.heap.size ≤ B + 1 + 1; rw [← HB.out]; omega) _)) hx)
  clear hx
  have ac := a_1.out.cell
  have oc := o_1.out.cell
  have of := o_1.out.frozen
  clear a_0 r_0 o_0 X_0
  go_wp2_with (first
    | (refine wpList_load_mid rfl 155 _ rfl (B + 1 + 1) 0 rfl [.int .i64 x.label.level, .int .i64 x.label.set, .string x.owner, .int .i64 x.used] _ ?hl Tryz.underlying155 rfl (by kernel_rfl) ?_)
    | (refine wpList_store_mid rfl 155 _ _ rfl (B + 1) 0 #[.int .i64 x.label.level, .int .i64 x.label.set, .string x.owner, .int .i64 x.used] rfl rfl ?ht (by kernel_rfl) ?ho ?_))
  case hl => exact Blk.range (t := 155) (cs := #[.int .i64 x.label.level, .int .i64 x.label.set, .string x.owner, .int .i64 x.used]) (by simpa using ((((o_1.out.set_ 0 (.int .i64 x.label.level)).set_ 1 (.int .i64 x.label.set)).set_ 2 (.string x.owner)).set_ 3 (.int .i64 x.used)))
  case ht => exact Blk.there (t := 155) (cs := #[.int .i64 0, .int .i64 0, .string ⟨#[]⟩, .int .i64 0]) (by repeat (first | with_reducible exact r_1.out | refine Blk.far ?_ (by simp <;> omega) _))
  case ho => exact all_oneCell_toArray (cs := [.int .i64 x.label.level, .int .i64 x.label.set, .string x.owner, .int .i64 x.used]) (by simp [Value.oneCell'])
  exact bodyPost_ret (v := .agg #[.int .i64 x.label.level, .int .i64 x.label.set, .string x.owner, .int .i64 x.used]) (results_blk Tryz.results129 rfl (Blk.setAll (t := 155) (cs := #[.int .i64 0, .int .i64 0, .string ⟨#[]⟩, .int .i64 0]) (vs := #[.int .i64 x.label.level, .int .i64 x.label.set, .string x.owner, .int .i64 x.used]) (by repeat (first | with_reducible exact r_1.out | refine Blk.far ?_ (by simp <;> omega) _)) rfl) Tryz.underlying155 rfl (by kernel_rfl)) rfl ⟨_, [], rfl, ⟨⟨rfl, HI.out⟩, rfl⟩, fun b hb => (by cases hb), setCells_ext (by rw [← HB.out]; omega) _ _ _ (by repeat (first | with_reducible exact X_1.out | refine Ext.setCell ?_ (by show w.heap.size ≤ B + 1 + 1; rw [← HB.out]; omega) _))⟩
set_option maxHeartbeats 4000000 in
theorem toTask_own {S : Nat → Prop} (x : Task) (cs : List Value) (w : World) (h : ETask.rel S w cs x) (hs : SmTask x) :
    Calls Tryz.prog 128 #[.agg cs.toArray] w (RetOS OTask x w) := by
  obtain ⟨v1, rfl, hi, h1⟩ := h
  have HI := Lib.hid hi
  have H1 := Lib.hid h1
  clear hi h1
  simp only [cellsTask]
  go_enter Tryz.func128, Tryz.ntmps128
  have HS := Lib.hid hs
  clear hs
  go_wp2_with fail
  obtain ⟨W, B, hW, hB, hx0, a0, r0, o0⟩ := boxes3 w #[.int .i64 x.label.level, .int .i64 x.label.set, .int .i64 x.id, .string x.owner, .int .i64 x.need, .int .i64 x.long, .int .i64 x.prio, .int .i64 x.under.level, .int .i64 x.under.set, .int .i64 x.after, .int .i64 x.born, .int .i64 x.state, .int .i64 x.start, v1] #[.int .i64 0, .int .i64 0, .int .i64 0, .string ⟨#[]⟩, .int .i64 0, .int .i64 0, .int .i64 0, .int .i64 0, .int .i64 0, .int .i64 0, .int .i64 0, .int .i64 0, .int .i64 0, .slice none 0 0] #[.int .i64 0, .int .i64 0, .int .i64 0, .string ⟨#[]⟩, .int .i64 0, .int .i64 0, .int .i64 0, .int .i64 0, .int .i64 0, .int .i64 0, .int .i64 0, .int .i64 0, .int .i64 0, .slice none 0 0] 140 87 87
  rw [← hW, ← hB]
  have HB := Lib.hid hB
  clear hW hB
  have a_0 := Lib.hid a0
  have r_0 := Lib.hid r0
  have o_0 := Lib.hid o0
  have X_0 := Lib.hid hx0
  clear a0 r0 o0 hx0
  refine (toLabel_any x.label [.int .i64 x.label.level, .int .i64 x.label.set] _ (S := S) ⟨rfl, (by have hf := HI.out; simp only [FitTask] at hf; simp only [FitLabel, hf, and_self])⟩ trivial).mono ?_
  rintro e w1 ⟨_, rfl, ⟨rfl, _⟩, hx⟩
  simp only [cellsLabel]
  have a_1 : Hid (Blk w1 B 140 #[.int .i64 x.label.level, .int .i64 x.label.set, .int .i64 x.id, .string x.owner, .int .i64 x.need, .int .i64 x.long, .int .i64 x.prio, .int .i64 x.under.level, .int .i64 x.under.set, .int .i64 x.after, .int .i64 x.born, .int .i64 x.state, .int .i64 x.start, v1]) := Lib.hid (Blk.ext (by repeat (first | with_reducible exact a_0.out | refine Blk.far ?_ (by simp <;> omega) _)) hx)
  have r_1 : Hid (Blk w1 (B + 1) 87 #[.int .i64 0, .int .i64 0, .int .i64 0, .string ⟨#[]⟩, .int .i64 0, .int .i64 0, .int .i64 0, .int .i64 0, .int .i64 0, .int .i64 0, .int .i64 0, .int .i64 0, .int .i64 0, .slice none 0 0]) := Lib.hid (Blk.ext (by repeat (first | with_reducible exact r_0.out | refine Blk.far ?_ (by simp <;> omega) _)) hx)
  have o_1 : Hid (Blk w1 (B + 1 + 1) 87 #[.int .i64 0, .int .i64 0, .int .i64 0, .string ⟨#[]⟩, .int .i64 0, .int .i64 0, .int .i64 0, .int .i64 0, .int .i64 0, .int .i64 0, .int .i64 0, .int .i64 0, .int .i64 0, .slice none 0 0]) := Lib.hid (Blk.ext (by simpa using o_0.out) hx)
  have X_1 : Hid (Ext w w1) := Lib.hid (Ext.trans (by repeat (first | with_reducible exact X_0.out | refine Ext.setCell ?_ (by show w.heap.size ≤ B + 1 + 1; rw [← HB.out]; omega) _)) hx)
  clear hx
  have ac := a_1.out.cell
  have oc := o_1.out.cell
  have of := o_1.out.frozen
  clear a_0 r_0 o_0 X_0
  go_wp2_with fail
  refine (toLabel_any x.under [.int .i64 x.under.level, .int .i64 x.under.set] _ (S := S) ⟨rfl, (by have hf := HI.out; simp only [FitTask] at hf; simp only [FitLabel, hf, and_self])⟩ trivial).mono ?_
  rintro e w2 ⟨_, rfl, ⟨rfl, _⟩, hx⟩
  simp only [cellsLabel]
  have a_2 : Hid (Blk w2 B 140 #[.int .i64 x.label.level, .int .i64 x.label.set, .int .i64 x.id, .string x.owner, .int .i64 x.need, .int .i64 x.long, .int .i64 x.prio, .int .i64 x.under.level, .int .i64 x.under.set, .int .i64 x.after, .int .i64 x.born, .int .i64 x.state, .int .i64 x.start, v1]) := Lib.hid (Blk.ext (by repeat (first | with_reducible exact a_1.out | refine Blk.far ?_ (by simp <;> omega) _)) hx)
  have r_2 : Hid (Blk w2 (B + 1) 87 #[.int .i64 0, .int .i64 0, .int .i64 0, .string ⟨#[]⟩, .int .i64 0, .int .i64 0, .int .i64 0, .int .i64 0, .int .i64 0, .int .i64 0, .int .i64 0, .int .i64 0, .int .i64 0, .slice none 0 0]) := Lib.hid (Blk.ext (by repeat (first | with_reducible exact r_1.out | refine Blk.far ?_ (by simp <;> omega) _)) hx)
  have o_2 : Hid (Blk w2 (B + 1 + 1) 87 #[.int .i64 x.label.level, .int .i64 x.label.set, .int .i64 x.id, .string x.owner, .int .i64 x.need, .int .i64 x.long, .int .i64 x.prio, .int .i64 0, .int .i64 0, .int .i64 0, .int .i64 0, .int .i64 0, .int .i64 0, .slice none 0 0]) := Lib.hid (Blk.ext (by simpa using (((((((o_1.out.set_ 0 (.int .i64 x.label.level)).set_ 1 (.int .i64 x.label.set)).set_ 2 (.int .i64 x.id)).set_ 3 (.string x.owner)).set_ 4 (.int .i64 x.need)).set_ 5 (.int .i64 x.long)).set_ 6 (.int .i64 x.prio))) hx)
  have X_2 : Hid (Ext w w2) := Lib.hid (Ext.trans (by repeat (first | with_reducible exact X_1.out | refine Ext.setCell ?_ (by show w.heap.size ≤ B + 1 + 1; rw [← HB.out]; omega) _)) hx)
  clear hx ac oc of
  have ac := a_2.out.cell
  have oc := o_2.out.cell
  have of := o_2.out.frozen
  clear a_1 r_1 o_1 X_1
  go_wp2_with fail
  refine (toInt64S_own x.nodes v1 _ (H1.out.ext (by repeat (first | with_reducible exact X_2.out | refine Ext.setCell ?_ (by show w.heap.size ≤ B + 1 + 1; rw [← HB.out]; omega) _))) (by have h := HS.out; simp only [SmTask] at h; first | exact h | exact h.1 | exact h.2 | exact h.2.1 | exact h.2.2 | exact h.2.2.1 | exact h.2.2.2 | exact h.2.2.2.1 | exact h.2.2.2.2)).mono ?_
  rintro e w3 ⟨u1, F1, rfl, q1, g1, hx⟩
  obtain ⟨p1, k1, rfl, -⟩ := q1.form
  have Q1 := Lib.hid q1
  have L1 : Hid (∀ b ∈ F1, B + 1 + 1 < b) := Lib.hid (fun b hb => Nat.lt_of_lt_of_le (by have hl := (show Blk _ _ _ _ from ((((((o_2.out.set_ 7 (.int .i64 x.under.level)).set_ 8 (.int .i64 x.under.set)).set_ 9 (.int .i64 x.after)).set_ 10 (.int .i64 x.born)).set_ 11 (.int .i64 x.state)).set_ 12 (.int .i64 x.start))).lt; exact hl) (g1 b hb))
  clear g1
  clear q1
  have a_3 : Hid (Blk w3 B 140 #[.int .i64 x.label.level, .int .i64 x.label.set, .int .i64 x.id, .string x.owner, .int .i64 x.need, .int .i64 x.long, .int .i64 x.prio, .int .i64 x.under.level, .int .i64 x.under.set, .int .i64 x.after, .int .i64 x.born, .int .i64 x.state, .int .i64 x.start, v1]) := Lib.hid (Blk.ext (by repeat (first | with_reducible exact a_2.out | refine Blk.far ?_ (by simp <;> omega) _)) hx)
  have r_3 : Hid (Blk w3 (B + 1) 87 #[.int .i64 0, .int .i64 0, .int .i64 0, .string ⟨#[]⟩, .int .i64 0, .int .i64 0, .int .i64 0, .int .i64 0, .int .i64 0, .int .i64 0, .int .i64 0, .int .i64 0, .int .i64 0, .slice none 0 0]) := Lib.hid (Blk.ext (by repeat (first | with_reducible exact r_2.out | refine Blk.far ?_ (by simp <;> omega) _)) hx)
  have o_3 : Hid (Blk w3 (B + 1 + 1) 87 #[.int .i64 x.label.level, .int .i64 x.label.set, .int .i64 x.id, .string x.owner, .int .i64 x.need, .int .i64 x.long, .int .i64 x.prio, .int .i64 x.under.level, .int .i64 x.under.set, .int .i64 x.after, .int .i64 x.born, .int .i64 x.state, .int .i64 x.start, .slice none 0 0]) := Lib.hid (Blk.ext (by simpa using ((((((o_2.out.set_ 7 (.int .i64 x.under.level)).set_ 8 (.int .i64 x.under.set)).set_ 9 (.int .i64 x.after)).set_ 10 (.int .i64 x.born)).set_ 11 (.int .i64 x.state)).set_ 12 (.int .i64 x.start))) hx)
  have X_3 : Hid (Ext w w3) := Lib.hid (Ext.trans (by repeat (first | with_reducible exact X_2.out | refine Ext.setCell ?_ (by show w.heap.size ≤ B + 1 + 1; rw [← HB.out]; omega) _)) hx)
  clear hx ac oc of
  have ac := a_3.out.cell
  have oc := o_3.out.cell
  have of := o_3.out.frozen
  clear a_2 r_2 o_2 X_2
  go_wp2_with (first
    | (refine wpList_load_mid rfl 87 _ rfl (B + 1 + 1) 0 rfl [.int .i64 x.label.level, .int .i64 x.label.set, .int .i64 x.id, .string x.owner, .int .i64 x.need, .int .i64 x.long, .int .i64 x.prio, .int .i64 x.under.level, .int .i64 x.under.set, .int .i64 x.after, .int .i64 x.born, .int .i64 x.state, .int .i64 x.start, .slice p1 x.nodes.length k1] _ ?hl Tryz.underlying87 rfl (by kernel_rfl) ?_)
    | (refine wpList_store_mid rfl 87 _ _ rfl (B + 1) 0 #[.int .i64 x.label.level, .int .i64 x.label.set, .int .i64 x.id, .string x.owner, .int .i64 x.need, .int .i64 x.long, .int .i64 x.prio, .int .i64 x.under.level, .int .i64 x.under.set, .int .i64 x.after, .int .i64 x.born, .int .i64 x.state, .int .i64 x.start, .slice p1 x.nodes.length k1] rfl rfl ?ht (by kernel_rfl) ?ho ?_))
  case hl => exact Blk.range (t := 87) (cs := #[.int .i64 x.label.level, .int .i64 x.label.set, .int .i64 x.id, .string x.owner, .int .i64 x.need, .int .i64 x.long, .int .i64 x.prio, .int .i64 x.under.level, .int .i64 x.under.set, .int .i64 x.after, .int .i64 x.born, .int .i64 x.state, .int .i64 x.start, .slice p1 x.nodes.length k1]) (by simpa using (o_3.out.set_ 13 (.slice p1 x.nodes.length k1)))
  case ht => exact Blk.there (t := 87) (cs := #[.int .i64 0, .int .i64 0, .int .i64 0, .string ⟨#[]⟩, .int .i64 0, .int .i64 0, .int .i64 0, .int .i64 0, .int .i64 0, .int .i64 0, .int .i64 0, .int .i64 0, .int .i64 0, .slice none 0 0]) (by repeat (first | with_reducible exact r_3.out | refine Blk.far ?_ (by simp <;> omega) _))
  case ho => exact all_oneCell_toArray (cs := [.int .i64 x.label.level, .int .i64 x.label.set, .int .i64 x.id, .string x.owner, .int .i64 x.need, .int .i64 x.long, .int .i64 x.prio, .int .i64 x.under.level, .int .i64 x.under.set, .int .i64 x.after, .int .i64 x.born, .int .i64 x.state, .int .i64 x.start, .slice p1 x.nodes.length k1]) (by simp [Value.oneCell'])
  exact bodyPost_ret (v := .agg #[.int .i64 x.label.level, .int .i64 x.label.set, .int .i64 x.id, .string x.owner, .int .i64 x.need, .int .i64 x.long, .int .i64 x.prio, .int .i64 x.under.level, .int .i64 x.under.set, .int .i64 x.after, .int .i64 x.born, .int .i64 x.state, .int .i64 x.start, .slice p1 x.nodes.length k1]) (results_blk Tryz.results128 rfl (Blk.setAll (t := 87) (cs := #[.int .i64 0, .int .i64 0, .int .i64 0, .string ⟨#[]⟩, .int .i64 0, .int .i64 0, .int .i64 0, .int .i64 0, .int .i64 0, .int .i64 0, .int .i64 0, .int .i64 0, .int .i64 0, .slice none 0 0]) (vs := #[.int .i64 x.label.level, .int .i64 x.label.set, .int .i64 x.id, .string x.owner, .int .i64 x.need, .int .i64 x.long, .int .i64 x.prio, .int .i64 x.under.level, .int .i64 x.under.set, .int .i64 x.after, .int .i64 x.born, .int .i64 x.state, .int .i64 x.start, .slice p1 x.nodes.length k1]) (by repeat (first | with_reducible exact r_3.out | refine Blk.far ?_ (by simp <;> omega) _)) rfl) Tryz.underlying87 rfl (by kernel_rfl)) rfl ⟨_, F1, rfl, ⟨_, rfl, HI.out, (Q1.out.kept (G := [B + 1, B + 1 + 1]) (Kept.setCells (by simp) _ _ _ (by repeat (first | exact Kept.refl _ _ | refine Kept.setCell ?_ (by simp) _))) (fun b hb => by have := L1.out b hb; simp; omega))⟩, fun b hb => (by have := L1.out b hb; rw [← HB.out]; omega), setCells_ext (by rw [← HB.out]; omega) _ _ _ (by repeat (first | with_reducible exact X_3.out | refine Ext.setCell ?_ (by show w.heap.size ≤ B + 1 + 1; rw [← HB.out]; omega) _))⟩
set_option maxHeartbeats 1000000 in
theorem toNodeS_own {S : Nat → Prop} (l : List Node) (v : Value) (w : World) (h : Rd ENode S w v l) (hs : SmNodeS l) :
    Calls Tryz.prog 57 #[v] w (RetO ONode 151 l w) := by
  have hn : l.length ≤ 1048576 := hs.1
  have HS := Lib.hid hs
  obtain ⟨A, c, rfl, h1, h2, hk⟩ := h.open_
  unfold maxLen at h2
  have HK := Lib.hid hk
  clear hk h hs
  have hmk := mk_NodeS l.length hn
  go_enter Tryz.func57, Tryz.ntmps57
  go_wp2_with fail
  have hp0 := PartO.new (O := ONode) (l := l) (T := 151) w (madeCells #[.int .i64 0, .slice none 0 0] (l.length * 2)) (by rw [size_madeCells]; rfl)
  have hx0 : Ext w (w.alloc (.cells (madeCells #[.int .i64 0, .slice none 0 0] (l.length * 2)) 151)) := (Ext.refl w).alloc _
  generalize hB : w.heap.size = B at hp0 ⊢
  have HB := Lib.hid hB
  clear hB
  go_loopw [4] (fun i w' => ∃ k : Nat, k ≤ l.length ∧ i = .int .i64 k ∧ PartO ONode w' B 151 l k ∧ Ext w w') (fun i _ => l.length - (intOf i).toNat)
  case atStart => exact ⟨0, by omega, rfl, hp0, hx0⟩
  case round =>
    obtain ⟨k, hk1, rfl, hp, hx⟩ := hrel
    clear hp0 hx0
    by_cases hlt : k < l.length
    · obtain ⟨b, o, cs, rfl, hb, hr, hc⟩ := HK.out k hlt
      have HC := Lib.hid (hx.range hc)
      have HI : Hid ((Tryz.prog.info? 137).map (·.size) = some cs.length) := Lib.hid (by rw [ENode.len hr]; kernel_rfl)
      have HR := Lib.hid (ENode.keep (hx.same S) hr)
      have HP := Lib.hid hp
      have HM := Lib.hid (HS.out.2 (nth l k) (nth_mem hlt))
      clear hc hr hmk hp
      go_wp2_with (first
        | (go_at_call 127; refine (toNode_own (nth l k) cs _ HR.out HM.out).mono ?_; rintro e w1 ⟨cs', G1, rfl, hr1, hG1, hx1⟩; have HR1 := Lib.hid hr1; have HG1 := Lib.hid hG1; clear hr1 hG1)
        | (refine wpList_load_mid rfl 137 _ rfl b (o + k * 2) rfl cs _ HC.out Tryz.underlying137 rfl HI.out ?_)
        | (refine wpList_store_mid rfl 151 _ _ rfl B (k * 2) _ rfl rfl ?ht ?hi ?ho ?_))
      case ht => have := (HP.out.ext hx1).there hlt; rw [List.size_toArray, ENode.len (ONode.rel HR1.out)]; exact this
      case hi => rw [List.size_toArray, ENode.len (ONode.rel HR1.out)]; kernel_rfl
      case ho => exact all_oneCell_toArray (ENode.one (ONode.rel HR1.out))
      refine ⟨⟨k + 1, by omega, by go_num, HP.out.step hx1 hlt HR1.out HG1.out, setCells_ext (by rw [HB.out]; exact Nat.le_refl _) _ _ _ (hx.trans hx1)⟩, ?_⟩
      simp [intOf]
      omega
    · obtain rfl : k = l.length := by omega
      go_wp2_with fail
      go_ret
      obtain ⟨F, hF, hge⟩ := hp.done (by unfold maxLen; omega)
      exact ⟨_, F, rfl, hF, fun b hb => by rw [HB.out]; exact hge b hb, hx⟩
set_option maxHeartbeats 1000000 in
theorem toTaskS_own {S : Nat → Prop} (l : List Task) (v : Value) (w : World) (h : Rd ETask S w v l) (hs : SmTaskS l) :
    Calls Tryz.prog 58 #[v] w (RetO OTask 87 l w) := by
  have hn : l.length ≤ 1048576 := hs.1
  have HS := Lib.hid hs
  obtain ⟨A, c, rfl, h1, h2, hk⟩ := h.open_
  unfold maxLen at h2
  have HK := Lib.hid hk
  clear hk h hs
  have hmk := mk_TaskS l.length hn
  go_enter Tryz.func58, Tryz.ntmps58
  go_wp2_with fail
  have hp0 := PartO.new (O := OTask) (l := l) (T := 87) w (madeCells #[.int .i64 0, .int .i64 0, .int .i64 0, .string ⟨#[]⟩, .int .i64 0, .int .i64 0, .int .i64 0, .int .i64 0, .int .i64 0, .int .i64 0, .int .i64 0, .int .i64 0, .int .i64 0, .slice none 0 0] (l.length * 14)) (by rw [size_madeCells]; rfl)
  have hx0 : Ext w (w.alloc (.cells (madeCells #[.int .i64 0, .int .i64 0, .int .i64 0, .string ⟨#[]⟩, .int .i64 0, .int .i64 0, .int .i64 0, .int .i64 0, .int .i64 0, .int .i64 0, .int .i64 0, .int .i64 0, .int .i64 0, .slice none 0 0] (l.length * 14)) 87)) := (Ext.refl w).alloc _
  generalize hB : w.heap.size = B at hp0 ⊢
  have HB := Lib.hid hB
  clear hB
  go_loopw [4] (fun i w' => ∃ k : Nat, k ≤ l.length ∧ i = .int .i64 k ∧ PartO OTask w' B 87 l k ∧ Ext w w') (fun i _ => l.length - (intOf i).toNat)
  case atStart => exact ⟨0, by omega, rfl, hp0, hx0⟩
  case round =>
    obtain ⟨k, hk1, rfl, hp, hx⟩ := hrel
    clear hp0 hx0
    by_cases hlt : k < l.length
    · obtain ⟨b, o, cs, rfl, hb, hr, hc⟩ := HK.out k hlt
      have HC := Lib.hid (hx.range hc)
      have HI : Hid ((Tryz.prog.info? 140).map (·.size) = some cs.length) := Lib.hid (by rw [ETask.len hr]; kernel_rfl)
      have HR := Lib.hid (ETask.keep (hx.same S) hr)
      have HP := Lib.hid hp
      have HM := Lib.hid (HS.out.2 (nth l k) (nth_mem hlt))
      clear hc hr hmk hp
      go_wp2_with (first
        | (go_at_call 128; refine (toTask_own (nth l k) cs _ HR.out HM.out).mono ?_; rintro e w1 ⟨cs', G1, rfl, hr1, hG1, hx1⟩; have HR1 := Lib.hid hr1; have HG1 := Lib.hid hG1; clear hr1 hG1)
        | (refine wpList_load_mid rfl 140 _ rfl b (o + k * 14) rfl cs _ HC.out Tryz.underlying140 rfl HI.out ?_)
        | (refine wpList_store_mid rfl 87 _ _ rfl B (k * 14) _ rfl rfl ?ht ?hi ?ho ?_))
      case ht => have := (HP.out.ext hx1).there hlt; rw [List.size_toArray, ETask.len (OTask.rel HR1.out)]; exact this
      case hi => rw [List.size_toArray, ETask.len (OTask.rel HR1.out)]; kernel_rfl
      case ho => exact all_oneCell_toArray (ETask.one (OTask.rel HR1.out))
      refine ⟨⟨k + 1, by omega, by go_num, HP.out.step hx1 hlt HR1.out HG1.out, setCells_ext (by rw [HB.out]; exact Nat.le_refl _) _ _ _ (hx.trans hx1)⟩, ?_⟩
      simp [intOf]
      omega
    · obtain rfl : k = l.length := by omega
      go_wp2_with fail
      go_ret
      obtain ⟨F, hF, hge⟩ := hp.done (by unfold maxLen; omega)
      exact ⟨_, F, rfl, hF, fun b hb => by rw [HB.out]; exact hge b hb, hx⟩
set_option maxHeartbeats 1000000 in
theorem toUseS_own {S : Nat → Prop} (l : List Use) (v : Value) (w : World) (h : Rd EUse S w v l) (hs : SmUseS l) :
    Calls Tryz.prog 59 #[v] w (RetO OUse 155 l w) := by
  have hn : l.length ≤ 1048576 := hs.1
  have HS := Lib.hid hs
  obtain ⟨A, c, rfl, h1, h2, hk⟩ := h.open_
  unfold maxLen at h2
  have HK := Lib.hid hk
  clear hk h hs
  have hmk := mk_UseS l.length hn
  go_enter Tryz.func59, Tryz.ntmps59
  go_wp2_with fail
  have hp0 := PartO.new (O := OUse) (l := l) (T := 155) w (madeCells #[.int .i64 0, .int .i64 0, .string ⟨#[]⟩, .int .i64 0] (l.length * 4)) (by rw [size_madeCells]; rfl)
  have hx0 : Ext w (w.alloc (.cells (madeCells #[.int .i64 0, .int .i64 0, .string ⟨#[]⟩, .int .i64 0] (l.length * 4)) 155)) := (Ext.refl w).alloc _
  generalize hB : w.heap.size = B at hp0 ⊢
  have HB := Lib.hid hB
  clear hB
  go_loopw [4] (fun i w' => ∃ k : Nat, k ≤ l.length ∧ i = .int .i64 k ∧ PartO OUse w' B 155 l k ∧ Ext w w') (fun i _ => l.length - (intOf i).toNat)
  case atStart => exact ⟨0, by omega, rfl, hp0, hx0⟩
  case round =>
    obtain ⟨k, hk1, rfl, hp, hx⟩ := hrel
    clear hp0 hx0
    by_cases hlt : k < l.length
    · obtain ⟨b, o, cs, rfl, hb, hr, hc⟩ := HK.out k hlt
      have HC := Lib.hid (hx.range hc)
      have HI : Hid ((Tryz.prog.info? 143).map (·.size) = some cs.length) := Lib.hid (by rw [EUse.len hr]; kernel_rfl)
      have HR := Lib.hid (EUse.keep (hx.same S) hr)
      have HP := Lib.hid hp
      have HM := Lib.hid (HS.out.2 (nth l k) (nth_mem hlt))
      clear hc hr hmk hp
      go_wp2_with (first
        | (go_at_call 129; refine (toUse_own (nth l k) cs _ HR.out HM.out).mono ?_; rintro e w1 ⟨cs', G1, rfl, hr1, hG1, hx1⟩; have HR1 := Lib.hid hr1; have HG1 := Lib.hid hG1; clear hr1 hG1)
        | (refine wpList_load_mid rfl 143 _ rfl b (o + k * 4) rfl cs _ HC.out Tryz.underlying143 rfl HI.out ?_)
        | (refine wpList_store_mid rfl 155 _ _ rfl B (k * 4) _ rfl rfl ?ht ?hi ?ho ?_))
      case ht => have := (HP.out.ext hx1).there hlt; rw [List.size_toArray, EUse.len (OUse.rel HR1.out)]; exact this
      case hi => rw [List.size_toArray, EUse.len (OUse.rel HR1.out)]; kernel_rfl
      case ho => exact all_oneCell_toArray (EUse.one (OUse.rel HR1.out))
      refine ⟨⟨k + 1, by omega, by go_num, HP.out.step hx1 hlt HR1.out HG1.out, setCells_ext (by rw [HB.out]; exact Nat.le_refl _) _ _ _ (hx.trans hx1)⟩, ?_⟩
      simp [intOf]
      omega
    · obtain rfl : k = l.length := by omega
      go_wp2_with fail
      go_ret
      obtain ⟨F, hF, hge⟩ := hp.done (by unfold maxLen; omega)
      exact ⟨_, F, rfl, hF, fun b hb => by rw [HB.out]; exact hge b hb, hx⟩
end Go.Proofs.YtngldifgcgblpaaGreat

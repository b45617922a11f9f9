/- The copies: to... Printed by wip/gen.py. -/
import Derived.Test.YtikiipahmgpamaaRows
import Derived.Test.YtikiipahmgpamaaGElems
import Derived.Test.YtikiipahmgpamaaGSmall
namespace Go.Proofs.Ytikiipahmgpamaa
open Go.RowKit
attribute [local irreducible] wpQuiet

set_option maxHeartbeats 4000000 in
theorem toSpan_any {S : Nat → Prop} (x : Span) (cs : List Value) (w : World) (h : ESpan.rel S w cs x) (_hs : SmSpan x) :
    Calls Try.prog 12 #[.agg cs.toArray] w (RetS ESpan x w) := by
  obtain ⟨rfl, hi⟩ := h
  have HI := Lib.hid hi
  clear hi
  simp only [cellsSpan]
  go_enter Try.func12, Try.ntmps12
  go_wp2
  exact bodyPost_ret (v := .agg #[.int .i64 x.from_, .int .i64 x.to_]) (by simp [results, Try.results12, go_sem]) rfl ⟨_, rfl, ⟨rfl, HI.out⟩, (((Ext.refl _).alloc _).alloc _).alloc _⟩

set_option maxHeartbeats 4000000 in
theorem toLabel_any {S : Nat → Prop} (x : Label) (cs : List Value) (w : World) (h : ELabel.rel S w cs x) (_hs : SmLabel x) :
    Calls Try.prog 27 #[.agg cs.toArray] w (RetS ELabel x w) := by
  obtain ⟨rfl, hi⟩ := h
  have HI := Lib.hid hi
  clear hi
  simp only [cellsLabel]
  go_enter Try.func27, Try.ntmps27
  go_wp2
  exact bodyPost_ret (v := .agg #[.int .i64 x.level, .int .i64 x.set]) (by simp [results, Try.results27, go_sem]) rfl ⟨_, rfl, ⟨rfl, HI.out⟩, (((Ext.refl _).alloc _).alloc _).alloc _⟩

theorem mk_SpanS (n : Nat) (hn : n ≤ 1048576) (W : World) : (Instr.makeSlice 69 (.int .i64 (n : Int)) (.int .i64 (n : Int))).run Try.prog W = .ok (.slice (some ⟨W.heap.size, 0, none⟩) n n) (W.alloc (.cells (madeCells #[.int .i64 0, .int .i64 0] (n * 2)) 31)) := by
  obtain ⟨i0, hi, hz0, hz1, hz2⟩ := info_parts (show (Try.prog.info? 31).map (fun i => (i.zero, i.size, i.bytes)) = some (some (.agg #[.int .i64 0, .int .i64 0]), 2, 16) by kernel_rfl)
  have := run_make (P := Try.prog) W 69 31 i0 _ Try.underlying69 hi hz0 .i64 .i64 n n (by omega) (by omega) (by rw [hz2]; omega) (by omega)
  simpa [hz1, Value.cells] using this

set_option maxHeartbeats 1000000 in
theorem toSpanS_any {S : Nat → Prop} (l : List Span) (v : Value) (w : World) (h : Rd ESpan S w v l) (hs : SmSpanS l) :
    Calls Try.prog 158 #[v] w (RetL ESpan l w) := by
  have hn : l.length ≤ 1048576 := hs.1
  have HS := Lib.hid hs
  obtain ⟨A, c, rfl, h1, h2, hk⟩ := h.open_
  unfold maxLen at h2
  have HK := Lib.hid hk
  clear hk h hs
  have hmk := mk_SpanS l.length hn
  go_enter Try.func158, Try.ntmps158
  go_wp2_with fail
  have hp0 := Part.new (E := ESpan) (l := l) (T := 31) w (madeCells #[.int .i64 0, .int .i64 0] (l.length * 2)) (by rw [size_madeCells]; rfl)
  have hx0 : Ext w (w.alloc (.cells (madeCells #[.int .i64 0, .int .i64 0] (l.length * 2)) 31)) := (Ext.refl w).alloc _
  generalize hB : w.heap.size = B at hp0 ⊢
  have HB := Lib.hid hB
  clear hB
  go_loopw [4] (fun i w' => ∃ k : Nat, k ≤ l.length ∧ i = .int .i64 k ∧ Part ESpan w' B 31 l k ∧ Ext w w') (fun i _ => l.length - (intOf i).toNat)
  case atStart => exact ⟨0, by omega, rfl, hp0, hx0⟩
  case round =>
    obtain ⟨k, hk1, rfl, hp, hx⟩ := hrel
    clear hp0 hx0
    by_cases hlt : k < l.length
    · obtain ⟨b, o, cs, rfl, hb, hr, hc⟩ := HK.out k hlt
      have HC := Lib.hid (hx.range hc)
      have HI : Hid ((Try.prog.info? 24).map (·.size) = some cs.length) := Lib.hid (by rw [ESpan.len hr]; kernel_rfl)
      have HR := Lib.hid (ESpan.keep (hx.same S) hr)
      have HP := Lib.hid hp
      have HM := Lib.hid (HS.out.2 (nth l k) (nth_mem hlt))
      clear hc hr hmk hp
      go_wp2_with (first
        | (go_at_call 12; refine (toSpan_any (nth l k) cs _ HR.out HM.out).mono ?_; rintro e w1 ⟨cs', rfl, hr1, hx1⟩; have HR1 := Lib.hid hr1; clear hr1)
        | (refine wpList_load_mid rfl 24 _ rfl b (o + k * 2) rfl cs _ HC.out Try.underlying24 rfl HI.out ?_)
        | (refine wpList_store_mid rfl 31 _ _ rfl B (k * 2) _ rfl rfl ?ht ?hi ?ho ?_))
      case ht => have := (HP.out.ext hx1).there hlt; rw [List.size_toArray, ESpan.len HR1.out]; exact this
      case hi => rw [List.size_toArray, ESpan.len HR1.out]; kernel_rfl
      case ho => exact all_oneCell_toArray (ESpan.one HR1.out)
      refine ⟨⟨k + 1, by omega, by go_num, (HP.out.ext hx1).step hlt (ESpan.sub (fun b hb => Nat.lt_of_lt_of_le HP.out.lt hb) HR1.out), setCells_ext (by rw [HB.out]; exact Nat.le_refl _) _ _ _ (hx.trans hx1)⟩, ?_⟩
      simp [intOf]
      omega
    · obtain rfl : k = l.length := by omega
      go_wp2_with fail
      go_ret
      exact ⟨_, rfl, (hp.done (by unfold maxLen; omega)).sub (fun b hb => by rw [HB.out]; exact hb), hx⟩

set_option maxHeartbeats 4000000 in
theorem toNode_any {S : Nat → Prop} (x : Node) (cs : List Value) (w : World) (h : ENode.rel S w cs x) (hs : SmNode x) :
    Calls Try.prog 78 #[.agg cs.toArray] w (RetS ENode x w) := by
  obtain ⟨v1, rfl, hi, h1⟩ := h
  have HI := Lib.hid hi
  have H1 := Lib.hid h1
  clear hi h1
  simp only [cellsNode]
  go_enter Try.func78, Try.ntmps78
  have HS := Lib.hid hs
  clear hs
  go_wp2_with fail
  obtain ⟨W, B, hW, hB, hx0, a0, r0, o0⟩ := boxes3 w #[.int .i64 x.state, v1] #[.int .i64 0, .slice none 0 0] #[.int .i64 x.state, .slice none 0 0] 98 72 72
  rw [← hW, ← hB]
  have HB := Lib.hid hB
  clear hW hB
  have a_0 := Lib.hid a0
  have r_0 := Lib.hid r0
  have o_0 := Lib.hid o0
  have X_0 := Lib.hid hx0
  clear a0 r0 o0 hx0
  refine (toSpanS_any x.books v1 _ (H1.out.ext (by repeat (first | with_reducible exact X_0.out | refine Ext.setCell ?_ (by show w.heap.size ≤ B + 1 + 1; rw [← HB.out]; omega) _))) (by have h := HS.out; simp only [SmNode] at h; first | exact h | exact h.1 | exact h.2 | exact h.2.1 | exact h.2.2 | exact h.2.2.1 | exact h.2.2.2 | exact h.2.2.2.1 | exact h.2.2.2.2)).mono ?_
  rintro e w1 ⟨u1, rfl, q1, hx⟩
  obtain ⟨p1, k1, rfl, -⟩ := q1.form
  have Q1 := Lib.hid (q1.sub (S' := fun b => B + 1 + 1 < b) (fun b hb => Nat.lt_of_lt_of_le (by have hl := (show Blk _ _ _ _ from o_0.out).lt; exact hl) hb))
  clear q1
  have a_1 : Hid (Blk w1 B 98 #[.int .i64 x.state, v1]) := Lib.hid (Blk.ext (by repeat (first | with_reducible exact a_0.out | refine Blk.far ?_ (by simp <;> omega) _)) hx)
  have r_1 : Hid (Blk w1 (B + 1) 72 #[.int .i64 0, .slice none 0 0]) := Lib.hid (Blk.ext (by repeat (first | with_reducible exact r_0.out | refine Blk.far ?_ (by simp <;> omega) _)) hx)
  have o_1 : Hid (Blk w1 (B + 1 + 1) 72 #[.int .i64 x.state, .slice none 0 0]) := Lib.hid (Blk.ext (by simpa using o_0.out) hx)
  have X_1 : Hid (Ext w w1) := Lib.hid (Ext.trans (by repeat (first | with_reducible exact X_0.out | refine Ext.setCell ?_ (by show w.heap.size ≤ B + 1 + 1; rw [← HB.out]; omega) _)) hx)
  clear hx
  have ac := a_1.out.cell
  have oc := o_1.out.cell
  have of := o_1.out.frozen
  clear a_0 r_0 o_0 X_0
  go_wp2_with (first
    | (refine wpList_load_mid rfl 72 _ rfl (B + 1 + 1) 0 rfl [.int .i64 x.state, .slice p1 x.books.length k1] _ ?hl Try.underlying72 rfl (by kernel_rfl) ?_)
    | (refine wpList_store_mid rfl 72 _ _ rfl (B + 1) 0 #[.int .i64 x.state, .slice p1 x.books.length k1] rfl rfl ?ht (by kernel_rfl) ?ho ?_))
  case hl => exact Blk.range (t := 72) (cs := #[.int .i64 x.state, .slice p1 x.books.length k1]) (by simpa using (o_1.out.set_ 1 (.slice p1 x.books.length k1)))
  case ht => exact Blk.there (t := 72) (cs := #[.int .i64 0, .slice none 0 0]) (by repeat (first | with_reducible exact r_1.out | refine Blk.far ?_ (by simp <;> omega) _))
  case ho => exact all_oneCell_toArray (cs := [.int .i64 x.state, .slice p1 x.books.length k1]) (by simp [Value.oneCell'])
  exact bodyPost_ret (v := .agg #[.int .i64 x.state, .slice p1 x.books.length k1]) (results_blk Try.results78 rfl (Blk.setAll (t := 72) (cs := #[.int .i64 0, .slice none 0 0]) (vs := #[.int .i64 x.state, .slice p1 x.books.length k1]) (by repeat (first | with_reducible exact r_1.out | refine Blk.far ?_ (by simp <;> omega) _)) rfl) Try.underlying72 rfl (by kernel_rfl)) rfl ⟨_, rfl, ⟨_, rfl, HI.out, Rd.sub (Q1.out.keep (setCells_same' (by repeat (first | with_reducible exact Same.refl _ _ | refine Same.setCell ?_ (by simp) _)) (by simp))) (fun b hb => by rw [← HB.out]; omega)⟩, setCells_ext (by rw [← HB.out]; omega) _ _ _ (by repeat (first | with_reducible exact X_1.out | refine Ext.setCell ?_ (by show w.heap.size ≤ B + 1 + 1; rw [← HB.out]; omega) _))⟩

set_option maxHeartbeats 4000000 in
theorem toUse_any {S : Nat → Prop} (x : Use) (cs : List Value) (w : World) (h : EUse.rel S w cs x) (_hs : SmUse x) :
    Calls Try.prog 98 #[.agg cs.toArray] w (RetS EUse x w) := by
  obtain ⟨rfl, hi⟩ := h
  have HI := Lib.hid hi
  clear hi
  simp only [cellsUse]
  go_enter Try.func98, Try.ntmps98
  go_wp2_with fail
  obtain ⟨W, B, hW, hB, hx0, a0, r0, o0⟩ := boxes3 w #[.int .i64 x.label.level, .int .i64 x.label.set, .string x.owner, .int .i64 x.used] #[.int .i64 0, .int .i64 0, .string ⟨#[]⟩, .int .i64 0] #[.int .i64 0, .int .i64 0, .string ⟨#[]⟩, .int .i64 0] 121 123 123
  rw [← hW, ← hB]
  have HB := Lib.hid hB
  clear hW hB
  have a_0 := Lib.hid a0
  have r_0 := Lib.hid r0
  have o_0 := Lib.hid o0
  have X_0 := Lib.hid hx0
  clear a0 r0 o0 hx0
  refine (toLabel_any x.label [.int .i64 x.label.level, .int .i64 x.label.set] _ (S := S) ⟨rfl, (by have hf := HI.out; simp only [FitUse] at hf; simp only [FitLabel, hf, and_self])⟩ trivial).mono ?_
  rintro e w1 ⟨_, rfl, ⟨rfl, _⟩, hx⟩
  simp only [cellsLabel]
  have a_1 : Hid (Blk w1 B 121 #[.int .i64 x.label.level, .int .i64 x.label.set, .string x.owner, .int .i64 x.used]) := Lib.hid (Blk.ext (by repeat (first | with_reducible exact a_0.out | refine Blk.far ?_ (by simp <;> omega) _)) hx)
  have r_1 : Hid (Blk w1 (B + 1) 123 #[.int .i64 0, .int .i64 0, .string ⟨#[]⟩, .int .i64 0]) := Lib.hid (Blk.ext (by repeat (first | with_reducible exact r_0.out | refine Blk.far ?_ (by simp <;> omega) _)) hx)
  have o_1 : Hid (Blk w1 (B + 1 + 1) 123 #[.int .i64 0, .int .i64 0, .string ⟨#[]⟩, .int .i64 0]) := Lib.hid (Blk.ext (by simpa using o_0.out) hx)
  have X_1 : Hid (Ext w w1) := Lib.hid (Ext.trans (by repeat (first | with_reducible exact X_0.out | refine Ext.setCell ?_ (by show w.heap.size ≤ B + 1 + 1; rw [← HB.out]; omega) _)) hx)
  clear hx
  have ac := a_1.out.cell
  have oc := o_1.out.cell
  have of := o_1.out.frozen
  clear a_0 r_0 o_0 X_0
  go_wp2_with (first
    | (refine wpList_load_mid rfl 123 _ rfl (B + 1 + 1) 0 rfl [.int .i64 x.label.level, .int .i64 x.label.set, .string x.owner, .int .i64 x.used] _ ?hl Try.underlying123 rfl (by kernel_rfl) ?_)
    | (refine wpList_store_mid rfl 123 _ _ rfl (B + 1) 0 #[.int .i64 x.label.level, .int .i64 x.label.set, .string x.owner, .int .i64 x.used] rfl rfl ?ht (by kernel_rfl) ?ho ?_))
  case hl => exact Blk.range (t := 123) (cs := #[.int .i64 x.label.level, .int .i64 x.label.set, .string x.owner, .int .i64 x.used]) (by simpa using ((((o_1.out.set_ 0 (.int .i64 x.label.level)).set_ 1 (.int .i64 x.label.set)).set_ 2 (.string x.owner)).set_ 3 (.int .i64 x.used)))
  case ht => exact Blk.there (t := 123) (cs := #[.int .i64 0, .int .i64 0, .string ⟨#[]⟩, .int .i64 0]) (by repeat (first | with_reducible exact r_1.out | refine Blk.far ?_ (by simp <;> omega) _))
  case ho => exact all_oneCell_toArray (cs := [.int .i64 x.label.level, .int .i64 x.label.set, .string x.owner, .int .i64 x.used]) (by simp [Value.oneCell'])
  exact bodyPost_ret (v := .agg #[.int .i64 x.label.level, .int .i64 x.label.set, .string x.owner, .int .i64 x.used]) (results_blk Try.results98 rfl (Blk.setAll (t := 123) (cs := #[.int .i64 0, .int .i64 0, .string ⟨#[]⟩, .int .i64 0]) (vs := #[.int .i64 x.label.level, .int .i64 x.label.set, .string x.owner, .int .i64 x.used]) (by repeat (first | with_reducible exact r_1.out | refine Blk.far ?_ (by simp <;> omega) _)) rfl) Try.underlying123 rfl (by kernel_rfl)) rfl ⟨_, rfl, ⟨rfl, HI.out⟩, setCells_ext (by rw [← HB.out]; omega) _ _ _ (by repeat (first | with_reducible exact X_1.out | refine Ext.setCell ?_ (by show w.heap.size ≤ B + 1 + 1; rw [← HB.out]; omega) _))⟩

theorem mk_NodeS (n : Nat) (hn : n ≤ 1048576) (W : World) : (Instr.makeSlice 26 (.int .i64 (n : Int)) (.int .i64 (n : Int))).run Try.prog W = .ok (.slice (some ⟨W.heap.size, 0, none⟩) n n) (W.alloc (.cells (madeCells #[.int .i64 0, .slice none 0 0] (n * 2)) 72)) := by
  obtain ⟨i0, hi, hz0, hz1, hz2⟩ := info_parts (show (Try.prog.info? 72).map (fun i => (i.zero, i.size, i.bytes)) = some (some (.agg #[.int .i64 0, .slice none 0 0]), 2, 32) by kernel_rfl)
  have := run_make (P := Try.prog) W 26 72 i0 _ Try.underlying26 hi hz0 .i64 .i64 n n (by omega) (by omega) (by rw [hz2]; omega) (by omega)
  simpa [hz1, Value.cells] using this

set_option maxHeartbeats 1000000 in
theorem toNodeS_any {S : Nat → Prop} (l : List Node) (v : Value) (w : World) (h : Rd ENode S w v l) (hs : SmNodeS l) :
    Calls Try.prog 11 #[v] w (RetL ENode l w) := by
  have hn : l.length ≤ 1048576 := hs.1
  have HS := Lib.hid hs
  obtain ⟨A, c, rfl, h1, h2, hk⟩ := h.open_
  unfold maxLen at h2
  have HK := Lib.hid hk
  clear hk h hs
  have hmk := mk_NodeS l.length hn
  go_enter Try.func11, Try.ntmps11
  go_wp2_with fail
  have hp0 := Part.new (E := ENode) (l := l) (T := 72) w (madeCells #[.int .i64 0, .slice none 0 0] (l.length * 2)) (by rw [size_madeCells]; rfl)
  have hx0 : Ext w (w.alloc (.cells (madeCells #[.int .i64 0, .slice none 0 0] (l.length * 2)) 72)) := (Ext.refl w).alloc _
  generalize hB : w.heap.size = B at hp0 ⊢
  have HB := Lib.hid hB
  clear hB
  go_loopw [4] (fun i w' => ∃ k : Nat, k ≤ l.length ∧ i = .int .i64 k ∧ Part ENode w' B 72 l k ∧ Ext w w') (fun i _ => l.length - (intOf i).toNat)
  case atStart => exact ⟨0, by omega, rfl, hp0, hx0⟩
  case round =>
    obtain ⟨k, hk1, rfl, hp, hx⟩ := hrel
    clear hp0 hx0
    by_cases hlt : k < l.length
    · obtain ⟨b, o, cs, rfl, hb, hr, hc⟩ := HK.out k hlt
      have HC := Lib.hid (hx.range hc)
      have HI : Hid ((Try.prog.info? 98).map (·.size) = some cs.length) := Lib.hid (by rw [ENode.len hr]; kernel_rfl)
      have HR := Lib.hid (ENode.keep (hx.same S) hr)
      have HP := Lib.hid hp
      have HM := Lib.hid (HS.out.2 (nth l k) (nth_mem hlt))
      clear hc hr hmk hp
      go_wp2_with (first
        | (go_at_call 78; refine (toNode_any (nth l k) cs _ HR.out HM.out).mono ?_; rintro e w1 ⟨cs', rfl, hr1, hx1⟩; have HR1 := Lib.hid hr1; clear hr1)
        | (refine wpList_load_mid rfl 98 _ rfl b (o + k * 2) rfl cs _ HC.out Try.underlying98 rfl HI.out ?_)
        | (refine wpList_store_mid rfl 72 _ _ rfl B (k * 2) _ rfl rfl ?ht ?hi ?ho ?_))
      case ht => have := (HP.out.ext hx1).there hlt; rw [List.size_toArray, ENode.len HR1.out]; exact this
      case hi => rw [List.size_toArray, ENode.len HR1.out]; kernel_rfl
      case ho => exact all_oneCell_toArray (ENode.one HR1.out)
      refine ⟨⟨k + 1, by omega, by go_num, (HP.out.ext hx1).step hlt (ENode.sub (fun b hb => Nat.lt_of_lt_of_le HP.out.lt hb) HR1.out), setCells_ext (by rw [HB.out]; exact Nat.le_refl _) _ _ _ (hx.trans hx1)⟩, ?_⟩
      simp [intOf]
      omega
    · obtain rfl : k = l.length := by omega
      go_wp2_with fail
      go_ret
      exact ⟨_, rfl, (hp.done (by unfold maxLen; omega)).sub (fun b hb => by rw [HB.out]; exact hb), hx⟩

theorem mk_UseS (n : Nat) (hn : n ≤ 1048576) (W : World) : (Instr.makeSlice 52 (.int .i64 (n : Int)) (.int .i64 (n : Int))).run Try.prog W = .ok (.slice (some ⟨W.heap.size, 0, none⟩) n n) (W.alloc (.cells (madeCells #[.int .i64 0, .int .i64 0, .string ⟨#[]⟩, .int .i64 0] (n * 4)) 123)) := by
  obtain ⟨i0, hi, hz0, hz1, hz2⟩ := info_parts (show (Try.prog.info? 123).map (fun i => (i.zero, i.size, i.bytes)) = some (some (.agg #[.int .i64 0, .int .i64 0, .string ⟨#[]⟩, .int .i64 0]), 4, 40) by kernel_rfl)
  have := run_make (P := Try.prog) W 52 123 i0 _ Try.underlying52 hi hz0 .i64 .i64 n n (by omega) (by omega) (by rw [hz2]; omega) (by omega)
  simpa [hz1, Value.cells] using this

set_option maxHeartbeats 1000000 in
theorem toUseS_any {S : Nat → Prop} (l : List Use) (v : Value) (w : World) (h : Rd EUse S w v l) (hs : SmUseS l) :
    Calls Try.prog 26 #[v] w (RetL EUse l w) := by
  have hn : l.length ≤ 1048576 := hs.1
  have HS := Lib.hid hs
  obtain ⟨A, c, rfl, h1, h2, hk⟩ := h.open_
  unfold maxLen at h2
  have HK := Lib.hid hk
  clear hk h hs
  have hmk := mk_UseS l.length hn
  go_enter Try.func26, Try.ntmps26
  go_wp2_with fail
  have hp0 := Part.new (E := EUse) (l := l) (T := 123) w (madeCells #[.int .i64 0, .int .i64 0, .string ⟨#[]⟩, .int .i64 0] (l.length * 4)) (by rw [size_madeCells]; rfl)
  have hx0 : Ext w (w.alloc (.cells (madeCells #[.int .i64 0, .int .i64 0, .string ⟨#[]⟩, .int .i64 0] (l.length * 4)) 123)) := (Ext.refl w).alloc _
  generalize hB : w.heap.size = B at hp0 ⊢
  have HB := Lib.hid hB
  clear hB
  go_loopw [4] (fun i w' => ∃ k : Nat, k ≤ l.length ∧ i = .int .i64 k ∧ Part EUse w' B 123 l k ∧ Ext w w') (fun i _ => l.length - (intOf i).toNat)
  case atStart => exact ⟨0, by omega, rfl, hp0, hx0⟩
  case round =>
    obtain ⟨k, hk1, rfl, hp, hx⟩ := hrel
    clear hp0 hx0
    by_cases hlt : k < l.length
    · obtain ⟨b, o, cs, rfl, hb, hr, hc⟩ := HK.out k hlt
      have HC := Lib.hid (hx.range hc)
      have HI : Hid ((Try.prog.info? 121).map (·.size) = some cs.length) := Lib.hid (by rw [EUse.len hr]; kernel_rfl)
      have HR := Lib.hid (EUse.keep (hx.same S) hr)
      have HP := Lib.hid hp
      have HM := Lib.hid (HS.out.2 (nth l k) (nth_mem hlt))
      clear hc hr hmk hp
      go_wp2_with (first
        | (go_at_call 98; refine (toUse_any (nth l k) cs _ HR.out HM.out).mono ?_; rintro e w1 ⟨cs', rfl, hr1, hx1⟩; have HR1 := Lib.hid hr1; clear hr1)
        | (refine wpList_load_mid rfl 121 _ rfl b (o + k * 4) rfl cs _ HC.out Try.underlying121 rfl HI.out ?_)
        | (refine wpList_store_mid rfl 123 _ _ rfl B (k * 4) _ rfl rfl ?ht ?hi ?ho ?_))
      case ht => have := (HP.out.ext hx1).there hlt; rw [List.size_toArray, EUse.len HR1.out]; exact this
      case hi => rw [List.size_toArray, EUse.len HR1.out]; kernel_rfl
      case ho => exact all_oneCell_toArray (EUse.one HR1.out)
      refine ⟨⟨k + 1, by omega, by go_num, (HP.out.ext hx1).step hlt (EUse.sub (fun b hb => Nat.lt_of_lt_of_le HP.out.lt hb) HR1.out), setCells_ext (by rw [HB.out]; exact Nat.le_refl _) _ _ _ (hx.trans hx1)⟩, ?_⟩
      simp [intOf]
      omega
    · obtain rfl : k = l.length := by omega
      go_wp2_with fail
      go_ret
      exact ⟨_, rfl, (hp.done (by unfold maxLen; omega)).sub (fun b hb => by rw [HB.out]; exact hb), hx⟩

end Go.Proofs.Ytikiipahmgpamaa

/- The copies: to... Printed by wip/gen.py. -/
import Derived.Test.YtalnbddpkkkpeaaRows
import Derived.Test.YtalnbddpkkkpeaaGElems
import Derived.Test.YtalnbddpkkkpeaaGSmall
namespace Go.Proofs.Ytalnbddpkkkpeaa
open Go.RowKit
attribute [local irreducible] wpQuiet

set_option maxHeartbeats 4000000 in
theorem toSpan_any {S : Nat → Prop} (x : Span) (cs : List Value) (w : World) (h : ESpan.rel S w cs x) (_hs : SmSpan x) :
    Calls Try.prog 61 #[.agg cs.toArray] w (RetS ESpan x w) := by
  obtain ⟨rfl, hi⟩ := h
  have HI := Lib.hid hi
  clear hi
  simp only [cellsSpan]
  go_enter Try.func61, Try.ntmps61
  go_wp2
  exact bodyPost_ret (v := .agg #[.int .i64 x.from_, .int .i64 x.to_]) (by simp [results, Try.results61, go_sem]) rfl ⟨_, rfl, ⟨rfl, HI.out⟩, (((Ext.refl _).alloc _).alloc _).alloc _⟩

set_option maxHeartbeats 4000000 in
theorem toLabel_any {S : Nat → Prop} (x : Label) (cs : List Value) (w : World) (h : ELabel.rel S w cs x) (_hs : SmLabel x) :
    Calls Try.prog 44 #[.agg cs.toArray] w (RetS ELabel x w) := by
  obtain ⟨rfl, hi⟩ := h
  have HI := Lib.hid hi
  clear hi
  simp only [cellsLabel]
  go_enter Try.func44, Try.ntmps44
  go_wp2
  exact bodyPost_ret (v := .agg #[.int .i64 x.level, .int .i64 x.set]) (by simp [results, Try.results44, go_sem]) rfl ⟨_, rfl, ⟨rfl, HI.out⟩, (((Ext.refl _).alloc _).alloc _).alloc _⟩

theorem mk_SpanS (n : Nat) (hn : n ≤ 1048576) (W : World) : (Instr.makeSlice 112 (.int .i64 (n : Int)) (.int .i64 (n : Int))).run Try.prog W = .ok (.slice (some ⟨W.heap.size, 0, none⟩) n n) (W.alloc (.cells (madeCells #[.int .i64 0, .int .i64 0] (n * 2)) 76)) := by
  obtain ⟨i0, hi, hz0, hz1, hz2⟩ := info_parts (show (Try.prog.info? 76).map (fun i => (i.zero, i.size, i.bytes)) = some (some (.agg #[.int .i64 0, .int .i64 0]), 2, 16) by kernel_rfl)
  have := run_make (P := Try.prog) W 112 76 i0 _ Try.underlying112 hi hz0 .i64 .i64 n n (by omega) (by omega) (by rw [hz2]; omega) (by omega)
  simpa [hz1, Value.cells] using this

set_option maxHeartbeats 1000000 in
theorem toSpanS_any {S : Nat → Prop} (l : List Span) (v : Value) (w : World) (h : Rd ESpan S w v l) (hs : SmSpanS l) :
    Calls Try.prog 179 #[v] w (RetL ESpan l w) := by
  have hn : l.length ≤ 1048576 := hs.1
  have HS := Lib.hid hs
  obtain ⟨A, c, rfl, h1, h2, hk⟩ := h.open_
  unfold maxLen at h2
  have HK := Lib.hid hk
  clear hk h hs
  have hmk := mk_SpanS l.length hn
  go_enter Try.func179, Try.ntmps179
  go_wp2_with fail
  have hp0 := Part.new (E := ESpan) (l := l) (T := 76) w (madeCells #[.int .i64 0, .int .i64 0] (l.length * 2)) (by rw [size_madeCells]; rfl)
  have hx0 : Ext w (w.alloc (.cells (madeCells #[.int .i64 0, .int .i64 0] (l.length * 2)) 76)) := (Ext.refl w).alloc _
  generalize hB : w.heap.size = B at hp0 ⊢
  have HB := Lib.hid hB
  clear hB
  go_loopw [4] (fun i w' => ∃ k : Nat, k ≤ l.length ∧ i = .int .i64 k ∧ Part ESpan w' B 76 l k ∧ Ext w w') (fun i _ => l.length - (intOf i).toNat)
  case atStart => exact ⟨0, by omega, rfl, hp0, hx0⟩
  case round =>
    obtain ⟨k, hk1, rfl, hp, hx⟩ := hrel
    clear hp0 hx0
    by_cases hlt : k < l.length
    · obtain ⟨b, o, cs, rfl, hb, hr, hc⟩ := HK.out k hlt
      have HC := Lib.hid (hx.range hc)
      have HI : Hid ((Try.prog.info? 74).map (·.size) = some cs.length) := Lib.hid (by rw [ESpan.len hr]; kernel_rfl)
      have HR := Lib.hid (ESpan.keep (hx.same S) hr)
      have HP := Lib.hid hp
      have HM := Lib.hid (HS.out.2 (nth l k) (nth_mem hlt))
      clear hc hr hmk hp
      go_wp2_with (first
        | (go_at_call 61; refine (toSpan_any (nth l k) cs _ HR.out HM.out).mono ?_; rintro e w1 ⟨cs', rfl, hr1, hx1⟩; have HR1 := Lib.hid hr1; clear hr1)
        | (refine wpList_load_mid rfl 74 _ rfl b (o + k * 2) rfl cs _ HC.out Try.underlying74 rfl HI.out ?_)
        | (refine wpList_store_mid rfl 76 _ _ rfl B (k * 2) _ rfl rfl ?ht ?hi ?ho ?_))
      case ht => have := (HP.out.ext hx1).there hlt; rw [List.size_toArray, ESpan.len HR1.out]; exact this
      case hi => rw [List.size_toArray, ESpan.len HR1.out]; kernel_rfl
      case ho => exact all_oneCell_toArray (ESpan.one HR1.out)
      refine ⟨⟨k + 1, by omega, by go_num, (HP.out.ext hx1).step hlt (ESpan.sub (fun b hb => Nat.lt_of_lt_of_le HP.out.lt hb) HR1.out), setCells_ext (by rw [HB.out]; exact Nat.le_refl _) _ _ _ (hx.trans hx1)⟩, ?_⟩
      simp [intOf]
      omega
    · obtain rfl : k = l.length := by omega
      go_wp2_with fail
      go_ret
      exact ⟨_, rfl, (hp.done (by unfold maxLen; omega)).sub (fun b hb => by rw [HB.out]; exact hb), hx⟩

set_option maxHeartbeats 4000000 in
theorem toNode_any {S : Nat → Prop} (x : Node) (cs : List Value) (w : World) (h : ENode.rel S w cs x) (hs : SmNode x) :
    Calls Try.prog 93 #[.agg cs.toArray] w (RetS ENode x w) := by
  obtain ⟨v1, rfl, hi, h1⟩ := h
  have HI := Lib.hid hi
  have H1 := Lib.hid h1
  clear hi h1
  simp only [cellsNode]
  go_enter Try.func93, Try.ntmps93
  have HS := Lib.hid hs
  clear hs
  go_wp2_with fail
  obtain ⟨W, B, hW, hB, hx0, a0, r0, o0⟩ := boxes3 w #[.int .i64 x.state, v1] #[.int .i64 0, .slice none 0 0] #[.int .i64 x.state, .slice none 0 0] 121 114 114
  rw [← hW, ← hB]
  have HB := Lib.hid hB
  clear hW hB
  have a_0 := Lib.hid a0
  have r_0 := Lib.hid r0
  have o_0 := Lib.hid o0
  have X_0 := Lib.hid hx0
  clear a0 r0 o0 hx0
  refine (toSpanS_any x.books v1 _ (H1.out.ext (by repeat (first | with_reducible exact X_0.out | refine Ext.setCell ?_ (by show w.heap.size ≤ B + 1 + 1; rw [← HB.out]; omega) _))) (by have h := HS.out; simp only [SmNode] at h; first | exact h | exact h.1 | exact h.2 | exact h.2.1 | exact h.2.2 | exact h.2.2.1 | exact h.2.2.2 | exact h.2.2.2.1 | exact h.2.2.2.2)).mono ?_
  rintro e w1 ⟨u1, rfl, q1, hx⟩
  obtain ⟨p1, k1, rfl, -⟩ := q1.form
  have Q1 := Lib.hid (q1.sub (S' := fun b => B + 1 + 1 < b) (fun b hb => Nat.lt_of_lt_of_le (by have hl := (show Blk _ _ _ _ from o_0.out).lt; exact hl) hb))
  clear q1
  have a_1 : Hid (Blk w1 B 121 #[.int .i64 x.state, v1]) := Lib.hid (Blk.ext (by repeat (first | with_reducible exact a_0.out | refine Blk.far ?_ (by simp <;> omega) _)) hx)
  have r_1 : Hid (Blk w1 (B + 1) 114 #[.int .i64 0, .slice none 0 0]) := Lib.hid (Blk.ext (by repeat (first | with_reducible exact r_0.out | refine Blk.far ?_ (by simp <;> omega) _)) hx)
  have o_1 : Hid (Blk w1 (B + 1 + 1) 114 #[.int .i64 x.state, .slice none 0 0]) := Lib.hid (Blk.ext (by simpa using o_0.out) hx)
  have X_1 : Hid (Ext w w1) := Lib.hid (Ext.trans (by repeat (first | with_reducible exact X_0.out | refine Ext.setCell ?_ (by show w.heap.size ≤ B + 1 + 1; rw [← HB.out]; omega) _)) hx)
  clear hx
  have ac := a_1.out.cell
  have oc := o_1.out.cell
  have of := o_1.out.frozen
  clear a_0 r_0 o_0 X_0
  go_wp2_with (first
    | (refine wpList_load_mid rfl 114 _ rfl (B + 1 + 1) 0 rfl [.int .i64 x.state, .slice p1 x.books.length k1] _ ?hl Try.underlying114 rfl (by kernel_rfl) ?_)
    | (refine wpList_store_mid rfl 114 _ _ rfl (B + 1) 0 #[.int .i64 x.state, .slice p1 x.books.length k1] rfl rfl ?ht (by kernel_rfl) ?ho ?_))
  case hl => exact Blk.range (t := 114) (cs := #[.int .i64 x.state, .slice p1 x.books.length k1]) (by simpa using (o_1.out.set_ 1 (.slice p1 x.books.length k1)))
  case ht => exact Blk.there (t := 114) (cs := #[.int .i64 0, .slice none 0 0]) (by repeat (first | with_reducible exact r_1.out | refine Blk.far ?_ (by simp <;> omega) _))
  case ho => exact all_oneCell_toArray (cs := [.int .i64 x.state, .slice p1 x.books.length k1]) (by simp [Value.oneCell'])
  exact bodyPost_ret (v := .agg #[.int .i64 x.state, .slice p1 x.books.length k1]) (results_blk Try.results93 rfl (Blk.setAll (t := 114) (cs := #[.int .i64 0, .slice none 0 0]) (vs := #[.int .i64 x.state, .slice p1 x.books.length k1]) (by repeat (first | with_reducible exact r_1.out | refine Blk.far ?_ (by simp <;> omega) _)) rfl) Try.underlying114 rfl (by kernel_rfl)) rfl ⟨_, rfl, ⟨_, rfl, HI.out, Rd.sub (Q1.out.keep (setCells_same' (by repeat (first | with_reducible exact Same.refl _ _ | refine Same.setCell ?_ (by simp) _)) (by simp))) (fun b hb => by rw [← HB.out]; omega)⟩, setCells_ext (by rw [← HB.out]; omega) _ _ _ (by repeat (first | with_reducible exact X_1.out | refine Ext.setCell ?_ (by show w.heap.size ≤ B + 1 + 1; rw [← HB.out]; omega) _))⟩

set_option maxHeartbeats 4000000 in
theorem toUse_any {S : Nat → Prop} (x : Use) (cs : List Value) (w : World) (h : EUse.rel S w cs x) (_hs : SmUse x) :
    Calls Try.prog 149 #[.agg cs.toArray] w (RetS EUse x w) := by
  obtain ⟨rfl, hi⟩ := h
  have HI := Lib.hid hi
  clear hi
  simp only [cellsUse]
  go_enter Try.func149, Try.ntmps149
  go_wp2_with fail
  obtain ⟨W, B, hW, hB, hx0, a0, r0, o0⟩ := boxes3 w #[.int .i64 x.label.level, .int .i64 x.label.set, .string x.owner, .int .i64 x.used] #[.int .i64 0, .int .i64 0, .string ⟨#[]⟩, .int .i64 0] #[.int .i64 0, .int .i64 0, .string ⟨#[]⟩, .int .i64 0] 161 163 163
  rw [← hW, ← hB]
  have HB := Lib.hid hB
  clear hW hB
  have a_0 := Lib.hid a0
  have r_0 := Lib.hid r0
  have o_0 := Lib.hid o0
  have X_0 := Lib.hid hx0
  clear a0 r0 o0 hx0
  refine (toLabel_any x.label [.int .i64 x.label.level, .int .i64 x.label.set] _ (S := S) ⟨rfl, (by have hf := HI.out; simp only [FitUse] at hf; simp only [FitLabel, hf, and_self])⟩ trivial).mono ?_
  rintro e w1 ⟨_, rfl, ⟨rfl, _⟩, hx⟩
  simp only [cellsLabel]
  have a_1 : Hid (Blk w1 B 161 #[.int .i64 x.label.level, .int .i64 x.label.set, .string x.owner, .int .i64 x.used]) := Lib.hid (Blk.ext (by repeat (first | with_reducible exact a_0.out | refine Blk.far ?_ (by simp <;> omega) _)) hx)
  have r_1 : Hid (Blk w1 (B + 1) 163 #[.int .i64 0, .int .i64 0, .string ⟨#[]⟩, .int .i64 0]) := Lib.hid (Blk.ext (by repeat (first | with_reducible exact r_0.out | refine Blk.far ?_ (by simp <;> omega) _)) hx)
  have o_1 : Hid (Blk w1 (B + 1 + 1) 163 #[.int .i64 0, .int .i64 0, .string ⟨#[]⟩, .int .i64 0]) := Lib.hid (Blk.ext (by simpa using o_0.out) hx)
  have X_1 : Hid (Ext w w1) := Lib.hid (Ext.trans (by repeat (first | with_reducible exact X_0.out | refine Ext.setCell ?_ (by show w.heap.size ≤ B + 1 + 1; rw [← HB.out]; omega) _)) hx)
  clear hx
  have ac := a_1.out.cell
  have oc := o_1.out.cell
  have of := o_1.out.frozen
  clear a_0 r_0 o_0 X_0
  go_wp2_with (first
    | (refine wpList_load_mid rfl 163 _ rfl (B + 1 + 1) 0 rfl [.int .i64 x.label.level, .int .i64 x.label.set, .string x.owner, .int .i64 x.used] _ ?hl Try.underlying163 rfl (by kernel_rfl) ?_)
    | (refine wpList_store_mid rfl 163 _ _ rfl (B + 1) 0 #[.int .i64 x.label.level, .int .i64 x.label.set, .string x.owner, .int .i64 x.used] rfl rfl ?ht (by kernel_rfl) ?ho ?_))
  case hl => exact Blk.range (t := 163) (cs := #[.int .i64 x.label.level, .int .i64 x.label.set, .string x.owner, .int .i64 x.used]) (by simpa using ((((o_1.out.set_ 0 (.int .i64 x.label.level)).set_ 1 (.int .i64 x.label.set)).set_ 2 (.string x.owner)).set_ 3 (.int .i64 x.used)))
  case ht => exact Blk.there (t := 163) (cs := #[.int .i64 0, .int .i64 0, .string ⟨#[]⟩, .int .i64 0]) (by repeat (first | with_reducible exact r_1.out | refine Blk.far ?_ (by simp <;> omega) _))
  case ho => exact all_oneCell_toArray (cs := [.int .i64 x.label.level, .int .i64 x.label.set, .string x.owner, .int .i64 x.used]) (by simp [Value.oneCell'])
  exact bodyPost_ret (v := .agg #[.int .i64 x.label.level, .int .i64 x.label.set, .string x.owner, .int .i64 x.used]) (results_blk Try.results149 rfl (Blk.setAll (t := 163) (cs := #[.int .i64 0, .int .i64 0, .string ⟨#[]⟩, .int .i64 0]) (vs := #[.int .i64 x.label.level, .int .i64 x.label.set, .string x.owner, .int .i64 x.used]) (by repeat (first | with_reducible exact r_1.out | refine Blk.far ?_ (by simp <;> omega) _)) rfl) Try.underlying163 rfl (by kernel_rfl)) rfl ⟨_, rfl, ⟨rfl, HI.out⟩, setCells_ext (by rw [← HB.out]; omega) _ _ _ (by repeat (first | with_reducible exact X_1.out | refine Ext.setCell ?_ (by show w.heap.size ≤ B + 1 + 1; rw [← HB.out]; omega) _))⟩

theorem mk_Int64S (n : Nat) (hn : n ≤ 1048576) (W : World) : (Instr.makeSlice 39 (.int .i64 (n : Int)) (.int .i64 (n : Int))).run Try.prog W = .ok (.slice (some ⟨W.heap.size, 0, none⟩) n n) (W.alloc (.cells (madeCells #[.int .i64 0] (n * 1)) 2)) := by
  obtain ⟨i0, hi, hz0, hz1, hz2⟩ := info_parts (show (Try.prog.info? 2).map (fun i => (i.zero, i.size, i.bytes)) = some (some (.int .i64 0), 1, 8) by kernel_rfl)
  have := run_make (P := Try.prog) W 39 2 i0 _ Try.underlying39 hi hz0 .i64 .i64 n n (by omega) (by omega) (by rw [hz2]; omega) (by omega)
  simpa [hz1, Value.cells] using this

set_option maxHeartbeats 1000000 in
theorem toInt64S_any {S : Nat → Prop} (l : List Int) (v : Value) (w : World) (h : Rd EInt S w v l) (hs : SmInt64S l) :
    Calls Try.prog 105 #[v] w (RetL EInt l w) := by
  have hn : l.length ≤ 1048576 := hs.1
  have HS := Lib.hid hs
  obtain ⟨A, c, rfl, h1, h2, hk⟩ := h.open_
  unfold maxLen at h2
  have HK := Lib.hid hk
  clear hk h hs
  have hmk := mk_Int64S l.length hn
  go_enter Try.func105, Try.ntmps105
  go_wp2_with fail
  have hp0 := Part.new (E := EInt) (l := l) (T := 2) w (madeCells #[.int .i64 0] (l.length * 1)) (by rw [size_madeCells]; rfl)
  have hx0 : Ext w (w.alloc (.cells (madeCells #[.int .i64 0] (l.length * 1)) 2)) := (Ext.refl w).alloc _
  simp only [Nat.mul_one] at hp0 hx0 ⊢
  generalize hB : w.heap.size = B at hp0 ⊢
  have HB := Lib.hid hB
  clear hB
  go_loopw [4] (fun i w' => ∃ k : Nat, k ≤ l.length ∧ i = .int .i64 k ∧ Part EInt w' B 2 l k ∧ Ext w w') (fun i _ => l.length - (intOf i).toNat)
  case atStart => exact ⟨0, by omega, rfl, hp0, hx0⟩
  case round =>
    obtain ⟨k, hk1, rfl, hp, hx⟩ := hrel
    clear hp0 hx0
    by_cases hlt : k < l.length
    · obtain ⟨b, o, cs, rfl, hb, hr, hc⟩ := HK.out k hlt
      obtain ⟨rfl, hi⟩ := hr
      have c0 := Ext.some hx (hc 0 _ rfl)
      have ht := hp.there hlt 0 (by decide)
      obtain ⟨u, hu⟩ := Option.isSome_iff_exists.1 ht.1
      have hf := ht.2
      have HI := Lib.hid hi
      have HP := Lib.hid hp
      simp only [EInt, Nat.mul_one, Nat.add_zero] at c0 hu hf
      clear hc ht hi hp hmk
      go_wp2_with fail
      refine ⟨⟨k + 1, by omega, by go_num, ?_, hx.setCell (p := ⟨B, k, none⟩) (by rw [HB.out]; exact Nat.le_refl _) _⟩, ?_⟩
      · have := HP.out.step (cs := [.int .i64 (nth l k)]) hlt ⟨rfl, HI.out⟩
        simpa [World.setCells, EInt] using this
      simp [intOf]
      omega
    · obtain rfl : k = l.length := by omega
      go_wp2_with fail
      go_ret
      exact ⟨_, rfl, (hp.done (by unfold maxLen; omega)).sub (fun b hb => by rw [HB.out]; exact hb), hx⟩

set_option maxHeartbeats 4000000 in
theorem toTask_any {S : Nat → Prop} (x : Task) (cs : List Value) (w : World) (h : ETask.rel S w cs x) (hs : SmTask x) :
    Calls Try.prog 35 #[.agg cs.toArray] w (RetS ETask x w) := by
  obtain ⟨v1, rfl, hi, h1⟩ := h
  have HI := Lib.hid hi
  have H1 := Lib.hid h1
  clear hi h1
  simp only [cellsTask]
  go_enter Try.func35, Try.ntmps35
  have HS := Lib.hid hs
  clear hs
  go_wp2_with fail
  obtain ⟨W, B, hW, hB, hx0, a0, r0, o0⟩ := boxes3 w #[.int .i64 x.label.level, .int .i64 x.label.set, .int .i64 x.id, .string x.owner, .int .i64 x.need, .int .i64 x.long, .int .i64 x.prio, .int .i64 x.under.level, .int .i64 x.under.set, .int .i64 x.after, .int .i64 x.born, .int .i64 x.state, .int .i64 x.start, v1] #[.int .i64 0, .int .i64 0, .int .i64 0, .string ⟨#[]⟩, .int .i64 0, .int .i64 0, .int .i64 0, .int .i64 0, .int .i64 0, .int .i64 0, .int .i64 0, .int .i64 0, .int .i64 0, .slice none 0 0] #[.int .i64 0, .int .i64 0, .int .i64 0, .string ⟨#[]⟩, .int .i64 0, .int .i64 0, .int .i64 0, .int .i64 0, .int .i64 0, .int .i64 0, .int .i64 0, .int .i64 0, .int .i64 0, .slice none 0 0] 41 46 46
  rw [← hW, ← hB]
  have HB := Lib.hid hB
  clear hW hB
  have a_0 := Lib.hid a0
  have r_0 := Lib.hid r0
  have o_0 := Lib.hid o0
  have X_0 := Lib.hid hx0
  clear a0 r0 o0 hx0
  refine (toLabel_any x.label [.int .i64 x.label.level, .int .i64 x.label.set] _ (S := S) ⟨rfl, (by have hf := HI.out; simp only [FitTask] at hf; simp only [FitLabel, hf, and_self])⟩ trivial).mono ?_
  rintro e w1 ⟨_, rfl, ⟨rfl, _⟩, hx⟩
  simp only [cellsLabel]
  have a_1 : Hid (Blk w1 B 41 #[.int .i64 x.label.level, .int .i64 x.label.set, .int .i64 x.id, .string x.owner, .int .i64 x.need, .int .i64 x.long, .int .i64 x.prio, .int .i64 x.under.level, .int .i64 x.under.set, .int .i64 x.after, .int .i64 x.born, .int .i64 x.state, .int .i64 x.start, v1]) := Lib.hid (Blk.ext (by repeat (first | with_reducible exact a_0.out | refine Blk.far ?_ (by simp <;> omega) _)) hx)
  have r_1 : Hid (Blk w1 (B + 1) 46 #[.int .i64 0, .int .i64 0, .int .i64 0, .string ⟨#[]⟩, .int .i64 0, .int .i64 0, .int .i64 0, .int .i64 0, .int .i64 0, .int .i64 0, .int .i64 0, .int .i64 0, .int .i64 0, .slice none 0 0]) := Lib.hid (Blk.ext (by repeat (first | with_reducible exact r_0.out | refine Blk.far ?_ (by simp <;> omega) _)) hx)
  have o_1 : Hid (Blk w1 (B + 1 + 1) 46 #[.int .i64 0, .int .i64 0, .int .i64 0, .string ⟨#[]⟩, .int .i64 0, .int .i64 0, .int .i64 0, .int .i64 0, .int .i64 0, .int .i64 0, .int .i64 0, .int .i64 0, .int .i64 0, .slice none 0 0]) := Lib.hid (Blk.ext (by simpa using o_0.out) hx)
  have X_1 : Hid (Ext w w1) := Lib.hid (Ext.trans (by repeat (first | with_reducible exact X_0.out | refine Ext.setCell ?_ (by show w.heap.size ≤ B + 1 + 1; rw [← HB.out]; omega) _)) hx)
  clear hx
  have ac := a_1.out.cell
  have oc := o_1.out.cell
  have of := o_1.out.frozen
  clear a_0 r_0 o_0 X_0
  go_wp2_with fail
  refine (toLabel_any x.under [.int .i64 x.under.level, .int .i64 x.under.set] _ (S := S) ⟨rfl, (by have hf := HI.out; simp only [FitTask] at hf; simp only [FitLabel, hf, and_self])⟩ trivial).mono ?_
  rintro e w2 ⟨_, rfl, ⟨rfl, _⟩, hx⟩
  simp only [cellsLabel]
  have a_2 : Hid (Blk w2 B 41 #[.int .i64 x.label.level, .int .i64 x.label.set, .int .i64 x.id, .string x.owner, .int .i64 x.need, .int .i64 x.long, .int .i64 x.prio, .int .i64 x.under.level, .int .i64 x.under.set, .int .i64 x.after, .int .i64 x.born, .int .i64 x.state, .int .i64 x.start, v1]) := Lib.hid (Blk.ext (by repeat (first | with_reducible exact a_1.out | refine Blk.far ?_ (by simp <;> omega) _)) hx)
  have r_2 : Hid (Blk w2 (B + 1) 46 #[.int .i64 0, .int .i64 0, .int .i64 0, .string ⟨#[]⟩, .int .i64 0, .int .i64 0, .int .i64 0, .int .i64 0, .int .i64 0, .int .i64 0, .int .i64 0, .int .i64 0, .int .i64 0, .slice none 0 0]) := Lib.hid (Blk.ext (by repeat (first | with_reducible exact r_1.out | refine Blk.far ?_ (by simp <;> omega) _)) hx)
  have o_2 : Hid (Blk w2 (B + 1 + 1) 46 #[.int .i64 x.label.level, .int .i64 x.label.set, .int .i64 x.id, .string x.owner, .int .i64 x.need, .int .i64 x.long, .int .i64 x.prio, .int .i64 0, .int .i64 0, .int .i64 0, .int .i64 0, .int .i64 0, .int .i64 0, .slice none 0 0]) := Lib.hid (Blk.ext (by simpa using (((((((o_1.out.set_ 0 (.int .i64 x.label.level)).set_ 1 (.int .i64 x.label.set)).set_ 2 (.int .i64 x.id)).set_ 3 (.string x.owner)).set_ 4 (.int .i64 x.need)).set_ 5 (.int .i64 x.long)).set_ 6 (.int .i64 x.prio))) hx)
  have X_2 : Hid (Ext w w2) := Lib.hid (Ext.trans (by repeat (first | with_reducible exact X_1.out | refine Ext.setCell ?_ (by show w.heap.size ≤ B + 1 + 1; rw [← HB.out]; omega) _)) hx)
  clear hx ac oc of
  have ac := a_2.out.cell
  have oc := o_2.out.cell
  have of := o_2.out.frozen
  clear a_1 r_1 o_1 X_1
  go_wp2_with fail
  refine (toInt64S_any x.nodes v1 _ (H1.out.ext (by repeat (first | with_reducible exact X_2.out | refine Ext.setCell ?_ (by show w.heap.size ≤ B + 1 + 1; rw [← HB.out]; omega) _))) (by have h := HS.out; simp only [SmTask] at h; first | exact h | exact h.1 | exact h.2 | exact h.2.1 | exact h.2.2 | exact h.2.2.1 | exact h.2.2.2 | exact h.2.2.2.1 | exact h.2.2.2.2)).mono ?_
  rintro e w3 ⟨u1, rfl, q1, hx⟩
  obtain ⟨p1, k1, rfl, -⟩ := q1.form
  have Q1 := Lib.hid (q1.sub (S' := fun b => B + 1 + 1 < b) (fun b hb => Nat.lt_of_lt_of_le (by have hl := (show Blk _ _ _ _ from ((((((o_2.out.set_ 7 (.int .i64 x.under.level)).set_ 8 (.int .i64 x.under.set)).set_ 9 (.int .i64 x.after)).set_ 10 (.int .i64 x.born)).set_ 11 (.int .i64 x.state)).set_ 12 (.int .i64 x.start))).lt; exact hl) hb))
  clear q1
  have a_3 : Hid (Blk w3 B 41 #[.int .i64 x.label.level, .int .i64 x.label.set, .int .i64 x.id, .string x.owner, .int .i64 x.need, .int .i64 x.long, .int .i64 x.prio, .int .i64 x.under.level, .int .i64 x.under.set, .int .i64 x.after, .int .i64 x.born, .int .i64 x.state, .int .i64 x.start, v1]) := Lib.hid (Blk.ext (by repeat (first | with_reducible exact a_2.out | refine Blk.far ?_ (by simp <;> omega) _)) hx)
  have r_3 : Hid (Blk w3 (B + 1) 46 #[.int .i64 0, .int .i64 0, .int .i64 0, .string ⟨#[]⟩, .int .i64 0, .int .i64 0, .int .i64 0, .int .i64 0, .int .i64 0, .int .i64 0, .int .i64 0, .int .i64 0, .int .i64 0, .slice none 0 0]) := Lib.hid (Blk.ext (by repeat (first | with_reducible exact r_2.out | refine Blk.far ?_ (by simp <;> omega) _)) hx)
  have o_3 : Hid (Blk w3 (B + 1 + 1) 46 #[.int .i64 x.label.level, .int .i64 x.label.set, .int .i64 x.id, .string x.owner, .int .i64 x.need, .int .i64 x.long, .int .i64 x.prio, .int .i64 x.under.level, .int .i64 x.under.set, .int .i64 x.after, .int .i64 x.born, .int .i64 x.state, .int .i64 x.start, .slice none 0 0]) := Lib.hid (Blk.ext (by simpa using ((((((o_2.out.set_ 7 (.int .i64 x.under.level)).set_ 8 (.int .i64 x.under.set)).set_ 9 (.int .i64 x.after)).set_ 10 (.int .i64 x.born)).set_ 11 (.int .i64 x.state)).set_ 12 (.int .i64 x.start))) hx)
  have X_3 : Hid (Ext w w3) := Lib.hid (Ext.trans (by repeat (first | with_reducible exact X_2.out | refine Ext.setCell ?_ (by show w.heap.size ≤ B + 1 + 1; rw [← HB.out]; omega) _)) hx)
  clear hx ac oc of
  have ac := a_3.out.cell
  have oc := o_3.out.cell
  have of := o_3.out.frozen
  clear a_2 r_2 o_2 X_2
  go_wp2_with (first
    | (refine wpList_load_mid rfl 46 _ rfl (B + 1 + 1) 0 rfl [.int .i64 x.label.level, .int .i64 x.label.set, .int .i64 x.id, .string x.owner, .int .i64 x.need, .int .i64 x.long, .int .i64 x.prio, .int .i64 x.under.level, .int .i64 x.under.set, .int .i64 x.after, .int .i64 x.born, .int .i64 x.state, .int .i64 x.start, .slice p1 x.nodes.length k1] _ ?hl Try.underlying46 rfl (by kernel_rfl) ?_)
    | (refine wpList_store_mid rfl 46 _ _ rfl (B + 1) 0 #[.int .i64 x.label.level, .int .i64 x.label.set, .int .i64 x.id, .string x.owner, .int .i64 x.need, .int .i64 x.long, .int .i64 x.prio, .int .i64 x.under.level, .int .i64 x.under.set, .int .i64 x.after, .int .i64 x.born, .int .i64 x.state, .int .i64 x.start, .slice p1 x.nodes.length k1] rfl rfl ?ht (by kernel_rfl) ?ho ?_))
  case hl => exact Blk.range (t := 46) (cs := #[.int .i64 x.label.level, .int .i64 x.label.set, .int .i64 x.id, .string x.owner, .int .i64 x.need, .int .i64 x.long, .int .i64 x.prio, .int .i64 x.under.level, .int .i64 x.under.set, .int .i64 x.after, .int .i64 x.born, .int .i64 x.state, .int .i64 x.start, .slice p1 x.nodes.length k1]) (by simpa using (o_3.out.set_ 13 (.slice p1 x.nodes.length k1)))
  case ht => exact Blk.there (t := 46) (cs := #[.int .i64 0, .int .i64 0, .int .i64 0, .string ⟨#[]⟩, .int .i64 0, .int .i64 0, .int .i64 0, .int .i64 0, .int .i64 0, .int .i64 0, .int .i64 0, .int .i64 0, .int .i64 0, .slice none 0 0]) (by repeat (first | with_reducible exact r_3.out | refine Blk.far ?_ (by simp <;> omega) _))
  case ho => exact all_oneCell_toArray (cs := [.int .i64 x.label.level, .int .i64 x.label.set, .int .i64 x.id, .string x.owner, .int .i64 x.need, .int .i64 x.long, .int .i64 x.prio, .int .i64 x.under.level, .int .i64 x.under.set, .int .i64 x.after, .int .i64 x.born, .int .i64 x.state, .int .i64 x.start, .slice p1 x.nodes.length k1]) (by simp [Value.oneCell'])
  exact bodyPost_ret (v := .agg #[.int .i64 x.label.level, .int .i64 x.label.set, .int .i64 x.id, .string x.owner, .int .i64 x.need, .int .i64 x.long, .int .i64 x.prio, .int .i64 x.under.level, .int .i64 x.under.set, .int .i64 x.after, .int .i64 x.born, .int .i64 x.state, .int .i64 x.start, .slice p1 x.nodes.length k1]) (results_blk Try.results35 rfl (Blk.setAll (t := 46) (cs := #[.int .i64 0, .int .i64 0, .int .i64 0, .string ⟨#[]⟩, .int .i64 0, .int .i64 0, .int .i64 0, .int .i64 0, .int .i64 0, .int .i64 0, .int .i64 0, .int .i64 0, .int .i64 0, .slice none 0 0]) (vs := #[.int .i64 x.label.level, .int .i64 x.label.set, .int .i64 x.id, .string x.owner, .int .i64 x.need, .int .i64 x.long, .int .i64 x.prio, .int .i64 x.under.level, .int .i64 x.under.set, .int .i64 x.after, .int .i64 x.born, .int .i64 x.state, .int .i64 x.start, .slice p1 x.nodes.length k1]) (by repeat (first | with_reducible exact r_3.out | refine Blk.far ?_ (by simp <;> omega) _)) rfl) Try.underlying46 rfl (by kernel_rfl)) rfl ⟨_, rfl, ⟨_, rfl, HI.out, Rd.sub (Q1.out.keep (setCells_same' (by repeat (first | with_reducible exact Same.refl _ _ | refine Same.setCell ?_ (by simp) _)) (by simp))) (fun b hb => by rw [← HB.out]; omega)⟩, setCells_ext (by rw [← HB.out]; omega) _ _ _ (by repeat (first | with_reducible exact X_3.out | refine Ext.setCell ?_ (by show w.heap.size ≤ B + 1 + 1; rw [← HB.out]; omega) _))⟩

set_option maxHeartbeats 4000000 in
theorem toPair_any {S : Nat → Prop} (x : Pair) (cs : List Value) (w : World) (h : EPair.rel S w cs x) (_hs : SmPair x) :
    Calls Try.prog 221 #[.agg cs.toArray] w (RetS EPair x w) := by
  obtain ⟨rfl, hi⟩ := h
  have HI := Lib.hid hi
  clear hi
  simp only [cellsPair]
  go_enter Try.func221, Try.ntmps221
  go_wp2_with fail
  obtain ⟨W, B, hW, hB, hx0, a0, r0, o0⟩ := boxes3 w #[.int .i64 x.from_.level, .int .i64 x.from_.set, .int .i64 x.to_.level, .int .i64 x.to_.set, .int .i64 x.rate] #[.int .i64 0, .int .i64 0, .int .i64 0, .int .i64 0, .int .i64 0] #[.int .i64 0, .int .i64 0, .int .i64 0, .int .i64 0, .int .i64 0] 235 232 232
  rw [← hW, ← hB]
  have HB := Lib.hid hB
  clear hW hB
  have a_0 := Lib.hid a0
  have r_0 := Lib.hid r0
  have o_0 := Lib.hid o0
  have X_0 := Lib.hid hx0
  clear a0 r0 o0 hx0
  refine (toLabel_any x.from_ [.int .i64 x.from_.level, .int .i64 x.from_.set] _ (S := S) ⟨rfl, (by have hf := HI.out; simp only [FitPair] at hf; simp only [FitLabel, hf, and_self])⟩ trivial).mono ?_
  rintro e w1 ⟨_, rfl, ⟨rfl, _⟩, hx⟩
  simp only [cellsLabel]
  have a_1 : Hid (Blk w1 B 235 #[.int .i64 x.from_.level, .int .i64 x.from_.set, .int .i64 x.to_.level, .int .i64 x.to_.set, .int .i64 x.rate]) := Lib.hid (Blk.ext (by repeat (first | with_reducible exact a_0.out | refine Blk.far ?_ (by simp <;> omega) _)) hx)
  have r_1 : Hid (Blk w1 (B + 1) 232 #[.int .i64 0, .int .i64 0, .int .i64 0, .int .i64 0, .int .i64 0]) := Lib.hid (Blk.ext (by repeat (first | with_reducible exact r_0.out | refine Blk.far ?_ (by simp <;> omega) _)) hx)
  have o_1 : Hid (Blk w1 (B + 1 + 1) 232 #[.int .i64 0, .int .i64 0, .int .i64 0, .int .i64 0, .int .i64 0]) := Lib.hid (Blk.ext (by simpa using o_0.out) hx)
  have X_1 : Hid (Ext w w1) := Lib.hid (Ext.trans (by repeat (first | with_reducible exact X_0.out | refine Ext.setCell ?_ (by show w.heap.size ≤ B + 1 + 1; rw [← HB.out]; omega) _)) hx)
  clear hx
  have ac := a_1.out.cell
  have oc := o_1.out.cell
  have of := o_1.out.frozen
  clear a_0 r_0 o_0 X_0
  go_wp2_with fail
  refine (toLabel_any x.to_ [.int .i64 x.to_.level, .int .i64 x.to_.set] _ (S := S) ⟨rfl, (by have hf := HI.out; simp only [FitPair] at hf; simp only [FitLabel, hf, and_self])⟩ trivial).mono ?_
  rintro e w2 ⟨_, rfl, ⟨rfl, _⟩, hx⟩
  simp only [cellsLabel]
  have a_2 : Hid (Blk w2 B 235 #[.int .i64 x.from_.level, .int .i64 x.from_.set, .int .i64 x.to_.level, .int .i64 x.to_.set, .int .i64 x.rate]) := Lib.hid (Blk.ext (by repeat (first | with_reducible exact a_1.out | refine Blk.far ?_ (by simp <;> omega) _)) hx)
  have r_2 : Hid (Blk w2 (B + 1) 232 #[.int .i64 0, .int .i64 0, .int .i64 0, .int .i64 0, .int .i64 0]) := Lib.hid (Blk.ext (by repeat (first | with_reducible exact r_1.out | refine Blk.far ?_ (by simp <;> omega) _)) hx)
  have o_2 : Hid (Blk w2 (B + 1 + 1) 232 #[.int .i64 x.from_.level, .int .i64 x.from_.set, .int .i64 0, .int .i64 0, .int .i64 0]) := Lib.hid (Blk.ext (by simpa using ((o_1.out.set_ 0 (.int .i64 x.from_.level)).set_ 1 (.int .i64 x.from_.set))) hx)
  have X_2 : Hid (Ext w w2) := Lib.hid (Ext.trans (by repeat (first | with_reducible exact X_1.out | refine Ext.setCell ?_ (by show w.heap.size ≤ B + 1 + 1; rw [← HB.out]; omega) _)) hx)
  clear hx ac oc of
  have ac := a_2.out.cell
  have oc := o_2.out.cell
  have of := o_2.out.frozen
  clear a_1 r_1 o_1 X_1
  go_wp2_with (first
    | (refine wpList_load_mid rfl 232 _ rfl (B + 1 + 1) 0 rfl [.int .i64 x.from_.level, .int .i64 x.from_.set, .int .i64 x.to_.level, .int .i64 x.to_.set, .int .i64 x.rate] _ ?hl Try.underlying232 rfl (by kernel_rfl) ?_)
    | (refine wpList_store_mid rfl 232 _ _ rfl (B + 1) 0 #[.int .i64 x.from_.level, .int .i64 x.from_.set, .int .i64 x.to_.level, .int .i64 x.to_.set, .int .i64 x.rate] rfl rfl ?ht (by kernel_rfl) ?ho ?_))
  case hl => exact Blk.range (t := 232) (cs := #[.int .i64 x.from_.level, .int .i64 x.from_.set, .int .i64 x.to_.level, .int .i64 x.to_.set, .int .i64 x.rate]) (by simpa using (((o_2.out.set_ 2 (.int .i64 x.to_.level)).set_ 3 (.int .i64 x.to_.set)).set_ 4 (.int .i64 x.rate)))
  case ht => exact Blk.there (t := 232) (cs := #[.int .i64 0, .int .i64 0, .int .i64 0, .int .i64 0, .int .i64 0]) (by repeat (first | with_reducible exact r_2.out | refine Blk.far ?_ (by simp <;> omega) _))
  case ho => exact all_oneCell_toArray (cs := [.int .i64 x.from_.level, .int .i64 x.from_.set, .int .i64 x.to_.level, .int .i64 x.to_.set, .int .i64 x.rate]) (by simp [Value.oneCell'])
  exact bodyPost_ret (v := .agg #[.int .i64 x.from_.level, .int .i64 x.from_.set, .int .i64 x.to_.level, .int .i64 x.to_.set, .int .i64 x.rate]) (results_blk Try.results221 rfl (Blk.setAll (t := 232) (cs := #[.int .i64 0, .int .i64 0, .int .i64 0, .int .i64 0, .int .i64 0]) (vs := #[.int .i64 x.from_.level, .int .i64 x.from_.set, .int .i64 x.to_.level, .int .i64 x.to_.set, .int .i64 x.rate]) (by repeat (first | with_reducible exact r_2.out | refine Blk.far ?_ (by simp <;> omega) _)) rfl) Try.underlying232 rfl (by kernel_rfl)) rfl ⟨_, rfl, ⟨rfl, HI.out⟩, setCells_ext (by rw [← HB.out]; omega) _ _ _ (by repeat (first | with_reducible exact X_2.out | refine Ext.setCell ?_ (by show w.heap.size ≤ B + 1 + 1; rw [← HB.out]; omega) _))⟩

set_option maxHeartbeats 4000000 in
theorem toQuota_any {S : Nat → Prop} (x : Quota) (cs : List Value) (w : World) (h : EQuota.rel S w cs x) (_hs : SmQuota x) :
    Calls Try.prog 222 #[.agg cs.toArray] w (RetS EQuota x w) := by
  obtain ⟨rfl, hi⟩ := h
  have HI := Lib.hid hi
  clear hi
  simp only [cellsQuota]
  go_enter Try.func222, Try.ntmps222
  go_wp2_with fail
  obtain ⟨W, B, hW, hB, hx0, a0, r0, o0⟩ := boxes3 w #[.int .i64 x.label.level, .int .i64 x.label.set, .int .i64 x.most] #[.int .i64 0, .int .i64 0, .int .i64 0] #[.int .i64 0, .int .i64 0, .int .i64 0] 240 237 237
  rw [← hW, ← hB]
  have HB := Lib.hid hB
  clear hW hB
  have a_0 := Lib.hid a0
  have r_0 := Lib.hid r0
  have o_0 := Lib.hid o0
  have X_0 := Lib.hid hx0
  clear a0 r0 o0 hx0
  refine (toLabel_any x.label [.int .i64 x.label.level, .int .i64 x.label.set] _ (S := S) ⟨rfl, (by have hf := HI.out; simp only [FitQuota] at hf; simp only [FitLabel, hf, and_self])⟩ trivial).mono ?_
  rintro e w1 ⟨_, rfl, ⟨rfl, _⟩, hx⟩
  simp only [cellsLabel]
  have a_1 : Hid (Blk w1 B 240 #[.int .i64 x.label.level, .int .i64 x.label.set, .int .i64 x.most]) := Lib.hid (Blk.ext (by repeat (first | with_reducible exact a_0.out | refine Blk.far ?_ (by simp <;> omega) _)) hx)
  have r_1 : Hid (Blk w1 (B + 1) 237 #[.int .i64 0, .int .i64 0, .int .i64 0]) := Lib.hid (Blk.ext (by repeat (first | with_reducible exact r_0.out | refine Blk.far ?_ (by simp <;> omega) _)) hx)
  have o_1 : Hid (Blk w1 (B + 1 + 1) 237 #[.int .i64 0, .int .i64 0, .int .i64 0]) := Lib.hid (Blk.ext (by simpa using o_0.out) hx)
  have X_1 : Hid (Ext w w1) := Lib.hid (Ext.trans (by repeat (first | with_reducible exact X_0.out | refine Ext.setCell ?_ (by show w.heap.size ≤ B + 1 + 1; rw [← HB.out]; omega) _)) hx)
  clear hx
  have ac := a_1.out.cell
  have oc := o_1.out.cell
  have of := o_1.out.frozen
  clear a_0 r_0 o_0 X_0
  go_wp2_with (first
    | (refine wpList_load_mid rfl 237 _ rfl (B + 1 + 1) 0 rfl [.int .i64 x.label.level, .int .i64 x.label.set, .int .i64 x.most] _ ?hl Try.underlying237 rfl (by kernel_rfl) ?_)
    | (refine wpList_store_mid rfl 237 _ _ rfl (B + 1) 0 #[.int .i64 x.label.level, .int .i64 x.label.set, .int .i64 x.most] rfl rfl ?ht (by kernel_rfl) ?ho ?_))
  case hl => exact Blk.range (t := 237) (cs := #[.int .i64 x.label.level, .int .i64 x.label.set, .int .i64 x.most]) (by simpa using (((o_1.out.set_ 0 (.int .i64 x.label.level)).set_ 1 (.int .i64 x.label.set)).set_ 2 (.int .i64 x.most)))
  case ht => exact Blk.there (t := 237) (cs := #[.int .i64 0, .int .i64 0, .int .i64 0]) (by repeat (first | with_reducible exact r_1.out | refine Blk.far ?_ (by simp <;> omega) _))
  case ho => exact all_oneCell_toArray (cs := [.int .i64 x.label.level, .int .i64 x.label.set, .int .i64 x.most]) (by simp [Value.oneCell'])
  exact bodyPost_ret (v := .agg #[.int .i64 x.label.level, .int .i64 x.label.set, .int .i64 x.most]) (results_blk Try.results222 rfl (Blk.setAll (t := 237) (cs := #[.int .i64 0, .int .i64 0, .int .i64 0]) (vs := #[.int .i64 x.label.level, .int .i64 x.label.set, .int .i64 x.most]) (by repeat (first | with_reducible exact r_1.out | refine Blk.far ?_ (by simp <;> omega) _)) rfl) Try.underlying237 rfl (by kernel_rfl)) rfl ⟨_, rfl, ⟨rfl, HI.out⟩, setCells_ext (by rw [← HB.out]; omega) _ _ _ (by repeat (first | with_reducible exact X_1.out | refine Ext.setCell ?_ (by show w.heap.size ≤ B + 1 + 1; rw [← HB.out]; omega) _))⟩

theorem mk_LabelS (n : Nat) (hn : n ≤ 1048576) (W : World) : (Instr.makeSlice 179 (.int .i64 (n : Int)) (.int .i64 (n : Int))).run Try.prog W = .ok (.slice (some ⟨W.heap.size, 0, none⟩) n n) (W.alloc (.cells (madeCells #[.int .i64 0, .int .i64 0] (n * 2)) 44)) := by
  obtain ⟨i0, hi, hz0, hz1, hz2⟩ := info_parts (show (Try.prog.info? 44).map (fun i => (i.zero, i.size, i.bytes)) = some (some (.agg #[.int .i64 0, .int .i64 0]), 2, 16) by kernel_rfl)
  have := run_make (P := Try.prog) W 179 44 i0 _ Try.underlying179 hi hz0 .i64 .i64 n n (by omega) (by omega) (by rw [hz2]; omega) (by omega)
  simpa [hz1, Value.cells] using this

set_option maxHeartbeats 1000000 in
theorem toLabelS_any {S : Nat → Prop} (l : List Label) (v : Value) (w : World) (h : Rd ELabel S w v l) (hs : SmLabelS l) :
    Calls Try.prog 220 #[v] w (RetL ELabel l w) := by
  have hn : l.length ≤ 1048576 := hs.1
  have HS := Lib.hid hs
  obtain ⟨A, c, rfl, h1, h2, hk⟩ := h.open_
  unfold maxLen at h2
  have HK := Lib.hid hk
  clear hk h hs
  have hmk := mk_LabelS l.length hn
  go_enter Try.func220, Try.ntmps220
  go_wp2_with fail
  have hp0 := Part.new (E := ELabel) (l := l) (T := 44) w (madeCells #[.int .i64 0, .int .i64 0] (l.length * 2)) (by rw [size_madeCells]; rfl)
  have hx0 : Ext w (w.alloc (.cells (madeCells #[.int .i64 0, .int .i64 0] (l.length * 2)) 44)) := (Ext.refl w).alloc _
  generalize hB : w.heap.size = B at hp0 ⊢
  have HB := Lib.hid hB
  clear hB
  go_loopw [4] (fun i w' => ∃ k : Nat, k ≤ l.length ∧ i = .int .i64 k ∧ Part ELabel w' B 44 l k ∧ Ext w w') (fun i _ => l.length - (intOf i).toNat)
  case atStart => exact ⟨0, by omega, rfl, hp0, hx0⟩
  case round =>
    obtain ⟨k, hk1, rfl, hp, hx⟩ := hrel
    clear hp0 hx0
    by_cases hlt : k < l.length
    · obtain ⟨b, o, cs, rfl, hb, hr, hc⟩ := HK.out k hlt
      have HC := Lib.hid (hx.range hc)
      have HI : Hid ((Try.prog.info? 38).map (·.size) = some cs.length) := Lib.hid (by rw [ELabel.len hr]; kernel_rfl)
      have HR := Lib.hid (ELabel.keep (hx.same S) hr)
      have HP := Lib.hid hp
      have HM := Lib.hid (HS.out.2 (nth l k) (nth_mem hlt))
      clear hc hr hmk hp
      go_wp2_with (first
        | (go_at_call 44; refine (toLabel_any (nth l k) cs _ HR.out HM.out).mono ?_; rintro e w1 ⟨cs', rfl, hr1, hx1⟩; have HR1 := Lib.hid hr1; clear hr1)
        | (refine wpList_load_mid rfl 38 _ rfl b (o + k * 2) rfl cs _ HC.out Try.underlying38 rfl HI.out ?_)
        | (refine wpList_store_mid rfl 44 _ _ rfl B (k * 2) _ rfl rfl ?ht ?hi ?ho ?_))
      case ht => have := (HP.out.ext hx1).there hlt; rw [List.size_toArray, ELabel.len HR1.out]; exact this
      case hi => rw [List.size_toArray, ELabel.len HR1.out]; kernel_rfl
      case ho => exact all_oneCell_toArray (ELabel.one HR1.out)
      refine ⟨⟨k + 1, by omega, by go_num, (HP.out.ext hx1).step hlt (ELabel.sub (fun b hb => Nat.lt_of_lt_of_le HP.out.lt hb) HR1.out), setCells_ext (by rw [HB.out]; exact Nat.le_refl _) _ _ _ (hx.trans hx1)⟩, ?_⟩
      simp [intOf]
      omega
    · obtain rfl : k = l.length := by omega
      go_wp2_with fail
      go_ret
      exact ⟨_, rfl, (hp.done (by unfold maxLen; omega)).sub (fun b hb => by rw [HB.out]; exact hb), hx⟩

theorem mk_LabelSS (n : Nat) (hn : n ≤ 1048576) (W : World) : (Instr.makeSlice 100 (.int .i64 (n : Int)) (.int .i64 (n : Int))).run Try.prog W = .ok (.slice (some ⟨W.heap.size, 0, none⟩) n n) (W.alloc (.cells (madeCells #[.slice none 0 0] (n * 1)) 179)) := by
  obtain ⟨i0, hi, hz0, hz1, hz2⟩ := info_parts (show (Try.prog.info? 179).map (fun i => (i.zero, i.size, i.bytes)) = some (some (.slice none 0 0), 1, 24) by kernel_rfl)
  have := run_make (P := Try.prog) W 100 179 i0 _ Try.underlying100 hi hz0 .i64 .i64 n n (by omega) (by omega) (by rw [hz2]; omega) (by omega)
  simpa [hz1, Value.cells] using this

set_option maxHeartbeats 1000000 in
theorem toLabelSS_any {S : Nat → Prop} (l : List (List Label)) (v : Value) (w : World) (h : Rd (ERow ELabel) S w v l) (hs : SmLabelSS l) :
    Calls Try.prog 165 #[v] w (RetL (ERow ELabel) l w) := by
  have hn : l.length ≤ 1048576 := hs.1
  have HS := Lib.hid hs
  obtain ⟨A, c, rfl, h1, h2, hk⟩ := h.open_
  unfold maxLen at h2
  have HK := Lib.hid hk
  clear hk h hs
  have hmk := mk_LabelSS l.length hn
  go_enter Try.func165, Try.ntmps165
  go_wp2_with fail
  have hp0 := Part.new (E := (ERow ELabel)) (l := l) (T := 179) w (madeCells #[.slice none 0 0] (l.length * 1)) (by rw [size_madeCells]; rfl)
  have hx0 : Ext w (w.alloc (.cells (madeCells #[.slice none 0 0] (l.length * 1)) 179)) := (Ext.refl w).alloc _
  simp only [Nat.mul_one] at hp0 hx0 ⊢
  generalize hB : w.heap.size = B at hp0 ⊢
  have HB := Lib.hid hB
  clear hB
  go_loopw [4] (fun i w' => ∃ k : Nat, k ≤ l.length ∧ i = .int .i64 k ∧ Part (ERow ELabel) w' B 179 l k ∧ Ext w w') (fun i _ => l.length - (intOf i).toNat)
  case atStart => exact ⟨0, by omega, rfl, hp0, hx0⟩
  case round =>
    obtain ⟨k, hk1, rfl, hp, hx⟩ := hrel
    clear hp0 hx0
    by_cases hlt : k < l.length
    · obtain ⟨b, o, cs, rfl, hb, hr, hc⟩ := HK.out k hlt
      obtain ⟨v, rfl, hr⟩ := hr
      have c0 := Ext.some hx (hc 0 _ rfl)
      have ht := hp.there hlt 0 (by decide)
      obtain ⟨u, hu⟩ := Option.isSome_iff_exists.1 ht.1
      have HR := Lib.hid (hr.ext hx)
      have HP := Lib.hid hp
      have HM := Lib.hid (HS.out.2 (nth l k) (nth_mem hlt))
      simp only [ERow, Nat.mul_one, Nat.add_zero] at c0 hu
      clear hc ht hp hmk hr hu
      go_wp2_with fail
      refine (toLabelS_any (nth l k) v _ HR.out HM.out).mono ?_
      rintro e w1 ⟨v1, rfl, hr1, hx1⟩
      obtain ⟨A1, c1, rfl, -⟩ := id hr1
      have HR1 := Lib.hid hr1
      have ht := (HP.out.ext hx1).there hlt 0 (by decide)
      obtain ⟨u, hu⟩ := Option.isSome_iff_exists.1 ht.1
      have hf := ht.2
      simp only [ERow, Nat.mul_one, Nat.add_zero] at hu hf
      clear hr1 ht
      go_wp2_with fail
      refine ⟨⟨k + 1, by omega, by go_num, ?_, (hx.trans hx1).setCell (p := ⟨B, k, none⟩) (by rw [HB.out]; exact Nat.le_refl _) _⟩, ?_⟩
      · have := (HP.out.ext hx1).step (cs := [.slice A1 (nth l k).length c1]) hlt ⟨_, rfl, HR1.out.sub (fun b hb => Nat.lt_of_lt_of_le HP.out.lt hb)⟩
        simpa [World.setCells, ERow] using this
      simp [intOf]
      omega
    · obtain rfl : k = l.length := by omega
      go_wp2_with fail
      go_ret
      exact ⟨_, rfl, (hp.done (by unfold maxLen; omega)).sub (fun b hb => by rw [HB.out]; exact hb), hx⟩

theorem mk_PairS (n : Nat) (hn : n ≤ 1048576) (W : World) : (Instr.makeSlice 101 (.int .i64 (n : Int)) (.int .i64 (n : Int))).run Try.prog W = .ok (.slice (some ⟨W.heap.size, 0, none⟩) n n) (W.alloc (.cells (madeCells #[.int .i64 0, .int .i64 0, .int .i64 0, .int .i64 0, .int .i64 0] (n * 5)) 232)) := by
  obtain ⟨i0, hi, hz0, hz1, hz2⟩ := info_parts (show (Try.prog.info? 232).map (fun i => (i.zero, i.size, i.bytes)) = some (some (.agg #[.int .i64 0, .int .i64 0, .int .i64 0, .int .i64 0, .int .i64 0]), 5, 40) by kernel_rfl)
  have := run_make (P := Try.prog) W 101 232 i0 _ Try.underlying101 hi hz0 .i64 .i64 n n (by omega) (by omega) (by rw [hz2]; omega) (by omega)
  simpa [hz1, Value.cells] using this

set_option maxHeartbeats 1000000 in
theorem toPairS_any {S : Nat → Prop} (l : List Pair) (v : Value) (w : World) (h : Rd EPair S w v l) (hs : SmPairS l) :
    Calls Try.prog 166 #[v] w (RetL EPair l w) := by
  have hn : l.length ≤ 1048576 := hs.1
  have HS := Lib.hid hs
  obtain ⟨A, c, rfl, h1, h2, hk⟩ := h.open_
  unfold maxLen at h2
  have HK := Lib.hid hk
  clear hk h hs
  have hmk := mk_PairS l.length hn
  go_enter Try.func166, Try.ntmps166
  go_wp2_with fail
  have hp0 := Part.new (E := EPair) (l := l) (T := 232) w (madeCells #[.int .i64 0, .int .i64 0, .int .i64 0, .int .i64 0, .int .i64 0] (l.length * 5)) (by rw [size_madeCells]; rfl)
  have hx0 : Ext w (w.alloc (.cells (madeCells #[.int .i64 0, .int .i64 0, .int .i64 0, .int .i64 0, .int .i64 0] (l.length * 5)) 232)) := (Ext.refl w).alloc _
  generalize hB : w.heap.size = B at hp0 ⊢
  have HB := Lib.hid hB
  clear hB
  go_loopw [4] (fun i w' => ∃ k : Nat, k ≤ l.length ∧ i = .int .i64 k ∧ Part EPair w' B 232 l k ∧ Ext w w') (fun i _ => l.length - (intOf i).toNat)
  case atStart => exact ⟨0, by omega, rfl, hp0, hx0⟩
  case round =>
    obtain ⟨k, hk1, rfl, hp, hx⟩ := hrel
    clear hp0 hx0
    by_cases hlt : k < l.length
    · obtain ⟨b, o, cs, rfl, hb, hr, hc⟩ := HK.out k hlt
      have HC := Lib.hid (hx.range hc)
      have HI : Hid ((Try.prog.info? 235).map (·.size) = some cs.length) := Lib.hid (by rw [EPair.len hr]; kernel_rfl)
      have HR := Lib.hid (EPair.keep (hx.same S) hr)
      have HP := Lib.hid hp
      have HM := Lib.hid (HS.out.2 (nth l k) (nth_mem hlt))
      clear hc hr hmk hp
      go_wp2_with (first
        | (go_at_call 221; refine (toPair_any (nth l k) cs _ HR.out HM.out).mono ?_; rintro e w1 ⟨cs', rfl, hr1, hx1⟩; have HR1 := Lib.hid hr1; clear hr1)
        | (refine wpList_load_mid rfl 235 _ rfl b (o + k * 5) rfl cs _ HC.out Try.underlying235 rfl HI.out ?_)
        | (refine wpList_store_mid rfl 232 _ _ rfl B (k * 5) _ rfl rfl ?ht ?hi ?ho ?_))
      case ht => have := (HP.out.ext hx1).there hlt; rw [List.size_toArray, EPair.len HR1.out]; exact this
      case hi => rw [List.size_toArray, EPair.len HR1.out]; kernel_rfl
      case ho => exact all_oneCell_toArray (EPair.one HR1.out)
      refine ⟨⟨k + 1, by omega, by go_num, (HP.out.ext hx1).step hlt (EPair.sub (fun b hb => Nat.lt_of_lt_of_le HP.out.lt hb) HR1.out), setCells_ext (by rw [HB.out]; exact Nat.le_refl _) _ _ _ (hx.trans hx1)⟩, ?_⟩
      simp [intOf]
      omega
    · obtain rfl : k = l.length := by omega
      go_wp2_with fail
      go_ret
      exact ⟨_, rfl, (hp.done (by unfold maxLen; omega)).sub (fun b hb => by rw [HB.out]; exact hb), hx⟩

theorem mk_QuotaS (n : Nat) (hn : n ≤ 1048576) (W : World) : (Instr.makeSlice 102 (.int .i64 (n : Int)) (.int .i64 (n : Int))).run Try.prog W = .ok (.slice (some ⟨W.heap.size, 0, none⟩) n n) (W.alloc (.cells (madeCells #[.int .i64 0, .int .i64 0, .int .i64 0] (n * 3)) 237)) := by
  obtain ⟨i0, hi, hz0, hz1, hz2⟩ := info_parts (show (Try.prog.info? 237).map (fun i => (i.zero, i.size, i.bytes)) = some (some (.agg #[.int .i64 0, .int .i64 0, .int .i64 0]), 3, 24) by kernel_rfl)
  have := run_make (P := Try.prog) W 102 237 i0 _ Try.underlying102 hi hz0 .i64 .i64 n n (by omega) (by omega) (by rw [hz2]; omega) (by omega)
  simpa [hz1, Value.cells] using this

set_option maxHeartbeats 1000000 in
theorem toQuotaS_any {S : Nat → Prop} (l : List Quota) (v : Value) (w : World) (h : Rd EQuota S w v l) (hs : SmQuotaS l) :
    Calls Try.prog 167 #[v] w (RetL EQuota l w) := by
  have hn : l.length ≤ 1048576 := hs.1
  have HS := Lib.hid hs
  obtain ⟨A, c, rfl, h1, h2, hk⟩ := h.open_
  unfold maxLen at h2
  have HK := Lib.hid hk
  clear hk h hs
  have hmk := mk_QuotaS l.length hn
  go_enter Try.func167, Try.ntmps167
  go_wp2_with fail
  have hp0 := Part.new (E := EQuota) (l := l) (T := 237) w (madeCells #[.int .i64 0, .int .i64 0, .int .i64 0] (l.length * 3)) (by rw [size_madeCells]; rfl)
  have hx0 : Ext w (w.alloc (.cells (madeCells #[.int .i64 0, .int .i64 0, .int .i64 0] (l.length * 3)) 237)) := (Ext.refl w).alloc _
  generalize hB : w.heap.size = B at hp0 ⊢
  have HB := Lib.hid hB
  clear hB
  go_loopw [4] (fun i w' => ∃ k : Nat, k ≤ l.length ∧ i = .int .i64 k ∧ Part EQuota w' B 237 l k ∧ Ext w w') (fun i _ => l.length - (intOf i).toNat)
  case atStart => exact ⟨0, by omega, rfl, hp0, hx0⟩
  case round =>
    obtain ⟨k, hk1, rfl, hp, hx⟩ := hrel
    clear hp0 hx0
    by_cases hlt : k < l.length
    · obtain ⟨b, o, cs, rfl, hb, hr, hc⟩ := HK.out k hlt
      have HC := Lib.hid (hx.range hc)
      have HI : Hid ((Try.prog.info? 240).map (·.size) = some cs.length) := Lib.hid (by rw [EQuota.len hr]; kernel_rfl)
      have HR := Lib.hid (EQuota.keep (hx.same S) hr)
      have HP := Lib.hid hp
      have HM := Lib.hid (HS.out.2 (nth l k) (nth_mem hlt))
      clear hc hr hmk hp
      go_wp2_with (first
        | (go_at_call 222; refine (toQuota_any (nth l k) cs _ HR.out HM.out).mono ?_; rintro e w1 ⟨cs', rfl, hr1, hx1⟩; have HR1 := Lib.hid hr1; clear hr1)
        | (refine wpList_load_mid rfl 240 _ rfl b (o + k * 3) rfl cs _ HC.out Try.underlying240 rfl HI.out ?_)
        | (refine wpList_store_mid rfl 237 _ _ rfl B (k * 3) _ rfl rfl ?ht ?hi ?ho ?_))
      case ht => have := (HP.out.ext hx1).there hlt; rw [List.size_toArray, EQuota.len HR1.out]; exact this
      case hi => rw [List.size_toArray, EQuota.len HR1.out]; kernel_rfl
      case ho => exact all_oneCell_toArray (EQuota.one HR1.out)
      refine ⟨⟨k + 1, by omega, by go_num, (HP.out.ext hx1).step hlt (EQuota.sub (fun b hb => Nat.lt_of_lt_of_le HP.out.lt hb) HR1.out), setCells_ext (by rw [HB.out]; exact Nat.le_refl _) _ _ _ (hx.trans hx1)⟩, ?_⟩
      simp [intOf]
      omega
    · obtain rfl : k = l.length := by omega
      go_wp2_with fail
      go_ret
      exact ⟨_, rfl, (hp.done (by unfold maxLen; omega)).sub (fun b hb => by rw [HB.out]; exact hb), hx⟩

set_option maxHeartbeats 4000000 in
theorem toConfig_any {S : Nat → Prop} (x : Config) (cs : List Value) (w : World) (h : EConfig.rel S w cs x) (hs : SmConfig x) :
    Calls Try.prog 77 #[.agg cs.toArray] w (RetS EConfig x w) := by
  obtain ⟨v1, v2, v3, rfl, hi, h1, h2, h3⟩ := h
  have HI := Lib.hid hi
  have H1 := Lib.hid h1
  have H2 := Lib.hid h2
  have H3 := Lib.hid h3
  clear hi h1 h2 h3
  simp only [cellsConfig]
  go_enter Try.func77, Try.ntmps77
  have HS := Lib.hid hs
  clear hs
  go_wp2_with fail
  obtain ⟨W, B, hW, hB, hx0, a0, r0, o0⟩ := boxes3 w #[v1, v2, v3, .int .i64 x.half] #[.slice none 0 0, .slice none 0 0, .slice none 0 0, .int .i64 0] #[.slice none 0 0, .slice none 0 0, .slice none 0 0, .int .i64 0] 97 104 104
  rw [← hW, ← hB]
  have HB := Lib.hid hB
  clear hW hB
  have a_0 := Lib.hid a0
  have r_0 := Lib.hid r0
  have o_0 := Lib.hid o0
  have X_0 := Lib.hid hx0
  clear a0 r0 o0 hx0
  refine (toLabelSS_any x.nodes v1 _ (H1.out.ext (by repeat (first | with_reducible exact X_0.out | refine Ext.setCell ?_ (by show w.heap.size ≤ B + 1 + 1; rw [← HB.out]; omega) _))) (by have h := HS.out; simp only [SmConfig] at h; first | exact h | exact h.1 | exact h.2 | exact h.2.1 | exact h.2.2 | exact h.2.2.1 | exact h.2.2.2 | exact h.2.2.2.1 | exact h.2.2.2.2)).mono ?_
  rintro e w1 ⟨u1, rfl, q1, hx⟩
  obtain ⟨p1, k1, rfl, -⟩ := q1.form
  have Q1 := Lib.hid (q1.sub (S' := fun b => B + 1 + 1 < b) (fun b hb => Nat.lt_of_lt_of_le (by have hl := (show Blk _ _ _ _ from o_0.out).lt; exact hl) hb))
  clear q1
  have a_1 : Hid (Blk w1 B 97 #[v1, v2, v3, .int .i64 x.half]) := Lib.hid (Blk.ext (by repeat (first | with_reducible exact a_0.out | refine Blk.far ?_ (by simp <;> omega) _)) hx)
  have r_1 : Hid (Blk w1 (B + 1) 104 #[.slice none 0 0, .slice none 0 0, .slice none 0 0, .int .i64 0]) := Lib.hid (Blk.ext (by repeat (first | with_reducible exact r_0.out | refine Blk.far ?_ (by simp <;> omega) _)) hx)
  have o_1 : Hid (Blk w1 (B + 1 + 1) 104 #[.slice none 0 0, .slice none 0 0, .slice none 0 0, .int .i64 0]) := Lib.hid (Blk.ext (by simpa using o_0.out) hx)
  have X_1 : Hid (Ext w w1) := Lib.hid (Ext.trans (by repeat (first | with_reducible exact X_0.out | refine Ext.setCell ?_ (by show w.heap.size ≤ B + 1 + 1; rw [← HB.out]; omega) _)) hx)
  clear hx
  have ac := a_1.out.cell
  have oc := o_1.out.cell
  have of := o_1.out.frozen
  clear a_0 r_0 o_0 X_0
  go_wp2_with fail
  refine (toPairS_any x.pairs v2 _ (H2.out.ext (by repeat (first | with_reducible exact X_1.out | refine Ext.setCell ?_ (by show w.heap.size ≤ B + 1 + 1; rw [← HB.out]; omega) _))) (by have h := HS.out; simp only [SmConfig] at h; first | exact h | exact h.1 | exact h.2 | exact h.2.1 | exact h.2.2 | exact h.2.2.1 | exact h.2.2.2 | exact h.2.2.2.1 | exact h.2.2.2.2)).mono ?_
  rintro e w2 ⟨u2, rfl, q2, hx⟩
  obtain ⟨p2, k2, rfl, -⟩ := q2.form
  have Q2 := Lib.hid (q2.sub (S' := fun b => B + 1 + 1 < b) (fun b hb => Nat.lt_of_lt_of_le (by have hl := (show Blk _ _ _ _ from (o_1.out.set_ 0 (.slice p1 x.nodes.length k1))).lt; exact hl) hb))
  clear q2
  have a_2 : Hid (Blk w2 B 97 #[v1, v2, v3, .int .i64 x.half]) := Lib.hid (Blk.ext (by repeat (first | with_reducible exact a_1.out | refine Blk.far ?_ (by simp <;> omega) _)) hx)
  have r_2 : Hid (Blk w2 (B + 1) 104 #[.slice none 0 0, .slice none 0 0, .slice none 0 0, .int .i64 0]) := Lib.hid (Blk.ext (by repeat (first | with_reducible exact r_1.out | refine Blk.far ?_ (by simp <;> omega) _)) hx)
  have o_2 : Hid (Blk w2 (B + 1 + 1) 104 #[.slice p1 x.nodes.length k1, .slice none 0 0, .slice none 0 0, .int .i64 0]) := Lib.hid (Blk.ext (by simpa using (o_1.out.set_ 0 (.slice p1 x.nodes.length k1))) hx)
  have X_2 : Hid (Ext w w2) := Lib.hid (Ext.trans (by repeat (first | with_reducible exact X_1.out | refine Ext.setCell ?_ (by show w.heap.size ≤ B + 1 + 1; rw [← HB.out]; omega) _)) hx)
  replace Q1 := Lib.hid (Rd.ext (Q1.out.keep (by repeat (first | with_reducible exact Same.refl _ _ | refine Same.setCell ?_ (by simp) _))) hx)
  clear hx ac oc of
  have ac := a_2.out.cell
  have oc := o_2.out.cell
  have of := o_2.out.frozen
  clear a_1 r_1 o_1 X_1
  go_wp2_with fail
  refine (toQuotaS_any x.quotas v3 _ (H3.out.ext (by repeat (first | with_reducible exact X_2.out | refine Ext.setCell ?_ (by show w.heap.size ≤ B + 1 + 1; rw [← HB.out]; omega) _))) (by have h := HS.out; simp only [SmConfig] at h; first | exact h | exact h.1 | exact h.2 | exact h.2.1 | exact h.2.2 | exact h.2.2.1 | exact h.2.2.2 | exact h.2.2.2.1 | exact h.2.2.2.2)).mono ?_
  rintro e w3 ⟨u3, rfl, q3, hx⟩
  obtain ⟨p3, k3, rfl, -⟩ := q3.form
  have Q3 := Lib.hid (q3.sub (S' := fun b => B + 1 + 1 < b) (fun b hb => Nat.lt_of_lt_of_le (by have hl := (show Blk _ _ _ _ from (o_2.out.set_ 1 (.slice p2 x.pairs.length k2))).lt; exact hl) hb))
  clear q3
  have a_3 : Hid (Blk w3 B 97 #[v1, v2, v3, .int .i64 x.half]) := Lib.hid (Blk.ext (by repeat (first | with_reducible exact a_2.out | refine Blk.far ?_ (by simp <;> omega) _)) hx)
  have r_3 : Hid (Blk w3 (B + 1) 104 #[.slice none 0 0, .slice none 0 0, .slice none 0 0, .int .i64 0]) := Lib.hid (Blk.ext (by repeat (first | with_reducible exact r_2.out | refine Blk.far ?_ (by simp <;> omega) _)) hx)
  have o_3 : Hid (Blk w3 (B + 1 + 1) 104 #[.slice p1 x.nodes.length k1, .slice p2 x.pairs.length k2, .slice none 0 0, .int .i64 0]) := Lib.hid (Blk.ext (by simpa using (o_2.out.set_ 1 (.slice p2 x.pairs.length k2))) hx)
  have X_3 : Hid (Ext w w3) := Lib.hid (Ext.trans (by repeat (first | with_reducible exact X_2.out | refine Ext.setCell ?_ (by show w.heap.size ≤ B + 1 + 1; rw [← HB.out]; omega) _)) hx)
  replace Q1 := Lib.hid (Rd.ext (Q1.out.keep (by repeat (first | with_reducible exact Same.refl _ _ | refine Same.setCell ?_ (by simp) _))) hx)
  replace Q2 := Lib.hid (Rd.ext (Q2.out.keep (by repeat (first | with_reducible exact Same.refl _ _ | refine Same.setCell ?_ (by simp) _))) hx)
  clear hx ac oc of
  have ac := a_3.out.cell
  have oc := o_3.out.cell
  have of := o_3.out.frozen
  clear a_2 r_2 o_2 X_2
  go_wp2_with (first
    | (refine wpList_load_mid rfl 104 _ rfl (B + 1 + 1) 0 rfl [.slice p1 x.nodes.length k1, .slice p2 x.pairs.length k2, .slice p3 x.quotas.length k3, .int .i64 x.half] _ ?hl Try.underlying104 rfl (by kernel_rfl) ?_)
    | (refine wpList_store_mid rfl 104 _ _ rfl (B + 1) 0 #[.slice p1 x.nodes.length k1, .slice p2 x.pairs.length k2, .slice p3 x.quotas.length k3, .int .i64 x.half] rfl rfl ?ht (by kernel_rfl) ?ho ?_))
  case hl => exact Blk.range (t := 104) (cs := #[.slice p1 x.nodes.length k1, .slice p2 x.pairs.length k2, .slice p3 x.quotas.length k3, .int .i64 x.half]) (by simpa using ((o_3.out.set_ 2 (.slice p3 x.quotas.length k3)).set_ 3 (.int .i64 x.half)))
  case ht => exact Blk.there (t := 104) (cs := #[.slice none 0 0, .slice none 0 0, .slice none 0 0, .int .i64 0]) (by repeat (first | with_reducible exact r_3.out | refine Blk.far ?_ (by simp <;> omega) _))
  case ho => exact all_oneCell_toArray (cs := [.slice p1 x.nodes.length k1, .slice p2 x.pairs.length k2, .slice p3 x.quotas.length k3, .int .i64 x.half]) (by simp [Value.oneCell'])
  exact bodyPost_ret (v := .agg #[.slice p1 x.nodes.length k1, .slice p2 x.pairs.length k2, .slice p3 x.quotas.length k3, .int .i64 x.half]) (results_blk Try.results77 rfl (Blk.setAll (t := 104) (cs := #[.slice none 0 0, .slice none 0 0, .slice none 0 0, .int .i64 0]) (vs := #[.slice p1 x.nodes.length k1, .slice p2 x.pairs.length k2, .slice p3 x.quotas.length k3, .int .i64 x.half]) (by repeat (first | with_reducible exact r_3.out | refine Blk.far ?_ (by simp <;> omega) _)) rfl) Try.underlying104 rfl (by kernel_rfl)) rfl ⟨_, rfl, ⟨_, _, _, rfl, HI.out, Rd.sub (Q1.out.keep (setCells_same' (by repeat (first | with_reducible exact Same.refl _ _ | refine Same.setCell ?_ (by simp) _)) (by simp))) (fun b hb => by rw [← HB.out]; omega), Rd.sub (Q2.out.keep (setCells_same' (by repeat (first | with_reducible exact Same.refl _ _ | refine Same.setCell ?_ (by simp) _)) (by simp))) (fun b hb => by rw [← HB.out]; omega), Rd.sub (Q3.out.keep (setCells_same' (by repeat (first | with_reducible exact Same.refl _ _ | refine Same.setCell ?_ (by simp) _)) (by simp))) (fun b hb => by rw [← HB.out]; omega)⟩, setCells_ext (by rw [← HB.out]; omega) _ _ _ (by repeat (first | with_reducible exact X_3.out | refine Ext.setCell ?_ (by show w.heap.size ≤ B + 1 + 1; rw [← HB.out]; omega) _))⟩

theorem mk_NodeS (n : Nat) (hn : n ≤ 1048576) (W : World) : (Instr.makeSlice 22 (.int .i64 (n : Int)) (.int .i64 (n : Int))).run Try.prog W = .ok (.slice (some ⟨W.heap.size, 0, none⟩) n n) (W.alloc (.cells (madeCells #[.int .i64 0, .slice none 0 0] (n * 2)) 114)) := by
  obtain ⟨i0, hi, hz0, hz1, hz2⟩ := info_parts (show (Try.prog.info? 114).map (fun i => (i.zero, i.size, i.bytes)) = some (some (.agg #[.int .i64 0, .slice none 0 0]), 2, 32) by kernel_rfl)
  have := run_make (P := Try.prog) W 22 114 i0 _ Try.underlying22 hi hz0 .i64 .i64 n n (by omega) (by omega) (by rw [hz2]; omega) (by omega)
  simpa [hz1, Value.cells] using this

set_option maxHeartbeats 1000000 in
theorem toNodeS_any {S : Nat → Prop} (l : List Node) (v : Value) (w : World) (h : Rd ENode S w v l) (hs : SmNodeS l) :
    Calls Try.prog 24 #[v] w (RetL ENode l w) := by
  have hn : l.length ≤ 1048576 := hs.1
  have HS := Lib.hid hs
  obtain ⟨A, c, rfl, h1, h2, hk⟩ := h.open_
  unfold maxLen at h2
  have HK := Lib.hid hk
  clear hk h hs
  have hmk := mk_NodeS l.length hn
  go_enter Try.func24, Try.ntmps24
  go_wp2_with fail
  have hp0 := Part.new (E := ENode) (l := l) (T := 114) w (madeCells #[.int .i64 0, .slice none 0 0] (l.length * 2)) (by rw [size_madeCells]; rfl)
  have hx0 : Ext w (w.alloc (.cells (madeCells #[.int .i64 0, .slice none 0 0] (l.length * 2)) 114)) := (Ext.refl w).alloc _
  generalize hB : w.heap.size = B at hp0 ⊢
  have HB := Lib.hid hB
  clear hB
  go_loopw [4] (fun i w' => ∃ k : Nat, k ≤ l.length ∧ i = .int .i64 k ∧ Part ENode w' B 114 l k ∧ Ext w w') (fun i _ => l.length - (intOf i).toNat)
  case atStart => exact ⟨0, by omega, rfl, hp0, hx0⟩
  case round =>
    obtain ⟨k, hk1, rfl, hp, hx⟩ := hrel
    clear hp0 hx0
    by_cases hlt : k < l.length
    · obtain ⟨b, o, cs, rfl, hb, hr, hc⟩ := HK.out k hlt
      have HC := Lib.hid (hx.range hc)
      have HI : Hid ((Try.prog.info? 121).map (·.size) = some cs.length) := Lib.hid (by rw [ENode.len hr]; kernel_rfl)
      have HR := Lib.hid (ENode.keep (hx.same S) hr)
      have HP := Lib.hid hp
      have HM := Lib.hid (HS.out.2 (nth l k) (nth_mem hlt))
      clear hc hr hmk hp
      go_wp2_with (first
        | (go_at_call 93; refine (toNode_any (nth l k) cs _ HR.out HM.out).mono ?_; rintro e w1 ⟨cs', rfl, hr1, hx1⟩; have HR1 := Lib.hid hr1; clear hr1)
        | (refine wpList_load_mid rfl 121 _ rfl b (o + k * 2) rfl cs _ HC.out Try.underlying121 rfl HI.out ?_)
        | (refine wpList_store_mid rfl 114 _ _ rfl B (k * 2) _ rfl rfl ?ht ?hi ?ho ?_))
      case ht => have := (HP.out.ext hx1).there hlt; rw [List.size_toArray, ENode.len HR1.out]; exact this
      case hi => rw [List.size_toArray, ENode.len HR1.out]; kernel_rfl
      case ho => exact all_oneCell_toArray (ENode.one HR1.out)
      refine ⟨⟨k + 1, by omega, by go_num, (HP.out.ext hx1).step hlt (ENode.sub (fun b hb => Nat.lt_of_lt_of_le HP.out.lt hb) HR1.out), setCells_ext (by rw [HB.out]; exact Nat.le_refl _) _ _ _ (hx.trans hx1)⟩, ?_⟩
      simp [intOf]
      omega
    · obtain rfl : k = l.length := by omega
      go_wp2_with fail
      go_ret
      exact ⟨_, rfl, (hp.done (by unfold maxLen; omega)).sub (fun b hb => by rw [HB.out]; exact hb), hx⟩

theorem mk_TaskS (n : Nat) (hn : n ≤ 1048576) (W : World) : (Instr.makeSlice 58 (.int .i64 (n : Int)) (.int .i64 (n : Int))).run Try.prog W = .ok (.slice (some ⟨W.heap.size, 0, none⟩) n n) (W.alloc (.cells (madeCells #[.int .i64 0, .int .i64 0, .int .i64 0, .string ⟨#[]⟩, .int .i64 0, .int .i64 0, .int .i64 0, .int .i64 0, .int .i64 0, .int .i64 0, .int .i64 0, .int .i64 0, .int .i64 0, .slice none 0 0] (n * 14)) 46)) := by
  obtain ⟨i0, hi, hz0, hz1, hz2⟩ := info_parts (show (Try.prog.info? 46).map (fun i => (i.zero, i.size, i.bytes)) = some (some (.agg #[.int .i64 0, .int .i64 0, .int .i64 0, .string ⟨#[]⟩, .int .i64 0, .int .i64 0, .int .i64 0, .int .i64 0, .int .i64 0, .int .i64 0, .int .i64 0, .int .i64 0, .int .i64 0, .slice none 0 0]), 14, 136) by kernel_rfl)
  have := run_make (P := Try.prog) W 58 46 i0 _ Try.underlying58 hi hz0 .i64 .i64 n n (by omega) (by omega) (by rw [hz2]; omega) (by omega)
  simpa [hz1, Value.cells] using this

set_option maxHeartbeats 1000000 in
theorem toTaskS_any {S : Nat → Prop} (l : List Task) (v : Value) (w : World) (h : Rd ETask S w v l) (hs : SmTaskS l) :
    Calls Try.prog 43 #[v] w (RetL ETask l w) := by
  have hn : l.length ≤ 1048576 := hs.1
  have HS := Lib.hid hs
  obtain ⟨A, c, rfl, h1, h2, hk⟩ := h.open_
  unfold maxLen at h2
  have HK := Lib.hid hk
  clear hk h hs
  have hmk := mk_TaskS l.length hn
  go_enter Try.func43, Try.ntmps43
  go_wp2_with fail
  have hp0 := Part.new (E := ETask) (l := l) (T := 46) w (madeCells #[.int .i64 0, .int .i64 0, .int .i64 0, .string ⟨#[]⟩, .int .i64 0, .int .i64 0, .int .i64 0, .int .i64 0, .int .i64 0, .int .i64 0, .int .i64 0, .int .i64 0, .int .i64 0, .slice none 0 0] (l.length * 14)) (by rw [size_madeCells]; rfl)
  have hx0 : Ext w (w.alloc (.cells (madeCells #[.int .i64 0, .int .i64 0, .int .i64 0, .string ⟨#[]⟩, .int .i64 0, .int .i64 0, .int .i64 0, .int .i64 0, .int .i64 0, .int .i64 0, .int .i64 0, .int .i64 0, .int .i64 0, .slice none 0 0] (l.length * 14)) 46)) := (Ext.refl w).alloc _
  generalize hB : w.heap.size = B at hp0 ⊢
  have HB := Lib.hid hB
  clear hB
  go_loopw [4] (fun i w' => ∃ k : Nat, k ≤ l.length ∧ i = .int .i64 k ∧ Part ETask w' B 46 l k ∧ Ext w w') (fun i _ => l.length - (intOf i).toNat)
  case atStart => exact ⟨0, by omega, rfl, hp0, hx0⟩
  case round =>
    obtain ⟨k, hk1, rfl, hp, hx⟩ := hrel
    clear hp0 hx0
    by_cases hlt : k < l.length
    · obtain ⟨b, o, cs, rfl, hb, hr, hc⟩ := HK.out k hlt
      have HC := Lib.hid (hx.range hc)
      have HI : Hid ((Try.prog.info? 41).map (·.size) = some cs.length) := Lib.hid (by rw [ETask.len hr]; kernel_rfl)
      have HR := Lib.hid (ETask.keep (hx.same S) hr)
      have HP := Lib.hid hp
      have HM := Lib.hid (HS.out.2 (nth l k) (nth_mem hlt))
      clear hc hr hmk hp
      go_wp2_with (first
        | (go_at_call 35; refine (toTask_any (nth l k) cs _ HR.out HM.out).mono ?_; rintro e w1 ⟨cs', rfl, hr1, hx1⟩; have HR1 := Lib.hid hr1; clear hr1)
        | (refine wpList_load_mid rfl 41 _ rfl b (o + k * 14) rfl cs _ HC.out Try.underlying41 rfl HI.out ?_)
        | (refine wpList_store_mid rfl 46 _ _ rfl B (k * 14) _ rfl rfl ?ht ?hi ?ho ?_))
      case ht => have := (HP.out.ext hx1).there hlt; rw [List.size_toArray, ETask.len HR1.out]; exact this
      case hi => rw [List.size_toArray, ETask.len HR1.out]; kernel_rfl
      case ho => exact all_oneCell_toArray (ETask.one HR1.out)
      refine ⟨⟨k + 1, by omega, by go_num, (HP.out.ext hx1).step hlt (ETask.sub (fun b hb => Nat.lt_of_lt_of_le HP.out.lt hb) HR1.out), setCells_ext (by rw [HB.out]; exact Nat.le_refl _) _ _ _ (hx.trans hx1)⟩, ?_⟩
      simp [intOf]
      omega
    · obtain rfl : k = l.length := by omega
      go_wp2_with fail
      go_ret
      exact ⟨_, rfl, (hp.done (by unfold maxLen; omega)).sub (fun b hb => by rw [HB.out]; exact hb), hx⟩

theorem mk_UseS (n : Nat) (hn : n ≤ 1048576) (W : World) : (Instr.makeSlice 87 (.int .i64 (n : Int)) (.int .i64 (n : Int))).run Try.prog W = .ok (.slice (some ⟨W.heap.size, 0, none⟩) n n) (W.alloc (.cells (madeCells #[.int .i64 0, .int .i64 0, .string ⟨#[]⟩, .int .i64 0] (n * 4)) 163)) := by
  obtain ⟨i0, hi, hz0, hz1, hz2⟩ := info_parts (show (Try.prog.info? 163).map (fun i => (i.zero, i.size, i.bytes)) = some (some (.agg #[.int .i64 0, .int .i64 0, .string ⟨#[]⟩, .int .i64 0]), 4, 40) by kernel_rfl)
  have := run_make (P := Try.prog) W 87 163 i0 _ Try.underlying87 hi hz0 .i64 .i64 n n (by omega) (by omega) (by rw [hz2]; omega) (by omega)
  simpa [hz1, Value.cells] using this

set_option maxHeartbeats 1000000 in
theorem toUseS_any {S : Nat → Prop} (l : List Use) (v : Value) (w : World) (h : Rd EUse S w v l) (hs : SmUseS l) :
    Calls Try.prog 70 #[v] w (RetL EUse l w) := by
  have hn : l.length ≤ 1048576 := hs.1
  have HS := Lib.hid hs
  obtain ⟨A, c, rfl, h1, h2, hk⟩ := h.open_
  unfold maxLen at h2
  have HK := Lib.hid hk
  clear hk h hs
  have hmk := mk_UseS l.length hn
  go_enter Try.func70, Try.ntmps70
  go_wp2_with fail
  have hp0 := Part.new (E := EUse) (l := l) (T := 163) w (madeCells #[.int .i64 0, .int .i64 0, .string ⟨#[]⟩, .int .i64 0] (l.length * 4)) (by rw [size_madeCells]; rfl)
  have hx0 : Ext w (w.alloc (.cells (madeCells #[.int .i64 0, .int .i64 0, .string ⟨#[]⟩, .int .i64 0] (l.length * 4)) 163)) := (Ext.refl w).alloc _
  generalize hB : w.heap.size = B at hp0 ⊢
  have HB := Lib.hid hB
  clear hB
  go_loopw [4] (fun i w' => ∃ k : Nat, k ≤ l.length ∧ i = .int .i64 k ∧ Part EUse w' B 163 l k ∧ Ext w w') (fun i _ => l.length - (intOf i).toNat)
  case atStart => exact ⟨0, by omega, rfl, hp0, hx0⟩
  case round =>
    obtain ⟨k, hk1, rfl, hp, hx⟩ := hrel
    clear hp0 hx0
    by_cases hlt : k < l.length
    · obtain ⟨b, o, cs, rfl, hb, hr, hc⟩ := HK.out k hlt
      have HC := Lib.hid (hx.range hc)
      have HI : Hid ((Try.prog.info? 161).map (·.size) = some cs.length) := Lib.hid (by rw [EUse.len hr]; kernel_rfl)
      have HR := Lib.hid (EUse.keep (hx.same S) hr)
      have HP := Lib.hid hp
      have HM := Lib.hid (HS.out.2 (nth l k) (nth_mem hlt))
      clear hc hr hmk hp
      go_wp2_with (first
        | (go_at_call 149; refine (toUse_any (nth l k) cs _ HR.out HM.out).mono ?_; rintro e w1 ⟨cs', rfl, hr1, hx1⟩; have HR1 := Lib.hid hr1; clear hr1)
        | (refine wpList_load_mid rfl 161 _ rfl b (o + k * 4) rfl cs _ HC.out Try.underlying161 rfl HI.out ?_)
        | (refine wpList_store_mid rfl 163 _ _ rfl B (k * 4) _ rfl rfl ?ht ?hi ?ho ?_))
      case ht => have := (HP.out.ext hx1).there hlt; rw [List.size_toArray, EUse.len HR1.out]; exact this
      case hi => rw [List.size_toArray, EUse.len HR1.out]; kernel_rfl
      case ho => exact all_oneCell_toArray (EUse.one HR1.out)
      refine ⟨⟨k + 1, by omega, by go_num, (HP.out.ext hx1).step hlt (EUse.sub (fun b hb => Nat.lt_of_lt_of_le HP.out.lt hb) HR1.out), setCells_ext (by rw [HB.out]; exact Nat.le_refl _) _ _ _ (hx.trans hx1)⟩, ?_⟩
      simp [intOf]
      omega
    · obtain rfl : k = l.length := by omega
      go_wp2_with fail
      go_ret
      exact ⟨_, rfl, (hp.done (by unfold maxLen; omega)).sub (fun b hb => by rw [HB.out]; exact hb), hx⟩

end Go.Proofs.Ytalnbddpkkkpeaa

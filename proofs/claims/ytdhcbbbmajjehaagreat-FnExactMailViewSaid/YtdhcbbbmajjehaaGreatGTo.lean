/- The copies: to... Printed by wip/gen.py. -/
import Derived.Test.YtdhcbbbmajjehaaGreatRows
import Derived.Test.YtdhcbbbmajjehaaGreatGElems
import Derived.Test.YtdhcbbbmajjehaaGreatGSmall
namespace Go.Proofs.YtdhcbbbmajjehaaGreat
open Go.RowKit
attribute [local irreducible] wpQuiet

set_option maxHeartbeats 4000000 in
theorem toLabel_any {S : Nat → Prop} (x : Label) (cs : List Value) (w : World) (h : ELabel.rel S w cs x) (_hs : SmLabel x) :
    Calls Tryz.prog 9 #[.agg cs.toArray] w (RetS ELabel x w) := by
  obtain ⟨rfl, hi⟩ := h
  have HI := Lib.hid hi
  clear hi
  simp only [cellsLabel]
  go_enter Tryz.func9, Tryz.ntmps9
  go_wp2
  exact bodyPost_ret (v := .agg #[.int .i64 x.level, .int .i64 x.set]) (by simp [results, Tryz.results9, go_sem]) rfl ⟨_, rfl, ⟨rfl, HI.out⟩, (((Ext.refl _).alloc _).alloc _).alloc _⟩

theorem mk_Int64S (n : Nat) (hn : n ≤ 1048576) (W : World) : (Instr.makeSlice 60 (.int .i64 (n : Int)) (.int .i64 (n : Int))).run Tryz.prog W = .ok (.slice (some ⟨W.heap.size, 0, none⟩) n n) (W.alloc (.cells (madeCells #[.int .i64 0] (n * 1)) 2)) := by
  obtain ⟨i0, hi, hz0, hz1, hz2⟩ := info_parts (show (Tryz.prog.info? 2).map (fun i => (i.zero, i.size, i.bytes)) = some (some (.int .i64 0), 1, 8) by kernel_rfl)
  have := run_make (P := Tryz.prog) W 60 2 i0 _ Tryz.underlying60 hi hz0 .i64 .i64 n n (by omega) (by omega) (by rw [hz2]; omega) (by omega)
  simpa [hz1, Value.cells] using this

set_option maxHeartbeats 1000000 in
theorem toInt64S_any {S : Nat → Prop} (l : List Int) (v : Value) (w : World) (h : Rd EInt S w v l) (hs : SmInt64S l) :
    Calls Tryz.prog 57 #[v] w (RetL EInt l w) := by
  have hn : l.length ≤ 1048576 := hs.1
  have HS := Lib.hid hs
  obtain ⟨A, c, rfl, h1, h2, hk⟩ := h.open_
  unfold maxLen at h2
  have HK := Lib.hid hk
  clear hk h hs
  have hmk := mk_Int64S l.length hn
  go_enter Tryz.func57, Tryz.ntmps57
  go_wp2_with fail
  have hp0 := Part.new (E := EInt) (l := l) (T := 2) w (madeCells #[.int .i64 0] (l.length * 1)) (by rw [size_madeCells]; rfl)
  have hx0 : Ext w (w.alloc (.cells (madeCells #[.int .i64 0] (l.length * 1)) 2)) := (Ext.refl w).alloc _
  simp only [Nat.mul_one] at hp0 hx0 ⊢
  generalize hB : w.heap.size = B at hp0 ⊢
  have HB := Lib.hid hB
  clear hB
  go_loopw [4] (fun i w' => ∃ k : Nat, k ≤ l.length ∧ i = .int .i64 k ∧ Part EInt w' B 2 l k ∧ Ext w w') (fun i _ => l.length - (intOf i).toNat)
  case atStart => exact ⟨0, by omega, rfl, hp0, hx0⟩
  case round =>
    obtain ⟨k, hk1, rfl, hp, hx⟩ := hrel
    clear hp0 hx0
    by_cases hlt : k < l.length
    · obtain ⟨b, o, cs, rfl, hb, hr, hc⟩ := HK.out k hlt
      obtain ⟨rfl, hi⟩ := hr
      have c0 := Ext.some hx (hc 0 _ rfl)
      have ht := hp.there hlt 0 (by decide)
      obtain ⟨u, hu⟩ := Option.isSome_iff_exists.1 ht.1
      have hf := ht.2
      have HI := Lib.hid hi
      have HP := Lib.hid hp
      simp only [EInt, Nat.mul_one, Nat.add_zero] at c0 hu hf
      clear hc ht hi hp hmk
      go_wp2_with fail
      refine ⟨⟨k + 1, by omega, by go_num, ?_, hx.setCell (p := ⟨B, k, none⟩) (by rw [HB.out]; exact Nat.le_refl _) _⟩, ?_⟩
      · have := HP.out.step (cs := [.int .i64 (nth l k)]) hlt ⟨rfl, HI.out⟩
        simpa [World.setCells, EInt] using this
      simp [intOf]
      omega
    · obtain rfl : k = l.length := by omega
      go_wp2_with fail
      go_ret
      exact ⟨_, rfl, (hp.done (by unfold maxLen; omega)).sub (fun b hb => by rw [HB.out]; exact hb), hx⟩

set_option maxHeartbeats 4000000 in
theorem toPair_any {S : Nat → Prop} (x : Pair) (cs : List Value) (w : World) (h : EPair.rel S w cs x) (_hs : SmPair x) :
    Calls Tryz.prog 40 #[.agg cs.toArray] w (RetS EPair x w) := by
  obtain ⟨rfl, hi⟩ := h
  have HI := Lib.hid hi
  clear hi
  simp only [cellsPair]
  go_enter Tryz.func40, Tryz.ntmps40
  go_wp2_with fail
  obtain ⟨W, B, hW, hB, hx0, a0, r0, o0⟩ := boxes3 w #[.int .i64 x.from_.level, .int .i64 x.from_.set, .int .i64 x.to_.level, .int .i64 x.to_.set, .int .i64 x.rate] #[.int .i64 0, .int .i64 0, .int .i64 0, .int .i64 0, .int .i64 0] #[.int .i64 0, .int .i64 0, .int .i64 0, .int .i64 0, .int .i64 0] 91 58 58
  rw [← hW, ← hB]
  have HB := Lib.hid hB
  clear hW hB
  have a_0 := Lib.hid a0
  have r_0 := Lib.hid r0
  have o_0 := Lib.hid o0
  have X_0 := Lib.hid hx0
  clear a0 r0 o0 hx0
  refine (toLabel_any x.from_ [.int .i64 x.from_.level, .int .i64 x.from_.set] _ (S := S) ⟨rfl, (by have hf := HI.out; simp only [FitPair] at hf; simp only [FitLabel, hf, and_self])⟩ trivial).mono ?_
  rintro e w1 ⟨_, rfl, ⟨rfl, _⟩, hx⟩
  simp only [cellsLabel]
  have a_1 : Hid (Blk w1 B 91 #[.int .i64 x.from_.level, .int .i64 x.from_.set, .int .i64 x.to_.level, .int .i64 x.to_.set, .int .i64 x.rate]) := Lib.hid (Blk.ext (by repeat (first | with_reducible exact a_0.out | refine Blk.far ?_ (by simp <;> omega) _)) hx)
  have r_1 : Hid (Blk w1 (B + 1) 58 #[.int .i64 0, .int .i64 0, .int .i64 0, .int .i64 0, .int .i64 0]) := Lib.hid (Blk.ext (by repeat (first | with_reducible exact r_0.out | refine Blk.far ?_ (by simp <;> omega) _)) hx)
  have o_1 : Hid (Blk w1 (B + 1 + 1) 58 #[.int .i64 0, .int .i64 0, .int .i64 0, .int .i64 0, .int .i64 0]) := Lib.hid (Blk.ext (by simpa using o_0.out) hx)
  have X_1 : Hid (Ext w w1) := Lib.hid (Ext.trans (by repeat (first | with_reducible exact X_0.out | refine Ext.setCell ?_ (by show w.heap.size ≤ B + 1 + 1; rw [← HB.out]; omega) _)) hx)
  clear hx
  have ac := a_1.out.cell
  have oc := o_1.out.cell
  have of := o_1.out.frozen
  clear a_0 r_0 o_0 X_0
  go_wp2_with fail
  refine (toLabel_any x.to_ [.int .i64 x.to_.level, .int .i64 x.to_.set] _ (S := S) ⟨rfl, (by have hf := HI.out; simp only [FitPair] at hf; simp only [FitLabel, hf, and_self])⟩ trivial).mono ?_
  rintro e w2 ⟨_, rfl, ⟨rfl, _⟩, hx⟩
  simp only [cellsLabel]
  have a_2 : Hid (Blk w2 B 91 #[.int .i64 x.from_.level, .int .i64 x.from_.set, .int .i64 x.to_.level, .int .i64 x.to_.set, .int .i64 x.rate]) := Lib.hid (Blk.ext (by repeat (first | with_reducible exact a_1.out | refine Blk.far ?_ (by simp <;> omega) _)) hx)
  have r_2 : Hid (Blk w2 (B + 1) 58 #[.int .i64 0, .int .i64 0, .int .i64 0, .int .i64 0, .int .i64 0]) := Lib.hid (Blk.ext (by repeat (first | with_reducible exact r_1.out | refine Blk.far ?_ (by simp <;> omega) _)) hx)
  have o_2 : Hid (Blk w2 (B + 1 + 1) 58 #[.int .i64 x.from_.level, .int .i64 x.from_.set, .int .i64 0, .int .i64 0, .int .i64 0]) := Lib.hid (Blk.ext (by simpa using ((o_1.out.set_ 0 (.int .i64 x.from_.level)).set_ 1 (.int .i64 x.from_.set))) hx)
  have X_2 : Hid (Ext w w2) := Lib.hid (Ext.trans (by repeat (first | with_reducible exact X_1.out | refine Ext.setCell ?_ (by show w.heap.size ≤ B + 1 + 1; rw [← HB.out]; omega) _)) hx)
  clear hx ac oc of
  have ac := a_2.out.cell
  have oc := o_2.out.cell
  have of := o_2.out.frozen
  clear a_1 r_1 o_1 X_1
  go_wp2_with (first
    | (refine wpList_load_mid rfl 58 _ rfl (B + 1 + 1) 0 rfl [.int .i64 x.from_.level, .int .i64 x.from_.set, .int .i64 x.to_.level, .int .i64 x.to_.set, .int .i64 x.rate] _ ?hl Tryz.underlying58 rfl (by kernel_rfl) ?_)
    | (refine wpList_store_mid rfl 58 _ _ rfl (B + 1) 0 #[.int .i64 x.from_.level, .int .i64 x.from_.set, .int .i64 x.to_.level, .int .i64 x.to_.set, .int .i64 x.rate] rfl rfl ?ht (by kernel_rfl) ?ho ?_))
  case hl => exact Blk.range (t := 58) (cs := #[.int .i64 x.from_.level, .int .i64 x.from_.set, .int .i64 x.to_.level, .int .i64 x.to_.set, .int .i64 x.rate]) (by simpa using (((o_2.out.set_ 2 (.int .i64 x.to_.level)).set_ 3 (.int .i64 x.to_.set)).set_ 4 (.int .i64 x.rate)))
  case ht => exact Blk.there (t := 58) (cs := #[.int .i64 0, .int .i64 0, .int .i64 0, .int .i64 0, .int .i64 0]) (by repeat (first | with_reducible exact r_2.out | refine Blk.far ?_ (by simp <;> omega) _))
  case ho => exact all_oneCell_toArray (cs := [.int .i64 x.from_.level, .int .i64 x.from_.set, .int .i64 x.to_.level, .int .i64 x.to_.set, .int .i64 x.rate]) (by simp [Value.oneCell'])
  exact bodyPost_ret (v := .agg #[.int .i64 x.from_.level, .int .i64 x.from_.set, .int .i64 x.to_.level, .int .i64 x.to_.set, .int .i64 x.rate]) (results_blk Tryz.results40 rfl (Blk.setAll (t := 58) (cs := #[.int .i64 0, .int .i64 0, .int .i64 0, .int .i64 0, .int .i64 0]) (vs := #[.int .i64 x.from_.level, .int .i64 x.from_.set, .int .i64 x.to_.level, .int .i64 x.to_.set, .int .i64 x.rate]) (by repeat (first | with_reducible exact r_2.out | refine Blk.far ?_ (by simp <;> omega) _)) rfl) Tryz.underlying58 rfl (by kernel_rfl)) rfl ⟨_, rfl, ⟨rfl, HI.out⟩, setCells_ext (by rw [← HB.out]; omega) _ _ _ (by repeat (first | with_reducible exact X_2.out | refine Ext.setCell ?_ (by show w.heap.size ≤ B + 1 + 1; rw [← HB.out]; omega) _))⟩

set_option maxHeartbeats 4000000 in
theorem toQuota_any {S : Nat → Prop} (x : Quota) (cs : List Value) (w : World) (h : EQuota.rel S w cs x) (_hs : SmQuota x) :
    Calls Tryz.prog 41 #[.agg cs.toArray] w (RetS EQuota x w) := by
  obtain ⟨rfl, hi⟩ := h
  have HI := Lib.hid hi
  clear hi
  simp only [cellsQuota]
  go_enter Tryz.func41, Tryz.ntmps41
  go_wp2_with fail
  obtain ⟨W, B, hW, hB, hx0, a0, r0, o0⟩ := boxes3 w #[.int .i64 x.label.level, .int .i64 x.label.set, .int .i64 x.most] #[.int .i64 0, .int .i64 0, .int .i64 0] #[.int .i64 0, .int .i64 0, .int .i64 0] 96 93 93
  rw [← hW, ← hB]
  have HB := Lib.hid hB
  clear hW hB
  have a_0 := Lib.hid a0
  have r_0 := Lib.hid r0
  have o_0 := Lib.hid o0
  have X_0 := Lib.hid hx0
  clear a0 r0 o0 hx0
  refine (toLabel_any x.label [.int .i64 x.label.level, .int .i64 x.label.set] _ (S := S) ⟨rfl, (by have hf := HI.out; simp only [FitQuota] at hf; simp only [FitLabel, hf, and_self])⟩ trivial).mono ?_
  rintro e w1 ⟨_, rfl, ⟨rfl, _⟩, hx⟩
  simp only [cellsLabel]
  have a_1 : Hid (Blk w1 B 96 #[.int .i64 x.label.level, .int .i64 x.label.set, .int .i64 x.most]) := Lib.hid (Blk.ext (by repeat (first | with_reducible exact a_0.out | refine Blk.far ?_ (by simp <;> omega) _)) hx)
  have r_1 : Hid (Blk w1 (B + 1) 93 #[.int .i64 0, .int .i64 0, .int .i64 0]) := Lib.hid (Blk.ext (by repeat (first | with_reducible exact r_0.out | refine Blk.far ?_ (by simp <;> omega) _)) hx)
  have o_1 : Hid (Blk w1 (B + 1 + 1) 93 #[.int .i64 0, .int .i64 0, .int .i64 0]) := Lib.hid (Blk.ext (by simpa using o_0.out) hx)
  have X_1 : Hid (Ext w w1) := Lib.hid (Ext.trans (by repeat (first | with_reducible exact X_0.out | refine Ext.setCell ?_ (by show w.heap.size ≤ B + 1 + 1; rw [← HB.out]; omega) _)) hx)
  clear hx
  have ac := a_1.out.cell
  have oc := o_1.out.cell
  have of := o_1.out.frozen
  clear a_0 r_0 o_0 X_0
  go_wp2_with (first
    | (refine wpList_load_mid rfl 93 _ rfl (B + 1 + 1) 0 rfl [.int .i64 x.label.level, .int .i64 x.label.set, .int .i64 x.most] _ ?hl Tryz.underlying93 rfl (by kernel_rfl) ?_)
    | (refine wpList_store_mid rfl 93 _ _ rfl (B + 1) 0 #[.int .i64 x.label.level, .int .i64 x.label.set, .int .i64 x.most] rfl rfl ?ht (by kernel_rfl) ?ho ?_))
  case hl => exact Blk.range (t := 93) (cs := #[.int .i64 x.label.level, .int .i64 x.label.set, .int .i64 x.most]) (by simpa using (((o_1.out.set_ 0 (.int .i64 x.label.level)).set_ 1 (.int .i64 x.label.set)).set_ 2 (.int .i64 x.most)))
  case ht => exact Blk.there (t := 93) (cs := #[.int .i64 0, .int .i64 0, .int .i64 0]) (by repeat (first | with_reducible exact r_1.out | refine Blk.far ?_ (by simp <;> omega) _))
  case ho => exact all_oneCell_toArray (cs := [.int .i64 x.label.level, .int .i64 x.label.set, .int .i64 x.most]) (by simp [Value.oneCell'])
  exact bodyPost_ret (v := .agg #[.int .i64 x.label.level, .int .i64 x.label.set, .int .i64 x.most]) (results_blk Tryz.results41 rfl (Blk.setAll (t := 93) (cs := #[.int .i64 0, .int .i64 0, .int .i64 0]) (vs := #[.int .i64 x.label.level, .int .i64 x.label.set, .int .i64 x.most]) (by repeat (first | with_reducible exact r_1.out | refine Blk.far ?_ (by simp <;> omega) _)) rfl) Tryz.underlying93 rfl (by kernel_rfl)) rfl ⟨_, rfl, ⟨rfl, HI.out⟩, setCells_ext (by rw [← HB.out]; omega) _ _ _ (by repeat (first | with_reducible exact X_1.out | refine Ext.setCell ?_ (by show w.heap.size ≤ B + 1 + 1; rw [← HB.out]; omega) _))⟩

theorem mk_LabelS (n : Nat) (hn : n ≤ 1048576) (W : World) : (Instr.makeSlice 87 (.int .i64 (n : Int)) (.int .i64 (n : Int))).run Tryz.prog W = .ok (.slice (some ⟨W.heap.size, 0, none⟩) n n) (W.alloc (.cells (madeCells #[.int .i64 0, .int .i64 0] (n * 2)) 45)) := by
  obtain ⟨i0, hi, hz0, hz1, hz2⟩ := info_parts (show (Tryz.prog.info? 45).map (fun i => (i.zero, i.size, i.bytes)) = some (some (.agg #[.int .i64 0, .int .i64 0]), 2, 16) by kernel_rfl)
  have := run_make (P := Tryz.prog) W 87 45 i0 _ Tryz.underlying87 hi hz0 .i64 .i64 n n (by omega) (by omega) (by rw [hz2]; omega) (by omega)
  simpa [hz1, Value.cells] using this

set_option maxHeartbeats 1000000 in
theorem toLabelS_any {S : Nat → Prop} (l : List Label) (v : Value) (w : World) (h : Rd ELabel S w v l) (hs : SmLabelS l) :
    Calls Tryz.prog 39 #[v] w (RetL ELabel l w) := by
  have hn : l.length ≤ 1048576 := hs.1
  have HS := Lib.hid hs
  obtain ⟨A, c, rfl, h1, h2, hk⟩ := h.open_
  unfold maxLen at h2
  have HK := Lib.hid hk
  clear hk h hs
  have hmk := mk_LabelS l.length hn
  go_enter Tryz.func39, Tryz.ntmps39
  go_wp2_with fail
  have hp0 := Part.new (E := ELabel) (l := l) (T := 45) w (madeCells #[.int .i64 0, .int .i64 0] (l.length * 2)) (by rw [size_madeCells]; rfl)
  have hx0 : Ext w (w.alloc (.cells (madeCells #[.int .i64 0, .int .i64 0] (l.length * 2)) 45)) := (Ext.refl w).alloc _
  generalize hB : w.heap.size = B at hp0 ⊢
  have HB := Lib.hid hB
  clear hB
  go_loopw [4] (fun i w' => ∃ k : Nat, k ≤ l.length ∧ i = .int .i64 k ∧ Part ELabel w' B 45 l k ∧ Ext w w') (fun i _ => l.length - (intOf i).toNat)
  case atStart => exact ⟨0, by omega, rfl, hp0, hx0⟩
  case round =>
    obtain ⟨k, hk1, rfl, hp, hx⟩ := hrel
    clear hp0 hx0
    by_cases hlt : k < l.length
    · obtain ⟨b, o, cs, rfl, hb, hr, hc⟩ := HK.out k hlt
      have HC := Lib.hid (hx.range hc)
      have HI : Hid ((Tryz.prog.info? 31).map (·.size) = some cs.length) := Lib.hid (by rw [ELabel.len hr]; kernel_rfl)
      have HR := Lib.hid (ELabel.keep (hx.same S) hr)
      have HP := Lib.hid hp
      have HM := Lib.hid (HS.out.2 (nth l k) (nth_mem hlt))
      clear hc hr hmk hp
      go_wp2_with (first
        | (go_at_call 9; refine (toLabel_any (nth l k) cs _ HR.out HM.out).mono ?_; rintro e w1 ⟨cs', rfl, hr1, hx1⟩; have HR1 := Lib.hid hr1; clear hr1)
        | (refine wpList_load_mid rfl 31 _ rfl b (o + k * 2) rfl cs _ HC.out Tryz.underlying31 rfl HI.out ?_)
        | (refine wpList_store_mid rfl 45 _ _ rfl B (k * 2) _ rfl rfl ?ht ?hi ?ho ?_))
      case ht => have := (HP.out.ext hx1).there hlt; rw [List.size_toArray, ELabel.len HR1.out]; exact this
      case hi => rw [List.size_toArray, ELabel.len HR1.out]; kernel_rfl
      case ho => exact all_oneCell_toArray (ELabel.one HR1.out)
      refine ⟨⟨k + 1, by omega, by go_num, (HP.out.ext hx1).step hlt (ELabel.sub (fun b hb => Nat.lt_of_lt_of_le HP.out.lt hb) HR1.out), setCells_ext (by rw [HB.out]; exact Nat.le_refl _) _ _ _ (hx.trans hx1)⟩, ?_⟩
      simp [intOf]
      omega
    · obtain rfl : k = l.length := by omega
      go_wp2_with fail
      go_ret
      exact ⟨_, rfl, (hp.done (by unfold maxLen; omega)).sub (fun b hb => by rw [HB.out]; exact hb), hx⟩

theorem mk_LabelSS (n : Nat) (hn : n ≤ 1048576) (W : World) : (Instr.makeSlice 35 (.int .i64 (n : Int)) (.int .i64 (n : Int))).run Tryz.prog W = .ok (.slice (some ⟨W.heap.size, 0, none⟩) n n) (W.alloc (.cells (madeCells #[.slice none 0 0] (n * 1)) 87)) := by
  obtain ⟨i0, hi, hz0, hz1, hz2⟩ := info_parts (show (Tryz.prog.info? 87).map (fun i => (i.zero, i.size, i.bytes)) = some (some (.slice none 0 0), 1, 24) by kernel_rfl)
  have := run_make (P := Tryz.prog) W 35 87 i0 _ Tryz.underlying35 hi hz0 .i64 .i64 n n (by omega) (by omega) (by rw [hz2]; omega) (by omega)
  simpa [hz1, Value.cells] using this

set_option maxHeartbeats 1000000 in
theorem toLabelSS_any {S : Nat → Prop} (l : List (List Label)) (v : Value) (w : World) (h : Rd (ERow ELabel) S w v l) (hs : SmLabelSS l) :
    Calls Tryz.prog 21 #[v] w (RetL (ERow ELabel) l w) := by
  have hn : l.length ≤ 1048576 := hs.1
  have HS := Lib.hid hs
  obtain ⟨A, c, rfl, h1, h2, hk⟩ := h.open_
  unfold maxLen at h2
  have HK := Lib.hid hk
  clear hk h hs
  have hmk := mk_LabelSS l.length hn
  go_enter Tryz.func21, Tryz.ntmps21
  go_wp2_with fail
  have hp0 := Part.new (E := (ERow ELabel)) (l := l) (T := 87) w (madeCells #[.slice none 0 0] (l.length * 1)) (by rw [size_madeCells]; rfl)
  have hx0 : Ext w (w.alloc (.cells (madeCells #[.slice none 0 0] (l.length * 1)) 87)) := (Ext.refl w).alloc _
  simp only [Nat.mul_one] at hp0 hx0 ⊢
  generalize hB : w.heap.size = B at hp0 ⊢
  have HB := Lib.hid hB
  clear hB
  go_loopw [4] (fun i w' => ∃ k : Nat, k ≤ l.length ∧ i = .int .i64 k ∧ Part (ERow ELabel) w' B 87 l k ∧ Ext w w') (fun i _ => l.length - (intOf i).toNat)
  case atStart => exact ⟨0, by omega, rfl, hp0, hx0⟩
  case round =>
    obtain ⟨k, hk1, rfl, hp, hx⟩ := hrel
    clear hp0 hx0
    by_cases hlt : k < l.length
    · obtain ⟨b, o, cs, rfl, hb, hr, hc⟩ := HK.out k hlt
      obtain ⟨v, rfl, hr⟩ := hr
      have c0 := Ext.some hx (hc 0 _ rfl)
      have ht := hp.there hlt 0 (by decide)
      obtain ⟨u, hu⟩ := Option.isSome_iff_exists.1 ht.1
      have HR := Lib.hid (hr.ext hx)
      have HP := Lib.hid hp
      have HM := Lib.hid (HS.out.2 (nth l k) (nth_mem hlt))
      simp only [ERow, Nat.mul_one, Nat.add_zero] at c0 hu
      clear hc ht hp hmk hr hu
      go_wp2_with fail
      refine (toLabelS_any (nth l k) v _ HR.out HM.out).mono ?_
      rintro e w1 ⟨v1, rfl, hr1, hx1⟩
      obtain ⟨A1, c1, rfl, -⟩ := id hr1
      have HR1 := Lib.hid hr1
      have ht := (HP.out.ext hx1).there hlt 0 (by decide)
      obtain ⟨u, hu⟩ := Option.isSome_iff_exists.1 ht.1
      have hf := ht.2
      simp only [ERow, Nat.mul_one, Nat.add_zero] at hu hf
      clear hr1 ht
      go_wp2_with fail
      refine ⟨⟨k + 1, by omega, by go_num, ?_, (hx.trans hx1).setCell (p := ⟨B, k, none⟩) (by rw [HB.out]; exact Nat.le_refl _) _⟩, ?_⟩
      · have := (HP.out.ext hx1).step (cs := [.slice A1 (nth l k).length c1]) hlt ⟨_, rfl, HR1.out.sub (fun b hb => Nat.lt_of_lt_of_le HP.out.lt hb)⟩
        simpa [World.setCells, ERow] using this
      simp [intOf]
      omega
    · obtain rfl : k = l.length := by omega
      go_wp2_with fail
      go_ret
      exact ⟨_, rfl, (hp.done (by unfold maxLen; omega)).sub (fun b hb => by rw [HB.out]; exact hb), hx⟩

theorem mk_PairS (n : Nat) (hn : n ≤ 1048576) (W : World) : (Instr.makeSlice 36 (.int .i64 (n : Int)) (.int .i64 (n : Int))).run Tryz.prog W = .ok (.slice (some ⟨W.heap.size, 0, none⟩) n n) (W.alloc (.cells (madeCells #[.int .i64 0, .int .i64 0, .int .i64 0, .int .i64 0, .int .i64 0] (n * 5)) 58)) := by
  obtain ⟨i0, hi, hz0, hz1, hz2⟩ := info_parts (show (Tryz.prog.info? 58).map (fun i => (i.zero, i.size, i.bytes)) = some (some (.agg #[.int .i64 0, .int .i64 0, .int .i64 0, .int .i64 0, .int .i64 0]), 5, 40) by kernel_rfl)
  have := run_make (P := Tryz.prog) W 36 58 i0 _ Tryz.underlying36 hi hz0 .i64 .i64 n n (by omega) (by omega) (by rw [hz2]; omega) (by omega)
  simpa [hz1, Value.cells] using this

set_option maxHeartbeats 1000000 in
theorem toPairS_any {S : Nat → Prop} (l : List Pair) (v : Value) (w : World) (h : Rd EPair S w v l) (hs : SmPairS l) :
    Calls Tryz.prog 22 #[v] w (RetL EPair l w) := by
  have hn : l.length ≤ 1048576 := hs.1
  have HS := Lib.hid hs
  obtain ⟨A, c, rfl, h1, h2, hk⟩ := h.open_
  unfold maxLen at h2
  have HK := Lib.hid hk
  clear hk h hs
  have hmk := mk_PairS l.length hn
  go_enter Tryz.func22, Tryz.ntmps22
  go_wp2_with fail
  have hp0 := Part.new (E := EPair) (l := l) (T := 58) w (madeCells #[.int .i64 0, .int .i64 0, .int .i64 0, .int .i64 0, .int .i64 0] (l.length * 5)) (by rw [size_madeCells]; rfl)
  have hx0 : Ext w (w.alloc (.cells (madeCells #[.int .i64 0, .int .i64 0, .int .i64 0, .int .i64 0, .int .i64 0] (l.length * 5)) 58)) := (Ext.refl w).alloc _
  generalize hB : w.heap.size = B at hp0 ⊢
  have HB := Lib.hid hB
  clear hB
  go_loopw [4] (fun i w' => ∃ k : Nat, k ≤ l.length ∧ i = .int .i64 k ∧ Part EPair w' B 58 l k ∧ Ext w w') (fun i _ => l.length - (intOf i).toNat)
  case atStart => exact ⟨0, by omega, rfl, hp0, hx0⟩
  case round =>
    obtain ⟨k, hk1, rfl, hp, hx⟩ := hrel
    clear hp0 hx0
    by_cases hlt : k < l.length
    · obtain ⟨b, o, cs, rfl, hb, hr, hc⟩ := HK.out k hlt
      have HC := Lib.hid (hx.range hc)
      have HI : Hid ((Tryz.prog.info? 91).map (·.size) = some cs.length) := Lib.hid (by rw [EPair.len hr]; kernel_rfl)
      have HR := Lib.hid (EPair.keep (hx.same S) hr)
      have HP := Lib.hid hp
      have HM := Lib.hid (HS.out.2 (nth l k) (nth_mem hlt))
      clear hc hr hmk hp
      go_wp2_with (first
        | (go_at_call 40; refine (toPair_any (nth l k) cs _ HR.out HM.out).mono ?_; rintro e w1 ⟨cs', rfl, hr1, hx1⟩; have HR1 := Lib.hid hr1; clear hr1)
        | (refine wpList_load_mid rfl 91 _ rfl b (o + k * 5) rfl cs _ HC.out Tryz.underlying91 rfl HI.out ?_)
        | (refine wpList_store_mid rfl 58 _ _ rfl B (k * 5) _ rfl rfl ?ht ?hi ?ho ?_))
      case ht => have := (HP.out.ext hx1).there hlt; rw [List.size_toArray, EPair.len HR1.out]; exact this
      case hi => rw [List.size_toArray, EPair.len HR1.out]; kernel_rfl
      case ho => exact all_oneCell_toArray (EPair.one HR1.out)
      refine ⟨⟨k + 1, by omega, by go_num, (HP.out.ext hx1).step hlt (EPair.sub (fun b hb => Nat.lt_of_lt_of_le HP.out.lt hb) HR1.out), setCells_ext (by rw [HB.out]; exact Nat.le_refl _) _ _ _ (hx.trans hx1)⟩, ?_⟩
      simp [intOf]
      omega
    · obtain rfl : k = l.length := by omega
      go_wp2_with fail
      go_ret
      exact ⟨_, rfl, (hp.done (by unfold maxLen; omega)).sub (fun b hb => by rw [HB.out]; exact hb), hx⟩

theorem mk_QuotaS (n : Nat) (hn : n ≤ 1048576) (W : World) : (Instr.makeSlice 37 (.int .i64 (n : Int)) (.int .i64 (n : Int))).run Tryz.prog W = .ok (.slice (some ⟨W.heap.size, 0, none⟩) n n) (W.alloc (.cells (madeCells #[.int .i64 0, .int .i64 0, .int .i64 0] (n * 3)) 93)) := by
  obtain ⟨i0, hi, hz0, hz1, hz2⟩ := info_parts (show (Tryz.prog.info? 93).map (fun i => (i.zero, i.size, i.bytes)) = some (some (.agg #[.int .i64 0, .int .i64 0, .int .i64 0]), 3, 24) by kernel_rfl)
  have := run_make (P := Tryz.prog) W 37 93 i0 _ Tryz.underlying37 hi hz0 .i64 .i64 n n (by omega) (by omega) (by rw [hz2]; omega) (by omega)
  simpa [hz1, Value.cells] using this

set_option maxHeartbeats 1000000 in
theorem toQuotaS_any {S : Nat → Prop} (l : List Quota) (v : Value) (w : World) (h : Rd EQuota S w v l) (hs : SmQuotaS l) :
    Calls Tryz.prog 23 #[v] w (RetL EQuota l w) := by
  have hn : l.length ≤ 1048576 := hs.1
  have HS := Lib.hid hs
  obtain ⟨A, c, rfl, h1, h2, hk⟩ := h.open_
  unfold maxLen at h2
  have HK := Lib.hid hk
  clear hk h hs
  have hmk := mk_QuotaS l.length hn
  go_enter Tryz.func23, Tryz.ntmps23
  go_wp2_with fail
  have hp0 := Part.new (E := EQuota) (l := l) (T := 93) w (madeCells #[.int .i64 0, .int .i64 0, .int .i64 0] (l.length * 3)) (by rw [size_madeCells]; rfl)
  have hx0 : Ext w (w.alloc (.cells (madeCells #[.int .i64 0, .int .i64 0, .int .i64 0] (l.length * 3)) 93)) := (Ext.refl w).alloc _
  generalize hB : w.heap.size = B at hp0 ⊢
  have HB := Lib.hid hB
  clear hB
  go_loopw [4] (fun i w' => ∃ k : Nat, k ≤ l.length ∧ i = .int .i64 k ∧ Part EQuota w' B 93 l k ∧ Ext w w') (fun i _ => l.length - (intOf i).toNat)
  case atStart => exact ⟨0, by omega, rfl, hp0, hx0⟩
  case round =>
    obtain ⟨k, hk1, rfl, hp, hx⟩ := hrel
    clear hp0 hx0
    by_cases hlt : k < l.length
    · obtain ⟨b, o, cs, rfl, hb, hr, hc⟩ := HK.out k hlt
      have HC := Lib.hid (hx.range hc)
      have HI : Hid ((Tryz.prog.info? 96).map (·.size) = some cs.length) := Lib.hid (by rw [EQuota.len hr]; kernel_rfl)
      have HR := Lib.hid (EQuota.keep (hx.same S) hr)
      have HP := Lib.hid hp
      have HM := Lib.hid (HS.out.2 (nth l k) (nth_mem hlt))
      clear hc hr hmk hp
      go_wp2_with (first
        | (go_at_call 41; refine (toQuota_any (nth l k) cs _ HR.out HM.out).mono ?_; rintro e w1 ⟨cs', rfl, hr1, hx1⟩; have HR1 := Lib.hid hr1; clear hr1)
        | (refine wpList_load_mid rfl 96 _ rfl b (o + k * 3) rfl cs _ HC.out Tryz.underlying96 rfl HI.out ?_)
        | (refine wpList_store_mid rfl 93 _ _ rfl B (k * 3) _ rfl rfl ?ht ?hi ?ho ?_))
      case ht => have := (HP.out.ext hx1).there hlt; rw [List.size_toArray, EQuota.len HR1.out]; exact this
      case hi => rw [List.size_toArray, EQuota.len HR1.out]; kernel_rfl
      case ho => exact all_oneCell_toArray (EQuota.one HR1.out)
      refine ⟨⟨k + 1, by omega, by go_num, (HP.out.ext hx1).step hlt (EQuota.sub (fun b hb => Nat.lt_of_lt_of_le HP.out.lt hb) HR1.out), setCells_ext (by rw [HB.out]; exact Nat.le_refl _) _ _ _ (hx.trans hx1)⟩, ?_⟩
      simp [intOf]
      omega
    · obtain rfl : k = l.length := by omega
      go_wp2_with fail
      go_ret
      exact ⟨_, rfl, (hp.done (by unfold maxLen; omega)).sub (fun b hb => by rw [HB.out]; exact hb), hx⟩

set_option maxHeartbeats 4000000 in
theorem toConfig_any {S : Nat → Prop} (x : Config) (cs : List Value) (w : World) (h : EConfig.rel S w cs x) (hs : SmConfig x) :
    Calls Tryz.prog 7 #[.agg cs.toArray] w (RetS EConfig x w) := by
  obtain ⟨v1, v2, v3, rfl, hi, h1, h2, h3⟩ := h
  have HI := Lib.hid hi
  have H1 := Lib.hid h1
  have H2 := Lib.hid h2
  have H3 := Lib.hid h3
  clear hi h1 h2 h3
  simp only [cellsConfig]
  go_enter Tryz.func7, Tryz.ntmps7
  have HS := Lib.hid hs
  clear hs
  go_wp2_with fail
  obtain ⟨W, B, hW, hB, hx0, a0, r0, o0⟩ := boxes3 w #[v1, v2, v3, .int .i64 x.half] #[.slice none 0 0, .slice none 0 0, .slice none 0 0, .int .i64 0] #[.slice none 0 0, .slice none 0 0, .slice none 0 0, .int .i64 0] 26 39 39
  rw [← hW, ← hB]
  have HB := Lib.hid hB
  clear hW hB
  have a_0 := Lib.hid a0
  have r_0 := Lib.hid r0
  have o_0 := Lib.hid o0
  have X_0 := Lib.hid hx0
  clear a0 r0 o0 hx0
  refine (toLabelSS_any x.nodes v1 _ (H1.out.ext (by repeat (first | with_reducible exact X_0.out | refine Ext.setCell ?_ (by show w.heap.size ≤ B + 1 + 1; rw [← HB.out]; omega) _))) (by have h := HS.out; simp only [SmConfig] at h; first | exact h | exact h.1 | exact h.2 | exact h.2.1 | exact h.2.2 | exact h.2.2.1 | exact h.2.2.2 | exact h.2.2.2.1 | exact h.2.2.2.2)).mono ?_
  rintro e w1 ⟨u1, rfl, q1, hx⟩
  obtain ⟨p1, k1, rfl, -⟩ := q1.form
  have Q1 := Lib.hid (q1.sub (S' := fun b => B + 1 + 1 < b) (fun b hb => Nat.lt_of_lt_of_le (by have hl := (show Blk _ _ _ _ from o_0.out).lt; exact hl) hb))
  clear q1
  have a_1 : Hid (Blk w1 B 26 #[v1, v2, v3, .int .i64 x.half]) := Lib.hid (Blk.ext (by repeat (first | with_reducible exact a_0.out | refine Blk.far ?_ (by simp <;> omega) _)) hx)
  have r_1 : Hid (Blk w1 (B + 1) 39 #[.slice none 0 0, .slice none 0 0, .slice none 0 0, .int .i64 0]) := Lib.hid (Blk.ext (by repeat (first | with_reducible exact r_0.out | refine Blk.far ?_ (by simp <;> omega) _)) hx)
  have o_1 : Hid (Blk w1 (B + 1 + 1) 39 #[.slice none 0 0, .slice none 0 0, .slice none 0 0, .int .i64 0]) := Lib.hid (Blk.ext (by simpa using o_0.out) hx)
  have X_1 : Hid (Ext w w1) := Lib.hid (Ext.trans (by repeat (first | with_reducible exact X_0.out | refine Ext.setCell ?_ (by show w.heap.size ≤ B + 1 + 1; rw [← HB.out]; omega) _)) hx)
  clear hx
  have ac := a_1.out.cell
  have oc := o_1.out.cell
  have of := o_1.out.frozen
  clear a_0 r_0 o_0 X_0
  go_wp2_with fail
  refine (toPairS_any x.pairs v2 _ (H2.out.ext (by repeat (first | with_reducible exact X_1.out | refine Ext.setCell ?_ (by show w.heap.size ≤ B + 1 + 1; rw [← HB.out]; omega) _))) (by have h := HS.out; simp only [SmConfig] at h; first | exact h | exact h.1 | exact h.2 | exact h.2.1 | exact h.2.2 | exact h.2.2.1 | exact h.2.2.2 | exact h.2.2.2.1 | exact h.2.2.2.2)).mono ?_
  rintro e w2 ⟨u2, rfl, q2, hx⟩
  obtain ⟨p2, k2, rfl, -⟩ := q2.form
  have Q2 := Lib.hid (q2.sub (S' := fun b => B + 1 + 1 < b) (fun b hb => Nat.lt_of_lt_of_le (by have hl := (show Blk _ _ _ _ from (o_1.out.set_ 0 (.slice p1 x.nodes.length k1))).lt; exact hl) hb))
  clear q2
  have a_2 : Hid (Blk w2 B 26 #[v1, v2, v3, .int .i64 x.half]) := Lib.hid (Blk.ext (by repeat (first | with_reducible exact a_1.out | refine Blk.far ?_ (by simp <;> omega) _)) hx)
  have r_2 : Hid (Blk w2 (B + 1) 39 #[.slice none 0 0, .slice none 0 0, .slice none 0 0, .int .i64 0]) := Lib.hid (Blk.ext (by repeat (first | with_reducible exact r_1.out | refine Blk.far ?_ (by simp <;> omega) _)) hx)
  have o_2 : Hid (Blk w2 (B + 1 + 1) 39 #[.slice p1 x.nodes.length k1, .slice none 0 0, .slice none 0 0, .int .i64 0]) := Lib.hid (Blk.ext (by simpa using (o_1.out.set_ 0 (.slice p1 x.nodes.length k1))) hx)
  have X_2 : Hid (Ext w w2) := Lib.hid (Ext.trans (by repeat (first | with_reducible exact X_1.out | refine Ext.setCell ?_ (by show w.heap.size ≤ B + 1 + 1; rw [← HB.out]; omega) _)) hx)
  replace Q1 := Lib.hid (Rd.ext (Q1.out.keep (by repeat (first | with_reducible exact Same.refl _ _ | refine Same.setCell ?_ (by simp) _))) hx)
  clear hx ac oc of
  have ac := a_2.out.cell
  have oc := o_2.out.cell
  have of := o_2.out.frozen
  clear a_1 r_1 o_1 X_1
  go_wp2_with fail
  refine (toQuotaS_any x.quotas v3 _ (H3.out.ext (by repeat (first | with_reducible exact X_2.out | refine Ext.setCell ?_ (by show w.heap.size ≤ B + 1 + 1; rw [← HB.out]; omega) _))) (by have h := HS.out; simp only [SmConfig] at h; first | exact h | exact h.1 | exact h.2 | exact h.2.1 | exact h.2.2 | exact h.2.2.1 | exact h.2.2.2 | exact h.2.2.2.1 | exact h.2.2.2.2)).mono ?_
  rintro e w3 ⟨u3, rfl, q3, hx⟩
  obtain ⟨p3, k3, rfl, -⟩ := q3.form
  have Q3 := Lib.hid (q3.sub (S' := fun b => B + 1 + 1 < b) (fun b hb => Nat.lt_of_lt_of_le (by have hl := (show Blk _ _ _ _ from (o_2.out.set_ 1 (.slice p2 x.pairs.length k2))).lt; exact hl) hb))
  clear q3
  have a_3 : Hid (Blk w3 B 26 #[v1, v2, v3, .int .i64 x.half]) := Lib.hid (Blk.ext (by repeat (first | with_reducible exact a_2.out | refine Blk.far ?_ (by simp <;> omega) _)) hx)
  have r_3 : Hid (Blk w3 (B + 1) 39 #[.slice none 0 0, .slice none 0 0, .slice none 0 0, .int .i64 0]) := Lib.hid (Blk.ext (by repeat (first | with_reducible exact r_2.out | refine Blk.far ?_ (by simp <;> omega) _)) hx)
  have o_3 : Hid (Blk w3 (B + 1 + 1) 39 #[.slice p1 x.nodes.length k1, .slice p2 x.pairs.length k2, .slice none 0 0, .int .i64 0]) := Lib.hid (Blk.ext (by simpa using (o_2.out.set_ 1 (.slice p2 x.pairs.length k2))) hx)
  have X_3 : Hid (Ext w w3) := Lib.hid (Ext.trans (by repeat (first | with_reducible exact X_2.out | refine Ext.setCell ?_ (by show w.heap.size ≤ B + 1 + 1; rw [← HB.out]; omega) _)) hx)
  replace Q1 := Lib.hid (Rd.ext (Q1.out.keep (by repeat (first | with_reducible exact Same.refl _ _ | refine Same.setCell ?_ (by simp) _))) hx)
  replace Q2 := Lib.hid (Rd.ext (Q2.out.keep (by repeat (first | with_reducible exact Same.refl _ _ | refine Same.setCell ?_ (by simp) _))) hx)
  clear hx ac oc of
  have ac := a_3.out.cell
  have oc := o_3.out.cell
  have of := o_3.out.frozen
  clear a_2 r_2 o_2 X_2
  go_wp2_with (first
    | (refine wpList_load_mid rfl 39 _ rfl (B + 1 + 1) 0 rfl [.slice p1 x.nodes.length k1, .slice p2 x.pairs.length k2, .slice p3 x.quotas.length k3, .int .i64 x.half] _ ?hl Tryz.underlying39 rfl (by kernel_rfl) ?_)
    | (refine wpList_store_mid rfl 39 _ _ rfl (B + 1) 0 #[.slice p1 x.nodes.length k1, .slice p2 x.pairs.length k2, .slice p3 x.quotas.length k3, .int .i64 x.half] rfl rfl ?ht (by kernel_rfl) ?ho ?_))
  case hl => exact Blk.range (t := 39) (cs := #[.slice p1 x.nodes.length k1, .slice p2 x.pairs.length k2, .slice p3 x.quotas.length k3, .int .i64 x.half]) (by simpa using ((o_3.out.set_ 2 (.slice p3 x.quotas.length k3)).set_ 3 (.int .i64 x.half)))
  case ht => exact Blk.there (t := 39) (cs := #[.slice none 0 0, .slice none 0 0, .slice none 0 0, .int .i64 0]) (by repeat (first | with_reducible exact r_3.out | refine Blk.far ?_ (by simp <;> omega) _))
  case ho => exact all_oneCell_toArray (cs := [.slice p1 x.nodes.length k1, .slice p2 x.pairs.length k2, .slice p3 x.quotas.length k3, .int .i64 x.half]) (by simp [Value.oneCell'])
  exact bodyPost_ret (v := .agg #[.slice p1 x.nodes.length k1, .slice p2 x.pairs.length k2, .slice p3 x.quotas.length k3, .int .i64 x.half]) (results_blk Tryz.results7 rfl (Blk.setAll (t := 39) (cs := #[.slice none 0 0, .slice none 0 0, .slice none 0 0, .int .i64 0]) (vs := #[.slice p1 x.nodes.length k1, .slice p2 x.pairs.length k2, .slice p3 x.quotas.length k3, .int .i64 x.half]) (by repeat (first | with_reducible exact r_3.out | refine Blk.far ?_ (by simp <;> omega) _)) rfl) Tryz.underlying39 rfl (by kernel_rfl)) rfl ⟨_, rfl, ⟨_, _, _, rfl, HI.out, Rd.sub (Q1.out.keep (setCells_same' (by repeat (first | with_reducible exact Same.refl _ _ | refine Same.setCell ?_ (by simp) _)) (by simp))) (fun b hb => by rw [← HB.out]; omega), Rd.sub (Q2.out.keep (setCells_same' (by repeat (first | with_reducible exact Same.refl _ _ | refine Same.setCell ?_ (by simp) _)) (by simp))) (fun b hb => by rw [← HB.out]; omega), Rd.sub (Q3.out.keep (setCells_same' (by repeat (first | with_reducible exact Same.refl _ _ | refine Same.setCell ?_ (by simp) _)) (by simp))) (fun b hb => by rw [← HB.out]; omega)⟩, setCells_ext (by rw [← HB.out]; omega) _ _ _ (by repeat (first | with_reducible exact X_3.out | refine Ext.setCell ?_ (by show w.heap.size ≤ B + 1 + 1; rw [← HB.out]; omega) _))⟩

set_option maxHeartbeats 4000000 in
theorem toNote_any {S : Nat → Prop} (x : Note) (cs : List Value) (w : World) (h : ENote.rel S w cs x) (_hs : SmNote x) :
    Calls Tryz.prog 70 #[.agg cs.toArray] w (RetS ENote x w) := by
  obtain ⟨rfl, hi⟩ := h
  have HI := Lib.hid hi
  clear hi
  simp only [cellsNote]
  go_enter Tryz.func70, Tryz.ntmps70
  go_wp2
  exact bodyPost_ret (v := .agg #[.int .i64 x.at_, .int .i64 x.word]) (by simp [results, Tryz.results70, go_sem]) rfl ⟨_, rfl, ⟨rfl, HI.out⟩, (((Ext.refl _).alloc _).alloc _).alloc _⟩

theorem mk_NoteS (n : Nat) (hn : n ≤ 1048576) (W : World) : (Instr.makeSlice 61 (.int .i64 (n : Int)) (.int .i64 (n : Int))).run Tryz.prog W = .ok (.slice (some ⟨W.heap.size, 0, none⟩) n n) (W.alloc (.cells (madeCells #[.int .i64 0, .int .i64 0] (n * 2)) 82)) := by
  obtain ⟨i0, hi, hz0, hz1, hz2⟩ := info_parts (show (Tryz.prog.info? 82).map (fun i => (i.zero, i.size, i.bytes)) = some (some (.agg #[.int .i64 0, .int .i64 0]), 2, 16) by kernel_rfl)
  have := run_make (P := Tryz.prog) W 61 82 i0 _ Tryz.underlying61 hi hz0 .i64 .i64 n n (by omega) (by omega) (by rw [hz2]; omega) (by omega)
  simpa [hz1, Value.cells] using this

set_option maxHeartbeats 1000000 in
theorem toNoteS_any {S : Nat → Prop} (l : List Note) (v : Value) (w : World) (h : Rd ENote S w v l) (hs : SmNoteS l) :
    Calls Tryz.prog 58 #[v] w (RetL ENote l w) := by
  have hn : l.length ≤ 1048576 := hs.1
  have HS := Lib.hid hs
  obtain ⟨A, c, rfl, h1, h2, hk⟩ := h.open_
  unfold maxLen at h2
  have HK := Lib.hid hk
  clear hk h hs
  have hmk := mk_NoteS l.length hn
  go_enter Tryz.func58, Tryz.ntmps58
  go_wp2_with fail
  have hp0 := Part.new (E := ENote) (l := l) (T := 82) w (madeCells #[.int .i64 0, .int .i64 0] (l.length * 2)) (by rw [size_madeCells]; rfl)
  have hx0 : Ext w (w.alloc (.cells (madeCells #[.int .i64 0, .int .i64 0] (l.length * 2)) 82)) := (Ext.refl w).alloc _
  generalize hB : w.heap.size = B at hp0 ⊢
  have HB := Lib.hid hB
  clear hB
  go_loopw [4] (fun i w' => ∃ k : Nat, k ≤ l.length ∧ i = .int .i64 k ∧ Part ENote w' B 82 l k ∧ Ext w w') (fun i _ => l.length - (intOf i).toNat)
  case atStart => exact ⟨0, by omega, rfl, hp0, hx0⟩
  case round =>
    obtain ⟨k, hk1, rfl, hp, hx⟩ := hrel
    clear hp0 hx0
    by_cases hlt : k < l.length
    · obtain ⟨b, o, cs, rfl, hb, hr, hc⟩ := HK.out k hlt
      have HC := Lib.hid (hx.range hc)
      have HI : Hid ((Tryz.prog.info? 119).map (·.size) = some cs.length) := Lib.hid (by rw [ENote.len hr]; kernel_rfl)
      have HR := Lib.hid (ENote.keep (hx.same S) hr)
      have HP := Lib.hid hp
      have HM := Lib.hid (HS.out.2 (nth l k) (nth_mem hlt))
      clear hc hr hmk hp
      go_wp2_with (first
        | (go_at_call 70; refine (toNote_any (nth l k) cs _ HR.out HM.out).mono ?_; rintro e w1 ⟨cs', rfl, hr1, hx1⟩; have HR1 := Lib.hid hr1; clear hr1)
        | (refine wpList_load_mid rfl 119 _ rfl b (o + k * 2) rfl cs _ HC.out Tryz.underlying119 rfl HI.out ?_)
        | (refine wpList_store_mid rfl 82 _ _ rfl B (k * 2) _ rfl rfl ?ht ?hi ?ho ?_))
      case ht => have := (HP.out.ext hx1).there hlt; rw [List.size_toArray, ENote.len HR1.out]; exact this
      case hi => rw [List.size_toArray, ENote.len HR1.out]; kernel_rfl
      case ho => exact all_oneCell_toArray (ENote.one HR1.out)
      refine ⟨⟨k + 1, by omega, by go_num, (HP.out.ext hx1).step hlt (ENote.sub (fun b hb => Nat.lt_of_lt_of_le HP.out.lt hb) HR1.out), setCells_ext (by rw [HB.out]; exact Nat.le_refl _) _ _ _ (hx.trans hx1)⟩, ?_⟩
      simp [intOf]
      omega
    · obtain rfl : k = l.length := by omega
      go_wp2_with fail
      go_ret
      exact ⟨_, rfl, (hp.done (by unfold maxLen; omega)).sub (fun b hb => by rw [HB.out]; exact hb), hx⟩

set_option maxHeartbeats 4000000 in
theorem toBox_any {S : Nat → Prop} (x : Box) (cs : List Value) (w : World) (h : EBox.rel S w cs x) (hs : SmBox x) :
    Calls Tryz.prog 42 #[.agg cs.toArray] w (RetS EBox x w) := by
  obtain ⟨v1, v2, v3, rfl, hi, h1, h2, h3⟩ := h
  have HI := Lib.hid hi
  have H1 := Lib.hid h1
  have H2 := Lib.hid h2
  have H3 := Lib.hid h3
  clear hi h1 h2 h3
  simp only [cellsBox]
  go_enter Tryz.func42, Tryz.ntmps42
  have HS := Lib.hid hs
  clear hs
  go_wp2_with fail
  obtain ⟨W, B, hW, hB, hx0, a0, r0, o0⟩ := boxes3 w #[v1, v2, v3] #[.slice none 0 0, .slice none 0 0, .slice none 0 0] #[.slice none 0 0, .slice none 0 0, .slice none 0 0] 78 63 63
  rw [← hW, ← hB]
  have HB := Lib.hid hB
  clear hW hB
  have a_0 := Lib.hid a0
  have r_0 := Lib.hid r0
  have o_0 := Lib.hid o0
  have X_0 := Lib.hid hx0
  clear a0 r0 o0 hx0
  refine (toInt64S_any x.next v1 _ (H1.out.ext (by repeat (first | with_reducible exact X_0.out | refine Ext.setCell ?_ (by show w.heap.size ≤ B + 1 + 1; rw [← HB.out]; omega) _))) (by have h := HS.out; simp only [SmBox] at h; first | exact h | exact h.1 | exact h.2 | exact h.2.1 | exact h.2.2 | exact h.2.2.1 | exact h.2.2.2 | exact h.2.2.2.1 | exact h.2.2.2.2)).mono ?_
  rintro e w1 ⟨u1, rfl, q1, hx⟩
  obtain ⟨p1, k1, rfl, -⟩ := q1.form
  have Q1 := Lib.hid (q1.sub (S' := fun b => B + 1 + 1 < b) (fun b hb => Nat.lt_of_lt_of_le (by have hl := (show Blk _ _ _ _ from o_0.out).lt; exact hl) hb))
  clear q1
  have a_1 : Hid (Blk w1 B 78 #[v1, v2, v3]) := Lib.hid (Blk.ext (by repeat (first | with_reducible exact a_0.out | refine Blk.far ?_ (by simp <;> omega) _)) hx)
  have r_1 : Hid (Blk w1 (B + 1) 63 #[.slice none 0 0, .slice none 0 0, .slice none 0 0]) := Lib.hid (Blk.ext (by repeat (first | with_reducible exact r_0.out | refine Blk.far ?_ (by simp <;> omega) _)) hx)
  have o_1 : Hid (Blk w1 (B + 1 + 1) 63 #[.slice none 0 0, .slice none 0 0, .slice none 0 0]) := Lib.hid (Blk.ext (by simpa using o_0.out) hx)
  have X_1 : Hid (Ext w w1) := Lib.hid (Ext.trans (by repeat (first | with_reducible exact X_0.out | refine Ext.setCell ?_ (by show w.heap.size ≤ B + 1 + 1; rw [← HB.out]; omega) _)) hx)
  clear hx
  have ac := a_1.out.cell
  have oc := o_1.out.cell
  have of := o_1.out.frozen
  clear a_0 r_0 o_0 X_0
  go_wp2_with fail
  refine (toInt64S_any x.here v2 _ (H2.out.ext (by repeat (first | with_reducible exact X_1.out | refine Ext.setCell ?_ (by show w.heap.size ≤ B + 1 + 1; rw [← HB.out]; omega) _))) (by have h := HS.out; simp only [SmBox] at h; first | exact h | exact h.1 | exact h.2 | exact h.2.1 | exact h.2.2 | exact h.2.2.1 | exact h.2.2.2 | exact h.2.2.2.1 | exact h.2.2.2.2)).mono ?_
  rintro e w2 ⟨u2, rfl, q2, hx⟩
  obtain ⟨p2, k2, rfl, -⟩ := q2.form
  have Q2 := Lib.hid (q2.sub (S' := fun b => B + 1 + 1 < b) (fun b hb => Nat.lt_of_lt_of_le (by have hl := (show Blk _ _ _ _ from (o_1.out.set_ 0 (.slice p1 x.next.length k1))).lt; exact hl) hb))
  clear q2
  have a_2 : Hid (Blk w2 B 78 #[v1, v2, v3]) := Lib.hid (Blk.ext (by repeat (first | with_reducible exact a_1.out | refine Blk.far ?_ (by simp <;> omega) _)) hx)
  have r_2 : Hid (Blk w2 (B + 1) 63 #[.slice none 0 0, .slice none 0 0, .slice none 0 0]) := Lib.hid (Blk.ext (by repeat (first | with_reducible exact r_1.out | refine Blk.far ?_ (by simp <;> omega) _)) hx)
  have o_2 : Hid (Blk w2 (B + 1 + 1) 63 #[.slice p1 x.next.length k1, .slice none 0 0, .slice none 0 0]) := Lib.hid (Blk.ext (by simpa using (o_1.out.set_ 0 (.slice p1 x.next.length k1))) hx)
  have X_2 : Hid (Ext w w2) := Lib.hid (Ext.trans (by repeat (first | with_reducible exact X_1.out | refine Ext.setCell ?_ (by show w.heap.size ≤ B + 1 + 1; rw [← HB.out]; omega) _)) hx)
  replace Q1 := Lib.hid (Rd.ext (Q1.out.keep (by repeat (first | with_reducible exact Same.refl _ _ | refine Same.setCell ?_ (by simp) _))) hx)
  clear hx ac oc of
  have ac := a_2.out.cell
  have oc := o_2.out.cell
  have of := o_2.out.frozen
  clear a_1 r_1 o_1 X_1
  go_wp2_with fail
  refine (toNoteS_any x.log v3 _ (H3.out.ext (by repeat (first | with_reducible exact X_2.out | refine Ext.setCell ?_ (by show w.heap.size ≤ B + 1 + 1; rw [← HB.out]; omega) _))) (by have h := HS.out; simp only [SmBox] at h; first | exact h | exact h.1 | exact h.2 | exact h.2.1 | exact h.2.2 | exact h.2.2.1 | exact h.2.2.2 | exact h.2.2.2.1 | exact h.2.2.2.2)).mono ?_
  rintro e w3 ⟨u3, rfl, q3, hx⟩
  obtain ⟨p3, k3, rfl, -⟩ := q3.form
  have Q3 := Lib.hid (q3.sub (S' := fun b => B + 1 + 1 < b) (fun b hb => Nat.lt_of_lt_of_le (by have hl := (show Blk _ _ _ _ from (o_2.out.set_ 1 (.slice p2 x.here.length k2))).lt; exact hl) hb))
  clear q3
  have a_3 : Hid (Blk w3 B 78 #[v1, v2, v3]) := Lib.hid (Blk.ext (by repeat (first | with_reducible exact a_2.out | refine Blk.far ?_ (by simp <;> omega) _)) hx)
  have r_3 : Hid (Blk w3 (B + 1) 63 #[.slice none 0 0, .slice none 0 0, .slice none 0 0]) := Lib.hid (Blk.ext (by repeat (first | with_reducible exact r_2.out | refine Blk.far ?_ (by simp <;> omega) _)) hx)
  have o_3 : Hid (Blk w3 (B + 1 + 1) 63 #[.slice p1 x.next.length k1, .slice p2 x.here.length k2, .slice none 0 0]) := Lib.hid (Blk.ext (by simpa using (o_2.out.set_ 1 (.slice p2 x.here.length k2))) hx)
  have X_3 : Hid (Ext w w3) := Lib.hid (Ext.trans (by repeat (first | with_reducible exact X_2.out | refine Ext.setCell ?_ (by show w.heap.size ≤ B + 1 + 1; rw [← HB.out]; omega) _)) hx)
  replace Q1 := Lib.hid (Rd.ext (Q1.out.keep (by repeat (first | with_reducible exact Same.refl _ _ | refine Same.setCell ?_ (by simp) _))) hx)
  replace Q2 := Lib.hid (Rd.ext (Q2.out.keep (by repeat (first | with_reducible exact Same.refl _ _ | refine Same.setCell ?_ (by simp) _))) hx)
  clear hx ac oc of
  have ac := a_3.out.cell
  have oc := o_3.out.cell
  have of := o_3.out.frozen
  clear a_2 r_2 o_2 X_2
  go_wp2_with (first
    | (refine wpList_load_mid rfl 63 _ rfl (B + 1 + 1) 0 rfl [.slice p1 x.next.length k1, .slice p2 x.here.length k2, .slice p3 x.log.length k3] _ ?hl Tryz.underlying63 rfl (by kernel_rfl) ?_)
    | (refine wpList_store_mid rfl 63 _ _ rfl (B + 1) 0 #[.slice p1 x.next.length k1, .slice p2 x.here.length k2, .slice p3 x.log.length k3] rfl rfl ?ht (by kernel_rfl) ?ho ?_))
  case hl => exact Blk.range (t := 63) (cs := #[.slice p1 x.next.length k1, .slice p2 x.here.length k2, .slice p3 x.log.length k3]) (by simpa using (o_3.out.set_ 2 (.slice p3 x.log.length k3)))
  case ht => exact Blk.there (t := 63) (cs := #[.slice none 0 0, .slice none 0 0, .slice none 0 0]) (by repeat (first | with_reducible exact r_3.out | refine Blk.far ?_ (by simp <;> omega) _))
  case ho => exact all_oneCell_toArray (cs := [.slice p1 x.next.length k1, .slice p2 x.here.length k2, .slice p3 x.log.length k3]) (by simp [Value.oneCell'])
  exact bodyPost_ret (v := .agg #[.slice p1 x.next.length k1, .slice p2 x.here.length k2, .slice p3 x.log.length k3]) (results_blk Tryz.results42 rfl (Blk.setAll (t := 63) (cs := #[.slice none 0 0, .slice none 0 0, .slice none 0 0]) (vs := #[.slice p1 x.next.length k1, .slice p2 x.here.length k2, .slice p3 x.log.length k3]) (by repeat (first | with_reducible exact r_3.out | refine Blk.far ?_ (by simp <;> omega) _)) rfl) Tryz.underlying63 rfl (by kernel_rfl)) rfl ⟨_, rfl, ⟨_, _, _, rfl, HI.out, Rd.sub (Q1.out.keep (setCells_same' (by repeat (first | with_reducible exact Same.refl _ _ | refine Same.setCell ?_ (by simp) _)) (by simp))) (fun b hb => by rw [← HB.out]; omega), Rd.sub (Q2.out.keep (setCells_same' (by repeat (first | with_reducible exact Same.refl _ _ | refine Same.setCell ?_ (by simp) _)) (by simp))) (fun b hb => by rw [← HB.out]; omega), Rd.sub (Q3.out.keep (setCells_same' (by repeat (first | with_reducible exact Same.refl _ _ | refine Same.setCell ?_ (by simp) _)) (by simp))) (fun b hb => by rw [← HB.out]; omega)⟩, setCells_ext (by rw [← HB.out]; omega) _ _ _ (by repeat (first | with_reducible exact X_3.out | refine Ext.setCell ?_ (by show w.heap.size ≤ B + 1 + 1; rw [← HB.out]; omega) _))⟩

theorem mk_BoxS (n : Nat) (hn : n ≤ 1048576) (W : World) : (Instr.makeSlice 41 (.int .i64 (n : Int)) (.int .i64 (n : Int))).run Tryz.prog W = .ok (.slice (some ⟨W.heap.size, 0, none⟩) n n) (W.alloc (.cells (madeCells #[.slice none 0 0, .slice none 0 0, .slice none 0 0] (n * 3)) 63)) := by
  obtain ⟨i0, hi, hz0, hz1, hz2⟩ := info_parts (show (Tryz.prog.info? 63).map (fun i => (i.zero, i.size, i.bytes)) = some (some (.agg #[.slice none 0 0, .slice none 0 0, .slice none 0 0]), 3, 72) by kernel_rfl)
  have := run_make (P := Tryz.prog) W 41 63 i0 _ Tryz.underlying41 hi hz0 .i64 .i64 n n (by omega) (by omega) (by rw [hz2]; omega) (by omega)
  simpa [hz1, Value.cells] using this

set_option maxHeartbeats 1000000 in
theorem toBoxS_any {S : Nat → Prop} (l : List Box) (v : Value) (w : World) (h : Rd EBox S w v l) (hs : SmBoxS l) :
    Calls Tryz.prog 24 #[v] w (RetL EBox l w) := by
  have hn : l.length ≤ 1048576 := hs.1
  have HS := Lib.hid hs
  obtain ⟨A, c, rfl, h1, h2, hk⟩ := h.open_
  unfold maxLen at h2
  have HK := Lib.hid hk
  clear hk h hs
  have hmk := mk_BoxS l.length hn
  go_enter Tryz.func24, Tryz.ntmps24
  go_wp2_with fail
  have hp0 := Part.new (E := EBox) (l := l) (T := 63) w (madeCells #[.slice none 0 0, .slice none 0 0, .slice none 0 0] (l.length * 3)) (by rw [size_madeCells]; rfl)
  have hx0 : Ext w (w.alloc (.cells (madeCells #[.slice none 0 0, .slice none 0 0, .slice none 0 0] (l.length * 3)) 63)) := (Ext.refl w).alloc _
  generalize hB : w.heap.size = B at hp0 ⊢
  have HB := Lib.hid hB
  clear hB
  go_loopw [4] (fun i w' => ∃ k : Nat, k ≤ l.length ∧ i = .int .i64 k ∧ Part EBox w' B 63 l k ∧ Ext w w') (fun i _ => l.length - (intOf i).toNat)
  case atStart => exact ⟨0, by omega, rfl, hp0, hx0⟩
  case round =>
    obtain ⟨k, hk1, rfl, hp, hx⟩ := hrel
    clear hp0 hx0
    by_cases hlt : k < l.length
    · obtain ⟨b, o, cs, rfl, hb, hr, hc⟩ := HK.out k hlt
      have HC := Lib.hid (hx.range hc)
      have HI : Hid ((Tryz.prog.info? 78).map (·.size) = some cs.length) := Lib.hid (by rw [EBox.len hr]; kernel_rfl)
      have HR := Lib.hid (EBox.keep (hx.same S) hr)
      have HP := Lib.hid hp
      have HM := Lib.hid (HS.out.2 (nth l k) (nth_mem hlt))
      clear hc hr hmk hp
      go_wp2_with (first
        | (go_at_call 42; refine (toBox_any (nth l k) cs _ HR.out HM.out).mono ?_; rintro e w1 ⟨cs', rfl, hr1, hx1⟩; have HR1 := Lib.hid hr1; clear hr1)
        | (refine wpList_load_mid rfl 78 _ rfl b (o + k * 3) rfl cs _ HC.out Tryz.underlying78 rfl HI.out ?_)
        | (refine wpList_store_mid rfl 63 _ _ rfl B (k * 3) _ rfl rfl ?ht ?hi ?ho ?_))
      case ht => have := (HP.out.ext hx1).there hlt; rw [List.size_toArray, EBox.len HR1.out]; exact this
      case hi => rw [List.size_toArray, EBox.len HR1.out]; kernel_rfl
      case ho => exact all_oneCell_toArray (EBox.one HR1.out)
      refine ⟨⟨k + 1, by omega, by go_num, (HP.out.ext hx1).step hlt (EBox.sub (fun b hb => Nat.lt_of_lt_of_le HP.out.lt hb) HR1.out), setCells_ext (by rw [HB.out]; exact Nat.le_refl _) _ _ _ (hx.trans hx1)⟩, ?_⟩
      simp [intOf]
      omega
    · obtain rfl : k = l.length := by omega
      go_wp2_with fail
      go_ret
      exact ⟨_, rfl, (hp.done (by unfold maxLen; omega)).sub (fun b hb => by rw [HB.out]; exact hb), hx⟩

set_option maxHeartbeats 4000000 in
theorem toMail_any {S : Nat → Prop} (x : Mail) (cs : List Value) (w : World) (h : EMail.rel S w cs x) (hs : SmMail x) :
    Calls Tryz.prog 8 #[.agg cs.toArray] w (RetS EMail x w) := by
  obtain ⟨v1, rfl, hi, h1⟩ := h
  have HI := Lib.hid hi
  have H1 := Lib.hid h1
  clear hi h1
  simp only [cellsMail]
  go_enter Tryz.func8, Tryz.ntmps8
  have HS := Lib.hid hs
  clear hs
  go_wp2_with fail
  obtain ⟨W, B, hW, hB, hx0, a0, r0, o0⟩ := boxes3 w #[v1] #[.slice none 0 0] #[.slice none 0 0] 29 43 43
  rw [← hW, ← hB]
  have HB := Lib.hid hB
  clear hW hB
  have a_0 := Lib.hid a0
  have r_0 := Lib.hid r0
  have o_0 := Lib.hid o0
  have X_0 := Lib.hid hx0
  clear a0 r0 o0 hx0
  refine (toBoxS_any x.boxes v1 _ (H1.out.ext (by repeat (first | with_reducible exact X_0.out | refine Ext.setCell ?_ (by show w.heap.size ≤ B + 1 + 1; rw [← HB.out]; omega) _))) (by have h := HS.out; simp only [SmMail] at h; first | exact h | exact h.1 | exact h.2 | exact h.2.1 | exact h.2.2 | exact h.2.2.1 | exact h.2.2.2 | exact h.2.2.2.1 | exact h.2.2.2.2)).mono ?_
  rintro e w1 ⟨u1, rfl, q1, hx⟩
  obtain ⟨p1, k1, rfl, -⟩ := q1.form
  have Q1 := Lib.hid (q1.sub (S' := fun b => B + 1 + 1 < b) (fun b hb => Nat.lt_of_lt_of_le (by have hl := (show Blk _ _ _ _ from o_0.out).lt; exact hl) hb))
  clear q1
  have a_1 : Hid (Blk w1 B 29 #[v1]) := Lib.hid (Blk.ext (by repeat (first | with_reducible exact a_0.out | refine Blk.far ?_ (by simp <;> omega) _)) hx)
  have r_1 : Hid (Blk w1 (B + 1) 43 #[.slice none 0 0]) := Lib.hid (Blk.ext (by repeat (first | with_reducible exact r_0.out | refine Blk.far ?_ (by simp <;> omega) _)) hx)
  have o_1 : Hid (Blk w1 (B + 1 + 1) 43 #[.slice none 0 0]) := Lib.hid (Blk.ext (by simpa using o_0.out) hx)
  have X_1 : Hid (Ext w w1) := Lib.hid (Ext.trans (by repeat (first | with_reducible exact X_0.out | refine Ext.setCell ?_ (by show w.heap.size ≤ B + 1 + 1; rw [← HB.out]; omega) _)) hx)
  clear hx
  have ac := a_1.out.cell
  have oc := o_1.out.cell
  have of := o_1.out.frozen
  clear a_0 r_0 o_0 X_0
  go_wp2_with (first
    | (refine wpList_load_mid rfl 43 _ rfl (B + 1 + 1) 0 rfl [.slice p1 x.boxes.length k1] _ ?hl Tryz.underlying43 rfl (by kernel_rfl) ?_)
    | (refine wpList_store_mid rfl 43 _ _ rfl (B + 1) 0 #[.slice p1 x.boxes.length k1] rfl rfl ?ht (by kernel_rfl) ?ho ?_))
  case hl => exact Blk.range (t := 43) (cs := #[.slice p1 x.boxes.length k1]) (by simpa using (o_1.out.set_ 0 (.slice p1 x.boxes.length k1)))
  case ht => exact Blk.there (t := 43) (cs := #[.slice none 0 0]) (by repeat (first | with_reducible exact r_1.out | refine Blk.far ?_ (by simp <;> omega) _))
  case ho => exact all_oneCell_toArray (cs := [.slice p1 x.boxes.length k1]) (by simp [Value.oneCell'])
  exact bodyPost_ret (v := .agg #[.slice p1 x.boxes.length k1]) (results_blk Tryz.results8 rfl (Blk.setAll (t := 43) (cs := #[.slice none 0 0]) (vs := #[.slice p1 x.boxes.length k1]) (by repeat (first | with_reducible exact r_1.out | refine Blk.far ?_ (by simp <;> omega) _)) rfl) Tryz.underlying43 rfl (by kernel_rfl)) rfl ⟨_, rfl, ⟨_, rfl, HI.out, Rd.sub (Q1.out.keep (setCells_same' (by repeat (first | with_reducible exact Same.refl _ _ | refine Same.setCell ?_ (by simp) _)) (by simp))) (fun b hb => by rw [← HB.out]; omega)⟩, setCells_ext (by rw [← HB.out]; omega) _ _ _ (by repeat (first | with_reducible exact X_1.out | refine Ext.setCell ?_ (by show w.heap.size ≤ B + 1 + 1; rw [← HB.out]; omega) _))⟩

end Go.Proofs.YtdhcbbbmajjehaaGreat

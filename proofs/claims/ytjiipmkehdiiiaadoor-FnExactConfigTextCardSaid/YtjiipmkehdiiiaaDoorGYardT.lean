/- The copies: to... Printed by wip/gen.py. The copies: to..., what they hand back has memory of its own. Printed by wip/gen.py. The generated words of types that are new with this seat. Printed by wip/genx.py. -/
import Derived.Test.YtjiipmkehdiiiaaDoorRows
import Derived.Test.YtjiipmkehdiiiaaDoorGElems
import Derived.Test.YtjiipmkehdiiiaaDoorGSmall
import Derived.Test.YtjiipmkehdiiiaaDoorClones
namespace Go.Proofs.YtjiipmkehdiiiaaDoor
open Go.RowKit
attribute [local irreducible] wpQuiet

set_option maxHeartbeats 4000000 in
theorem toLabel_any {S : Nat → Prop} (x : Label) (cs : List Value) (w : World) (h : ELabel.rel S w cs x) (_hs : SmLabel x) :
    Calls Tryd.prog 48 #[.agg cs.toArray] w (RetS ELabel x w) := by
  obtain ⟨rfl, hi⟩ := h
  have HI := Lib.hid hi
  clear hi
  simp only [cellsLabel]
  go_enter Tryd.func48, Tryd.ntmps48
  go_wp2
  exact bodyPost_ret (v := .agg #[.int .i64 x.level, .int .i64 x.set]) (by simp [results, Tryd.results48, go_sem]) rfl ⟨_, rfl, ⟨rfl, HI.out⟩, (((Ext.refl _).alloc _).alloc _).alloc _⟩

set_option maxHeartbeats 4000000 in
theorem toPair_any {S : Nat → Prop} (x : Pair) (cs : List Value) (w : World) (h : EPair.rel S w cs x) (_hs : SmPair x) :
    Calls Tryd.prog 32 #[.agg cs.toArray] w (RetS EPair x w) := by
  obtain ⟨rfl, hi⟩ := h
  have HI := Lib.hid hi
  clear hi
  simp only [cellsPair]
  go_enter Tryd.func32, Tryd.ntmps32
  go_wp2_with fail
  obtain ⟨W, B, hW, hB, hx0, a0, r0, o0⟩ := boxes3 w #[.int .i64 x.from_.level, .int .i64 x.from_.set, .int .i64 x.to_.level, .int .i64 x.to_.set, .int .i64 x.rate] #[.int .i64 0, .int .i64 0, .int .i64 0, .int .i64 0, .int .i64 0] #[.int .i64 0, .int .i64 0, .int .i64 0, .int .i64 0, .int .i64 0] 69 46 46
  rw [← hW, ← hB]
  have HB := Lib.hid hB
  clear hW hB
  have a_0 := Lib.hid a0
  have r_0 := Lib.hid r0
  have o_0 := Lib.hid o0
  have X_0 := Lib.hid hx0
  clear a0 r0 o0 hx0
  refine (toLabel_any x.from_ [.int .i64 x.from_.level, .int .i64 x.from_.set] _ (S := S) ⟨rfl, (by have hf := HI.out; simp only [FitPair] at hf; simp only [FitLabel, hf, and_self])⟩ trivial).mono ?_
  rintro e w1 ⟨_, rfl, ⟨rfl, _⟩, hx⟩
  simp only [cellsLabel]
  have a_1 : Hid (Blk w1 B 69 #[.int .i64 x.from_.level, .int .i64 x.from_.set, .int .i64 x.to_.level, .int .i64 x.to_.set, .int .i64 x.rate]) := Lib.hid (Blk.ext (by repeat (first | with_reducible exact a_0.out | refine Blk.far ?_ (by simp <;> omega) _)) hx)
  have r_1 : Hid (Blk w1 (B + 1) 46 #[.int .i64 0, .int .i64 0, .int .i64 0, .int .i64 0, .int .i64 0]) := Lib.hid (Blk.ext (by repeat (first | with_reducible exact r_0.out | refine Blk.far ?_ (by simp <;> omega) _)) hx)
  have o_1 : Hid (Blk w1 (B + 1 + 1) 46 #[.int .i64 0, .int .i64 0, .int .i64 0, .int .i64 0, .int .i64 0]) := Lib.hid (Blk.ext (by simpa using o_0.out) hx)
  have X_1 : Hid (Ext w w1) := Lib.hid (Ext.trans (by repeat (first | with_reducible exact X_0.out | refine Ext.setCell ?_ (by show w.heap.size ≤ B + 1 + 1; rw [← HB.out]; omega) _)) hx)
  clear hx
  have ac := a_1.out.cell
  have oc := o_1.out.cell
  have of := o_1.out.frozen
  clear a_0 r_0 o_0 X_0
  go_wp2_with fail
  refine (toLabel_any x.to_ [.int .i64 x.to_.level, .int .i64 x.to_.set] _ (S := S) ⟨rfl, (by have hf := HI.out; simp only [FitPair] at hf; simp only [FitLabel, hf, and_self])⟩ trivial).mono ?_
  rintro e w2 ⟨_, rfl, ⟨rfl, _⟩, hx⟩
  simp only [cellsLabel]
  have a_2 : Hid (Blk w2 B 69 #[.int .i64 x.from_.level, .int .i64 x.from_.set, .int .i64 x.to_.level, .int .i64 x.to_.set, .int .i64 x.rate]) := Lib.hid (Blk.ext (by repeat (first | with_reducible exact a_1.out | refine Blk.far ?_ (by simp <;> omega) _)) hx)
  have r_2 : Hid (Blk w2 (B + 1) 46 #[.int .i64 0, .int .i64 0, .int .i64 0, .int .i64 0, .int .i64 0]) := Lib.hid (Blk.ext (by repeat (first | with_reducible exact r_1.out | refine Blk.far ?_ (by simp <;> omega) _)) hx)
  have o_2 : Hid (Blk w2 (B + 1 + 1) 46 #[.int .i64 x.from_.level, .int .i64 x.from_.set, .int .i64 0, .int .i64 0, .int .i64 0]) := Lib.hid (Blk.ext (by simpa using ((o_1.out.set_ 0 (.int .i64 x.from_.level)).set_ 1 (.int .i64 x.from_.set))) hx)
  have X_2 : Hid (Ext w w2) := Lib.hid (Ext.trans (by repeat (first | with_reducible exact X_1.out | refine Ext.setCell ?_ (by show w.heap.size ≤ B + 1 + 1; rw [← HB.out]; omega) _)) hx)
  clear hx ac oc of
  have ac := a_2.out.cell
  have oc := o_2.out.cell
  have of := o_2.out.frozen
  clear a_1 r_1 o_1 X_1
  go_wp2_with (first
    | (refine wpList_load_mid rfl 46 _ rfl (B + 1 + 1) 0 rfl [.int .i64 x.from_.level, .int .i64 x.from_.set, .int .i64 x.to_.level, .int .i64 x.to_.set, .int .i64 x.rate] _ ?hl Tryd.underlying46 rfl (by kernel_rfl) ?_)
    | (refine wpList_store_mid rfl 46 _ _ rfl (B + 1) 0 #[.int .i64 x.from_.level, .int .i64 x.from_.set, .int .i64 x.to_.level, .int .i64 x.to_.set, .int .i64 x.rate] rfl rfl ?ht (by kernel_rfl) ?ho ?_))
  case hl => exact Blk.range (t := 46) (cs := #[.int .i64 x.from_.level, .int .i64 x.from_.set, .int .i64 x.to_.level, .int .i64 x.to_.set, .int .i64 x.rate]) (by simpa using (((o_2.out.set_ 2 (.int .i64 x.to_.level)).set_ 3 (.int .i64 x.to_.set)).set_ 4 (.int .i64 x.rate)))
  case ht => exact Blk.there (t := 46) (cs := #[.int .i64 0, .int .i64 0, .int .i64 0, .int .i64 0, .int .i64 0]) (by repeat (first | with_reducible exact r_2.out | refine Blk.far ?_ (by simp <;> omega) _))
  case ho => exact all_oneCell_toArray (cs := [.int .i64 x.from_.level, .int .i64 x.from_.set, .int .i64 x.to_.level, .int .i64 x.to_.set, .int .i64 x.rate]) (by simp [Value.oneCell'])
  exact bodyPost_ret (v := .agg #[.int .i64 x.from_.level, .int .i64 x.from_.set, .int .i64 x.to_.level, .int .i64 x.to_.set, .int .i64 x.rate]) (results_blk Tryd.results32 rfl (Blk.setAll (t := 46) (cs := #[.int .i64 0, .int .i64 0, .int .i64 0, .int .i64 0, .int .i64 0]) (vs := #[.int .i64 x.from_.level, .int .i64 x.from_.set, .int .i64 x.to_.level, .int .i64 x.to_.set, .int .i64 x.rate]) (by repeat (first | with_reducible exact r_2.out | refine Blk.far ?_ (by simp <;> omega) _)) rfl) Tryd.underlying46 rfl (by kernel_rfl)) rfl ⟨_, rfl, ⟨rfl, HI.out⟩, setCells_ext (by rw [← HB.out]; omega) _ _ _ (by repeat (first | with_reducible exact X_2.out | refine Ext.setCell ?_ (by show w.heap.size ≤ B + 1 + 1; rw [← HB.out]; omega) _))⟩

set_option maxHeartbeats 4000000 in
theorem toQuota_any {S : Nat → Prop} (x : Quota) (cs : List Value) (w : World) (h : EQuota.rel S w cs x) (_hs : SmQuota x) :
    Calls Tryd.prog 33 #[.agg cs.toArray] w (RetS EQuota x w) := by
  obtain ⟨rfl, hi⟩ := h
  have HI := Lib.hid hi
  clear hi
  simp only [cellsQuota]
  go_enter Tryd.func33, Tryd.ntmps33
  go_wp2_with fail
  obtain ⟨W, B, hW, hB, hx0, a0, r0, o0⟩ := boxes3 w #[.int .i64 x.label.level, .int .i64 x.label.set, .int .i64 x.most] #[.int .i64 0, .int .i64 0, .int .i64 0] #[.int .i64 0, .int .i64 0, .int .i64 0] 72 49 49
  rw [← hW, ← hB]
  have HB := Lib.hid hB
  clear hW hB
  have a_0 := Lib.hid a0
  have r_0 := Lib.hid r0
  have o_0 := Lib.hid o0
  have X_0 := Lib.hid hx0
  clear a0 r0 o0 hx0
  refine (toLabel_any x.label [.int .i64 x.label.level, .int .i64 x.label.set] _ (S := S) ⟨rfl, (by have hf := HI.out; simp only [FitQuota] at hf; simp only [FitLabel, hf, and_self])⟩ trivial).mono ?_
  rintro e w1 ⟨_, rfl, ⟨rfl, _⟩, hx⟩
  simp only [cellsLabel]
  have a_1 : Hid (Blk w1 B 72 #[.int .i64 x.label.level, .int .i64 x.label.set, .int .i64 x.most]) := Lib.hid (Blk.ext (by repeat (first | with_reducible exact a_0.out | refine Blk.far ?_ (by simp <;> omega) _)) hx)
  have r_1 : Hid (Blk w1 (B + 1) 49 #[.int .i64 0, .int .i64 0, .int .i64 0]) := Lib.hid (Blk.ext (by repeat (first | with_reducible exact r_0.out | refine Blk.far ?_ (by simp <;> omega) _)) hx)
  have o_1 : Hid (Blk w1 (B + 1 + 1) 49 #[.int .i64 0, .int .i64 0, .int .i64 0]) := Lib.hid (Blk.ext (by simpa using o_0.out) hx)
  have X_1 : Hid (Ext w w1) := Lib.hid (Ext.trans (by repeat (first | with_reducible exact X_0.out | refine Ext.setCell ?_ (by show w.heap.size ≤ B + 1 + 1; rw [← HB.out]; omega) _)) hx)
  clear hx
  have ac := a_1.out.cell
  have oc := o_1.out.cell
  have of := o_1.out.frozen
  clear a_0 r_0 o_0 X_0
  go_wp2_with (first
    | (refine wpList_load_mid rfl 49 _ rfl (B + 1 + 1) 0 rfl [.int .i64 x.label.level, .int .i64 x.label.set, .int .i64 x.most] _ ?hl Tryd.underlying49 rfl (by kernel_rfl) ?_)
    | (refine wpList_store_mid rfl 49 _ _ rfl (B + 1) 0 #[.int .i64 x.label.level, .int .i64 x.label.set, .int .i64 x.most] rfl rfl ?ht (by kernel_rfl) ?ho ?_))
  case hl => exact Blk.range (t := 49) (cs := #[.int .i64 x.label.level, .int .i64 x.label.set, .int .i64 x.most]) (by simpa using (((o_1.out.set_ 0 (.int .i64 x.label.level)).set_ 1 (.int .i64 x.label.set)).set_ 2 (.int .i64 x.most)))
  case ht => exact Blk.there (t := 49) (cs := #[.int .i64 0, .int .i64 0, .int .i64 0]) (by repeat (first | with_reducible exact r_1.out | refine Blk.far ?_ (by simp <;> omega) _))
  case ho => exact all_oneCell_toArray (cs := [.int .i64 x.label.level, .int .i64 x.label.set, .int .i64 x.most]) (by simp [Value.oneCell'])
  exact bodyPost_ret (v := .agg #[.int .i64 x.label.level, .int .i64 x.label.set, .int .i64 x.most]) (results_blk Tryd.results33 rfl (Blk.setAll (t := 49) (cs := #[.int .i64 0, .int .i64 0, .int .i64 0]) (vs := #[.int .i64 x.label.level, .int .i64 x.label.set, .int .i64 x.most]) (by repeat (first | with_reducible exact r_1.out | refine Blk.far ?_ (by simp <;> omega) _)) rfl) Tryd.underlying49 rfl (by kernel_rfl)) rfl ⟨_, rfl, ⟨rfl, HI.out⟩, setCells_ext (by rw [← HB.out]; omega) _ _ _ (by repeat (first | with_reducible exact X_1.out | refine Ext.setCell ?_ (by show w.heap.size ≤ B + 1 + 1; rw [← HB.out]; omega) _))⟩

theorem mk_LabelS (n : Nat) (hn : n ≤ 1048576) (W : World) : (Instr.makeSlice 41 (.int .i64 (n : Int)) (.int .i64 (n : Int))).run Tryd.prog W = .ok (.slice (some ⟨W.heap.size, 0, none⟩) n n) (W.alloc (.cells (madeCells #[.int .i64 0, .int .i64 0] (n * 2)) 44)) := by
  obtain ⟨i0, hi, hz0, hz1, hz2⟩ := info_parts (show (Tryd.prog.info? 44).map (fun i => (i.zero, i.size, i.bytes)) = some (some (.agg #[.int .i64 0, .int .i64 0]), 2, 16) by kernel_rfl)
  have := run_make (P := Tryd.prog) W 41 44 i0 _ Tryd.underlying41 hi hz0 .i64 .i64 n n (by omega) (by omega) (by rw [hz2]; omega) (by omega)
  simpa [hz1, Value.cells] using this

set_option maxHeartbeats 1000000 in
theorem toLabelS_any {S : Nat → Prop} (l : List Label) (v : Value) (w : World) (h : Rd ELabel S w v l) (hs : SmLabelS l) :
    Calls Tryd.prog 31 #[v] w (RetL ELabel l w) := by
  have hn : l.length ≤ 1048576 := hs.1
  have HS := Lib.hid hs
  obtain ⟨A, c, rfl, h1, h2, hk⟩ := h.open_
  unfold maxLen at h2
  have HK := Lib.hid hk
  clear hk h hs
  have hmk := mk_LabelS l.length hn
  go_enter Tryd.func31, Tryd.ntmps31
  go_wp2_with fail
  have hp0 := Part.new (E := ELabel) (l := l) (T := 44) w (madeCells #[.int .i64 0, .int .i64 0] (l.length * 2)) (by rw [size_madeCells]; rfl)
  have hx0 : Ext w (w.alloc (.cells (madeCells #[.int .i64 0, .int .i64 0] (l.length * 2)) 44)) := (Ext.refl w).alloc _
  generalize hB : w.heap.size = B at hp0 ⊢
  have HB := Lib.hid hB
  clear hB
  go_loopw [4] (fun i w' => ∃ k : Nat, k ≤ l.length ∧ i = .int .i64 k ∧ Part ELabel w' B 44 l k ∧ Ext w w') (fun i _ => l.length - (intOf i).toNat)
  case atStart => exact ⟨0, by omega, rfl, hp0, hx0⟩
  case round =>
    obtain ⟨k, hk1, rfl, hp, hx⟩ := hrel
    clear hp0 hx0
    by_cases hlt : k < l.length
    · obtain ⟨b, o, cs, rfl, hb, hr, hc⟩ := HK.out k hlt
      have HC := Lib.hid (hx.range hc)
      have HI : Hid ((Tryd.prog.info? 67).map (·.size) = some cs.length) := Lib.hid (by rw [ELabel.len hr]; kernel_rfl)
      have HR := Lib.hid (ELabel.keep (hx.same S) hr)
      have HP := Lib.hid hp
      have HM := Lib.hid (HS.out.2 (nth l k) (nth_mem hlt))
      clear hc hr hmk hp
      go_wp2_with (first
        | (go_at_call 48; refine (toLabel_any (nth l k) cs _ HR.out HM.out).mono ?_; rintro e w1 ⟨cs', rfl, hr1, hx1⟩; have HR1 := Lib.hid hr1; clear hr1)
        | (refine wpList_load_mid rfl 67 _ rfl b (o + k * 2) rfl cs _ HC.out Tryd.underlying67 rfl HI.out ?_)
        | (refine wpList_store_mid rfl 44 _ _ rfl B (k * 2) _ rfl rfl ?ht ?hi ?ho ?_))
      case ht => have := (HP.out.ext hx1).there hlt; rw [List.size_toArray, ELabel.len HR1.out]; exact this
      case hi => rw [List.size_toArray, ELabel.len HR1.out]; kernel_rfl
      case ho => exact all_oneCell_toArray (ELabel.one HR1.out)
      refine ⟨⟨k + 1, by omega, by go_num, (HP.out.ext hx1).step hlt (ELabel.sub (fun b hb => Nat.lt_of_lt_of_le HP.out.lt hb) HR1.out), setCells_ext (by rw [HB.out]; exact Nat.le_refl _) _ _ _ (hx.trans hx1)⟩, ?_⟩
      simp [intOf]
      omega
    · obtain rfl : k = l.length := by omega
      go_wp2_with fail
      go_ret
      exact ⟨_, rfl, (hp.done (by unfold maxLen; omega)).sub (fun b hb => by rw [HB.out]; exact hb), hx⟩

theorem mk_LabelSS (n : Nat) (hn : n ≤ 1048576) (W : World) : (Instr.makeSlice 29 (.int .i64 (n : Int)) (.int .i64 (n : Int))).run Tryd.prog W = .ok (.slice (some ⟨W.heap.size, 0, none⟩) n n) (W.alloc (.cells (madeCells #[.slice none 0 0] (n * 1)) 41)) := by
  obtain ⟨i0, hi, hz0, hz1, hz2⟩ := info_parts (show (Tryd.prog.info? 41).map (fun i => (i.zero, i.size, i.bytes)) = some (some (.slice none 0 0), 1, 24) by kernel_rfl)
  have := run_make (P := Tryd.prog) W 29 41 i0 _ Tryd.underlying29 hi hz0 .i64 .i64 n n (by omega) (by omega) (by rw [hz2]; omega) (by omega)
  simpa [hz1, Value.cells] using this

set_option maxHeartbeats 1000000 in
theorem toLabelSS_any {S : Nat → Prop} (l : List (List Label)) (v : Value) (w : World) (h : Rd (ERow ELabel) S w v l) (hs : SmLabelSS l) :
    Calls Tryd.prog 15 #[v] w (RetL (ERow ELabel) l w) := by
  have hn : l.length ≤ 1048576 := hs.1
  have HS := Lib.hid hs
  obtain ⟨A, c, rfl, h1, h2, hk⟩ := h.open_
  unfold maxLen at h2
  have HK := Lib.hid hk
  clear hk h hs
  have hmk := mk_LabelSS l.length hn
  go_enter Tryd.func15, Tryd.ntmps15
  go_wp2_with fail
  have hp0 := Part.new (E := (ERow ELabel)) (l := l) (T := 41) w (madeCells #[.slice none 0 0] (l.length * 1)) (by rw [size_madeCells]; rfl)
  have hx0 : Ext w (w.alloc (.cells (madeCells #[.slice none 0 0] (l.length * 1)) 41)) := (Ext.refl w).alloc _
  simp only [Nat.mul_one] at hp0 hx0 ⊢
  generalize hB : w.heap.size = B at hp0 ⊢
  have HB := Lib.hid hB
  clear hB
  go_loopw [4] (fun i w' => ∃ k : Nat, k ≤ l.length ∧ i = .int .i64 k ∧ Part (ERow ELabel) w' B 41 l k ∧ Ext w w') (fun i _ => l.length - (intOf i).toNat)
  case atStart => exact ⟨0, by omega, rfl, hp0, hx0⟩
  case round =>
    obtain ⟨k, hk1, rfl, hp, hx⟩ := hrel
    clear hp0 hx0
    by_cases hlt : k < l.length
    · obtain ⟨b, o, cs, rfl, hb, hr, hc⟩ := HK.out k hlt
      obtain ⟨v, rfl, hr⟩ := hr
      have c0 := Ext.some hx (hc 0 _ rfl)
      have ht := hp.there hlt 0 (by decide)
      obtain ⟨u, hu⟩ := Option.isSome_iff_exists.1 ht.1
      have HR := Lib.hid (hr.ext hx)
      have HP := Lib.hid hp
      have HM := Lib.hid (HS.out.2 (nth l k) (nth_mem hlt))
      simp only [ERow, Nat.mul_one, Nat.add_zero] at c0 hu
      clear hc ht hp hmk hr hu
      go_wp2_with fail
      refine (toLabelS_any (nth l k) v _ HR.out HM.out).mono ?_
      rintro e w1 ⟨v1, rfl, hr1, hx1⟩
      obtain ⟨A1, c1, rfl, -⟩ := id hr1
      have HR1 := Lib.hid hr1
      have ht := (HP.out.ext hx1).there hlt 0 (by decide)
      obtain ⟨u, hu⟩ := Option.isSome_iff_exists.1 ht.1
      have hf := ht.2
      simp only [ERow, Nat.mul_one, Nat.add_zero] at hu hf
      clear hr1 ht
      go_wp2_with fail
      refine ⟨⟨k + 1, by omega, by go_num, ?_, (hx.trans hx1).setCell (p := ⟨B, k, none⟩) (by rw [HB.out]; exact Nat.le_refl _) _⟩, ?_⟩
      · have := (HP.out.ext hx1).step (cs := [.slice A1 (nth l k).length c1]) hlt ⟨_, rfl, HR1.out.sub (fun b hb => Nat.lt_of_lt_of_le HP.out.lt hb)⟩
        simpa [World.setCells, ERow] using this
      simp [intOf]
      omega
    · obtain rfl : k = l.length := by omega
      go_wp2_with fail
      go_ret
      exact ⟨_, rfl, (hp.done (by unfold maxLen; omega)).sub (fun b hb => by rw [HB.out]; exact hb), hx⟩

theorem mk_PairS (n : Nat) (hn : n ≤ 1048576) (W : World) : (Instr.makeSlice 30 (.int .i64 (n : Int)) (.int .i64 (n : Int))).run Tryd.prog W = .ok (.slice (some ⟨W.heap.size, 0, none⟩) n n) (W.alloc (.cells (madeCells #[.int .i64 0, .int .i64 0, .int .i64 0, .int .i64 0, .int .i64 0] (n * 5)) 46)) := by
  obtain ⟨i0, hi, hz0, hz1, hz2⟩ := info_parts (show (Tryd.prog.info? 46).map (fun i => (i.zero, i.size, i.bytes)) = some (some (.agg #[.int .i64 0, .int .i64 0, .int .i64 0, .int .i64 0, .int .i64 0]), 5, 40) by kernel_rfl)
  have := run_make (P := Tryd.prog) W 30 46 i0 _ Tryd.underlying30 hi hz0 .i64 .i64 n n (by omega) (by omega) (by rw [hz2]; omega) (by omega)
  simpa [hz1, Value.cells] using this

set_option maxHeartbeats 1000000 in
theorem toPairS_any {S : Nat → Prop} (l : List Pair) (v : Value) (w : World) (h : Rd EPair S w v l) (hs : SmPairS l) :
    Calls Tryd.prog 16 #[v] w (RetL EPair l w) := by
  have hn : l.length ≤ 1048576 := hs.1
  have HS := Lib.hid hs
  obtain ⟨A, c, rfl, h1, h2, hk⟩ := h.open_
  unfold maxLen at h2
  have HK := Lib.hid hk
  clear hk h hs
  have hmk := mk_PairS l.length hn
  go_enter Tryd.func16, Tryd.ntmps16
  go_wp2_with fail
  have hp0 := Part.new (E := EPair) (l := l) (T := 46) w (madeCells #[.int .i64 0, .int .i64 0, .int .i64 0, .int .i64 0, .int .i64 0] (l.length * 5)) (by rw [size_madeCells]; rfl)
  have hx0 : Ext w (w.alloc (.cells (madeCells #[.int .i64 0, .int .i64 0, .int .i64 0, .int .i64 0, .int .i64 0] (l.length * 5)) 46)) := (Ext.refl w).alloc _
  generalize hB : w.heap.size = B at hp0 ⊢
  have HB := Lib.hid hB
  clear hB
  go_loopw [4] (fun i w' => ∃ k : Nat, k ≤ l.length ∧ i = .int .i64 k ∧ Part EPair w' B 46 l k ∧ Ext w w') (fun i _ => l.length - (intOf i).toNat)
  case atStart => exact ⟨0, by omega, rfl, hp0, hx0⟩
  case round =>
    obtain ⟨k, hk1, rfl, hp, hx⟩ := hrel
    clear hp0 hx0
    by_cases hlt : k < l.length
    · obtain ⟨b, o, cs, rfl, hb, hr, hc⟩ := HK.out k hlt
      have HC := Lib.hid (hx.range hc)
      have HI : Hid ((Tryd.prog.info? 69).map (·.size) = some cs.length) := Lib.hid (by rw [EPair.len hr]; kernel_rfl)
      have HR := Lib.hid (EPair.keep (hx.same S) hr)
      have HP := Lib.hid hp
      have HM := Lib.hid (HS.out.2 (nth l k) (nth_mem hlt))
      clear hc hr hmk hp
      go_wp2_with (first
        | (go_at_call 32; refine (toPair_any (nth l k) cs _ HR.out HM.out).mono ?_; rintro e w1 ⟨cs', rfl, hr1, hx1⟩; have HR1 := Lib.hid hr1; clear hr1)
        | (refine wpList_load_mid rfl 69 _ rfl b (o + k * 5) rfl cs _ HC.out Tryd.underlying69 rfl HI.out ?_)
        | (refine wpList_store_mid rfl 46 _ _ rfl B (k * 5) _ rfl rfl ?ht ?hi ?ho ?_))
      case ht => have := (HP.out.ext hx1).there hlt; rw [List.size_toArray, EPair.len HR1.out]; exact this
      case hi => rw [List.size_toArray, EPair.len HR1.out]; kernel_rfl
      case ho => exact all_oneCell_toArray (EPair.one HR1.out)
      refine ⟨⟨k + 1, by omega, by go_num, (HP.out.ext hx1).step hlt (EPair.sub (fun b hb => Nat.lt_of_lt_of_le HP.out.lt hb) HR1.out), setCells_ext (by rw [HB.out]; exact Nat.le_refl _) _ _ _ (hx.trans hx1)⟩, ?_⟩
      simp [intOf]
      omega
    · obtain rfl : k = l.length := by omega
      go_wp2_with fail
      go_ret
      exact ⟨_, rfl, (hp.done (by unfold maxLen; omega)).sub (fun b hb => by rw [HB.out]; exact hb), hx⟩

theorem mk_QuotaS (n : Nat) (hn : n ≤ 1048576) (W : World) : (Instr.makeSlice 31 (.int .i64 (n : Int)) (.int .i64 (n : Int))).run Tryd.prog W = .ok (.slice (some ⟨W.heap.size, 0, none⟩) n n) (W.alloc (.cells (madeCells #[.int .i64 0, .int .i64 0, .int .i64 0] (n * 3)) 49)) := by
  obtain ⟨i0, hi, hz0, hz1, hz2⟩ := info_parts (show (Tryd.prog.info? 49).map (fun i => (i.zero, i.size, i.bytes)) = some (some (.agg #[.int .i64 0, .int .i64 0, .int .i64 0]), 3, 24) by kernel_rfl)
  have := run_make (P := Tryd.prog) W 31 49 i0 _ Tryd.underlying31 hi hz0 .i64 .i64 n n (by omega) (by omega) (by rw [hz2]; omega) (by omega)
  simpa [hz1, Value.cells] using this

set_option maxHeartbeats 1000000 in
theorem toQuotaS_any {S : Nat → Prop} (l : List Quota) (v : Value) (w : World) (h : Rd EQuota S w v l) (hs : SmQuotaS l) :
    Calls Tryd.prog 17 #[v] w (RetL EQuota l w) := by
  have hn : l.length ≤ 1048576 := hs.1
  have HS := Lib.hid hs
  obtain ⟨A, c, rfl, h1, h2, hk⟩ := h.open_
  unfold maxLen at h2
  have HK := Lib.hid hk
  clear hk h hs
  have hmk := mk_QuotaS l.length hn
  go_enter Tryd.func17, Tryd.ntmps17
  go_wp2_with fail
  have hp0 := Part.new (E := EQuota) (l := l) (T := 49) w (madeCells #[.int .i64 0, .int .i64 0, .int .i64 0] (l.length * 3)) (by rw [size_madeCells]; rfl)
  have hx0 : Ext w (w.alloc (.cells (madeCells #[.int .i64 0, .int .i64 0, .int .i64 0] (l.length * 3)) 49)) := (Ext.refl w).alloc _
  generalize hB : w.heap.size = B at hp0 ⊢
  have HB := Lib.hid hB
  clear hB
  go_loopw [4] (fun i w' => ∃ k : Nat, k ≤ l.length ∧ i = .int .i64 k ∧ Part EQuota w' B 49 l k ∧ Ext w w') (fun i _ => l.length - (intOf i).toNat)
  case atStart => exact ⟨0, by omega, rfl, hp0, hx0⟩
  case round =>
    obtain ⟨k, hk1, rfl, hp, hx⟩ := hrel
    clear hp0 hx0
    by_cases hlt : k < l.length
    · obtain ⟨b, o, cs, rfl, hb, hr, hc⟩ := HK.out k hlt
      have HC := Lib.hid (hx.range hc)
      have HI : Hid ((Tryd.prog.info? 72).map (·.size) = some cs.length) := Lib.hid (by rw [EQuota.len hr]; kernel_rfl)
      have HR := Lib.hid (EQuota.keep (hx.same S) hr)
      have HP := Lib.hid hp
      have HM := Lib.hid (HS.out.2 (nth l k) (nth_mem hlt))
      clear hc hr hmk hp
      go_wp2_with (first
        | (go_at_call 33; refine (toQuota_any (nth l k) cs _ HR.out HM.out).mono ?_; rintro e w1 ⟨cs', rfl, hr1, hx1⟩; have HR1 := Lib.hid hr1; clear hr1)
        | (refine wpList_load_mid rfl 72 _ rfl b (o + k * 3) rfl cs _ HC.out Tryd.underlying72 rfl HI.out ?_)
        | (refine wpList_store_mid rfl 49 _ _ rfl B (k * 3) _ rfl rfl ?ht ?hi ?ho ?_))
      case ht => have := (HP.out.ext hx1).there hlt; rw [List.size_toArray, EQuota.len HR1.out]; exact this
      case hi => rw [List.size_toArray, EQuota.len HR1.out]; kernel_rfl
      case ho => exact all_oneCell_toArray (EQuota.one HR1.out)
      refine ⟨⟨k + 1, by omega, by go_num, (HP.out.ext hx1).step hlt (EQuota.sub (fun b hb => Nat.lt_of_lt_of_le HP.out.lt hb) HR1.out), setCells_ext (by rw [HB.out]; exact Nat.le_refl _) _ _ _ (hx.trans hx1)⟩, ?_⟩
      simp [intOf]
      omega
    · obtain rfl : k = l.length := by omega
      go_wp2_with fail
      go_ret
      exact ⟨_, rfl, (hp.done (by unfold maxLen; omega)).sub (fun b hb => by rw [HB.out]; exact hb), hx⟩

set_option maxHeartbeats 4000000 in
theorem toConfig_any {S : Nat → Prop} (x : Config) (cs : List Value) (w : World) (h : EConfig.rel S w cs x) (hs : SmConfig x) :
    Calls Tryd.prog 6 #[.agg cs.toArray] w (RetS EConfig x w) := by
  obtain ⟨v1, v2, v3, rfl, hi, h1, h2, h3⟩ := h
  have HI := Lib.hid hi
  have H1 := Lib.hid h1
  have H2 := Lib.hid h2
  have H3 := Lib.hid h3
  clear hi h1 h2 h3
  simp only [cellsConfig]
  go_enter Tryd.func6, Tryd.ntmps6
  have HS := Lib.hid hs
  clear hs
  go_wp2_with fail
  obtain ⟨W, B, hW, hB, hx0, a0, r0, o0⟩ := boxes3 w #[v1, v2, v3, .int .i64 x.half] #[.slice none 0 0, .slice none 0 0, .slice none 0 0, .int .i64 0] #[.slice none 0 0, .slice none 0 0, .slice none 0 0, .int .i64 0] 26 33 33
  rw [← hW, ← hB]
  have HB := Lib.hid hB
  clear hW hB
  have a_0 := Lib.hid a0
  have r_0 := Lib.hid r0
  have o_0 := Lib.hid o0
  have X_0 := Lib.hid hx0
  clear a0 r0 o0 hx0
  refine (toLabelSS_any x.nodes v1 _ (H1.out.ext (by repeat (first | with_reducible exact X_0.out | refine Ext.setCell ?_ (by show w.heap.size ≤ B + 1 + 1; rw [← HB.out]; omega) _))) (by have h := HS.out; simp only [SmConfig] at h; first | exact h | exact h.1 | exact h.2 | exact h.2.1 | exact h.2.2 | exact h.2.2.1 | exact h.2.2.2 | exact h.2.2.2.1 | exact h.2.2.2.2)).mono ?_
  rintro e w1 ⟨u1, rfl, q1, hx⟩
  obtain ⟨p1, k1, rfl, -⟩ := q1.form
  have Q1 := Lib.hid (q1.sub (S' := fun b => B + 1 + 1 < b) (fun b hb => Nat.lt_of_lt_of_le (by have hl := (show Blk _ _ _ _ from o_0.out).lt; exact hl) hb))
  clear q1
  have a_1 : Hid (Blk w1 B 26 #[v1, v2, v3, .int .i64 x.half]) := Lib.hid (Blk.ext (by repeat (first | with_reducible exact a_0.out | refine Blk.far ?_ (by simp <;> omega) _)) hx)
  have r_1 : Hid (Blk w1 (B + 1) 33 #[.slice none 0 0, .slice none 0 0, .slice none 0 0, .int .i64 0]) := Lib.hid (Blk.ext (by repeat (first | with_reducible exact r_0.out | refine Blk.far ?_ (by simp <;> omega) _)) hx)
  have o_1 : Hid (Blk w1 (B + 1 + 1) 33 #[.slice none 0 0, .slice none 0 0, .slice none 0 0, .int .i64 0]) := Lib.hid (Blk.ext (by simpa using o_0.out) hx)
  have X_1 : Hid (Ext w w1) := Lib.hid (Ext.trans (by repeat (first | with_reducible exact X_0.out | refine Ext.setCell ?_ (by show w.heap.size ≤ B + 1 + 1; rw [← HB.out]; omega) _)) hx)
  clear hx
  have ac := a_1.out.cell
  have oc := o_1.out.cell
  have of := o_1.out.frozen
  clear a_0 r_0 o_0 X_0
  go_wp2_with fail
  refine (toPairS_any x.pairs v2 _ (H2.out.ext (by repeat (first | with_reducible exact X_1.out | refine Ext.setCell ?_ (by show w.heap.size ≤ B + 1 + 1; rw [← HB.out]; omega) _))) (by have h := HS.out; simp only [SmConfig] at h; first | exact h | exact h.1 | exact h.2 | exact h.2.1 | exact h.2.2 | exact h.2.2.1 | exact h.2.2.2 | exact h.2.2.2.1 | exact h.2.2.2.2)).mono ?_
  rintro e w2 ⟨u2, rfl, q2, hx⟩
  obtain ⟨p2, k2, rfl, -⟩ := q2.form
  have Q2 := Lib.hid (q2.sub (S' := fun b => B + 1 + 1 < b) (fun b hb => Nat.lt_of_lt_of_le (by have hl := (show Blk _ _ _ _ from (o_1.out.set_ 0 (.slice p1 x.nodes.length k1))).lt; exact hl) hb))
  clear q2
  have a_2 : Hid (Blk w2 B 26 #[v1, v2, v3, .int .i64 x.half]) := Lib.hid (Blk.ext (by repeat (first | with_reducible exact a_1.out | refine Blk.far ?_ (by simp <;> omega) _)) hx)
  have r_2 : Hid (Blk w2 (B + 1) 33 #[.slice none 0 0, .slice none 0 0, .slice none 0 0, .int .i64 0]) := Lib.hid (Blk.ext (by repeat (first | with_reducible exact r_1.out | refine Blk.far ?_ (by simp <;> omega) _)) hx)
  have o_2 : Hid (Blk w2 (B + 1 + 1) 33 #[.slice p1 x.nodes.length k1, .slice none 0 0, .slice none 0 0, .int .i64 0]) := Lib.hid (Blk.ext (by simpa using (o_1.out.set_ 0 (.slice p1 x.nodes.length k1))) hx)
  have X_2 : Hid (Ext w w2) := Lib.hid (Ext.trans (by repeat (first | with_reducible exact X_1.out | refine Ext.setCell ?_ (by show w.heap.size ≤ B + 1 + 1; rw [← HB.out]; omega) _)) hx)
  replace Q1 := Lib.hid (Rd.ext (Q1.out.keep (by repeat (first | with_reducible exact Same.refl _ _ | refine Same.setCell ?_ (by simp) _))) hx)
  clear hx ac oc of
  have ac := a_2.out.cell
  have oc := o_2.out.cell
  have of := o_2.out.frozen
  clear a_1 r_1 o_1 X_1
  go_wp2_with fail
  refine (toQuotaS_any x.quotas v3 _ (H3.out.ext (by repeat (first | with_reducible exact X_2.out | refine Ext.setCell ?_ (by show w.heap.size ≤ B + 1 + 1; rw [← HB.out]; omega) _))) (by have h := HS.out; simp only [SmConfig] at h; first | exact h | exact h.1 | exact h.2 | exact h.2.1 | exact h.2.2 | exact h.2.2.1 | exact h.2.2.2 | exact h.2.2.2.1 | exact h.2.2.2.2)).mono ?_
  rintro e w3 ⟨u3, rfl, q3, hx⟩
  obtain ⟨p3, k3, rfl, -⟩ := q3.form
  have Q3 := Lib.hid (q3.sub (S' := fun b => B + 1 + 1 < b) (fun b hb => Nat.lt_of_lt_of_le (by have hl := (show Blk _ _ _ _ from (o_2.out.set_ 1 (.slice p2 x.pairs.length k2))).lt; exact hl) hb))
  clear q3
  have a_3 : Hid (Blk w3 B 26 #[v1, v2, v3, .int .i64 x.half]) := Lib.hid (Blk.ext (by repeat (first | with_reducible exact a_2.out | refine Blk.far ?_ (by simp <;> omega) _)) hx)
  have r_3 : Hid (Blk w3 (B + 1) 33 #[.slice none 0 0, .slice none 0 0, .slice none 0 0, .int .i64 0]) := Lib.hid (Blk.ext (by repeat (first | with_reducible exact r_2.out | refine Blk.far ?_ (by simp <;> omega) _)) hx)
  have o_3 : Hid (Blk w3 (B + 1 + 1) 33 #[.slice p1 x.nodes.length k1, .slice p2 x.pairs.length k2, .slice none 0 0, .int .i64 0]) := Lib.hid (Blk.ext (by simpa using (o_2.out.set_ 1 (.slice p2 x.pairs.length k2))) hx)
  have X_3 : Hid (Ext w w3) := Lib.hid (Ext.trans (by repeat (first | with_reducible exact X_2.out | refine Ext.setCell ?_ (by show w.heap.size ≤ B + 1 + 1; rw [← HB.out]; omega) _)) hx)
  replace Q1 := Lib.hid (Rd.ext (Q1.out.keep (by repeat (first | with_reducible exact Same.refl _ _ | refine Same.setCell ?_ (by simp) _))) hx)
  replace Q2 := Lib.hid (Rd.ext (Q2.out.keep (by repeat (first | with_reducible exact Same.refl _ _ | refine Same.setCell ?_ (by simp) _))) hx)
  clear hx ac oc of
  have ac := a_3.out.cell
  have oc := o_3.out.cell
  have of := o_3.out.frozen
  clear a_2 r_2 o_2 X_2
  go_wp2_with (first
    | (refine wpList_load_mid rfl 33 _ rfl (B + 1 + 1) 0 rfl [.slice p1 x.nodes.length k1, .slice p2 x.pairs.length k2, .slice p3 x.quotas.length k3, .int .i64 x.half] _ ?hl Tryd.underlying33 rfl (by kernel_rfl) ?_)
    | (refine wpList_store_mid rfl 33 _ _ rfl (B + 1) 0 #[.slice p1 x.nodes.length k1, .slice p2 x.pairs.length k2, .slice p3 x.quotas.length k3, .int .i64 x.half] rfl rfl ?ht (by kernel_rfl) ?ho ?_))
  case hl => exact Blk.range (t := 33) (cs := #[.slice p1 x.nodes.length k1, .slice p2 x.pairs.length k2, .slice p3 x.quotas.length k3, .int .i64 x.half]) (by simpa using ((o_3.out.set_ 2 (.slice p3 x.quotas.length k3)).set_ 3 (.int .i64 x.half)))
  case ht => exact Blk.there (t := 33) (cs := #[.slice none 0 0, .slice none 0 0, .slice none 0 0, .int .i64 0]) (by repeat (first | with_reducible exact r_3.out | refine Blk.far ?_ (by simp <;> omega) _))
  case ho => exact all_oneCell_toArray (cs := [.slice p1 x.nodes.length k1, .slice p2 x.pairs.length k2, .slice p3 x.quotas.length k3, .int .i64 x.half]) (by simp [Value.oneCell'])
  exact bodyPost_ret (v := .agg #[.slice p1 x.nodes.length k1, .slice p2 x.pairs.length k2, .slice p3 x.quotas.length k3, .int .i64 x.half]) (results_blk Tryd.results6 rfl (Blk.setAll (t := 33) (cs := #[.slice none 0 0, .slice none 0 0, .slice none 0 0, .int .i64 0]) (vs := #[.slice p1 x.nodes.length k1, .slice p2 x.pairs.length k2, .slice p3 x.quotas.length k3, .int .i64 x.half]) (by repeat (first | with_reducible exact r_3.out | refine Blk.far ?_ (by simp <;> omega) _)) rfl) Tryd.underlying33 rfl (by kernel_rfl)) rfl ⟨_, rfl, ⟨_, _, _, rfl, HI.out, Rd.sub (Q1.out.keep (setCells_same' (by repeat (first | with_reducible exact Same.refl _ _ | refine Same.setCell ?_ (by simp) _)) (by simp))) (fun b hb => by rw [← HB.out]; omega), Rd.sub (Q2.out.keep (setCells_same' (by repeat (first | with_reducible exact Same.refl _ _ | refine Same.setCell ?_ (by simp) _)) (by simp))) (fun b hb => by rw [← HB.out]; omega), Rd.sub (Q3.out.keep (setCells_same' (by repeat (first | with_reducible exact Same.refl _ _ | refine Same.setCell ?_ (by simp) _)) (by simp))) (fun b hb => by rw [← HB.out]; omega)⟩, setCells_ext (by rw [← HB.out]; omega) _ _ _ (by repeat (first | with_reducible exact X_3.out | refine Ext.setCell ?_ (by show w.heap.size ≤ B + 1 + 1; rw [← HB.out]; omega) _))⟩

end Go.Proofs.YtjiipmkehdiiiaaDoor

namespace Go.Proofs.YtjiipmkehdiiiaaDoor
open Go.RowKit
attribute [local irreducible] wpQuiet

set_option maxHeartbeats 4000000 in
theorem toLabel_own {S : Nat → Prop} (x : Label) (cs : List Value) (w : World) (h : ELabel.rel S w cs x) (_hs : SmLabel x) :
    Calls Tryd.prog 48 #[.agg cs.toArray] w (RetOS OLabel x w) := by
  obtain ⟨rfl, hi⟩ := h
  have HI := Lib.hid hi
  clear hi
  simp only [cellsLabel]
  go_enter Tryd.func48, Tryd.ntmps48
  go_wp2
  exact bodyPost_ret (v := .agg #[.int .i64 x.level, .int .i64 x.set]) (by simp [results, Tryd.results48, go_sem]) rfl ⟨_, [], rfl, ⟨⟨rfl, HI.out⟩, rfl⟩, fun b hb => (by cases hb), (((Ext.refl _).alloc _).alloc _).alloc _⟩


set_option maxHeartbeats 4000000 in
theorem toPair_own {S : Nat → Prop} (x : Pair) (cs : List Value) (w : World) (h : EPair.rel S w cs x) (_hs : SmPair x) :
    Calls Tryd.prog 32 #[.agg cs.toArray] w (RetOS OPair x w) := by
  obtain ⟨rfl, hi⟩ := h
  have HI := Lib.hid hi
  clear hi
  simp only [cellsPair]
  go_enter Tryd.func32, Tryd.ntmps32
  go_wp2_with fail
  obtain ⟨W, B, hW, hB, hx0, a0, r0, o0⟩ := boxes3 w #[.int .i64 x.from_.level, .int .i64 x.from_.set, .int .i64 x.to_.level, .int .i64 x.to_.set, .int .i64 x.rate] #[.int .i64 0, .int .i64 0, .int .i64 0, .int .i64 0, .int .i64 0] #[.int .i64 0, .int .i64 0, .int .i64 0, .int .i64 0, .int .i64 0] 69 46 46
  rw [← hW, ← hB]
  have HB := Lib.hid hB
  clear hW hB
  have a_0 := Lib.hid a0
  have r_0 := Lib.hid r0
  have o_0 := Lib.hid o0
  have X_0 := Lib.hid hx0
  clear a0 r0 o0 hx0
  refine (toLabel_any x.from_ [.int .i64 x.from_.level, .int .i64 x.from_.set] _ (S := S) ⟨rfl, (by have hf := HI.out; simp only [FitPair] at hf; simp only [FitLabel, hf, and_self])⟩ trivial).mono ?_
  rintro e w1 ⟨_, rfl, ⟨rfl, _⟩, hx⟩
  simp only [cellsLabel]
  have a_1 : Hid (Blk w1 B 69 #[.int .i64 x.from_.level, .int .i64 x.from_.set, .int .i64 x.to_.level, .int .i64 x.to_.set, .int .i64 x.rate]) := Lib.hid (Blk.ext (by repeat (first | with_reducible exact a_0.out | refine Blk.far ?_ (by simp <;> omega) _)) hx)
  have r_1 : Hid (Blk w1 (B + 1) 46 #[.int .i64 0, .int .i64 0, .int .i64 0, .int .i64 0, .int .i64 0]) := Lib.hid (Blk.ext (by repeat (first | with_reducible exact r_0.out | refine Blk.far ?_ (by simp <;> omega) _)) hx)
  have o_1 : Hid (Blk w1 (B + 1 + 1) 46 #[.int .i64 0, .int .i64 0, .int .i64 0, .int .i64 0, .int .i64 0]) := Lib.hid (Blk.ext (by simpa using o_0.out) hx)
  have X_1 : Hid (Ext w w1) := Lib.hid (Ext.trans (by repeat (first | with_reducible exact X_0.out | refine Ext.setCell ?_ (by show w.heap.size ≤ B + 1 + 1; rw [← HB.out]; omega) _)) hx)
  clear hx
  have ac := a_1.out.cell
  have oc := o_1.out.cell
  have of := o_1.out.frozen
  clear a_0 r_0 o_0 X_0
  go_wp2_with fail
  refine (toLabel_any x.to_ [.int .i64 x.to_.level, .int .i64 x.to_.set] _ (S := S) ⟨rfl, (by have hf := HI.out; simp only [FitPair] at hf; simp only [FitLabel, hf, and_self])⟩ trivial).mono ?_
  rintro e w2 ⟨_, rfl, ⟨rfl, _⟩, hx⟩
  simp only [cellsLabel]
  have a_2 : Hid (Blk w2 B 69 #[.int .i64 x.from_.level, .int .i64 x.from_.set, .int .i64 x.to_.level, .int .i64 x.to_.set, .int .i64 x.rate]) := Lib.hid (Blk.ext (by repeat (first | with_reducible exact a_1.out | refine Blk.far ?_ (by simp <;> omega) _)) hx)
  have r_2 : Hid (Blk w2 (B + 1) 46 #[.int .i64 0, .int .i64 0, .int .i64 0, .int .i64 0, .int .i64 0]) := Lib.hid (Blk.ext (by repeat (first | with_reducible exact r_1.out | refine Blk.far ?_ (by simp <;> omega) _)) hx)
  have o_2 : Hid (Blk w2 (B + 1 + 1) 46 #[.int .i64 x.from_.level, .int .i64 x.from_.set, .int .i64 0, .int .i64 0, .int .i64 0]) := Lib.hid (Blk.ext (by simpa using ((o_1.out.set_ 0 (.int .i64 x.from_.level)).set_ 1 (.int .i64 x.from_.set))) hx)
  have X_2 : Hid (Ext w w2) := Lib.hid (Ext.trans (by repeat (first | with_reducible exact X_1.out | refine Ext.setCell ?_ (by show w.heap.size ≤ B + 1 + 1; rw [← HB.out]; omega) _)) hx)
  clear hx ac oc of
  have ac := a_2.out.cell
  have oc := o_2.out.cell
  have of := o_2.out.frozen
  clear a_1 r_1 o_1 X_1
  go_wp2_with (first
    | (refine wpList_load_mid rfl 46 _ rfl (B + 1 + 1) 0 rfl [.int .i64 x.from_.level, .int .i64 x.from_.set, .int .i64 x.to_.level, .int .i64 x.to_.set, .int .i64 x.rate] _ ?hl Tryd.underlying46 rfl (by kernel_rfl) ?_)
    | (refine wpList_store_mid rfl 46 _ _ rfl (B + 1) 0 #[.int .i64 x.from_.level, .int .i64 x.from_.set, .int .i64 x.to_.level, .int .i64 x.to_.set, .int .i64 x.rate] rfl rfl ?ht (by kernel_rfl) ?ho ?_))
  case hl => exact Blk.range (t := 46) (cs := #[.int .i64 x.from_.level, .int .i64 x.from_.set, .int .i64 x.to_.level, .int .i64 x.to_.set, .int .i64 x.rate]) (by simpa using (((o_2.out.set_ 2 (.int .i64 x.to_.level)).set_ 3 (.int .i64 x.to_.set)).set_ 4 (.int .i64 x.rate)))
  case ht => exact Blk.there (t := 46) (cs := #[.int .i64 0, .int .i64 0, .int .i64 0, .int .i64 0, .int .i64 0]) (by repeat (first | with_reducible exact r_2.out | refine Blk.far ?_ (by simp <;> omega) _))
  case ho => exact all_oneCell_toArray (cs := [.int .i64 x.from_.level, .int .i64 x.from_.set, .int .i64 x.to_.level, .int .i64 x.to_.set, .int .i64 x.rate]) (by simp [Value.oneCell'])
  exact bodyPost_ret (v := .agg #[.int .i64 x.from_.level, .int .i64 x.from_.set, .int .i64 x.to_.level, .int .i64 x.to_.set, .int .i64 x.rate]) (results_blk Tryd.results32 rfl (Blk.setAll (t := 46) (cs := #[.int .i64 0, .int .i64 0, .int .i64 0, .int .i64 0, .int .i64 0]) (vs := #[.int .i64 x.from_.level, .int .i64 x.from_.set, .int .i64 x.to_.level, .int .i64 x.to_.set, .int .i64 x.rate]) (by repeat (first | with_reducible exact r_2.out | refine Blk.far ?_ (by simp <;> omega) _)) rfl) Tryd.underlying46 rfl (by kernel_rfl)) rfl ⟨_, [], rfl, ⟨⟨rfl, HI.out⟩, rfl⟩, fun b hb => (by cases hb), setCells_ext (by rw [← HB.out]; omega) _ _ _ (by repeat (first | with_reducible exact X_2.out | refine Ext.setCell ?_ (by show w.heap.size ≤ B + 1 + 1; rw [← HB.out]; omega) _))⟩

set_option maxHeartbeats 4000000 in
theorem toQuota_own {S : Nat → Prop} (x : Quota) (cs : List Value) (w : World) (h : EQuota.rel S w cs x) (_hs : SmQuota x) :
    Calls Tryd.prog 33 #[.agg cs.toArray] w (RetOS OQuota x w) := by
  obtain ⟨rfl, hi⟩ := h
  have HI := Lib.hid hi
  clear hi
  simp only [cellsQuota]
  go_enter Tryd.func33, Tryd.ntmps33
  go_wp2_with fail
  obtain ⟨W, B, hW, hB, hx0, a0, r0, o0⟩ := boxes3 w #[.int .i64 x.label.level, .int .i64 x.label.set, .int .i64 x.most] #[.int .i64 0, .int .i64 0, .int .i64 0] #[.int .i64 0, .int .i64 0, .int .i64 0] 72 49 49
  rw [← hW, ← hB]
  have HB := Lib.hid hB
  clear hW hB
  have a_0 := Lib.hid a0
  have r_0 := Lib.hid r0
  have o_0 := Lib.hid o0
  have X_0 := Lib.hid hx0
  clear a0 r0 o0 hx0
  refine (toLabel_any x.label [.int .i64 x.label.level, .int .i64 x.label.set] _ (S := S) ⟨rfl, (by have hf := HI.out; simp only [FitQuota] at hf; simp only [FitLabel, hf, and_self])⟩ trivial).mono ?_
  rintro e w1 ⟨_, rfl, ⟨rfl, _⟩, hx⟩
  simp only [cellsLabel]
  have a_1 : Hid (Blk w1 B 72 #[.int .i64 x.label.level, .int .i64 x.label.set, .int .i64 x.most]) := Lib.hid (Blk.ext (by repeat (first | with_reducible exact a_0.out | refine Blk.far ?_ (by simp <;> omega) _)) hx)
  have r_1 : Hid (Blk w1 (B + 1) 49 #[.int .i64 0, .int .i64 0, .int .i64 0]) := Lib.hid (Blk.ext (by repeat (first | with_reducible exact r_0.out | refine Blk.far ?_ (by simp <;> omega) _)) hx)
  have o_1 : Hid (Blk w1 (B + 1 + 1) 49 #[.int .i64 0, .int .i64 0, .int .i64 0]) := Lib.hid (Blk.ext (by simpa using o_0.out) hx)
  have X_1 : Hid (Ext w w1) := Lib.hid (Ext.trans (by repeat (first | with_reducible exact X_0.out | refine Ext.setCell ?_ (by show w.heap.size ≤ B + 1 + 1; rw [← HB.out]; omega) _)) hx)
  clear hx
  have ac := a_1.out.cell
  have oc := o_1.out.cell
  have of := o_1.out.frozen
  clear a_0 r_0 o_0 X_0
  go_wp2_with (first
    | (refine wpList_load_mid rfl 49 _ rfl (B + 1 + 1) 0 rfl [.int .i64 x.label.level, .int .i64 x.label.set, .int .i64 x.most] _ ?hl Tryd.underlying49 rfl (by kernel_rfl) ?_)
    | (refine wpList_store_mid rfl 49 _ _ rfl (B + 1) 0 #[.int .i64 x.label.level, .int .i64 x.label.set, .int .i64 x.most] rfl rfl ?ht (by kernel_rfl) ?ho ?_))
  case hl => exact Blk.range (t := 49) (cs := #[.int .i64 x.label.level, .int .i64 x.label.set, .int .i64 x.most]) (by simpa using (((o_1.out.set_ 0 (.int .i64 x.label.level)).set_ 1 (.int .i64 x.label.set)).set_ 2 (.int .i64 x.most)))
  case ht => exact Blk.there (t := 49) (cs := #[.int .i64 0, .int .i64 0, .int .i64 0]) (by repeat (first | with_reducible exact r_1.out | refine Blk.far ?_ (by simp <;> omega) _))
  case ho => exact all_oneCell_toArray (cs := [.int .i64 x.label.level, .int .i64 x.label.set, .int .i64 x.most]) (by simp [Value.oneCell'])
  exact bodyPost_ret (v := .agg #[.int .i64 x.label.level, .int .i64 x.label.set, .int .i64 x.most]) (results_blk Tryd.results33 rfl (Blk.setAll (t := 49) (cs := #[.int .i64 0, .int .i64 0, .int .i64 0]) (vs := #[.int .i64 x.label.level, .int .i64 x.label.set, .int .i64 x.most]) (by repeat (first | with_reducible exact r_1.out | refine Blk.far ?_ (by simp <;> omega) _)) rfl) Tryd.underlying49 rfl (by kernel_rfl)) rfl ⟨_, [], rfl, ⟨⟨rfl, HI.out⟩, rfl⟩, fun b hb => (by cases hb), setCells_ext (by rw [← HB.out]; omega) _ _ _ (by repeat (first | with_reducible exact X_1.out | refine Ext.setCell ?_ (by show w.heap.size ≤ B + 1 + 1; rw [← HB.out]; omega) _))⟩


set_option maxHeartbeats 1000000 in
theorem toLabelS_own {S : Nat → Prop} (l : List Label) (v : Value) (w : World) (h : Rd ELabel S w v l) (hs : SmLabelS l) :
    Calls Tryd.prog 31 #[v] w (RetO OLabel 44 l w) := by
  have hn : l.length ≤ 1048576 := hs.1
  have HS := Lib.hid hs
  obtain ⟨A, c, rfl, h1, h2, hk⟩ := h.open_
  unfold maxLen at h2
  have HK := Lib.hid hk
  clear hk h hs
  have hmk := mk_LabelS l.length hn
  go_enter Tryd.func31, Tryd.ntmps31
  go_wp2_with fail
  have hp0 := PartO.new (O := OLabel) (l := l) (T := 44) w (madeCells #[.int .i64 0, .int .i64 0] (l.length * 2)) (by rw [size_madeCells]; rfl)
  have hx0 : Ext w (w.alloc (.cells (madeCells #[.int .i64 0, .int .i64 0] (l.length * 2)) 44)) := (Ext.refl w).alloc _
  generalize hB : w.heap.size = B at hp0 ⊢
  have HB := Lib.hid hB
  clear hB
  go_loopw [4] (fun i w' => ∃ k : Nat, k ≤ l.length ∧ i = .int .i64 k ∧ PartO OLabel w' B 44 l k ∧ Ext w w') (fun i _ => l.length - (intOf i).toNat)
  case atStart => exact ⟨0, by omega, rfl, hp0, hx0⟩
  case round =>
    obtain ⟨k, hk1, rfl, hp, hx⟩ := hrel
    clear hp0 hx0
    by_cases hlt : k < l.length
    · obtain ⟨b, o, cs, rfl, hb, hr, hc⟩ := HK.out k hlt
      have HC := Lib.hid (hx.range hc)
      have HI : Hid ((Tryd.prog.info? 67).map (·.size) = some cs.length) := Lib.hid (by rw [ELabel.len hr]; kernel_rfl)
      have HR := Lib.hid (ELabel.keep (hx.same S) hr)
      have HP := Lib.hid hp
      have HM := Lib.hid (HS.out.2 (nth l k) (nth_mem hlt))
      clear hc hr hmk hp
      go_wp2_with (first
        | (go_at_call 48; refine (toLabel_own (nth l k) cs _ HR.out HM.out).mono ?_; rintro e w1 ⟨cs', G1, rfl, hr1, hG1, hx1⟩; have HR1 := Lib.hid hr1; have HG1 := Lib.hid hG1; clear hr1 hG1)
        | (refine wpList_load_mid rfl 67 _ rfl b (o + k * 2) rfl cs _ HC.out Tryd.underlying67 rfl HI.out ?_)
        | (refine wpList_store_mid rfl 44 _ _ rfl B (k * 2) _ rfl rfl ?ht ?hi ?ho ?_))
      case ht => have := (HP.out.ext hx1).there hlt; rw [List.size_toArray, ELabel.len (OLabel.rel HR1.out)]; exact this
      case hi => rw [List.size_toArray, ELabel.len (OLabel.rel HR1.out)]; kernel_rfl
      case ho => exact all_oneCell_toArray (ELabel.one (OLabel.rel HR1.out))
      refine ⟨⟨k + 1, by omega, by go_num, HP.out.step hx1 hlt HR1.out HG1.out, setCells_ext (by rw [HB.out]; exact Nat.le_refl _) _ _ _ (hx.trans hx1)⟩, ?_⟩
      simp [intOf]
      omega
    · obtain rfl : k = l.length := by omega
      go_wp2_with fail
      go_ret
      obtain ⟨F, hF, hge⟩ := hp.done (by unfold maxLen; omega)
      exact ⟨_, F, rfl, hF, fun b hb => by rw [HB.out]; exact hge b hb, hx⟩


set_option maxHeartbeats 1000000 in
theorem toLabelSS_own {S : Nat → Prop} (l : List (List Label)) (v : Value) (w : World) (h : Rd (ERow ELabel) S w v l) (hs : SmLabelSS l) :
    Calls Tryd.prog 15 #[v] w (RetO (ORow OLabel 44) 41 l w) := by
  have hn : l.length ≤ 1048576 := hs.1
  have HS := Lib.hid hs
  obtain ⟨A, c, rfl, h1, h2, hk⟩ := h.open_
  unfold maxLen at h2
  have HK := Lib.hid hk
  clear hk h hs
  have hmk := mk_LabelSS l.length hn
  go_enter Tryd.func15, Tryd.ntmps15
  go_wp2_with fail
  have hp0 := PartO.new (O := (ORow OLabel 44)) (l := l) (T := 41) w (madeCells #[.slice none 0 0] (l.length * 1)) (by rw [size_madeCells]; rfl)
  have hx0 : Ext w (w.alloc (.cells (madeCells #[.slice none 0 0] (l.length * 1)) 41)) := (Ext.refl w).alloc _
  simp only [Nat.mul_one] at hp0 hx0 ⊢
  generalize hB : w.heap.size = B at hp0 ⊢
  have HB := Lib.hid hB
  clear hB
  go_loopw [4] (fun i w' => ∃ k : Nat, k ≤ l.length ∧ i = .int .i64 k ∧ PartO (ORow OLabel 44) w' B 41 l k ∧ Ext w w') (fun i _ => l.length - (intOf i).toNat)
  case atStart => exact ⟨0, by omega, rfl, hp0, hx0⟩
  case round =>
    obtain ⟨k, hk1, rfl, hp, hx⟩ := hrel
    clear hp0 hx0
    by_cases hlt : k < l.length
    · obtain ⟨b, o, cs, rfl, hb, hr, hc⟩ := HK.out k hlt
      obtain ⟨v, rfl, hr⟩ := hr
      have c0 := Ext.some hx (hc 0 _ rfl)
      have ht := hp.there hlt 0 (by decide)
      obtain ⟨u, hu⟩ := Option.isSome_iff_exists.1 ht.1
      have HR := Lib.hid (hr.ext hx)
      have HP := Lib.hid hp
      have HM := Lib.hid (HS.out.2 (nth l k) (nth_mem hlt))
      simp only [ERow, Nat.mul_one, Nat.add_zero] at c0 hu
      clear hc ht hp hmk hr hu
      go_wp2_with fail
      refine (toLabelS_own (nth l k) v _ HR.out HM.out).mono ?_
      rintro e w1 ⟨v1, G1, rfl, hr1, hG1, hx1⟩
      have HG1 := Lib.hid hG1; clear hG1; obtain ⟨A1, c1, rfl, -⟩ := hr1.form
      have HR1 := Lib.hid hr1
      have ht := (HP.out.ext hx1).there hlt 0 (by decide)
      obtain ⟨u, hu⟩ := Option.isSome_iff_exists.1 ht.1
      have hf := ht.2
      simp only [ERow, Nat.mul_one, Nat.add_zero] at hu hf
      clear hr1 ht
      go_wp2_with fail
      refine ⟨⟨k + 1, by omega, by go_num, ?_, (hx.trans hx1).setCell (p := ⟨B, k, none⟩) (by rw [HB.out]; exact Nat.le_refl _) _⟩, ?_⟩
      · have := HP.out.step hx1 (cs := [.slice A1 (nth l k).length c1]) hlt ⟨_, rfl, HR1.out⟩ HG1.out
        simpa [World.setCells, ERow] using this
      simp [intOf]
      omega
    · obtain rfl : k = l.length := by omega
      go_wp2_with fail
      go_ret
      obtain ⟨F, hF, hge⟩ := hp.done (by unfold maxLen; omega)
      exact ⟨_, F, rfl, hF, fun b hb => by rw [HB.out]; exact hge b hb, hx⟩


set_option maxHeartbeats 1000000 in
theorem toPairS_own {S : Nat → Prop} (l : List Pair) (v : Value) (w : World) (h : Rd EPair S w v l) (hs : SmPairS l) :
    Calls Tryd.prog 16 #[v] w (RetO OPair 46 l w) := by
  have hn : l.length ≤ 1048576 := hs.1
  have HS := Lib.hid hs
  obtain ⟨A, c, rfl, h1, h2, hk⟩ := h.open_
  unfold maxLen at h2
  have HK := Lib.hid hk
  clear hk h hs
  have hmk := mk_PairS l.length hn
  go_enter Tryd.func16, Tryd.ntmps16
  go_wp2_with fail
  have hp0 := PartO.new (O := OPair) (l := l) (T := 46) w (madeCells #[.int .i64 0, .int .i64 0, .int .i64 0, .int .i64 0, .int .i64 0] (l.length * 5)) (by rw [size_madeCells]; rfl)
  have hx0 : Ext w (w.alloc (.cells (madeCells #[.int .i64 0, .int .i64 0, .int .i64 0, .int .i64 0, .int .i64 0] (l.length * 5)) 46)) := (Ext.refl w).alloc _
  generalize hB : w.heap.size = B at hp0 ⊢
  have HB := Lib.hid hB
  clear hB
  go_loopw [4] (fun i w' => ∃ k : Nat, k ≤ l.length ∧ i = .int .i64 k ∧ PartO OPair w' B 46 l k ∧ Ext w w') (fun i _ => l.length - (intOf i).toNat)
  case atStart => exact ⟨0, by omega, rfl, hp0, hx0⟩
  case round =>
    obtain ⟨k, hk1, rfl, hp, hx⟩ := hrel
    clear hp0 hx0
    by_cases hlt : k < l.length
    · obtain ⟨b, o, cs, rfl, hb, hr, hc⟩ := HK.out k hlt
      have HC := Lib.hid (hx.range hc)
      have HI : Hid ((Tryd.prog.info? 69).map (·.size) = some cs.length) := Lib.hid (by rw [EPair.len hr]; kernel_rfl)
      have HR := Lib.hid (EPair.keep (hx.same S) hr)
      have HP := Lib.hid hp
      have HM := Lib.hid (HS.out.2 (nth l k) (nth_mem hlt))
      clear hc hr hmk hp
      go_wp2_with (first
        | (go_at_call 32; refine (toPair_own (nth l k) cs _ HR.out HM.out).mono ?_; rintro e w1 ⟨cs', G1, rfl, hr1, hG1, hx1⟩; have HR1 := Lib.hid hr1; have HG1 := Lib.hid hG1; clear hr1 hG1)
        | (refine wpList_load_mid rfl 69 _ rfl b (o + k * 5) rfl cs _ HC.out Tryd.underlying69 rfl HI.out ?_)
        | (refine wpList_store_mid rfl 46 _ _ rfl B (k * 5) _ rfl rfl ?ht ?hi ?ho ?_))
      case ht => have := (HP.out.ext hx1).there hlt; rw [List.size_toArray, EPair.len (OPair.rel HR1.out)]; exact this
      case hi => rw [List.size_toArray, EPair.len (OPair.rel HR1.out)]; kernel_rfl
      case ho => exact all_oneCell_toArray (EPair.one (OPair.rel HR1.out))
      refine ⟨⟨k + 1, by omega, by go_num, HP.out.step hx1 hlt HR1.out HG1.out, setCells_ext (by rw [HB.out]; exact Nat.le_refl _) _ _ _ (hx.trans hx1)⟩, ?_⟩
      simp [intOf]
      omega
    · obtain rfl : k = l.length := by omega
      go_wp2_with fail
      go_ret
      obtain ⟨F, hF, hge⟩ := hp.done (by unfold maxLen; omega)
      exact ⟨_, F, rfl, hF, fun b hb => by rw [HB.out]; exact hge b hb, hx⟩


set_option maxHeartbeats 1000000 in
theorem toQuotaS_own {S : Nat → Prop} (l : List Quota) (v : Value) (w : World) (h : Rd EQuota S w v l) (hs : SmQuotaS l) :
    Calls Tryd.prog 17 #[v] w (RetO OQuota 49 l w) := by
  have hn : l.length ≤ 1048576 := hs.1
  have HS := Lib.hid hs
  obtain ⟨A, c, rfl, h1, h2, hk⟩ := h.open_
  unfold maxLen at h2
  have HK := Lib.hid hk
  clear hk h hs
  have hmk := mk_QuotaS l.length hn
  go_enter Tryd.func17, Tryd.ntmps17
  go_wp2_with fail
  have hp0 := PartO.new (O := OQuota) (l := l) (T := 49) w (madeCells #[.int .i64 0, .int .i64 0, .int .i64 0] (l.length * 3)) (by rw [size_madeCells]; rfl)
  have hx0 : Ext w (w.alloc (.cells (madeCells #[.int .i64 0, .int .i64 0, .int .i64 0] (l.length * 3)) 49)) := (Ext.refl w).alloc _
  generalize hB : w.heap.size = B at hp0 ⊢
  have HB := Lib.hid hB
  clear hB
  go_loopw [4] (fun i w' => ∃ k : Nat, k ≤ l.length ∧ i = .int .i64 k ∧ PartO OQuota w' B 49 l k ∧ Ext w w') (fun i _ => l.length - (intOf i).toNat)
  case atStart => exact ⟨0, by omega, rfl, hp0, hx0⟩
  case round =>
    obtain ⟨k, hk1, rfl, hp, hx⟩ := hrel
    clear hp0 hx0
    by_cases hlt : k < l.length
    · obtain ⟨b, o, cs, rfl, hb, hr, hc⟩ := HK.out k hlt
      have HC := Lib.hid (hx.range hc)
      have HI : Hid ((Tryd.prog.info? 72).map (·.size) = some cs.length) := Lib.hid (by rw [EQuota.len hr]; kernel_rfl)
      have HR := Lib.hid (EQuota.keep (hx.same S) hr)
      have HP := Lib.hid hp
      have HM := Lib.hid (HS.out.2 (nth l k) (nth_mem hlt))
      clear hc hr hmk hp
      go_wp2_with (first
        | (go_at_call 33; refine (toQuota_own (nth l k) cs _ HR.out HM.out).mono ?_; rintro e w1 ⟨cs', G1, rfl, hr1, hG1, hx1⟩; have HR1 := Lib.hid hr1; have HG1 := Lib.hid hG1; clear hr1 hG1)
        | (refine wpList_load_mid rfl 72 _ rfl b (o + k * 3) rfl cs _ HC.out Tryd.underlying72 rfl HI.out ?_)
        | (refine wpList_store_mid rfl 49 _ _ rfl B (k * 3) _ rfl rfl ?ht ?hi ?ho ?_))
      case ht => have := (HP.out.ext hx1).there hlt; rw [List.size_toArray, EQuota.len (OQuota.rel HR1.out)]; exact this
      case hi => rw [List.size_toArray, EQuota.len (OQuota.rel HR1.out)]; kernel_rfl
      case ho => exact all_oneCell_toArray (EQuota.one (OQuota.rel HR1.out))
      refine ⟨⟨k + 1, by omega, by go_num, HP.out.step hx1 hlt HR1.out HG1.out, setCells_ext (by rw [HB.out]; exact Nat.le_refl _) _ _ _ (hx.trans hx1)⟩, ?_⟩
      simp [intOf]
      omega
    · obtain rfl : k = l.length := by omega
      go_wp2_with fail
      go_ret
      obtain ⟨F, hF, hge⟩ := hp.done (by unfold maxLen; omega)
      exact ⟨_, F, rfl, hF, fun b hb => by rw [HB.out]; exact hge b hb, hx⟩

set_option maxHeartbeats 4000000 in
theorem toConfig_own {S : Nat → Prop} (x : Config) (cs : List Value) (w : World) (h : EConfig.rel S w cs x) (hs : SmConfig x) :
    Calls Tryd.prog 6 #[.agg cs.toArray] w (RetOS OConfig x w) := by
  obtain ⟨v1, v2, v3, rfl, hi, h1, h2, h3⟩ := h
  have HI := Lib.hid hi
  have H1 := Lib.hid h1
  have H2 := Lib.hid h2
  have H3 := Lib.hid h3
  clear hi h1 h2 h3
  simp only [cellsConfig]
  go_enter Tryd.func6, Tryd.ntmps6
  have HS := Lib.hid hs
  clear hs
  go_wp2_with fail
  obtain ⟨W, B, hW, hB, hx0, a0, r0, o0⟩ := boxes3 w #[v1, v2, v3, .int .i64 x.half] #[.slice none 0 0, .slice none 0 0, .slice none 0 0, .int .i64 0] #[.slice none 0 0, .slice none 0 0, .slice none 0 0, .int .i64 0] 26 33 33
  rw [← hW, ← hB]
  have HB := Lib.hid hB
  clear hW hB
  have a_0 := Lib.hid a0
  have r_0 := Lib.hid r0
  have o_0 := Lib.hid o0
  have X_0 := Lib.hid hx0
  clear a0 r0 o0 hx0
  refine (toLabelSS_own x.nodes v1 _ (H1.out.ext (by repeat (first | with_reducible exact X_0.out | refine Ext.setCell ?_ (by show w.heap.size ≤ B + 1 + 1; rw [← HB.out]; omega) _))) (by have h := HS.out; simp only [SmConfig] at h; first | exact h | exact h.1 | exact h.2 | exact h.2.1 | exact h.2.2 | exact h.2.2.1 | exact h.2.2.2 | exact h.2.2.2.1 | exact h.2.2.2.2)).mono ?_
  rintro e w1 ⟨u1, F1, rfl, q1, g1, hx⟩
  obtain ⟨p1, k1, rfl, -⟩ := q1.form
  have Q1 := Lib.hid q1
  have L1 : Hid (∀ b ∈ F1, B + 1 + 1 < b) := Lib.hid (fun b hb => Nat.lt_of_lt_of_le (by have hl := (show Blk _ _ _ _ from o_0.out).lt; exact hl) (g1 b hb))
  clear g1
  clear q1
  have a_1 : Hid (Blk w1 B 26 #[v1, v2, v3, .int .i64 x.half]) := Lib.hid (Blk.ext (by repeat (first | with_reducible exact a_0.out | refine Blk.far ?_ (by simp <;> omega) _)) hx)
  have r_1 : Hid (Blk w1 (B + 1) 33 #[.slice none 0 0, .slice none 0 0, .slice none 0 0, .int .i64 0]) := Lib.hid (Blk.ext (by repeat (first | with_reducible exact r_0.out | refine Blk.far ?_ (by simp <;> omega) _)) hx)
  have o_1 : Hid (Blk w1 (B + 1 + 1) 33 #[.slice none 0 0, .slice none 0 0, .slice none 0 0, .int .i64 0]) := Lib.hid (Blk.ext (by simpa using o_0.out) hx)
  have X_1 : Hid (Ext w w1) := Lib.hid (Ext.trans (by repeat (first | with_reducible exact X_0.out | refine Ext.setCell ?_ (by show w.heap.size ≤ B + 1 + 1; rw [← HB.out]; omega) _)) hx)
  clear hx
  have ac := a_1.out.cell
  have oc := o_1.out.cell
  have of := o_1.out.frozen
  clear a_0 r_0 o_0 X_0
  go_wp2_with fail
  refine (toPairS_own x.pairs v2 _ (H2.out.ext (by repeat (first | with_reducible exact X_1.out | refine Ext.setCell ?_ (by show w.heap.size ≤ B + 1 + 1; rw [← HB.out]; omega) _))) (by have h := HS.out; simp only [SmConfig] at h; first | exact h | exact h.1 | exact h.2 | exact h.2.1 | exact h.2.2 | exact h.2.2.1 | exact h.2.2.2 | exact h.2.2.2.1 | exact h.2.2.2.2)).mono ?_
  rintro e w2 ⟨u2, F2, rfl, q2, g2, hx⟩
  obtain ⟨p2, k2, rfl, -⟩ := q2.form
  have Q2 := Lib.hid q2
  have L2 : Hid (∀ b ∈ F2, B + 1 + 1 < b) := Lib.hid (fun b hb => Nat.lt_of_lt_of_le (by have hl := (show Blk _ _ _ _ from (o_1.out.set_ 0 (.slice p1 x.nodes.length k1))).lt; exact hl) (g2 b hb))
  have D1_2 : Hid (∀ b ∈ F1, b ∉ F2) := Lib.hid (fun b h1 h2 => by have a := Q1.out.lt b h1; have c := g2 b h2; (try simp only [World.setCell, Array.size_modify] at c); omega)
  clear g2
  clear q2
  have a_2 : Hid (Blk w2 B 26 #[v1, v2, v3, .int .i64 x.half]) := Lib.hid (Blk.ext (by repeat (first | with_reducible exact a_1.out | refine Blk.far ?_ (by simp <;> omega) _)) hx)
  have r_2 : Hid (Blk w2 (B + 1) 33 #[.slice none 0 0, .slice none 0 0, .slice none 0 0, .int .i64 0]) := Lib.hid (Blk.ext (by repeat (first | with_reducible exact r_1.out | refine Blk.far ?_ (by simp <;> omega) _)) hx)
  have o_2 : Hid (Blk w2 (B + 1 + 1) 33 #[.slice p1 x.nodes.length k1, .slice none 0 0, .slice none 0 0, .int .i64 0]) := Lib.hid (Blk.ext (by simpa using (o_1.out.set_ 0 (.slice p1 x.nodes.length k1))) hx)
  have X_2 : Hid (Ext w w2) := Lib.hid (Ext.trans (by repeat (first | with_reducible exact X_1.out | refine Ext.setCell ?_ (by show w.heap.size ≤ B + 1 + 1; rw [← HB.out]; omega) _)) hx)
  replace Q1 := Lib.hid (OwS.ext (Q1.out.kept (G := [B + 1, B + 1 + 1]) (by repeat (first | exact Kept.refl _ _ | refine Kept.setCell ?_ (by simp) _)) (fun b hb => by have := L1.out b hb; simp; omega)) hx)
  clear hx ac oc of
  have ac := a_2.out.cell
  have oc := o_2.out.cell
  have of := o_2.out.frozen
  clear a_1 r_1 o_1 X_1
  go_wp2_with fail
  refine (toQuotaS_own x.quotas v3 _ (H3.out.ext (by repeat (first | with_reducible exact X_2.out | refine Ext.setCell ?_ (by show w.heap.size ≤ B + 1 + 1; rw [← HB.out]; omega) _))) (by have h := HS.out; simp only [SmConfig] at h; first | exact h | exact h.1 | exact h.2 | exact h.2.1 | exact h.2.2 | exact h.2.2.1 | exact h.2.2.2 | exact h.2.2.2.1 | exact h.2.2.2.2)).mono ?_
  rintro e w3 ⟨u3, F3, rfl, q3, g3, hx⟩
  obtain ⟨p3, k3, rfl, -⟩ := q3.form
  have Q3 := Lib.hid q3
  have L3 : Hid (∀ b ∈ F3, B + 1 + 1 < b) := Lib.hid (fun b hb => Nat.lt_of_lt_of_le (by have hl := (show Blk _ _ _ _ from (o_2.out.set_ 1 (.slice p2 x.pairs.length k2))).lt; exact hl) (g3 b hb))
  have D1_3 : Hid (∀ b ∈ F1, b ∉ F3) := Lib.hid (fun b h1 h2 => by have a := Q1.out.lt b h1; have c := g3 b h2; (try simp only [World.setCell, Array.size_modify] at c); omega)
  have D2_3 : Hid (∀ b ∈ F2, b ∉ F3) := Lib.hid (fun b h1 h2 => by have a := Q2.out.lt b h1; have c := g3 b h2; (try simp only [World.setCell, Array.size_modify] at c); omega)
  clear g3
  clear q3
  have a_3 : Hid (Blk w3 B 26 #[v1, v2, v3, .int .i64 x.half]) := Lib.hid (Blk.ext (by repeat (first | with_reducible exact a_2.out | refine Blk.far ?_ (by simp <;> omega) _)) hx)
  have r_3 : Hid (Blk w3 (B + 1) 33 #[.slice none 0 0, .slice none 0 0, .slice none 0 0, .int .i64 0]) := Lib.hid (Blk.ext (by repeat (first | with_reducible exact r_2.out | refine Blk.far ?_ (by simp <;> omega) _)) hx)
  have o_3 : Hid (Blk w3 (B + 1 + 1) 33 #[.slice p1 x.nodes.length k1, .slice p2 x.pairs.length k2, .slice none 0 0, .int .i64 0]) := Lib.hid (Blk.ext (by simpa using (o_2.out.set_ 1 (.slice p2 x.pairs.length k2))) hx)
  have X_3 : Hid (Ext w w3) := Lib.hid (Ext.trans (by repeat (first | with_reducible exact X_2.out | refine Ext.setCell ?_ (by show w.heap.size ≤ B + 1 + 1; rw [← HB.out]; omega) _)) hx)
  replace Q1 := Lib.hid (OwS.ext (Q1.out.kept (G := [B + 1, B + 1 + 1]) (by repeat (first | exact Kept.refl _ _ | refine Kept.setCell ?_ (by simp) _)) (fun b hb => by have := L1.out b hb; simp; omega)) hx)
  replace Q2 := Lib.hid (OwS.ext (Q2.out.kept (G := [B + 1, B + 1 + 1]) (by repeat (first | exact Kept.refl _ _ | refine Kept.setCell ?_ (by simp) _)) (fun b hb => by have := L2.out b hb; simp; omega)) hx)
  clear hx ac oc of
  have ac := a_3.out.cell
  have oc := o_3.out.cell
  have of := o_3.out.frozen
  clear a_2 r_2 o_2 X_2
  go_wp2_with (first
    | (refine wpList_load_mid rfl 33 _ rfl (B + 1 + 1) 0 rfl [.slice p1 x.nodes.length k1, .slice p2 x.pairs.length k2, .slice p3 x.quotas.length k3, .int .i64 x.half] _ ?hl Tryd.underlying33 rfl (by kernel_rfl) ?_)
    | (refine wpList_store_mid rfl 33 _ _ rfl (B + 1) 0 #[.slice p1 x.nodes.length k1, .slice p2 x.pairs.length k2, .slice p3 x.quotas.length k3, .int .i64 x.half] rfl rfl ?ht (by kernel_rfl) ?ho ?_))
  case hl => exact Blk.range (t := 33) (cs := #[.slice p1 x.nodes.length k1, .slice p2 x.pairs.length k2, .slice p3 x.quotas.length k3, .int .i64 x.half]) (by simpa using ((o_3.out.set_ 2 (.slice p3 x.quotas.length k3)).set_ 3 (.int .i64 x.half)))
  case ht => exact Blk.there (t := 33) (cs := #[.slice none 0 0, .slice none 0 0, .slice none 0 0, .int .i64 0]) (by repeat (first | with_reducible exact r_3.out | refine Blk.far ?_ (by simp <;> omega) _))
  case ho => exact all_oneCell_toArray (cs := [.slice p1 x.nodes.length k1, .slice p2 x.pairs.length k2, .slice p3 x.quotas.length k3, .int .i64 x.half]) (by simp [Value.oneCell'])
  exact bodyPost_ret (v := .agg #[.slice p1 x.nodes.length k1, .slice p2 x.pairs.length k2, .slice p3 x.quotas.length k3, .int .i64 x.half]) (results_blk Tryd.results6 rfl (Blk.setAll (t := 33) (cs := #[.slice none 0 0, .slice none 0 0, .slice none 0 0, .int .i64 0]) (vs := #[.slice p1 x.nodes.length k1, .slice p2 x.pairs.length k2, .slice p3 x.quotas.length k3, .int .i64 x.half]) (by repeat (first | with_reducible exact r_3.out | refine Blk.far ?_ (by simp <;> omega) _)) rfl) Tryd.underlying33 rfl (by kernel_rfl)) rfl ⟨_, F1 ++ (F2 ++ F3), rfl, ⟨_, _, _, F1, F2, F3, rfl, HI.out, (Q1.out.kept (G := [B + 1, B + 1 + 1]) (Kept.setCells (by simp) _ _ _ (by repeat (first | exact Kept.refl _ _ | refine Kept.setCell ?_ (by simp) _))) (fun b hb => by have := L1.out b hb; simp; omega)), (Q2.out.kept (G := [B + 1, B + 1 + 1]) (Kept.setCells (by simp) _ _ _ (by repeat (first | exact Kept.refl _ _ | refine Kept.setCell ?_ (by simp) _))) (fun b hb => by have := L2.out b hb; simp; omega)), (Q3.out.kept (G := [B + 1, B + 1 + 1]) (Kept.setCells (by simp) _ _ _ (by repeat (first | exact Kept.refl _ _ | refine Kept.setCell ?_ (by simp) _))) (fun b hb => by have := L3.out b hb; simp; omega)), rfl, (nodup_two Q1.out.nodup (nodup_two Q2.out.nodup Q3.out.nodup (fun b hb hm => by (try simp only [List.mem_append] at hm); exact D2_3.out b hb hm)) (fun b hb hm => by (try simp only [List.mem_append] at hm); rcases hm with hm | hm <;> first | exact D1_2.out b hb hm | exact D1_3.out b hb hm))⟩, fun b hb => (by rw [← HB.out]; simp only [List.mem_append] at hb; rcases hb with hb | hb | hb <;> first | (have := L1.out b hb; omega) | (have := L2.out b hb; omega) | (have := L3.out b hb; omega)), setCells_ext (by rw [← HB.out]; omega) _ _ _ (by repeat (first | with_reducible exact X_3.out | refine Ext.setCell ?_ (by show w.heap.size ≤ B + 1 + 1; rw [← HB.out]; omega) _))⟩

end Go.Proofs.YtjiipmkehdiiiaaDoor

namespace Go.Proofs.YtjiipmkehdiiiaaDoor
open Go.RowKit
attribute [local irreducible] wpQuiet

end Go.Proofs.YtjiipmkehdiiiaaDoor

/- The rows of spans of nodes: the program's and the reference's. Printed by wip/noderows.py. -/
import Derived.Test.YtbdicafambkhdaaNodeC
import Derived.Test.YtbdicafambkhdaaCounts
namespace Go.Proofs.Ytbdicafambkhdaa
open Go.RowKit
attribute [local irreducible] wpQuiet

/-- A new row of one element that leads to no memory. -/
theorem ow_one {α : Type} [Inhabited α] {E : Elem α} {hfl : ∀ {S S' : Nat → Prop} {w w' : World} {cs x}, E.rel S w cs x → E.rel S' w' cs x} (T : TypeId) (w : World) (cs : List Value) (x : α) (h : E.rel (fun _ => False) w cs x) :
    OwS (OFlat E hfl) T (w.alloc (.cells cs.toArray T)) (.slice (some ⟨w.heap.size, 0, none⟩) 1 1) [x] [w.heap.size] := by
  refine .inr ⟨w.heap.size, 1, cs.toArray, [[]], rfl, heap_alloc_new w _, Nat.le_refl _, (by decide), ?_, rfl, rfl, by simp, fun k hk => ?_⟩
  · rw [List.size_toArray, E.len h, Nat.one_mul]
  · obtain rfl : k = 0 := by simpa using hk
    exact ⟨cs, ⟨hfl h, rfl⟩, by rw [Nat.zero_mul]; exact (Blk.new w T cs.toArray).range⟩

theorem ow_span (T : TypeId) (w : World) (x : Span) (h : FitSpan x) : OwS OSpan T (w.alloc (.cells #[.int .i64 x.from_, .int .i64 x.to_] T)) (.slice (some ⟨w.heap.size, 0, none⟩) 1 1) [x] [w.heap.size] :=
  ow_one (E := ESpan) (hfl := fun h => h) T w [.int .i64 x.from_, .int .i64 x.to_] x (rel_Span h)

set_option maxRecDepth 50000 in
theorem whole_any (w : World) : Calls Try.prog 132 #[] w (RetO OSpan 25 [⟨0, 1000000⟩] w) := by
  go_enter Try.func132, Try.ntmps132
  go_wp2_with fail
  go_ret
  exact ⟨_, _, rfl, ow_span 25 w ⟨0, 1000000⟩ (by simp [FitSpan, I64]), fun b hb => by rw [List.mem_singleton.1 hb]; exact Nat.le_refl _, (Ext.refl _).alloc _⟩

set_option maxHeartbeats 8000000 in
set_option maxRecDepth 100000 in
theorem rowsOf_any {S : Nat → Prop} (l : List Node) (shut : Int) (v : Value) (w : World) (h : Rd ENode S w v l) :
    Calls Try.prog 76 #[v, .int .i64 shut] w (RetO (ORow OSpan 25) 39 (rowsOf l shut) w) := by
  have HR := Lib.hid h
  obtain ⟨A, c, rfl, h1, h2, hk⟩ := h.open_
  unfold maxLen at h2
  have HK := Lib.hid hk
  clear hk h
  cases ht : nodesRight l with
  | false =>
    have HE : Hid (rowsOf l shut = []) := Lib.hid (by rw [rowsOf, ht]; rfl)
    go_enter Try.func76, Try.ntmps76
    go_wp2_with (go_at_call 13; (with_reducible refine (nodesRight_any (S := S) l _ _ HR.out).mono ?_); rintro e w1 ⟨rfl, hx1⟩; have X1 := Lib.hid hx1; clear hx1)
    go_ret
    exact ⟨_, [], rfl, by rw [HE.out]; exact OwS.nil _, fun b hb => (by cases hb), X1.out⟩
  | true =>
  have HT := Lib.hid ht
  have HE : Hid (rowsOf l shut = l.map (rowOfNode shut)) := Lib.hid (by rw [rowsOf, if_pos ht])
  have hl := (nodesRight_length ht).2
  rw [HE.out]
  go_enter Try.func76, Try.ntmps76
  go_wp2_with (go_at_call 13; (with_reducible refine (nodesRight_any (S := S) l _ _ HR.out).mono ?_); rintro e w0 ⟨rfl, hx1⟩; have XX := Lib.hid hx1; clear hx1)
  clear ht
  obtain ⟨W, B, hW, hB, hx0, b0⟩ : ∃ W B, W = w0.alloc (.cells #[] 39) ∧ B = w0.heap.size ∧ Ext w0 W ∧ Blk W B 39 #[] := ⟨_, _, rfl, rfl, (Ext.refl _).alloc _, Blk.new _ _ _⟩
  rw [← hW, ← hB]
  have HB : Hid (w.heap.size ≤ B) := Lib.hid (by have := XX.out.size; omega)
  have B0 := Lib.hid b0
  have X0 := Lib.hid (XX.out.trans hx0)
  clear hW hB hx0 b0
  go_loopw [5, 14] (fun v i w' => ∃ (k : Nat) (F : List Nat), k ≤ l.length ∧ i = .int .i64 k ∧ OwS (ORow OSpan 25) 39 w' v ((l.take k).map (rowOfNode shut)) F ∧ (∀ b ∈ F, w.heap.size ≤ b) ∧ Ext w w') (fun _ i _ => l.length - (intOf i).toNat)
  case atStart => exact ⟨0, [B], by omega, rfl, .inr ⟨B, 0, #[], [], rfl, B0.out, Nat.le_refl _, Nat.zero_le _, rfl, rfl, rfl, by simp, fun k hk => absurd hk (Nat.not_lt_zero _)⟩, fun b hb => by rw [List.mem_singleton.1 hb]; exact HB.out, X0.out⟩
  case round =>
    obtain ⟨k, F, hk1, rfl, hown, hF, hx⟩ := hrel
    have HO := Lib.hid hown
    have HF := Lib.hid hF
    have HX := Lib.hid hx
    have LF := Lib.hid hown.lt
    clear hown hF
    by_cases hlt : k < l.length
    · obtain ⟨b, q, cs, rfl, _, ⟨v1, rfl, hfit, hrd⟩, hc⟩ := HK.out k hlt
      obtain ⟨A1, d1, rfl, -⟩ := hrd.form
      have c0 := Ext.some hx (hc 0 _ rfl)
      have c1 := Ext.some hx (hc 1 _ rfl)
      simp only [ENode, Nat.add_zero] at c0 c1
      have HRD := Lib.hid (hrd.ext hx)
      have HN := Lib.hid (nodesRight_books HT.out hlt).1
      have HM := Lib.hid (take_map_succ (f := rowOfNode shut) hlt)
      have ND0 := Lib.hid HO.out.nodup
      clear hc hfit hx hrd
      have X5 : Hid (Ext wr (wr.alloc (.cells #[.int .i64 (nth l k).state, .slice A1 (nth l k).books.length d1] 42))) := Lib.hid ((Ext.refl _).alloc _)
      by_cases hs : shut ≤ (nth l k).state
      · have HY : Hid (rowOfNode shut (nth l k) = [⟨0, 1000000⟩]) := Lib.hid (by rw [rowOfNode, if_pos hs])
        go_wp2_with (first | (go_at_call 132; (with_reducible refine (whole_any _).mono ?_); rintro e w1 ⟨u1, G1, rfl, q1, g1, hx1⟩; obtain ⟨p1, k1, rfl, -⟩ := OwS.form q1; have Q1 := Lib.hid q1; have X51 := Lib.hid (X5.out.trans hx1); have Z1 : Hid (∀ b ∈ G1, wr.heap.size ≤ b) := Lib.hid (fun b hb => Nat.le_trans X5.out.size (g1 b hb)); have ND : Hid ((F ++ G1).Nodup) := Lib.hid (nodup_two ND0.out (OwS.nodup q1) (fun b h1 h2 => absurd (LF.out b h1) (Nat.not_lt.2 (Nat.le_trans X5.out.size (g1 b h2))))); clear q1 g1 hx1) | (at_builtin; refine wpList_append_one (O := (ORow OSpan 25)) (T := 39) (l := (l.take k).map (rowOfNode shut)) (F := F) (G := G1) (y := rowOfNode shut (nth l k)) rfl _ _ 36 rfl (.slice none 0 0) 1 24 Try.underlying36 (by kernel_rfl) rfl rfl rfl (HO.out.ext (X51.out.alloc _)) _ 0 1 rfl ⟨_, rfl, by rw [HY.out]; exact Q1.out.ext ((Ext.refl _).alloc _)⟩ (Blk.new _ _ _).range ND.out (by rw [List.length_map, List.length_take]; omega) (by decide) ?_; intro v' w9 F' how hkp hF'; have HOW := Lib.hid how; have HKP := Lib.hid hkp; have HFF := Lib.hid hF'; clear how hkp hF'))
        (refine ⟨⟨k + 1, F', by omega, by go_num, by rw [HM.out]; exact HOW.out, fun b hb => match HFF.out b hb with | .inl h => HF.out b h | .inr (.inl h) => Nat.le_trans HX.out.size (Z1.out b h) | .inr (.inr h) => Nat.le_trans ((HX.out.trans X51.out).alloc _).size h, HKP.out.ext ((HX.out.trans X51.out).alloc _) HF.out⟩, ?_⟩; simp [intOf]; omega)
      · have HY : Hid (rowOfNode shut (nth l k) = (nth l k).books) := Lib.hid (by rw [rowOfNode, if_neg hs])
        have hs' : (nth l k).state < shut := by omega
        clear hs
        go_wp2_with (first | (go_at_call 129; (with_reducible refine (cloneSpan_any (S := S) (nth l k).books _ _ (HRD.out.ext X5.out) (by have := HN.out; omega)).mono ?_); rintro e w1 ⟨u1, G1, rfl, q1, g1, hx1⟩; obtain ⟨p1, k1, rfl, -⟩ := OwS.form q1; have Q1 := Lib.hid q1; have X51 := Lib.hid (X5.out.trans hx1); have Z1 : Hid (∀ b ∈ G1, wr.heap.size ≤ b) := Lib.hid (fun b hb => Nat.le_trans X5.out.size (g1 b hb)); have ND : Hid ((F ++ G1).Nodup) := Lib.hid (nodup_two ND0.out (OwS.nodup q1) (fun b h1 h2 => absurd (LF.out b h1) (Nat.not_lt.2 (Nat.le_trans X5.out.size (g1 b h2))))); clear q1 g1 hx1) | (at_builtin; refine wpList_append_one (O := (ORow OSpan 25)) (T := 39) (l := (l.take k).map (rowOfNode shut)) (F := F) (G := G1) (y := rowOfNode shut (nth l k)) rfl _ _ 36 rfl (.slice none 0 0) 1 24 Try.underlying36 (by kernel_rfl) rfl rfl rfl (HO.out.ext (X51.out.alloc _)) _ 0 1 rfl ⟨_, rfl, by rw [HY.out]; exact Q1.out.ext ((Ext.refl _).alloc _)⟩ (Blk.new _ _ _).range ND.out (by rw [List.length_map, List.length_take]; omega) (by decide) ?_; intro v' w9 F' how hkp hF'; have HOW := Lib.hid how; have HKP := Lib.hid hkp; have HFF := Lib.hid hF'; clear how hkp hF'))
        (refine ⟨⟨k + 1, F', by omega, by go_num, by rw [HM.out]; exact HOW.out, fun b hb => match HFF.out b hb with | .inl h => HF.out b h | .inr (.inl h) => Nat.le_trans HX.out.size (Z1.out b h) | .inr (.inr h) => Nat.le_trans ((HX.out.trans X51.out).alloc _).size h, HKP.out.ext ((HX.out.trans X51.out).alloc _) HF.out⟩, ?_⟩; simp [intOf]; omega)
    · obtain rfl : k = l.length := by omega
      go_wp2_with fail
      go_ret
      exact ⟨_, F, rfl, by have h := HO.out; rw [List.take_length] at h; exact h, HF.out, HX.out⟩

set_option maxRecDepth 50000 in
theorem rowsNew_any {S : Nat → Prop} (l : List Node) (v : Value) (w : World) (h : Rd ENode S w v l) :
    Calls Try.prog 15 #[v] w (RetO (ORow OSpan 25) 39 (rowsOf l 2) w) := by
  obtain ⟨A, c, rfl, -⟩ := h.form
  have HR := Lib.hid h
  clear h
  go_enter Try.func15, Try.ntmps15
  go_wp2_with fail
  refine (rowsOf_any (S := S) l 2 _ _ HR.out).mono ?_
  rintro e w1 ⟨u1, G1, rfl, q1, g1, hx1⟩
  go_wp2_with fail
  go_ret
  exact ⟨_, G1, rfl, q1, g1, hx1⟩
set_option maxRecDepth 50000 in
theorem rowsHard_any {S : Nat → Prop} (l : List Node) (v : Value) (w : World) (h : Rd ENode S w v l) :
    Calls Try.prog 19 #[v] w (RetO (ORow OSpan 25) 39 (rowsOf l 3) w) := by
  obtain ⟨A, c, rfl, -⟩ := h.form
  have HR := Lib.hid h
  clear h
  go_enter Try.func19, Try.ntmps19
  go_wp2_with fail
  refine (rowsOf_any (S := S) l 3 _ _ HR.out).mono ?_
  rintro e w1 ⟨u1, G1, rfl, q1, g1, hx1⟩
  go_wp2_with fail
  go_ret
  exact ⟨_, G1, rfl, q1, g1, hx1⟩
theorem rowsOf_bound {l : List Node} {sh : Int} (h : SmNodeS l) : 1 + ((cntL cntNode l : Nat) : Int) ≤ 1125899906842624 ∧ 1 + ((cntL (cntL cntSpan) (rowsOf l sh) : Nat) : Int) ≤ 1125899906842624 := by
  have h1 := cnt_nodes h
  have h2 : cntL (cntL cntSpan) (rowsOf l sh) ≤ 48 := by
    unfold rowsOf
    split
    · rename_i ht
      have hl := (nodesRight_length ht).2
      have hc := cnt_all (n := cntL cntSpan) (c := 8) (l := l.map (rowOfNode sh)) fun r hr => by
        obtain ⟨x, hx, rfl⟩ := List.mem_map.1 hr
        obtain ⟨k, hk, rfl⟩ := List.getElem_of_mem hx
        have hb := (nodesRight_books ht hk).1
        rw [nth_eq hk] at hb
        have hs := cnt_spans (rowOfNode sh l[k])
        have : (rowOfNode sh l[k]).length ≤ 4 := by
          unfold rowOfNode
          split
          · simp
          · exact hb
        omega
      rw [List.length_map] at hc
      omega
    · simp [cntL]
  omega

end Go.Proofs.Ytbdicafambkhdaa

/- What is booked is taken, and can be given up again; a node that is away is taken wholly: the plain law of FnNodes. -/
import Derived.Test.YtbdicafambkhdaaBookPutB
import Derived.Test.YtbdicafambkhdaaBookCut
namespace Go.Proofs.Ytbdicafambkhdaa
open Go.RowKit

def Behind (a b : Span) : Prop := a.to_ ≤ b.from_

theorem spans_pair {l : List Span} : spansRight l = true ↔ l.length ≤ 20 ∧ (∀ x ∈ l, spanRight x = true) ∧ l.Pairwise Behind := by
  constructor
  · intro h
    have hall : ∀ t, t < l.length → spanAt l t = true := fun t ht => by
      simp only [spansRight, Bool.and_eq_true, List.all_eq_true, List.mem_range] at h
      exact h.2 t ht
    refine ⟨?_, ?_, ?_⟩
    · simp only [spansRight, Bool.and_eq_true, decide_eq_true_eq] at h
      exact h.1
    · intro x hx
      obtain ⟨i, hi, rfl⟩ := List.getElem_of_mem hx
      have := hall i hi
      simp only [spanAt, Bool.and_eq_true] at this
      rw [← nth_eq hi]
      exact this.1
    · rw [List.pairwise_iff_getElem]
      intro i j hi hj hij
      unfold Behind
      rw [← nth_eq hi, ← nth_eq hj]
      have h1 : (nth l i).to_ ≤ (nth l (i + 1)).from_ := by
        have := hall (i + 1) (by omega)
        rw [spanAt_succ] at this
        simp only [Bool.and_eq_true, decide_eq_true_eq] at this
        exact this.2
      rcases Nat.lt_or_ge (i + 1) j with h2 | h2
      · have := spans_up h h2 hj
        omega
      · obtain rfl : i + 1 = j := by omega
        exact h1
  · rintro ⟨h1, h2, h3⟩
    rw [spansRight_of, decide_eq_true_eq]
    · exact h1
    · intro i hi
      cases i with
      | zero => rw [spanAt_zero]; exact h2 _ (nth_mem hi)
      | succ m =>
        rw [spanAt_succ, Bool.and_eq_true, decide_eq_true_eq]
        refine ⟨h2 _ (nth_mem hi), ?_⟩
        rw [List.pairwise_iff_getElem] at h3
        have := h3 m (m + 1) (by omega) hi (by omega)
        rwa [← nth_eq, ← nth_eq] at this

theorem span_right {x : Span} (h : spanRight x = true) : 0 ≤ x.from_ ∧ x.from_ < x.to_ ∧ x.to_ ≤ 1000000 := by
  simp only [spanRight, timeOk, Bool.and_eq_true, decide_eq_true_eq] at h
  have h1 := isB_true h.1.1
  have h2 := isB_true h.1.2
  omega

theorem free_mem {l : List Span} {x : Span} (h : freeOf l x = true) {o : Span} (ho : o ∈ l) : laps x o = false := by
  obtain ⟨i, hi, rfl⟩ := List.getElem_of_mem ho
  rw [← nth_eq hi]
  exact free_all h hi
theorem free_of_mem {l : List Span} {x : Span} (h : ∀ o ∈ l, laps x o = false) : freeOf l x = true := free_yes fun _ hk => h _ (nth_mem hk)
theorem laps_false {x o : Span} (h : laps x o = false) : x.to_ ≤ o.from_ ∨ o.to_ ≤ x.from_ := by
  simp only [laps, Bool.and_eq_false_iff, decide_eq_false_iff_not] at h
  omega

theorem ins_right {l : List Span} {x : Span} (h : spansRight l = true) (hx : spanRight x = true) (hf : freeOf l x = true) (hn : l.length ≤ 19) : spansRight (spanIns l x) = true := by
  obtain ⟨_, h2, h3⟩ := spans_pair.1 h
  have hx3 := span_right hx
  rw [spans_pair]
  refine ⟨by rw [spanIns_length]; omega, ?_, ?_⟩
  · intro y hy
    unfold spanIns at hy
    rw [List.mem_append, List.mem_cons] at hy
    rcases hy with hy | rfl | hy
    · exact h2 y (List.mem_of_mem_take hy)
    · exact hx
    · exact h2 y (List.mem_of_mem_drop hy)
  · unfold spanIns
    have hp := h3
    rw [← List.take_append_drop (insAt l x) l, List.pairwise_append] at hp
    obtain ⟨p1, p2, p3⟩ := hp
    have lo : ∀ y ∈ l.take (insAt l x), Behind y x := by
      intro y hy
      obtain ⟨i, hi, rfl⟩ := List.getElem_of_mem hy
      rw [List.length_take] at hi
      rw [List.getElem_take]
      have hil : i < l.length := by omega
      have a1 := insAt_low l x i (by omega)
      have a2 := laps_false (free_all hf hil)
      rw [← nth_eq hil]
      have a3 := span_right (h2 _ (nth_mem hil))
      unfold Behind
      omega
    have hi : ∀ y ∈ l.drop (insAt l x), Behind x y := by
      intro y hy
      obtain ⟨i, hi, rfl⟩ := List.getElem_of_mem hy
      rw [List.length_drop] at hi
      rw [List.getElem_drop]
      have hil : insAt l x + i < l.length := by omega
      rw [← nth_eq hil]
      have a0 := insAt_at l x (by omega)
      have a1 : (nth l (insAt l x)).from_ ≤ (nth l (insAt l x + i)).from_ := by
        rcases Nat.eq_zero_or_pos i with h0 | h0
        · subst h0; exact Int.le_refl _
        · exact Int.le_of_lt (spans_up h (by omega) hil)
      have a2 := laps_false (free_all hf hil)
      have a3 := span_right (h2 _ (nth_mem hil))
      unfold Behind
      omega
    rw [List.pairwise_append, List.pairwise_cons]
    refine ⟨p1, ⟨hi, p2⟩, ?_⟩
    intro a ha b hb
    rw [List.mem_cons] at hb
    rcases hb with rfl | hb
    · exact lo a ha
    · exact p3 a ha b hb

theorem filter_right {l : List Span} {p : Span → Bool} (h : spansRight l = true) : spansRight (l.filter p) = true := by
  obtain ⟨h1, h2, h3⟩ := spans_pair.1 h
  exact spans_pair.2 ⟨Nat.le_trans (List.length_filter_le _ _) h1, fun x hx => h2 x (List.mem_filter.1 hx).1, h3.filter p⟩

theorem mem_ins {l : List Span} {x y : Span} : y ∈ spanIns l x ↔ y = x ∨ y ∈ l := by
  unfold spanIns
  rw [List.mem_append, List.mem_cons]
  conv => rhs; rw [← List.take_append_drop (insAt l x) l, List.mem_append]
  constructor
  · rintro (h | h | h) <;> simp [h]
  · rintro (h | h | h) <;> simp [h]

theorem lap_self {x : Span} (h : spanRight x = true) : laps x x = true := by
  have := span_right h
  simp [laps]; omega

theorem not_free {l : List Span} {x o : Span} (ho : o ∈ l) (h : laps x o = true) : freeOf l x = false := by
  obtain ⟨i, hi, rfl⟩ := List.getElem_of_mem ho
  rw [← nth_eq hi] at h
  exact free_no hi h

theorem ins_filter {l : List Span} {x : Span} (hs : spansRight l = true) (hx : spanRight x = true) (hf : freeOf l x = true) : (spanIns l x).filter (notFrom x.from_) = l := by
  have hx3 := span_right hx
  have hno : ∀ y ∈ l, notFrom x.from_ y = true := by
    intro y hy
    have a2 := laps_false (free_mem hf hy)
    have a3 := span_right ((spans_pair.1 hs).2.1 y hy)
    simp only [notFrom, Bool.not_eq_true', decide_eq_false_iff_not]
    omega
  unfold spanIns
  rw [List.filter_append, List.filter_cons_of_neg (by simp [notFrom]), ← List.filter_append, List.take_append_drop]
  exact List.filter_eq_self.2 hno

theorem nodes_right_of {l : List Node} (h1 : 1 ≤ l.length ∧ l.length ≤ 6) (h2 : ∀ k, k < l.length → nodeOk (nth l k) = true) : nodesRight l = true := by
  unfold nodesRight
  rw [Bool.and_eq_true]
  refine ⟨isB_iff.2 (by omega), all_of_nth h2⟩

theorem set_right {l : List Node} {d : Nat} {y : Node} (h : nodesRight l = true) (hd : d < l.length) (hy : nodeOk y = true) : nodesRight (l.set d y) = true := by
  refine nodes_right_of (by rw [List.length_set]; exact nodesRight_length h) ?_
  intro k hk
  rw [List.length_set] at hk
  by_cases hkd : k = d
  · subst hkd; rw [nth_set_eq hk]; exact hy
  · rw [nth_set_ne hkd hk]; exact nodesRight_node h hk

theorem nth_map {α β : Type} [Inhabited α] [Inhabited β] {f : α → β} {l : List α} {k : Nat} (h : k < l.length) : nth (l.map f) k = f (nth l k) := by
  rw [nth_eq (by simpa using h), nth_eq h, List.getElem_map]

/-- What a booking that was taken leaves. -/
structure Booked (l : List Node) (n : Int) (x : Span) (ys : List Node) (d : Nat) : Prop where
  num : n = (d : Int)
  lt : d < l.length
  len : ys.length = l.length
  rows : (rowsOf ys 2).length = l.length
  taken : (spansRight (nth (rowsOf ys 2) d) && spanRight x && freeOf (nth (rowsOf ys 2) d) x) = false
  cut : bookCut ys n x.from_ = ⟨l, 0⟩
  past : (booksPass ys x.to_).length = l.length
  free : (spansRight (nth (booksPass ys x.to_) d).books && spanRight x && freeOf (nth (booksPass ys x.to_) d).books x) = true

theorem booked {l : List Node} {n : Int} {x : Span} {now : Int} (h : (bookPut l n x now).code = 0) : ∃ d, Booked l n x (bookPut l n x now).nodes d := by
  unfold bookPut at h ⊢
  split at h <;> first | (exact absurd h (by decide)) | skip
  rename_i h1
  split at h <;> first | (exact absurd h (by decide)) | skip
  rename_i h2
  split at h <;> first | (exact absurd h (by decide)) | skip
  rename_i h3
  split at h <;> first | (exact absurd h (by decide)) | skip
  rename_i h4
  split at h <;> first | (exact absurd h (by decide)) | skip
  rename_i h5
  split at h <;> first | (exact absurd h (by decide)) | skip
  rename_i h6
  rw [if_neg h1, if_neg h2, if_neg h3, if_neg h4, if_neg h5, if_neg h6]
  have g2 := (Bool.not_eq_false _).mp h2
  simp only [Bool.and_eq_true] at g2
  obtain ⟨⟨hr, hx⟩, -⟩ := g2
  obtain ⟨d, rfl, hd⟩ := isNode_nat ((Bool.not_eq_false _).mp h3)
  have hf := (Bool.not_eq_false _).mp h5
  simp only [Int.toNat_natCast] at hf h6 ⊢
  obtain ⟨hb4, hbs⟩ := nodesRight_books hr hd
  have hst := nodesRight_state hr hd
  have hir := ins_right hbs hx hf (by omega)
  have hok : nodeOk { nth l d with books := spanIns (nth l d).books x } = true := by
    have := nodesRight_node hr hd
    simp only [nodeOk, Bool.and_eq_true, decide_eq_true_eq] at this ⊢
    exact ⟨this.1, by rw [spanIns_length]; omega, hir⟩
  have hys := set_right hr hd hok
  have hl6 := nodesRight_length hr
  have hnth : nth (l.set d { nth l d with books := spanIns (nth l d).books x }) d = { nth l d with books := spanIns (nth l d).books x } := nth_set_eq hd
  generalize hy : l.set d { nth l d with books := spanIns (nth l d).books x } = ys at *
  have hlen : ys.length = l.length := by rw [← hy, List.length_set]
  refine ⟨d, rfl, hd, hlen, ?_, ?_, ?_, ?_, ?_⟩
  · simp [rowsOf, hys, hlen]
  · rw [rowsOf, if_pos hys, nth_map (by omega), hnth]
    unfold rowOfNode
    have hx3 := span_right hx
    split
    · rw [not_free (o := ⟨0, 1000000⟩) (by simp) (by simp [laps]; omega), Bool.and_false]
    · rw [not_free (o := x) (mem_ins.2 (.inl rfl)) (lap_self hx), Bool.and_false]
  · unfold bookCut
    have hn : isNode ys (d : Int) = true := isB_iff.2 (by omega)
    have hat : ¬ bookAt (nth ys (d : Int).toNat).books x.from_ < 0 := by
      rw [Int.toNat_natCast, hnth]
      have : decide (0 ≤ idxOf (fun y : Span => decide (y.from_ = x.from_)) (spanIns (nth l d).books x)) = true := by
        rw [idxOf_any, List.any_eq_true]
        exact ⟨x, mem_ins.2 (.inl rfl), by simp⟩
      have := of_decide_eq_true this
      unfold bookAt
      simp only
      omega
    rw [if_neg (by omega), if_neg (by rw [hys]; decide), if_neg (by rw [hn]; decide), if_neg hat]
    rw [Int.toNat_natCast, hnth]
    have e := ins_filter hbs hx hf
    unfold notFrom at e
    simp only
    rw [e, ← hy, List.set_set]
    congr 1
    refine eq_of_nth (by rw [List.length_set]) fun j hj => ?_
    rw [List.length_set] at hj
    by_cases hjd : j = d
    · subst hjd; rw [nth_set_eq hj]
    · rw [nth_set_ne hjd hj]
  · simp [booksPass, hys, hlen]
  · rw [booksPass, if_pos hys, nth_map (by omega), hnth]
    simp only [passNode]
    rw [filter_right hir, hx, Bool.true_and, Bool.true_and]
    refine free_of_mem fun o ho => ?_
    obtain ⟨h7, h8⟩ := List.mem_filter.1 ho
    rcases mem_ins.1 h7 with rfl | h7
    · simp [passed] at h8
    · exact free_mem hf h7

/-- What setting a node's state leaves. -/
structure Turned (l : List Node) (n st : Int) (ys : List Node) (d : Nat) : Prop where
  num : n = (d : Int)
  lt : d < l.length
  len : ys.length = l.length
  rowsNew : (rowsOf ys 2).length = l.length
  rowsHard : (rowsOf ys 3).length = l.length
  low : 1 ≤ st
  high : st ≤ 3
  new_ : nth (rowsOf ys 2) d = if 2 ≤ st then [⟨0, 1000000⟩] else (nth ys d).books
  hard : nth (rowsOf ys 3) d = if 3 ≤ st then [⟨0, 1000000⟩] else (nth ys d).books

theorem turned {l : List Node} {n st : Int} (h : (nodeSet l n st).code = 0) : ∃ d, Turned l n st (nodeSet l n st).nodes d := by
  unfold nodeSet at h ⊢
  split at h <;> first | (exact absurd h (by decide)) | skip
  rename_i h1
  split at h <;> first | (exact absurd h (by decide)) | skip
  rename_i h2
  split at h <;> first | (exact absurd h (by decide)) | skip
  rename_i h3
  split at h <;> first | (exact absurd h (by decide)) | skip
  rename_i h4
  rw [if_neg h1, if_neg h2, if_neg h3, if_neg h4]
  simp only [not_or, Bool.not_eq_false] at h2
  obtain ⟨hr, hs⟩ := h2
  obtain ⟨d, rfl, hd⟩ := isNode_nat ((Bool.not_eq_false _).mp h3)
  simp only [Int.toNat_natCast]
  have hok : nodeOk { nth l d with state := st } = true := by
    have := nodesRight_node hr hd
    simp only [nodeOk, Bool.and_eq_true] at this ⊢
    exact ⟨hs, this.2⟩
  have hys := set_right hr hd hok
  have hnth : nth (l.set d { nth l d with state := st }) d = { nth l d with state := st } := nth_set_eq hd
  have h13 := isB_true hs
  generalize hy : l.set d { nth l d with state := st } = ys at *
  have hlen : ys.length = l.length := by rw [← hy, List.length_set]
  refine ⟨d, rfl, hd, hlen, by simp [rowsOf, hys, hlen], by simp [rowsOf, hys, hlen], h13.1, h13.2, ?_, ?_⟩
  all_goals
    rw [rowsOf, if_pos hys, nth_map (by omega), hnth]
    rfl
end Go.Proofs.Ytbdicafambkhdaa

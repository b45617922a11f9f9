/- What the functions on nodes compute, in plain Lean. Small functions on nodes. Copies of nodes, with reservations of their own. Printed by wip/nodec.py. -/
import Derived.Test.YtbdicafambkhdaaNodes
import Derived.Test.YtbdicafambkhdaaOwn2
import Derived.Test.YtbdicafambkhdaaClones
import Derived.Deep.RegionHeld3
namespace Go.Proofs.Ytbdicafambkhdaa
open Go.RowKit

def rowOfNode (shut : Int) (x : Node) : List Span := if shut ≤ x.state then [⟨0, 1000000⟩] else x.books
def rowsOf (l : List Node) (shut : Int) : List (List Span) := if nodesRight l = true then l.map (rowOfNode shut) else []
def passed (now : Int) (x : Span) : Bool := decide (now < x.to_)
def passNode (now : Int) (x : Node) : Node := { x with books := x.books.filter (passed now) }
def booksPass (l : List Node) (now : Int) : List Node := if nodesRight l = true then l.map (passNode now) else []
def nodesNew (n : Int) : List Node := if isB n 1 6 = true then List.replicate n.toNat ⟨1, []⟩ else []
def isNode (l : List Node) (n : Int) : Bool := isB n 0 ((l.length : Int) - 1)
def nodeSet (l : List Node) (n state : Int) : NodesOut :=
  if 400 < l.length then ⟨[], 2⟩ else if nodesRight l = false ∨ stateOk state = false then ⟨[], 1⟩ else if isNode l n = false then ⟨[], 6⟩ else if (nth l n.toNat).state = state then ⟨[], 10⟩
  else ⟨l.set n.toNat { nth l n.toNat with state := state }, 0⟩
def bookAt (l : List Span) (from_ : Int) : Int := idxOf (fun x => decide (x.from_ = from_)) l
def bookCut (l : List Node) (n from_ : Int) : NodesOut :=
  if 400 < l.length then ⟨[], 2⟩ else if nodesRight l = false then ⟨[], 1⟩ else if isNode l n = false then ⟨[], 6⟩ else if bookAt (nth l n.toNat).books from_ < 0 then ⟨[], 6⟩
  else ⟨l.set n.toNat { nth l n.toNat with books := (nth l n.toNat).books.filter fun x => !decide (x.from_ = from_) }, 0⟩

theorem nodesRight_length {l : List Node} (h : nodesRight l = true) : 1 ≤ l.length ∧ l.length ≤ 6 := by
  simp only [nodesRight, Bool.and_eq_true] at h
  have := isB_true h.1
  omega
theorem nodesRight_node {l : List Node} (h : nodesRight l = true) {k : Nat} (hk : k < l.length) : nodeOk (nth l k) = true := by
  simp only [nodesRight, Bool.and_eq_true, List.all_eq_true] at h
  exact h.2 _ (nth_mem hk)
theorem nodesRight_books {l : List Node} (h : nodesRight l = true) {k : Nat} (hk : k < l.length) : (nth l k).books.length ≤ 4 ∧ spansRight (nth l k).books = true := by
  have := nodesRight_node h hk
  simp only [nodeOk, Bool.and_eq_true, decide_eq_true_eq] at this
  exact this.2
theorem nodesRight_state {l : List Node} (h : nodesRight l = true) {k : Nat} (hk : k < l.length) : 1 ≤ (nth l k).state ∧ (nth l k).state ≤ 3 := by
  have := nodesRight_node h hk
  simp only [nodeOk, Bool.and_eq_true] at this
  exact isB_true this.1
end Go.Proofs.Ytbdicafambkhdaa

namespace Go.Proofs.Ytbdicafambkhdaa
open Go.RowKit
attribute [local irreducible] wpQuiet

theorem isNode_nat {l : List Node} {n : Int} (h : isNode l n = true) : ∃ d : Nat, n = (d : Int) ∧ d < l.length := by
  have := isB_true h
  exact ⟨n.toNat, by omega, by omega⟩
theorem fit_state {st : Int} {x : Node} (h : stateOk st = true) : FitNode { x with state := st } := by
  have := isB_true h
  unfold FitNode I64
  simp only
  omega
theorem range_back {w : World} {B o : Nat} {a b b' : List Value} (h : w.rangeAt B o (a ++ b)) (ht : w.there B (o + a.length) b'.length) : (w.setCells B (o + a.length) b').rangeAt B o (a ++ b') := by
  intro j u hj
  by_cases hlt : j < a.length
  · rw [World.cell?_setCells_out B b' (o + a.length) w ⟨B, o + j, none⟩ (fun _ _ => by simp only; omega)]
    rw [List.getElem?_append_left hlt] at hj
    exact h j u (by rw [List.getElem?_append_left hlt]; exact hj)
  · rw [List.getElem?_append_right (by omega)] at hj
    have := World.rangeAt_setCells_same w B (o + a.length) b' ht (j - a.length) u hj
    rwa [show o + a.length + (j - a.length) = o + j by omega] at this
theorem there_ext {w w' : World} {B o n : Nat} (h : w.there B o n) (hx : Ext w w') (hB : B < w.heap.size) : w'.there B o n := fun j hj => by
  rw [hx.cells B (o + j) hB, hx.frozens B (o + j) hB]
  exact h j hj
theorem there_sub {w : World} {B o n m : Nat} {i : Nat} (h : w.there B o n) (hi : i + m ≤ n) : w.there B (o + i) m := fun j hj => by
  have := h (i + j) (by omega)
  rwa [← Nat.add_assoc] at this
theorem blk_lt_of {T : TypeId} {B o n : Nat} {w w' : World} (h : RowBut T B o n w w') : B < w.heap.size := by
  obtain ⟨_, _, g, _⟩ := h
  exact blk_lt g

theorem isNodeOf_any (l : List Node) (n : Int) (A : Option Addr) (c : Nat) (w : World) (hl : l.length ≤ 400) :
    Calls Try.prog 56 #[.slice A l.length c, .int .i64 n] w fun e w' => e = .returned (.bool (isNode l n)) ∧ w = w' := by
  go_enter Try.func56, Try.ntmps56
  go_wp2_with (go_at_call 71; refine (within_any _ _ _ _).mono ?_; rintro e w' ⟨rfl, rfl⟩)
  go_ret
  exact ⟨ret_bool rfl, rfl⟩
theorem l10Place_any (l : List Node) (n : Int) (A : Option Addr) (c : Nat) (w : World) (_hl : l.length ≤ 400) :
    Calls Try.prog 63 #[.slice A l.length c, .int .i64 n] w fun e w' => e = .returned (.bool (isNode l n)) ∧ w = w' := by
  go_enter Try.func63, Try.ntmps63
  go_wp2_with fail
  all_goals (go_ret; exact ⟨ret_bool (by unfold isNode isB; go_light; grind), rfl⟩)
set_option maxRecDepth 50000 in
theorem l10Ill_any (n : Int) (w : World) :
    Calls Try.prog 60 #[.int .i64 n] w fun e w' => e = .returned (.agg #[.slice none 0 0, .int .i64 n]) ∧ Ext w w' := by
  go_enter Try.func60, Try.ntmps60
  go_wp2_with fail
  exact bodyPost_ret (v := .agg #[.slice none 0 0, .int .i64 n]) (results_blk Try.results60 rfl (Blk.new _ 29 _) Try.underlying29 rfl (by kernel_rfl)) rfl ⟨rfl, (Ext.refl _).alloc _⟩
end Go.Proofs.Ytbdicafambkhdaa

namespace Go.Proofs.Ytbdicafambkhdaa
open Go.RowKit
attribute [local irreducible] wpQuiet

set_option maxHeartbeats 8000000 in
set_option maxRecDepth 100000 in
theorem copyNodes_any {S : Nat → Prop} (l : List Node) (v : Value) (w : World) (h : Rd ENode S w v l) (hl : l.length ≤ 1000000) (hs : ∀ k, k < l.length → (nth l k).books.length ≤ 1000000000) :
    Calls Try.prog 58 #[v] w (RetO ONode 42 l w) := by
  obtain ⟨A, c, rfl, h1, h2, hk⟩ := h.open_
  unfold maxLen at h2
  have HK := Lib.hid hk
  have HS := Lib.hid hs
  clear hk h hs
  go_enter Try.func58, Try.ntmps58
  go_wp2_with fail
  obtain ⟨W, B, hW, hB, hx0, b0⟩ : ∃ W B, W = w.alloc (.cells #[] 42) ∧ B = w.heap.size ∧ Ext w W ∧ Blk W B 42 #[] := ⟨_, _, rfl, rfl, (Ext.refl w).alloc _, Blk.new _ _ _⟩
  rw [← hW, ← hB]
  have HB : Hid (w.heap.size ≤ B) := Lib.hid (by omega)
  have B0 := Lib.hid b0
  have X0 := Lib.hid hx0
  clear hW hB hx0 b0
  go_loopw [3, 9] (fun v i w' => ∃ (k : Nat) (F : List Nat), k ≤ l.length ∧ i = .int .i64 k ∧ OwS ONode 42 w' v (l.take k) F ∧ (∀ b ∈ F, w.heap.size ≤ b) ∧ Ext w w') (fun _ i _ => l.length - (intOf i).toNat)
  case atStart => exact ⟨0, [B], by omega, rfl, .inr ⟨B, 0, #[], [], rfl, B0.out, Nat.le_refl _, Nat.zero_le _, rfl, rfl, rfl, by simp, fun k hk => absurd hk (Nat.not_lt_zero _)⟩, fun b hb => by rw [List.mem_singleton.1 hb]; exact HB.out, X0.out⟩
  case round =>
    obtain ⟨k, F, hk1, rfl, hown, hF, hx⟩ := hrel
    have HO := Lib.hid hown
    have HF := Lib.hid hF
    have HX := Lib.hid hx
    have LF := Lib.hid hown.lt
    clear hown hF
    by_cases hlt : k < l.length
    · obtain ⟨b, q, cs, rfl, _, ⟨v1, rfl, hfit, hrd⟩, hc⟩ := HK.out k hlt
      obtain ⟨A1, d1, rfl, -⟩ := hrd.form
      have HBL : Hid (b < w.heap.size) := Lib.hid (World.block_lt_of_cell? w _ (hc 0 _ rfl))
      have c0 := Ext.some hx (hc 0 _ rfl)
      have c1 := Ext.some hx (hc 1 _ rfl)
      simp only [ENode, Nat.add_zero] at c0 c1
      have HFit := Lib.hid hfit
      have HRD := Lib.hid (hrd.ext hx)
      have HN := Lib.hid (HS.out k hlt)
      have HT := Lib.hid (take_succ_nth hlt)
      have ND0 := Lib.hid HO.out.nodup
      clear hc hfit hx hrd
      go_wp2_with fail
      obtain ⟨W5, B5, hW5, hB5, hx5, b5⟩ : ∃ W B, W = wr.alloc (.cells #[.int .i64 (nth l k).state, .slice A1 (nth l k).books.length d1] 42) ∧ B = wr.heap.size ∧ Ext wr W ∧ Blk W B 42 #[.int .i64 (nth l k).state, .slice A1 (nth l k).books.length d1] := ⟨_, _, rfl, rfl, (Ext.refl _).alloc _, Blk.new _ _ _⟩
      rw [← hW5, ← hB5]
      have hnF : B5 ∉ F := fun hb => by have := LF.out _ hb; omega
      have X5 := Lib.hid hx5
      have al0 : ∀ V, Kept F W5 V → V.cell? ⟨B5, 0, none⟩ = some (.int .i64 (nth l k).state) := fun V hV => hV.cell hnF (b5.cell 0)
      have al1 : ∀ V, Kept F W5 V → V.cell? ⟨B5, 1, none⟩ = some (.slice A1 (nth l k).books.length d1) := fun V hV => hV.cell hnF (b5.cell 1)
      clear hW5 hB5 hx5 b5 c0 c1
      go_region_held3 (fun w' => Kept F W5 w') (first | exact Kept.refl _ _ | exact Kept.of_ext (Ext.refl _).drew | assumption | exact Kept.trans (by assumption) (Kept.of_ext ((Ext.refl _).alloc _)) | exact Kept.trans (by assumption) (Kept.of_ext X1.out) | exact Kept.trans (by assumption) HKP.out | exact Kept.trans (by assumption) (Kept.of_ext (Ext.refl _).drew)) (first | (go_at_call 129; (with_reducible refine (cloneSpan_any (S := S) (nth l k).books _ _ (HRD.out.ext (by repeat (first | with_reducible exact X5.out | refine Ext.drew ?_ | refine Ext.alloc ?_ _))) HN.out).mono ?_); rintro e w1 ⟨u1, G1, rfl, q1, g1, hx1⟩; obtain ⟨p1, k1, rfl, -⟩ := OwS.form q1; have X1 := Lib.hid hx1; have X51 : Hid (Ext wr w1) := Lib.hid (Ext.trans (by repeat (first | with_reducible exact X5.out | refine Ext.drew ?_ | refine Ext.alloc ?_ _)) hx1); have Q1 := Lib.hid q1; have Z1 : Hid (∀ b ∈ G1, wr.heap.size ≤ b) := Lib.hid (fun b hb => Nat.le_trans (Ext.size (by repeat (first | with_reducible exact X5.out | refine Ext.drew ?_ | refine Ext.alloc ?_ _))) (g1 b hb)); have ND : Hid ((F ++ G1).Nodup) := Lib.hid (nodup_two ND0.out (OwS.nodup q1) (fun b h1 h2 => absurd (LF.out b h1) (Nat.not_lt.2 (Nat.le_trans (Ext.size (by repeat (first | with_reducible exact X5.out | refine Ext.drew ?_ | refine Ext.alloc ?_ _))) (g1 b h2))))); clear q1 g1 hx1) | (refine step_append_one (O := ONode) (T := 42) (l := l.take k) (F := F) (G := G1) (y := nth l k) (by rfl) _ _ 23 (by rfl) (.agg #[.int .i64 0, .slice none 0 0]) 2 32 Try.underlying23 (by kernel_rfl) rfl rfl (by rfl) (HO.out.ext (by repeat (first | with_reducible exact X51.out | refine Ext.drew ?_ | refine Ext.alloc ?_ _))) _ 0 1 (by rfl) ⟨.slice p1 (nth l k).books.length k1, by simp [cellsNode], HFit.out, Q1.out.ext (by repeat (first | with_reducible exact (Ext.refl w1) | refine Ext.drew ?_ | refine Ext.alloc ?_ _))⟩ (Blk.new _ _ _).range ND.out (by rw [List.length_take]; omega) (by decide) ?_; intro v' w9 F' how hkp hF'; have HOW := Lib.hid how; have HKP := Lib.hid hkp; have HFF := Lib.hid hF'; clear how hkp hF'))
      clear al0 al1
      go_wp2_with fail
      refine ⟨⟨k + 1, F', by omega, by go_num, by rw [HT.out]; exact HOW.out, fun b hb => match HFF.out b hb with | .inl h => HF.out b h | .inr (.inl h) => Nat.le_trans HX.out.size (Z1.out b h) | .inr (.inr h) => Nat.le_trans (Nat.le_trans HX.out.size X51.out.size) (Nat.le_trans (Ext.size (by first | exact Ext.refl _ | exact (Ext.refl _).alloc _ | exact ((Ext.refl _).drew).alloc _)) h), Kept.ext (HX.out.trans X5.out) (by assumption) HF.out⟩, ?_⟩
      simp [intOf]
      omega
    · obtain rfl : k = l.length := by omega
      go_wp2_with fail
      go_ret
      exact ⟨_, F, rfl, by have h := HO.out; rw [List.take_length] at h; exact h, HF.out, HX.out⟩

set_option maxHeartbeats 8000000 in
set_option maxRecDepth 100000 in
theorem l10Copy_any {S : Nat → Prop} (l : List Node) (v : Value) (w : World) (h : Rd ENode S w v l) (hl : l.length ≤ 1000000) (hs : ∀ k, k < l.length → (nth l k).books.length ≤ 1000000000) :
    Calls Try.prog 65 #[v] w (RetO ONode 42 l w) := by
  obtain ⟨A, c, rfl, h1, h2, hk⟩ := h.open_
  unfold maxLen at h2
  have HK := Lib.hid hk
  have HS := Lib.hid hs
  clear hk h hs
  go_enter Try.func65, Try.ntmps65
  go_wp2_with fail
  obtain ⟨W, B, hW, hB, hx0, b0⟩ : ∃ W B, W = w.alloc (.cells #[] 42) ∧ B = w.heap.size ∧ Ext w W ∧ Blk W B 42 #[] := ⟨_, _, rfl, rfl, (Ext.refl w).alloc _, Blk.new _ _ _⟩
  rw [← hW, ← hB]
  have HB : Hid (w.heap.size ≤ B) := Lib.hid (by omega)
  have B0 := Lib.hid b0
  have X0 := Lib.hid hx0
  clear hW hB hx0 b0
  go_loopw [3, 4] (fun v i w' => ∃ (k : Nat) (F : List Nat), k ≤ l.length ∧ i = .int .i64 k ∧ OwS ONode 42 w' v (l.take k) F ∧ (∀ b ∈ F, w.heap.size ≤ b) ∧ Ext w w') (fun _ i _ => l.length - (intOf i).toNat)
  case atStart => exact ⟨0, [B], by omega, rfl, .inr ⟨B, 0, #[], [], rfl, B0.out, Nat.le_refl _, Nat.zero_le _, rfl, rfl, rfl, by simp, fun k hk => absurd hk (Nat.not_lt_zero _)⟩, fun b hb => by rw [List.mem_singleton.1 hb]; exact HB.out, X0.out⟩
  case round =>
    obtain ⟨k, F, hk1, rfl, hown, hF, hx⟩ := hrel
    have HO := Lib.hid hown
    have HF := Lib.hid hF
    have HX := Lib.hid hx
    have LF := Lib.hid hown.lt
    clear hown hF
    by_cases hlt : k < l.length
    · obtain ⟨b, q, cs, rfl, _, ⟨v1, rfl, hfit, hrd⟩, hc⟩ := HK.out k hlt
      obtain ⟨A1, d1, rfl, -⟩ := hrd.form
      have HBL : Hid (b < w.heap.size) := Lib.hid (World.block_lt_of_cell? w _ (hc 0 _ rfl))
      have c0 := Ext.some hx (hc 0 _ rfl)
      have c1 := Ext.some hx (hc 1 _ rfl)
      simp only [ENode, Nat.add_zero] at c0 c1
      have HFit := Lib.hid hfit
      have HRD := Lib.hid (hrd.ext hx)
      have HN := Lib.hid (HS.out k hlt)
      have HT := Lib.hid (take_succ_nth hlt)
      have ND0 := Lib.hid HO.out.nodup
      clear hc hfit hx hrd
      go_wp2_with fail
      have hnF : b ∉ F := fun hb => by have := HF.out _ hb; have := HBL.out; omega
      have X5 : Hid (Ext wr wr) := Lib.hid (Ext.refl _)
      have al0 : ∀ V, Kept F wr V → V.cell? ⟨b, q + k * 2, none⟩ = some (.int .i64 (nth l k).state) := fun V hV => hV.cell hnF c0
      have al1 : ∀ V, Kept F wr V → V.cell? ⟨b, q + k * 2 + 1, none⟩ = some (.slice A1 (nth l k).books.length d1) := fun V hV => hV.cell hnF c1
      clear c0 c1
      go_region_held3 (fun w' => Kept F wr w') (first | exact Kept.refl _ _ | exact Kept.of_ext (Ext.refl _).drew | assumption | exact Kept.trans (by assumption) (Kept.of_ext ((Ext.refl _).alloc _)) | exact Kept.trans (by assumption) (Kept.of_ext X1.out) | exact Kept.trans (by assumption) HKP.out | exact Kept.trans (by assumption) (Kept.of_ext (Ext.refl _).drew)) (first | (refine step_append_flat (E := ESpan) (T := 25) (hfl := fun h => h) (l := []) (ys := (nth l k).books) (F := []) (S := S) (by rfl) _ _ 39 (by rfl) (.agg #[.int .i64 0, .int .i64 0]) 2 16 Try.underlying39 (by kernel_rfl) rfl rfl (by rfl) (OwS.nil _) (by rfl) (HRD.out.ext (by repeat (first | with_reducible exact (Ext.refl wr) | refine Ext.drew ?_ | refine Ext.alloc ?_ _))) (by have := HN.out; simp only [List.length_nil, maxLen]; omega) (by have := HN.out; simp only [List.length_nil]; omega) ?_; intro u1 w1 G1 q1 hkp1 hf1; have hx1 := hkp1.ext (Ext.refl _) (fun b hb => absurd hb (by simp)); simp only [List.nil_append] at q1; obtain ⟨p1, k1, rfl, -⟩ := OwS.form q1; have X1 := Lib.hid hx1; have X51 : Hid (Ext wr w1) := Lib.hid (Ext.trans (by repeat (first | with_reducible exact (Ext.refl wr) | refine Ext.drew ?_ | refine Ext.alloc ?_ _)) hx1); have Q1 : Hid (OwS OSpan 25 w1 _ (nth l k).books G1) := Lib.hid q1; have Z1 : Hid (∀ b ∈ G1, wr.heap.size ≤ b) := Lib.hid (fun b hb => Or.elim (hf1 b hb) (fun h => absurd h (by simp)) (fun h => Nat.le_trans (Ext.size (by repeat (first | with_reducible exact (Ext.refl wr) | refine Ext.drew ?_ | refine Ext.alloc ?_ _))) h)); have ND : Hid ((F ++ G1).Nodup) := Lib.hid (nodup_two ND0.out (OwS.nodup q1) (fun b h1 h2 => absurd (LF.out b h1) (Nat.not_lt.2 (Z1.out b h2)))); clear q1 hkp1 hf1 hx1) | (refine step_append_one (O := ONode) (T := 42) (l := l.take k) (F := F) (G := G1) (y := nth l k) (by rfl) _ _ 23 (by rfl) (.agg #[.int .i64 0, .slice none 0 0]) 2 32 Try.underlying23 (by kernel_rfl) rfl rfl (by rfl) (HO.out.ext (by repeat (first | with_reducible exact X51.out | refine Ext.drew ?_ | refine Ext.alloc ?_ _))) _ 0 1 (by rfl) ⟨.slice p1 (nth l k).books.length k1, by simp [cellsNode], HFit.out, Q1.out.ext (by repeat (first | with_reducible exact (Ext.refl w1) | refine Ext.drew ?_ | refine Ext.alloc ?_ _))⟩ (Blk.new _ _ _).range ND.out (by rw [List.length_take]; omega) (by decide) ?_; intro v' w9 F' how hkp hF'; have HOW := Lib.hid how; have HKP := Lib.hid hkp; have HFF := Lib.hid hF'; clear how hkp hF'))
      clear al0 al1
      go_wp2_with fail
      refine ⟨⟨k + 1, F', by omega, by go_num, by rw [HT.out]; exact HOW.out, fun b hb => match HFF.out b hb with | .inl h => HF.out b h | .inr (.inl h) => Nat.le_trans HX.out.size (Z1.out b h) | .inr (.inr h) => Nat.le_trans (Nat.le_trans HX.out.size X51.out.size) (Nat.le_trans (Ext.size (by first | exact Ext.refl _ | exact (Ext.refl _).alloc _ | exact ((Ext.refl _).drew).alloc _)) h), Kept.ext HX.out (by assumption) HF.out⟩, ?_⟩
      simp [intOf]
      omega
    · obtain rfl : k = l.length := by omega
      go_wp2_with fail
      go_ret
      exact ⟨_, F, rfl, by have h := HO.out; rw [List.take_length] at h; exact h, HF.out, HX.out⟩

end Go.Proofs.Ytbdicafambkhdaa

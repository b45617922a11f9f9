/- The walk of the law FnNodes. -/
import Derived.Test.YtbdicafambkhdaaDrawBp
import Derived.Test.YtbdicafambkhdaaLwN
import Derived.Test.YtbdicafambkhdaaNLaw
import Derived.Test.YtbdicafambkhdaaNodeRows
import Derived.Test.YtbdicafambkhdaaPassI
namespace Go.Proofs.Ytbdicafambkhdaa
open Go.RowKit
attribute [local irreducible] wpQuiet

theorem alloc_sz (w : World) (o : Obj) : (w.alloc o).heap.size = w.heap.size + 1 := by simp
theorem drew_sz (w : World) : w.drew.heap.size = w.heap.size := rfl
theorem own_cell {α : Type} [Inhabited α] {E : Elem α} {O : Own E} {T : TypeId} {w : World} {v : Value} {l : List α} {F : List Nat} {R o : Nat} {u : Value} (h : OwS O T w v l F) (hR : R ∉ F) : OwS O T (w.setCell ⟨R, o, none⟩ u) v l F := own_put (R := R) (o := o) (vs := [u]) h hR
theorem blk_facts {w : World} {Y : Nat} {T : TypeId} {C : Array Value} (q : Blk w Y T C) : (∀ i, w.cell? ⟨Y, i, none⟩ = C[i]?) ∧ (∀ i, w.frozen? ⟨Y, i, none⟩ = false) ∧ (∀ o i, (w.alloc o).cell? ⟨Y, i, none⟩ = C[i]?) ∧ (∀ o i, (w.alloc o).frozen? ⟨Y, i, none⟩ = false) ∧ (∀ o o' i, ((w.alloc o).alloc o').cell? ⟨Y, i, none⟩ = C[i]?) ∧ (∀ o o' i, ((w.alloc o).alloc o').frozen? ⟨Y, i, none⟩ = false) :=
  ⟨q.cell, q.frozen, fun o => (q.ext ((Ext.refl _).alloc o)).cell, fun o => (q.ext ((Ext.refl _).alloc o)).frozen, fun o o' => (q.ext (((Ext.refl _).alloc o).alloc o')).cell, fun o o' => (q.ext (((Ext.refl _).alloc o).alloc o')).frozen⟩

theorem lt_a1 (w : World) (o : Obj) : w.heap.size < (w.alloc o).heap.size := by rw [alloc_sz]; omega
theorem Blk.put2 {w : World} {Y : Nat} {T : TypeId} {a b : Value} (h : Blk w Y T #[a, b]) (x y : Value) : Blk ((w.setCell ⟨Y, 0, none⟩ x).setCell ⟨Y, 1, none⟩ y) Y T #[x, y] := by
  simpa using (h.set_ 0 x).set_ 1 y
theorem Blk.far2 {w : World} {Y : Nat} {T : TypeId} {C : Array Value} (h : Blk w Y T C) {R : Nat} (hR : Y ≠ R) (x y : Value) : Blk ((w.setCell ⟨R, 0, none⟩ x).setCell ⟨R, 1, none⟩ y) Y T C := Blk.far (Blk.far h hR x) hR y
theorem Blk.new1 (w : World) (o : Obj) (T : TypeId) (C : Array Value) : Blk ((w.alloc o).alloc (.cells C T)) (w.heap.size + 1) T C := by
  have := Blk.new (w.alloc o) T C
  simpa using this

/-- What two calls in one statement leave: two boxes, each with a list of nodes of its own. -/
def P4 (W : World) (nd : List Node) (co : Int) (p q : Value) (wx : World) : Prop :=
  ∃ (Y9 Y10 : Nat) (A3 A4 : Option Addr) (c3 c4 : Nat) (F3 F4 : List Nat), p = .pointer (some ⟨Y9, 0, none⟩) ∧ q = .pointer (some ⟨Y10, 0, none⟩) ∧ Blk wx Y9 29 #[.slice A3 nd.length c3, .int .i64 co] ∧ Blk wx Y10 29 #[.slice A4 nd.length c4, .int .i64 co] ∧ OwS ONode 42 wx (.slice A3 nd.length c3) nd F3 ∧ OwS ONode 42 wx (.slice A4 nd.length c4) nd F4 ∧ Ext W wx
section
variable {W V : World} {nd : List Node} {co : Int} {A3 A4 : Option Addr} {c3 c4 : Nat} {F3 F4 : List Nat} {a b : Nat} {z z' : Array Value}
theorem own_set2 {v : Value} {F : List Nat} (h : OwS ONode 42 V v nd F) (ha : a ∉ F) (x y : Value) : OwS ONode 42 ((V.setCell ⟨a, 0, none⟩ x).setCell ⟨a, 1, none⟩ y) v nd F := own_cell (own_cell h ha) ha
theorem ext_set2 (hx : Ext W V) (ha : W.heap.size ≤ a) (x y : Value) : Ext W ((V.setCell ⟨a, 0, none⟩ x).setCell ⟨a, 1, none⟩ y) := (hx.setCell (p := ⟨a, 0, none⟩) ha _).setCell (p := ⟨a, 1, none⟩) ha _
theorem leaf_ab (ha : Blk V a 29 #[.slice none 0 0, .int .i64 0]) (hb : Blk V b 29 #[.slice none 0 0, .int .i64 0]) (hab : a ≠ b) (h3 : OwS ONode 42 V (.slice A3 nd.length c3) nd F3) (h4 : OwS ONode 42 V (.slice A4 nd.length c4) nd F4) (a3 : a ∉ F3) (b3 : b ∉ F3) (a4 : a ∉ F4) (b4 : b ∉ F4) (hx : Ext W V) (aW : W.heap.size ≤ a) (bW : W.heap.size ≤ b) :
    P4 W nd co (.pointer (some ⟨a, 0, none⟩)) (.pointer (some ⟨b, 0, none⟩)) ((((V.setCell ⟨a, 0, none⟩ (.slice A3 nd.length c3)).setCell ⟨a, 1, none⟩ (.int .i64 co)).setCell ⟨b, 0, none⟩ (.slice A4 nd.length c4)).setCell ⟨b, 1, none⟩ (.int .i64 co)) :=
  ⟨a, b, A3, A4, c3, c4, F3, F4, rfl, rfl, (ha.put2 _ _).far2 hab _ _, (hb.far2 hab.symm _ _).put2 _ _, own_set2 (own_set2 h3 a3 _ _) b3 _ _, own_set2 (own_set2 h4 a4 _ _) b4 _ _, ext_set2 (ext_set2 hx aW _ _) bW _ _⟩
theorem leaf_new2 (h3 : OwS ONode 42 V (.slice A3 nd.length c3) nd F3) (h4 : OwS ONode 42 V (.slice A4 nd.length c4) nd F4) (hx : Ext W V) :
    P4 W nd co (.pointer (some ⟨V.heap.size, 0, none⟩)) (.pointer (some ⟨V.heap.size + 1, 0, none⟩)) ((V.alloc (.cells #[.slice A3 nd.length c3, .int .i64 co] 29)).alloc (.cells #[.slice A4 nd.length c4, .int .i64 co] 29)) :=
  ⟨_, _, A3, A4, c3, c4, F3, F4, rfl, rfl, (Blk.new _ _ _).ext ((Ext.refl _).alloc _), Blk.new1 _ _ _ _, (h3.ext ((Ext.refl _).alloc _)).ext ((Ext.refl _).alloc _), (h4.ext ((Ext.refl _).alloc _)).ext ((Ext.refl _).alloc _), (hx.alloc _).alloc _⟩
theorem leaf_new2' (h3 : OwS ONode 42 V (.slice A3 nd.length c3) nd F3) (h4 : OwS ONode 42 V (.slice A4 nd.length c4) nd F4) (hx : Ext W V) :
    P4 W nd co (.pointer (some ⟨V.heap.size + 1, 0, none⟩)) (.pointer (some ⟨V.heap.size, 0, none⟩)) ((V.alloc (.cells #[.slice A4 nd.length c4, .int .i64 co] 29)).alloc (.cells #[.slice A3 nd.length c3, .int .i64 co] 29)) :=
  ⟨_, _, A3, A4, c3, c4, F3, F4, rfl, rfl, Blk.new1 _ _ _ _, (Blk.new _ _ _).ext ((Ext.refl _).alloc _), (h3.ext ((Ext.refl _).alloc _)).ext ((Ext.refl _).alloc _), (h4.ext ((Ext.refl _).alloc _)).ext ((Ext.refl _).alloc _), (hx.alloc _).alloc _⟩
theorem leaf_b (hb : Blk V b 29 #[.slice none 0 0, .int .i64 0]) (h3 : OwS ONode 42 V (.slice A3 nd.length c3) nd F3) (h4 : OwS ONode 42 V (.slice A4 nd.length c4) nd F4) (b3 : b ∉ F3) (b4 : b ∉ F4) (hx : Ext W V) (bW : W.heap.size ≤ b) :
    P4 W nd co (.pointer (some ⟨V.heap.size, 0, none⟩)) (.pointer (some ⟨b, 0, none⟩)) (((V.alloc (.cells #[.slice A3 nd.length c3, .int .i64 co] 29)).setCell ⟨b, 0, none⟩ (.slice A4 nd.length c4)).setCell ⟨b, 1, none⟩ (.int .i64 co)) :=
  ⟨_, b, A3, A4, c3, c4, F3, F4, rfl, rfl, (Blk.new V _ _).far2 (Nat.ne_of_gt hb.lt) _ _, (hb.ext ((Ext.refl _).alloc _)).put2 _ _, own_set2 (h3.ext ((Ext.refl _).alloc _)) b3 _ _, own_set2 (h4.ext ((Ext.refl _).alloc _)) b4 _ _, ext_set2 (hx.alloc _) bW _ _⟩
end

theorem rd_eq {α : Type} {E : Elem α} {S : Nat → Prop} {w : World} {v : Value} {l m : List α} (h : Rd E S w v l) (e : l = m) : Rd E S w v m := by
  subst e
  exact h
theorem row_at {S : Nat → Prop} {w : World} {A : Option Addr} {c d : Nat} {rows : List (List Span)} (h : Rd (ERow ESpan) S w (.slice A rows.length c) rows) (hd : d < rows.length) :
    ∃ b q A' c', A = some ⟨b, q, none⟩ ∧ Rd ESpan S w (.slice A' (nth rows d).length c') (nth rows d) ∧ ∀ T, Ext w T → T.cell? ⟨b, q + d, none⟩ = some (.slice A' (nth rows d).length c') := by
  obtain ⟨A0, c0, e, -, -, hk⟩ := h.open_
  cases e
  obtain ⟨b, q, cs, rfl, -, ⟨v, rfl, hr⟩, hc⟩ := hk d hd
  obtain ⟨A', c', rfl, -⟩ := hr.form
  refine ⟨b, q, A', c', rfl, hr, fun T hT => Ext.some hT ?_⟩
  have := hc 0 _ rfl
  simpa [ERow] using this
theorem node_at {S : Nat → Prop} {w : World} {A : Option Addr} {c d : Nat} {l : List Node} (h : Rd ENode S w (.slice A l.length c) l) (hd : d < l.length) :
    ∃ b q A' c', A = some ⟨b, q, none⟩ ∧ Rd ESpan S w (.slice A' (nth l d).books.length c') (nth l d).books ∧ ∀ T, Ext w T → T.cell? ⟨b, q + d * 2 + 1, none⟩ = some (.slice A' (nth l d).books.length c') := by
  obtain ⟨A0, c0, e, -, -, hk⟩ := h.open_
  cases e
  obtain ⟨b, q, cs, rfl, -, ⟨v, rfl, hf, hr⟩, hc⟩ := hk d hd
  obtain ⟨A', c', rfl, -⟩ := hr.form
  refine ⟨b, q, A', c', rfl, hr, fun T hT => Ext.some hT ?_⟩
  have := hc 1 _ rfl
  simpa [ENode] using this

set_option maxHeartbeats 16000000 in
set_option maxRecDepth 100000 in
theorem fnNodes_walk {S S' : Nat → Prop} (l m : List Int) (v u : Value) (w : World) (h : Rd EByte S w v l) (g : Rd EByte S' w u m) :
    Calls Try.prog 3 #[v, u] w fun e w' => e = .returned (.bool true) ∧ Ext w w' := by
  have HD := Lib.hid (drawBookPut_any l v w h)
  have HG := Lib.hid fun (W : World) (hx : Ext w W) => drawNodeSet_any m u W (g.ext hx)
  obtain ⟨A, c, rfl, l1, l2⟩ := h.form
  obtain ⟨A', c', rfl, m1, m2⟩ := g.form
  unfold maxLen at l2 m2
  clear h g
  by_cases hl : 1048576 < l.length
  · go_enter Try.func3, Try.ntmps3
    go_wp2_with fail
    go_ret
    exact ⟨rfl, Ext.refl _⟩
  by_cases hm : 1048576 < m.length
  · go_enter Try.func3, Try.ntmps3
    go_wp2_with fail
    go_ret
    exact ⟨rfl, Ext.refl _⟩
  go_enter Try.func3, Try.ntmps3
  go_upto_region 4 with (go_at_call 6; (with_reducible refine HD.out.mono ?_); rintro e w1 ⟨va, n, x, now, ns, F1, rfl, jn, jnow, fx, hns, o1, f1, x1⟩; obtain ⟨A1, c1, rfl, -⟩ := o1.form; have JN := Lib.hid jn; have FX := Lib.hid fx; have O1 := Lib.hid o1; have F1h := Lib.hid f1; have X1 := Lib.hid x1; clear jn jnow fx o1 f1 x1)
  obtain ⟨W, X, hW, hX, hx2, b2⟩ : ∃ W X, W = w1.alloc (.cells #[.int .i64 x.from_, .int .i64 x.to_] 25) ∧ X = w1.heap.size ∧ Ext w1 W ∧ Blk W X 25 #[.int .i64 x.from_, .int .i64 x.to_] := ⟨_, _, rfl, rfl, (Ext.refl _).alloc _, Blk.new _ _ _⟩
  rw [← hW, ← hX]
  have X2 := Lib.hid (X1.out.trans hx2)
  have B2 := Lib.hid b2
  have O2 := Lib.hid (O1.out.ext hx2)
  clear hW hX hx2 b2
  have al : ∀ V, Ext W V → ∀ i, V.cell? ⟨X, i, none⟩ = _ := fun V hx => (B2.out.ext hx).cell
  go_cut [9, 10] (fun p q wx => P4 W (bookPut ns n x now).nodes (bookPut ns n x now).code p q wx)
  case first => as_aux_lemma =>
    go_region_held3 (fun V => Ext W V) (repeat (first | assumption | exact X4.out | exact X3.out | exact Ext.refl _ | with_reducible refine Ext.alloc ?_ _ | with_reducible refine Ext.drew ?_ | with_reducible refine Ext.setCell ?_ (by first | (simp; done) | (simp; omega) | (show _ ≤ _; omega)) _)) (first | (go_at_call 7; (with_reducible refine (bookPut_any (S := fun b => b ∈ F1) ns n x now _ _ (O2.out.rd.ext (by repeat (first | assumption | exact X4.out | exact X3.out | exact Ext.refl _ | with_reducible refine Ext.alloc ?_ _ | with_reducible refine Ext.drew ?_ | with_reducible refine Ext.setCell ?_ (by first | (simp; done) | (simp; omega) | (show _ ≤ _; omega)) _))) FX.out).mono ?_); rintro e w3 ⟨cs3, F3, rfl, ⟨u3, rfl, ft3, o3⟩, f3, hx3⟩; obtain ⟨A3, c3, rfl, -⟩ := o3.form; simp only [cellsNodesOut]; have O3 := Lib.hid o3; have F3h := Lib.hid f3; have X3 : Hid (Ext W w3) := Lib.hid (Ext.trans (by repeat (first | assumption | exact X4.out | exact X3.out | exact Ext.refl _ | with_reducible refine Ext.alloc ?_ _ | with_reducible refine Ext.drew ?_ | with_reducible refine Ext.setCell ?_ (by first | (simp; done) | (simp; omega) | (show _ ≤ _; omega)) _)) hx3); have sz3 := X3.out.size; (try (have q3a := (by first | exact (Blk.new _ _ _).ext hx3 | exact ((Blk.new W _ _).ext (Ext.refl _).drew).ext hx3 | exact ((Blk.new (W.alloc _) _ _).ext (Ext.refl _).drew).ext hx3 : Blk w3 _ 29 #[.slice none 0 0, .int .i64 0]); have Q3a := Lib.hid q3a; have fa3a := blk_facts q3a; have ne3a := Nat.ne_of_lt Q3a.out.lt; have nf3a := Nat.ne_of_gt Q3a.out.lt; clear q3a)); (try (have q3b := (by first | exact ((Blk.new _ _ _).ext ((Ext.refl _).alloc _)).ext hx3 | exact (((Blk.new W _ _).ext ((Ext.refl _).alloc _)).ext (Ext.refl _).drew).ext hx3 : Blk w3 _ 29 #[.slice none 0 0, .int .i64 0]); have Q3b := Lib.hid q3b; have fa3b := blk_facts q3b; have ne3b := Nat.ne_of_lt Q3b.out.lt; have nf3b := Nat.ne_of_gt Q3b.out.lt; clear q3b)); (try simp only [alloc_sz] at fa3a ne3a nf3a); (try simp only [alloc_sz, drew_sz] at fa3b ne3b nf3b); clear o3 f3 hx3) | (go_at_call 8; (with_reducible refine (specBookPut_any (S := fun b => b ∈ F1) ns n x now _ _ (O2.out.rd.ext (by repeat (first | assumption | exact X4.out | exact X3.out | exact Ext.refl _ | with_reducible refine Ext.alloc ?_ _ | with_reducible refine Ext.drew ?_ | with_reducible refine Ext.setCell ?_ (by first | (simp; done) | (simp; omega) | (show _ ≤ _; omega)) _))) FX.out).mono ?_); rintro e w4 ⟨cs4, F4, rfl, ⟨u4, rfl, ft4, o4⟩, f4, hx4⟩; obtain ⟨A4, c4, rfl, -⟩ := o4.form; simp only [cellsNodesOut]; have O4 := Lib.hid o4; have F4h := Lib.hid f4; have X34 : Hid (Ext w3 w4) := Lib.hid (Ext.trans (by repeat (first | exact Ext.refl _ | with_reducible refine Ext.alloc ?_ _)) hx4); have X4 : Hid (Ext W w4) := Lib.hid (X3.out.trans X34.out); have sz4 := X4.out.size; (try (have q4a := (Blk.new _ _ _).ext hx4; have Q4a := Lib.hid q4a; have fa4a := blk_facts q4a; have ne4a := Nat.ne_of_lt Q4a.out.lt; have nf4a := Nat.ne_of_gt Q4a.out.lt; clear q4a)); (try (have q4b := ((Blk.new _ _ _).ext ((Ext.refl _).alloc _)).ext hx4; have Q4b := Lib.hid q4b; have fa4b := blk_facts q4b; have ne4b := Nat.ne_of_lt Q4b.out.lt; have nf4b := Nat.ne_of_gt Q4b.out.lt; clear q4b)); (try (have q3a' := Q3a.out.ext (Ext.trans (by repeat (first | exact Ext.refl _ | with_reducible refine Ext.alloc ?_ _)) hx4); have Q3a' := Lib.hid q3a'; have fa3a' := blk_facts q3a'; have ne3a' := Nat.ne_of_lt Q3a'.out.lt; have nf3a' := Nat.ne_of_gt Q3a'.out.lt; clear q3a' fa3a)); (try (have q3b' := Q3b.out.ext (Ext.trans (by repeat (first | exact Ext.refl _ | with_reducible refine Ext.alloc ?_ _)) hx4); have Q3b' := Lib.hid q3b'; have fa3b' := blk_facts q3b'; have ne3b' := Nat.ne_of_lt Q3b'.out.lt; have nf3b' := Nat.ne_of_gt Q3b'.out.lt; clear q3b' fa3b)); (try simp only [alloc_sz] at fa4a ne4a nf4a); (try simp only [alloc_sz] at fa3a' ne3a' nf3a'); (try simp only [alloc_sz, drew_sz] at fa3b' ne3b' nf3b'); clear o4 f4 hx4))
    all_goals
      clear al
      go_wp2_with fail
      go_meet
      have H3 := Lib.hid (O3.out.ext X34.out)
      first
        | with_reducible exact leaf_new2 H3.out O4.out X4.out
        | with_reducible exact leaf_new2' H3.out O4.out X4.out
        | (with_reducible refine leaf_ab (V := w4) (by first | with_reducible exact Q3a'.out | with_reducible exact Q3b'.out | with_reducible exact Q4a.out | with_reducible exact Q4b.out | simpa only [alloc_sz] using Q3a'.out | simpa only [alloc_sz] using Q4a.out | simpa only [alloc_sz, drew_sz] using Q3a'.out) (by first | with_reducible exact Q3a'.out | with_reducible exact Q3b'.out | with_reducible exact Q4a.out | with_reducible exact Q4b.out | simpa only [alloc_sz] using Q3a'.out | simpa only [alloc_sz] using Q4a.out | simpa only [alloc_sz, drew_sz] using Q3a'.out) ?_ H3.out O4.out ?_ ?_ ?_ ?_ X4.out ?_ ?_)
        | (with_reducible refine leaf_ab (V := w4.alloc _) ((by first | with_reducible exact Q3a'.out.ext ((Ext.refl _).alloc _) | with_reducible exact Q3b'.out.ext ((Ext.refl _).alloc _) | with_reducible exact Q4a.out.ext ((Ext.refl _).alloc _))) (Blk.new w4 _ _) ?_ (H3.out.ext ((Ext.refl _).alloc _)) (O4.out.ext ((Ext.refl _).alloc _)) ?_ ?_ ?_ ?_ (X4.out.alloc _) ?_ ?_)
        | (with_reducible refine leaf_b (V := w4) (by first | with_reducible exact Q3a'.out | with_reducible exact Q3b'.out | with_reducible exact Q4a.out | with_reducible exact Q4b.out | simpa only [alloc_sz] using Q3a'.out | simpa only [alloc_sz] using Q4a.out | simpa only [alloc_sz, drew_sz] using Q3a'.out) H3.out O4.out ?_ ?_ X4.out ?_)
      all_goals
        have g0 := X34.out.size
        have g5 := X3.out.size
        try have g1 := Q3a'.out.lt
        try have g2 := Q3b'.out.lt
        try have g3 := Q4a.out.lt
        try have g4 := Q4b.out.lt
        try simp only [alloc_sz] at g1
        try simp only [alloc_sz] at g2
        try simp only [alloc_sz] at g3
        try simp only [alloc_sz] at g4
      all_goals first
        | omega
        | (intro hb; have h1 := F3h.out _ hb; simp only [alloc_sz, drew_sz] at h1; omega)
        | (intro hb; have h1 := O3.out.lt _ hb; omega)
        | (intro hb; have h1 := F4h.out _ hb; simp only [alloc_sz] at h1; omega)
        | (intro hb; have h1 := F4h.out _ hb; omega)
        | (intro hb; have h1 := F3h.out _ hb; omega)
        | (intro hb; have h1 := O4.out.lt _ hb; omega)
  case rest =>
    obtain ⟨Y9, Y10, A3, A4, c3, c4, F3, F4, rfl, rfl, b9, b10, o3, o4, hx4⟩ := hcut
    generalize wc = w4 at b9 b10 o3 o4 hx4 ⊢
    obtain ⟨P, hP⟩ : ∃ P, bookPut ns n x now = P := ⟨_, rfl⟩
    rw [hP] at b9 b10 o3 o4
    have HP := Lib.hid hP
    have B9 := Lib.hid b9
    have B10 := Lib.hid b10
    have O3 := Lib.hid o3
    have O4 := Lib.hid o4
    have X4 := Lib.hid hx4
    have R4 := Lib.hid (O2.out.ext hx4).rd
    have A4b : Hid (∀ V, Ext w4 V → ∀ i, V.cell? ⟨X, i, none⟩ = _) := Lib.hid (fun V hx => al V (hx4.trans hx))
    clear hP b9 b10 o3 o4 hx4 al HD X1 O1 F1h O2 B2
    go_upto_region 6 with (go_at_call 9; (with_reducible refine (HG.out _ (X2.out.trans X4.out)).mono ?_); rintro e w5 ⟨u5, k, st, ms, F5, rfl, ik, ist, hms, o5, f5, hx5⟩; obtain ⟨A5, c5, rfl, -⟩ := o5.form; have IK := Lib.hid ik; have HMS := Lib.hid hms; have O5 := Lib.hid o5; have X45 : Hid (Ext w4 w5) := Lib.hid hx5; clear ik ist hms o5 f5 hx5)
    obtain ⟨Q, hQ⟩ : ∃ Q, nodeSet ms k st = Q := ⟨_, rfl⟩
    have HQ := Lib.hid hQ
    have HNS := Lib.hid fun (T : World) (hx : Ext w5 T) => (show Calls Try.prog 10 _ _ (RetOS ONodesOut Q T) from hQ ▸ nodeSet_any (S := fun b => b ∈ F5) ms k st _ T (O5.out.rd.ext hx))
    have HNT := Lib.hid fun (T : World) (hx : Ext w5 T) => (show Calls Try.prog 11 _ _ (RetOS ONodesOut Q T) from hQ ▸ specNodeSet_any (S := fun b => b ∈ F5) ms k st _ T (O5.out.rd.ext hx))
    clear hQ
    go_upto_region 7 with (first | (go_at_call 10; (with_reducible refine (HNS.out _ (Ext.refl _)).mono ?_); rintro e w6 ⟨cs6, F6, rfl, ⟨u6, rfl, ft6, o6⟩, f6, hx6⟩; obtain ⟨A6, c6, rfl, -⟩ := o6.form; simp only [cellsNodesOut]; have O6 := Lib.hid o6; have X56 : Hid (Ext w5 w6) := Lib.hid hx6; clear o6 f6 hx6 ft6) | (go_at_call 11; (with_reducible refine (HNT.out _ X56.out).mono ?_); rintro e w7 ⟨cs7, F7, rfl, ⟨u7, rfl, ft7, o7⟩, f7, hx7⟩; obtain ⟨A7, c7, rfl, -⟩ := o7.form; simp only [cellsNodesOut]; have O7 := Lib.hid o7; have X67 : Hid (Ext w6 w7) := Lib.hid hx7; clear o7 f7 hx7 ft7))
    obtain ⟨V, N7, hV, hN, hx8, b14, b15⟩ : ∃ V N, V = (w7.alloc (.cells #[.slice A6 Q.nodes.length c6, .int .i64 Q.code] 29)).alloc (.cells #[.slice A7 Q.nodes.length c7, .int .i64 Q.code] 29) ∧ N = w7.heap.size ∧ Ext w7 V ∧ Blk V N 29 #[.slice A6 Q.nodes.length c6, .int .i64 Q.code] ∧ Blk V (N + 1) 29 #[.slice A7 Q.nodes.length c7, .int .i64 Q.code] := ⟨_, _, rfl, rfl, ((Ext.refl _).alloc _).alloc _, (Blk.new _ _ _).ext ((Ext.refl _).alloc _), Blk.new1 _ _ _ _⟩
    rw [← hV, ← hN]
    clear hV hN
    have X4V : Hid (Ext w4 V) := Lib.hid (((X45.out.trans X56.out).trans X67.out).trans hx8)
    have XW : Hid (Ext w V) := Lib.hid ((X2.out.trans X4.out).trans X4V.out)
    have HB9 : Hid (∀ T, Ext V T → ∀ i, T.cell? ⟨Y9, i, none⟩ = _) := Lib.hid (fun T hx => (B9.out.ext (X4V.out.trans hx)).cell)
    have HB10 : Hid (∀ T, Ext V T → ∀ i, T.cell? ⟨Y10, i, none⟩ = _) := Lib.hid (fun T hx => (B10.out.ext (X4V.out.trans hx)).cell)
    have HB14 : Hid (∀ T, Ext V T → ∀ i, T.cell? ⟨N7, i, none⟩ = _) := Lib.hid (fun T hx => (b14.ext hx).cell)
    have HB15 : Hid (∀ T, Ext V T → ∀ i, T.cell? ⟨N7 + 1, i, none⟩ = _) := Lib.hid (fun T hx => (b15.ext hx).cell)
    have HX : Hid (∀ T, Ext V T → ∀ i, T.cell? ⟨X, i, none⟩ = _) := Lib.hid (fun T hx => A4b.out T (X4V.out.trans hx))
    have P3 := Lib.hid (O3.out.ext X4V.out).rd
    have P4' := Lib.hid (O4.out.ext X4V.out).rd
    have Q6 := Lib.hid ((O6.out.ext X67.out).ext hx8).rd
    have Q7 := Lib.hid (O7.out.ext hx8).rd
    have RN := Lib.hid (R4.out.ext X4V.out)
    clear b14 b15 hx8 O3 O4 O5 O6 O7 R4 A4b B9 B10 X45 X56 X67 X4 X2 HNS HNT HG
    have y9 := HB9.out _ (Ext.refl _)
    have y10 := HB10.out _ (Ext.refl _)
    have y14 := HB14.out _ (Ext.refl _)
    have y15 := HB15.out _ (Ext.refl _)
    go_upto_region 9 with (first | (have q1 := X8.out; clear q1; go_at_call 12; (with_reducible refine (lwNodes_same Q.nodes _ _ _ (Q6.out.ext X8.out) (Q7.out.ext X8.out)).mono ?_); rintro e w9 ⟨rfl, hx9⟩; have X9 : Hid (Ext V w9) := Lib.hid (X8.out.trans hx9); clear hx9; clear y9 y10 y14 y15; have y9 := HB9.out _ X9.out; have y10 := HB10.out _ X9.out; have y14 := HB14.out _ X9.out; have y15 := HB15.out _ X9.out) | (go_at_call 12; (with_reducible refine (lwNodes_same P.nodes _ _ _ P3.out P4'.out).mono ?_); rintro e w8 ⟨rfl, hx8⟩; have X8 : Hid (Ext V w8) := Lib.hid hx8; clear hx8; clear y9 y10 y14 y15; have y9 := HB9.out _ X8.out; have y10 := HB10.out _ X8.out; have y14 := HB14.out _ X8.out; have y15 := HB15.out _ X8.out) | (go_at_call 14; (with_reducible refine (specNodesRight_any (S := fun b => b ∈ F1) ns _ _ (RN.out.ext X10.out)).mono ?_); rintro e w11 ⟨rfl, hx11⟩; have X11 : Hid (Ext V w11) := Lib.hid (X10.out.trans hx11); clear hx11; clear y9 y10 y14 y15; have y9 := HB9.out _ X11.out; have y10 := HB10.out _ X11.out; have y14 := HB14.out _ X11.out; have y15 := HB15.out _ X11.out) | (go_at_call 13; (with_reducible refine (nodesRight_any (S := fun b => b ∈ F1) ns _ _ (RN.out.ext X9.out)).mono ?_); rintro e w10 ⟨rfl, hx10⟩; have X10 : Hid (Ext V w10) := Lib.hid (X9.out.trans hx10); clear hx10; clear y9 y10 y14 y15; have y9 := HB9.out _ X10.out; have y10 := HB10.out _ X10.out; have y14 := HB14.out _ X10.out; have y15 := HB15.out _ X10.out))
    go_upto_if 98 with (fail)
    go_cut [4] (fun q wx => q = .bool false ∧ Ext w11 wx)
    case first => as_aux_lemma =>
      by_cases hc : P.code = 0
      · obtain ⟨d, hb⟩ : ∃ d, Booked ns n x P.nodes d := by
          have := booked (l := ns) (n := n) (x := x) (now := now) (by rw [HP.out]; exact hc)
          rwa [HP.out] at this
        have HBK := Lib.hid hb
        have hn := hb.num
        clear hb
        subst hn
        have x11 := HX.out _ X11.out
        go_upto_region 11 with (go_at_call 15; (with_reducible refine (rowsNew_any P.nodes _ _ (P3.out.ext X11.out)).mono ?_); rintro e w12 ⟨v12, F12, rfl, o12, f12, hx12⟩; obtain ⟨A12, c12, rfl, -⟩ := o12.form; have O12 := Lib.hid o12; have X112 : Hid (Ext w11 w12) := Lib.hid hx12; have X12 : Hid (Ext V w12) := Lib.hid (X11.out.trans hx12); clear o12 f12 hx12 y9 y10 y14 y15 x11)
        have y9 := HB9.out _ X12.out
        have x12 := HX.out _ X12.out
        have HBC := Lib.hid fun (T : World) (hx : Ext V T) => (show Calls Try.prog 16 _ _ (RetOS ONodesOut ⟨ns, 0⟩ T) from HBK.out.cut ▸ bookCut_any P.nodes d x.from_ _ T (P3.out.ext hx))
        go_upto_region 12 with (go_at_call 16; (with_reducible refine (HBC.out _ X12.out).mono ?_); rintro e w13 ⟨cs13, F13, rfl, ⟨u13, rfl, ft13, o13⟩, f13, hx13⟩; obtain ⟨A13, c13, rfl, -⟩ := o13.form; simp only [cellsNodesOut]; have O13 := Lib.hid o13; have X123 : Hid (Ext w12 w13) := Lib.hid hx13; have X13 : Hid (Ext V w13) := Lib.hid (X12.out.trans hx13); clear o13 f13 hx13 ft13)
        obtain ⟨W14, N17, hW, hN, hx14, b17⟩ : ∃ T N, T = w13.alloc (.cells #[.slice A13 ns.length c13, .int .i64 0] 29) ∧ N = w13.heap.size ∧ Ext w13 T ∧ Blk T N 29 #[.slice A13 ns.length c13, .int .i64 0] := ⟨_, _, rfl, rfl, (Ext.refl _).alloc _, Blk.new _ _ _⟩
        rw [← hW, ← hN]
        clear hW hN
        have X14 : Hid (Ext V W14) := Lib.hid (X13.out.trans hx14)
        have O14 := Lib.hid (O12.out.ext ((X123.out.trans hx14))).rd
        have Q14 := Lib.hid (O13.out.ext hx14).rd
        have B17 := Lib.hid b17
        have E14 : Hid (Ext w11 W14) := Lib.hid ((X112.out.trans X123.out).trans hx14)
        clear b17 hx14 y9 x12
        have hlen : ((rowsOf P.nodes 2).length : Int) = (ns.length : Int) := by rw [HBK.out.rows]
        have hd0 : (d : Int) < (ns.length : Int) := by have := HBK.out.lt; omega
        have hd1 : d < (rowsOf P.nodes 2).length := by rw [HBK.out.rows]; exact HBK.out.lt
        obtain ⟨b, q, Ar, cr, rfl, hrd, hcell⟩ := row_at O14.out hd1
        have HRD := Lib.hid hrd
        clear hrd
        go_cut [132] (fun q wx => q = .bool false ∧ Ext W14 wx)
        case first =>
          have xl : ∀ T, Ext W14 T → ∀ i, T.cell? ⟨X, i, none⟩ = _ := fun T hx => HX.out T (X14.out.trans hx)
          have nl : ∀ T, Ext W14 T → ∀ i, T.cell? ⟨N17, i, none⟩ = _ := fun T hx => (B17.out.ext hx).cell
          have HIF : Hid (∀ T, Ext W14 T → Calls Try.prog 17 #[.slice Ar (nth (rowsOf P.nodes 2) d).length cr, .agg #[.int .i64 x.from_, .int .i64 x.to_]] T fun e w' => e = .returned (.bool false) ∧ Ext T w') := Lib.hid fun T hx => by
            have h := IsFree_any (nth (rowsOf P.nodes 2) d) x _ T (HRD.out.ext hx)
            rw [HBK.out.taken] at h
            exact h
          have HLW := Lib.hid fun (T : World) (hx : Ext W14 T) => lwNodes_same ns _ _ T (Q14.out.ext hx) (RN.out.ext (X14.out.trans hx))
          go_region_held3 (fun T => Ext W14 T) (exact (by repeat (first | with_reducible assumption | with_reducible exact Ext.refl _ | with_reducible refine Ext.alloc ?_ _ | with_reducible refine Ext.drew ?_ | with_reducible refine Ext.trans ?_ hx15 | with_reducible refine Ext.trans ?_ hx16 | with_reducible refine Ext.trans ?_ hx17 | with_reducible refine Ext.trans ?_ hx18))) (first | (go_at_call 17; (with_reducible refine (HIF.out _ (by repeat (first | with_reducible assumption | with_reducible exact Ext.refl _ | with_reducible refine Ext.alloc ?_ _ | with_reducible refine Ext.drew ?_ | with_reducible refine Ext.trans ?_ hx15 | with_reducible refine Ext.trans ?_ hx16 | with_reducible refine Ext.trans ?_ hx17 | with_reducible refine Ext.trans ?_ hx18))).mono ?_); rintro e w15 ⟨rfl, hx15⟩; skip) | (go_at_call 12; (with_reducible refine (HLW.out _ (by repeat (first | with_reducible assumption | with_reducible exact Ext.refl _ | with_reducible refine Ext.alloc ?_ _ | with_reducible refine Ext.drew ?_ | with_reducible refine Ext.trans ?_ hx15 | with_reducible refine Ext.trans ?_ hx16 | with_reducible refine Ext.trans ?_ hx17 | with_reducible refine Ext.trans ?_ hx18))).mono ?_); rintro e w16 ⟨rfl, hx16⟩; skip))
          all_goals
            go_wp2_with fail
            go_meet
            exact ⟨rfl, (by repeat (first | with_reducible assumption | with_reducible exact Ext.refl _ | with_reducible refine Ext.alloc ?_ _ | with_reducible refine Ext.drew ?_ | with_reducible refine Ext.trans ?_ hx15 | with_reducible refine Ext.trans ?_ hx16 | with_reducible refine Ext.trans ?_ hx17 | with_reducible refine Ext.trans ?_ hx18))⟩
        case rest =>
          obtain ⟨rfl, hx15⟩ := hcut
          generalize wc = w15 at hx15 ⊢
          have X15 : Hid (Ext V w15) := Lib.hid (X14.out.trans hx15)
          have E15 : Hid (Ext w11 w15) := Lib.hid (E14.out.trans hx15)
          clear hx15 hcell hlen hd1
          have y9 := HB9.out _ X15.out
          have x15 := HX.out _ X15.out
          go_upto_region 15 with (go_at_call 18; (with_reducible refine (booksPass_any P.nodes x.to_ _ _ (P3.out.ext X15.out)).mono ?_); rintro e w16 ⟨v16, F16, rfl, o16, f16, hx16⟩; obtain ⟨A16, c16, rfl, -⟩ := o16.form; have O16 := Lib.hid o16; have X156 : Hid (Ext w15 w16) := Lib.hid hx16; have X16 : Hid (Ext V w16) := Lib.hid (X15.out.trans hx16); clear o16 f16 hx16)
          have hlen : ((booksPass P.nodes x.to_).length : Int) = (ns.length : Int) := by rw [HBK.out.past]
          have hd1 : d < (booksPass P.nodes x.to_).length := by rw [HBK.out.past]; exact HBK.out.lt
          obtain ⟨b2, q2, As, cs, rfl, hrd, hcell⟩ := node_at O16.out.rd hd1
          have HRE := Lib.hid hrd
          clear hrd y9 x15
          go_cut [152] (fun q wx => q = .bool false ∧ Ext w16 wx)
          case first =>
            have xl : ∀ T, Ext w16 T → ∀ i, T.cell? ⟨X, i, none⟩ = _ := fun T hx => HX.out T (X16.out.trans hx)
            have HIF : Hid (∀ T, Ext w16 T → Calls Try.prog 17 #[.slice As (nth (booksPass P.nodes x.to_) d).books.length cs, .agg #[.int .i64 x.from_, .int .i64 x.to_]] T fun e w' => e = .returned (.bool true) ∧ Ext T w') := Lib.hid fun T hx => by
              have h := IsFree_any (nth (booksPass P.nodes x.to_) d).books x _ T (HRE.out.ext hx)
              rw [HBK.out.free] at h
              exact h
            go_region_held3 (fun T => Ext w16 T) (exact (by repeat (first | with_reducible assumption | with_reducible exact Ext.refl _ | with_reducible refine Ext.alloc ?_ _ | with_reducible refine Ext.drew ?_ | with_reducible refine Ext.trans ?_ hx15 | with_reducible refine Ext.trans ?_ hx16 | with_reducible refine Ext.trans ?_ hx17 | with_reducible refine Ext.trans ?_ hx18))) (first | (go_at_call 17; (with_reducible refine (HIF.out _ (by repeat (first | with_reducible assumption | with_reducible exact Ext.refl _ | with_reducible refine Ext.alloc ?_ _ | with_reducible refine Ext.drew ?_ | with_reducible refine Ext.trans ?_ hx15 | with_reducible refine Ext.trans ?_ hx16 | with_reducible refine Ext.trans ?_ hx17 | with_reducible refine Ext.trans ?_ hx18))).mono ?_); rintro e w15 ⟨rfl, hx15⟩; skip))
            all_goals
              go_wp2_with fail
              go_meet
              exact ⟨rfl, (by repeat (first | with_reducible assumption | with_reducible exact Ext.refl _ | with_reducible refine Ext.alloc ?_ _ | with_reducible refine Ext.drew ?_ | with_reducible refine Ext.trans ?_ hx15 | with_reducible refine Ext.trans ?_ hx16 | with_reducible refine Ext.trans ?_ hx17 | with_reducible refine Ext.trans ?_ hx18))⟩
          case rest =>
            obtain ⟨rfl, hx17⟩ := hcut
            generalize wc = w17 at hx17 ⊢
            clear hcell hlen hd1 hd0
            go_wp2_with fail
            go_meet
            exact ⟨rfl, (E15.out.trans X156.out).trans hx17⟩
      · go_wp2_with fail
        go_meet
        exact ⟨rfl, Ext.refl _⟩
    case rest => as_aux_lemma =>
      obtain ⟨rfl, hx12⟩ := hcut
      generalize wc = wd at hx12 ⊢
      have XD : Hid (Ext V wd) := Lib.hid (X11.out.trans hx12)
      clear hx12 y9 y10 y14 y15 X11 X10 X9 X8
      have y14 := HB14.out _ XD.out
      by_cases hc : Q.code = 0
      · obtain ⟨d, hb⟩ : ∃ d, Turned ms k st Q.nodes d := by
          have := turned (l := ms) (n := k) (st := st) (by rw [HQ.out]; exact hc)
          rwa [HQ.out] at this
        have HTK := Lib.hid hb
        have hn := hb.num
        clear hb
        subst hn
        have q14 : ∀ T, Ext wd T → ∀ i, T.cell? ⟨N7, i, none⟩ = _ := fun T hx => HB14.out T (XD.out.trans hx)
        have QD := Lib.hid (Q6.out.ext XD.out)
        go_upto_region 19 with (fail)
        go_cut [19, 20] (fun p q wx => ∃ (Aa Ab : Option Addr) (ca cb : Nat) (Fa Fb : List Nat), p = .slice Aa (rowsOf Q.nodes 2).length ca ∧ q = .slice Ab (rowsOf Q.nodes 3).length cb ∧ Rd (ERow ESpan) (fun b => b ∈ Fa) wx (.slice Aa (rowsOf Q.nodes 2).length ca) (rowsOf Q.nodes 2) ∧ Rd (ERow ESpan) (fun b => b ∈ Fb) wx (.slice Ab (rowsOf Q.nodes 3).length cb) (rowsOf Q.nodes 3) ∧ Ext wd wx)
        case first =>
          go_region_held3 (fun T => Ext wd T) (exact (by repeat (first | with_reducible assumption | with_reducible exact Ext.refl _ | with_reducible refine Ext.alloc ?_ _ | with_reducible refine Ext.drew ?_ | with_reducible refine Ext.trans ?_ hx20 | with_reducible refine Ext.trans ?_ hx21 | with_reducible refine Ext.trans ?_ hx22 | with_reducible refine Ext.trans ?_ hx23 | with_reducible refine Ext.trans ?_ hx24 | with_reducible refine Ext.trans ?_ hx25))) (first | (go_at_call 15; (with_reducible refine (rowsNew_any Q.nodes _ _ (QD.out.ext (by repeat (first | with_reducible assumption | with_reducible exact Ext.refl _ | with_reducible refine Ext.alloc ?_ _ | with_reducible refine Ext.drew ?_ | with_reducible refine Ext.trans ?_ hx20 | with_reducible refine Ext.trans ?_ hx21 | with_reducible refine Ext.trans ?_ hx22 | with_reducible refine Ext.trans ?_ hx23 | with_reducible refine Ext.trans ?_ hx24 | with_reducible refine Ext.trans ?_ hx25)))).mono ?_); rintro e w20 ⟨v20, F20, rfl, o20, f20, hx20⟩; obtain ⟨A20, c20, rfl, -⟩ := o20.form; have O20 := Lib.hid o20.rd; clear o20 f20) | (go_at_call 19; (with_reducible refine (rowsHard_any Q.nodes _ _ (QD.out.ext (by repeat (first | with_reducible assumption | with_reducible exact Ext.refl _ | with_reducible refine Ext.alloc ?_ _ | with_reducible refine Ext.drew ?_ | with_reducible refine Ext.trans ?_ hx20 | with_reducible refine Ext.trans ?_ hx21 | with_reducible refine Ext.trans ?_ hx22 | with_reducible refine Ext.trans ?_ hx23 | with_reducible refine Ext.trans ?_ hx24 | with_reducible refine Ext.trans ?_ hx25)))).mono ?_); rintro e w21 ⟨v21, F21, rfl, o21, f21, hx21⟩; obtain ⟨A21, c21, rfl, -⟩ := o21.form; have O21 := Lib.hid o21.rd; clear o21 f21))
          all_goals
            go_wp2_with fail
            go_meet
            exact ⟨A20, A21, c20, c21, F20, F21, rfl, rfl, O20.out.ext (by repeat (first | with_reducible assumption | with_reducible exact Ext.refl _ | with_reducible refine Ext.alloc ?_ _ | with_reducible refine Ext.drew ?_ | with_reducible refine Ext.trans ?_ hx20 | with_reducible refine Ext.trans ?_ hx21 | with_reducible refine Ext.trans ?_ hx22 | with_reducible refine Ext.trans ?_ hx23 | with_reducible refine Ext.trans ?_ hx24 | with_reducible refine Ext.trans ?_ hx25)), O21.out.ext (by repeat (first | with_reducible assumption | with_reducible exact Ext.refl _ | with_reducible refine Ext.alloc ?_ _ | with_reducible refine Ext.drew ?_ | with_reducible refine Ext.trans ?_ hx20 | with_reducible refine Ext.trans ?_ hx21 | with_reducible refine Ext.trans ?_ hx22 | with_reducible refine Ext.trans ?_ hx23 | with_reducible refine Ext.trans ?_ hx24 | with_reducible refine Ext.trans ?_ hx25)), (by repeat (first | with_reducible assumption | with_reducible exact Ext.refl _ | with_reducible refine Ext.alloc ?_ _ | with_reducible refine Ext.drew ?_ | with_reducible refine Ext.trans ?_ hx20 | with_reducible refine Ext.trans ?_ hx21 | with_reducible refine Ext.trans ?_ hx22 | with_reducible refine Ext.trans ?_ hx23 | with_reducible refine Ext.trans ?_ hx24 | with_reducible refine Ext.trans ?_ hx25))⟩
        case rest =>
          obtain ⟨Aa, Ab, ca, cb, Fa, Fb, rfl, rfl, ra, rb, hx21⟩ := hcut
          generalize wc = we at ra rb hx21 ⊢
          have XE : Hid (Ext V we) := Lib.hid (XD.out.trans hx21)
          have RA := Lib.hid ra
          have RB := Lib.hid rb
          have QE := Lib.hid (QD.out.ext hx21)
          clear ra rb hx21 QD q14 y14
          have y14 := HB14.out _ XE.out
          have hl2 : ((rowsOf Q.nodes 2).length : Int) = (ms.length : Int) := by rw [HTK.out.rowsNew]
          have hl3 : ((rowsOf Q.nodes 3).length : Int) = (ms.length : Int) := by rw [HTK.out.rowsHard]
          have hd0 : (d : Int) < (ms.length : Int) := by have := HTK.out.lt; omega
          have hd2 : d < (rowsOf Q.nodes 2).length := by rw [HTK.out.rowsNew]; exact HTK.out.lt
          have hd3 : d < (rowsOf Q.nodes 3).length := by rw [HTK.out.rowsHard]; exact HTK.out.lt
          have hdq : d < Q.nodes.length := by rw [HTK.out.len]; exact HTK.out.lt
          obtain ⟨b1, q1, A1', k1, rfl, r1, e1⟩ := row_at RA.out hd2
          obtain ⟨b2, q2, A2', k2, rfl, r2, e2⟩ := row_at RB.out hd3
          obtain ⟨b3, q3, A3', k3, rfl, r3, e3⟩ := node_at QE.out hdq
          have G1 := Lib.hid r1
          have G2 := Lib.hid r2
          have G3 := Lib.hid r3
          have E1h := Lib.hid e1
          have E2h := Lib.hid e2
          have E3h := Lib.hid e3
          have HNEW := Lib.hid HTK.out.new_
          have HHARD := Lib.hid HTK.out.hard
          have LO := HTK.out.low
          have HI := HTK.out.high
          clear r1 r2 r3 e1 e2 e3 RA RB
          go_upto_block 0 with (fail)
          obtain ⟨W2, N2, hW2, hN2, hx22, o22⟩ : ∃ T N, T = we.alloc (.cells #[.int .i64 0, .int .i64 1000000] 25) ∧ N = we.heap.size ∧ Ext we T ∧ OwS OSpan 25 T (.slice (some ⟨N, 0, none⟩) 1 1) [⟨0, 1000000⟩] [N] := ⟨_, _, rfl, rfl, (Ext.refl _).alloc _, ow_span 25 we ⟨0, 1000000⟩ (by unfold FitSpan I64; decide)⟩
          rw [← hW2, ← hN2]
          have OA := Lib.hid o22.rd
          have X22 : Hid (Ext we W2) := Lib.hid hx22
          have XZ : Hid (Ext w W2) := Lib.hid (XW.out.trans (XE.out.trans hx22))
          have e1 : ∀ T, Ext W2 T → T.cell? ⟨b1, q1 + d, none⟩ = _ := fun T hx => E1h.out T (X22.out.trans hx)
          have e2 : ∀ T, Ext W2 T → T.cell? ⟨b2, q2 + d, none⟩ = _ := fun T hx => E2h.out T (X22.out.trans hx)
          have e3 : ∀ T, Ext W2 T → T.cell? ⟨b3, q3 + d * 2 + 1, none⟩ = _ := fun T hx => E3h.out T (X22.out.trans hx)
          have y15 : ∀ T, Ext W2 T → ∀ i, T.cell? ⟨N7, i, none⟩ = _ := fun T hx => HB14.out T ((XE.out.trans X22.out).trans hx)
          clear hW2 hN2 hx22 o22 y14
          by_cases h1 : st = 1
          · subst h1
            have K1 := Lib.hid (rd_eq G1.out (m := (nth Q.nodes d).books) (by rw [HNEW.out]; rfl))
            have K2 := Lib.hid (rd_eq G2.out (m := (nth Q.nodes d).books) (by rw [HHARD.out]; rfl))
            have HL1 := Lib.hid fun (T : World) (hx : Ext W2 T) => lwSpans_same (nth Q.nodes d).books _ _ T (K1.out.ext (X22.out.trans hx)) (G3.out.ext (X22.out.trans hx))
            have HL2 := Lib.hid fun (T : World) (hx : Ext W2 T) => lwSpans_same (nth Q.nodes d).books _ _ T (K2.out.ext (X22.out.trans hx)) (K1.out.ext (X22.out.trans hx))
            clear LO HI
            go_upto_region 25 with (fail)
            go_region_held3 (fun T => Ext W2 T) (exact (by repeat (first | with_reducible assumption | with_reducible exact Ext.refl _ | with_reducible refine Ext.alloc ?_ _ | with_reducible refine Ext.drew ?_ | with_reducible refine Ext.trans ?_ hx20 | with_reducible refine Ext.trans ?_ hx21 | with_reducible refine Ext.trans ?_ hx22 | with_reducible refine Ext.trans ?_ hx23 | with_reducible refine Ext.trans ?_ hx24 | with_reducible refine Ext.trans ?_ hx25))) (first | (go_at_call 20; (with_reducible refine (HL1.out _ (by repeat (first | with_reducible assumption | with_reducible exact Ext.refl _ | with_reducible refine Ext.alloc ?_ _ | with_reducible refine Ext.drew ?_ | with_reducible refine Ext.trans ?_ hx20 | with_reducible refine Ext.trans ?_ hx21 | with_reducible refine Ext.trans ?_ hx22 | with_reducible refine Ext.trans ?_ hx23 | with_reducible refine Ext.trans ?_ hx24 | with_reducible refine Ext.trans ?_ hx25))).mono ?_); rintro e w23 ⟨rfl, hx23⟩; skip) | (go_at_call 20; (with_reducible refine (HL2.out _ (by repeat (first | with_reducible assumption | with_reducible exact Ext.refl _ | with_reducible refine Ext.alloc ?_ _ | with_reducible refine Ext.drew ?_ | with_reducible refine Ext.trans ?_ hx20 | with_reducible refine Ext.trans ?_ hx21 | with_reducible refine Ext.trans ?_ hx22 | with_reducible refine Ext.trans ?_ hx23 | with_reducible refine Ext.trans ?_ hx24 | with_reducible refine Ext.trans ?_ hx25))).mono ?_); rintro e w24 ⟨rfl, hx24⟩; skip))
            all_goals
              go_wp2_with fail
              go_ret
              exact ⟨rfl, XZ.out.trans (by repeat (first | with_reducible assumption | with_reducible exact Ext.refl _ | with_reducible refine Ext.alloc ?_ _ | with_reducible refine Ext.drew ?_ | with_reducible refine Ext.trans ?_ hx20 | with_reducible refine Ext.trans ?_ hx21 | with_reducible refine Ext.trans ?_ hx22 | with_reducible refine Ext.trans ?_ hx23 | with_reducible refine Ext.trans ?_ hx24 | with_reducible refine Ext.trans ?_ hx25))⟩
          by_cases h2 : st = 2
          · subst h2
            have K1 := Lib.hid (rd_eq G1.out (m := [⟨0, 1000000⟩]) (by rw [HNEW.out]; rfl))
            have K2 := Lib.hid (rd_eq G2.out (m := (nth Q.nodes d).books) (by rw [HHARD.out]; rfl))
            have HL1 := Lib.hid fun (T : World) (hx : Ext W2 T) => lwSpans_same [⟨0, 1000000⟩] _ _ T (K1.out.ext (X22.out.trans hx)) (OA.out.ext hx)
            have HL2 := Lib.hid fun (T : World) (hx : Ext W2 T) => lwSpans_same (nth Q.nodes d).books _ _ T (K2.out.ext (X22.out.trans hx)) (G3.out.ext (X22.out.trans hx))
            clear LO HI h1
            go_upto_region 27 with (fail)
            go_region_held3 (fun T => Ext W2 T) (exact (by repeat (first | with_reducible assumption | with_reducible exact Ext.refl _ | with_reducible refine Ext.alloc ?_ _ | with_reducible refine Ext.drew ?_ | with_reducible refine Ext.trans ?_ hx20 | with_reducible refine Ext.trans ?_ hx21 | with_reducible refine Ext.trans ?_ hx22 | with_reducible refine Ext.trans ?_ hx23 | with_reducible refine Ext.trans ?_ hx24 | with_reducible refine Ext.trans ?_ hx25))) (first | (go_at_call 20; (with_reducible refine (HL1.out _ (by repeat (first | with_reducible assumption | with_reducible exact Ext.refl _ | with_reducible refine Ext.alloc ?_ _ | with_reducible refine Ext.drew ?_ | with_reducible refine Ext.trans ?_ hx20 | with_reducible refine Ext.trans ?_ hx21 | with_reducible refine Ext.trans ?_ hx22 | with_reducible refine Ext.trans ?_ hx23 | with_reducible refine Ext.trans ?_ hx24 | with_reducible refine Ext.trans ?_ hx25))).mono ?_); rintro e w23 ⟨rfl, hx23⟩; skip) | (go_at_call 20; (with_reducible refine (HL2.out _ (by repeat (first | with_reducible assumption | with_reducible exact Ext.refl _ | with_reducible refine Ext.alloc ?_ _ | with_reducible refine Ext.drew ?_ | with_reducible refine Ext.trans ?_ hx20 | with_reducible refine Ext.trans ?_ hx21 | with_reducible refine Ext.trans ?_ hx22 | with_reducible refine Ext.trans ?_ hx23 | with_reducible refine Ext.trans ?_ hx24 | with_reducible refine Ext.trans ?_ hx25))).mono ?_); rintro e w24 ⟨rfl, hx24⟩; skip))
            all_goals
              go_wp2_with fail
              go_ret
              exact ⟨rfl, XZ.out.trans (by repeat (first | with_reducible assumption | with_reducible exact Ext.refl _ | with_reducible refine Ext.alloc ?_ _ | with_reducible refine Ext.drew ?_ | with_reducible refine Ext.trans ?_ hx20 | with_reducible refine Ext.trans ?_ hx21 | with_reducible refine Ext.trans ?_ hx22 | with_reducible refine Ext.trans ?_ hx23 | with_reducible refine Ext.trans ?_ hx24 | with_reducible refine Ext.trans ?_ hx25))⟩
          · obtain rfl : st = 3 := by omega
            have K1 := Lib.hid (rd_eq G1.out (m := [⟨0, 1000000⟩]) (by rw [HNEW.out]; rfl))
            have K2 := Lib.hid (rd_eq G2.out (m := [⟨0, 1000000⟩]) (by rw [HHARD.out]; rfl))
            have HL1 := Lib.hid fun (T : World) (hx : Ext W2 T) => lwSpans_same [⟨0, 1000000⟩] _ _ T (K1.out.ext (X22.out.trans hx)) (OA.out.ext hx)
            have HL2 := Lib.hid fun (T : World) (hx : Ext W2 T) => lwSpans_same [⟨0, 1000000⟩] _ _ T (K2.out.ext (X22.out.trans hx)) (OA.out.ext hx)
            clear LO HI h1 h2
            have f1 := e1 _ (Ext.refl _)
            have E2x := Lib.hid e2
            clear e1 e2 e3 y15
            go_wp2_with (first | (go_at_call 20; (with_reducible refine (HL1.out _ (Ext.refl _)).mono ?_); rintro e w23 ⟨rfl, hx23⟩; have X23 := Lib.hid hx23; clear f1; have f2 := E2x.out _ hx23; clear hx23) | (go_at_call 20; (with_reducible refine (HL2.out _ X23.out).mono ?_); rintro e w24 ⟨rfl, hx24⟩; have X24 := Lib.hid hx24; clear hx24))
            go_ret
            exact ⟨rfl, XZ.out.trans (X23.out.trans X24.out)⟩
      · go_wp2_with fail
        go_ret
        exact ⟨rfl, XW.out.trans XD.out⟩
end Go.Proofs.Ytbdicafambkhdaa

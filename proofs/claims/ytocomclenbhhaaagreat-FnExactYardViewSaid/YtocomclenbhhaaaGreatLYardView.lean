/- What a label may see of a yard, in plain Lean; the walks of YardView, the program's and the reference's. Printed by wip/yardv.py. The law FnExactYardView: the program's YardView and the reference's are equal; its row. Printed by wip/law.py. -/
import Derived.Test.YtocomclenbhhaaaGreatYardS
import Derived.Test.YtocomclenbhhaaaGreatTBytesS
import Derived.Test.YtocomclenbhhaaaGreatNodesP
import Derived.Deep.RegionHeld3
import Derived.Test.YtocomclenbhhaaaGreatKYardView
import Derived.Test.YtocomclenbhhaaaGreatGYardT
import Derived.Test.YtocomclenbhhaaaGreatGYardE
import Derived.ChangeMaps5
namespace Go.Proofs.YtocomclenbhhaaaGreat
open Go.RowKit
attribute [local irreducible] wpQuiet

def bookNums (l : List Span) : List Int := l.flatMap fun b => [b.from_, b.to_]
def nodeText (a : ByteArray) (x : Node) : ByteArray := putNumsFrom (putNumsFrom a [x.state, (x.books.length : Int)]) (bookNums x.books)
def viewA (y : Yard) : Nat → ByteArray
  | 0 => putNum y.now
  | k + 1 => nodeText (viewA y k) (nth y.nodes k)
def viewT (y : Yard) (lab : Label) (a : ByteArray) : Nat → ByteArray
  | 0 => a
  | k + 1 => if belowB (nth y.tasks k).label lab = true then viewT y lab a k ++ taskBytes (nth y.tasks k) else viewT y lab a k
def useText (a : ByteArray) (x : Use) : ByteArray := a ++ putNum x.label.level ++ putNum x.label.set ++ putText x.owner ++ putNum x.used
def viewU (y : Yard) (lab : Label) (a : ByteArray) : Nat → ByteArray
  | 0 => a
  | k + 1 => if belowB (nth y.uses k).label lab = true then useText (viewU y lab a k) (nth y.uses k) else viewU y lab a k
def viewAll (y : Yard) (lab : Label) : ByteArray := viewU y lab (viewT y lab (viewA y y.nodes.length) y.tasks.length) y.uses.length
def yardView (y : Yard) (lab : Label) : ByteArray := if yardRight y = true ∧ labelRight lab = true then viewAll y lab else ⟨#[]⟩
theorem yview_of {y : Yard} {lab : Label} (h1 : yardRight y = true) (h2 : labelRight lab = true) : yardView y lab = viewAll y lab := by rw [yardView, if_pos ⟨h1, h2⟩]
theorem yview_no1 {y : Yard} {lab : Label} (h : yardRight y = false) : yardView y lab = ⟨#[]⟩ := by rw [yardView, if_neg (by simp [h])]
theorem yview_no2 {y : Yard} {lab : Label} (h : labelRight lab = false) : yardView y lab = ⟨#[]⟩ := by rw [yardView, if_neg (by simp [h])]
theorem books_succ {l : List Span} {j : Nat} (h : j < l.length) : bookNums (l.take (j + 1)) = bookNums (l.take j) ++ [(nth l j).from_, (nth l j).to_] := by
  unfold bookNums
  rw [take_snoc h, List.flatMap_append]
  simp
theorem app_nilY (x : ByteArray) : x ++ ⟨#[]⟩ = x := by apply ByteArray.ext; simp
theorem from_empty (a : ByteArray) (l : List Int) : a ++ putNumsFrom ⟨#[]⟩ l = putNumsFrom a l := by rw [from_assoc, app_nilY]
theorem use_parts (a : ByteArray) (x : Use) : a ++ (putNumsFrom ⟨#[]⟩ [x.label.level, x.label.set] ++ putText x.owner ++ putNum x.used) = useText a x := by
  simp only [putNumsFrom, useText, bytes_assoc, bytes_nil]
theorem taskBytes_size {x : Task} (hf : FitTask x) : (taskBytes x).size ≤ 8200 := by
  unfold taskBytes
  split
  · rename_i h
    have hn := taskRight_nodes h
    have hb : ∀ z ∈ x.nodes, I64 z := fun z hz => by
      obtain ⟨i, hi, rfl⟩ := List.getElem_of_mem hz
      have := node_bounds h hi
      rw [nth_eq hi] at this
      unfold I64
      omega
    have a1 := from_size (headNums x) ⟨#[]⟩ (head_fit hf)
    have a2 := @text_size x.owner
    have a3 := from_size (restNums x) (taskHead x) (rest_fit hf hn)
    have a4 := from_size x.nodes (putNumsFrom (taskHead x) (restNums x)) hb
    have a5 : (taskHead x).size = (putNumsFrom ⟨#[]⟩ (headNums x)).size + (putText x.owner).size := size_app _ _
    have z0 : (⟨#[]⟩ : ByteArray).size = 0 := rfl
    have z1 : (headNums x).length = 3 := rfl
    have z2 : (restNums x).length = 10 := rfl
    unfold taskText
    omega
  · exact Nat.zero_le _
theorem right_parts {y : Yard} (h : yardRight y = true) : y.nodes.length ≤ 6 ∧ (∀ k, k < y.nodes.length → (nth y.nodes k).books.length ≤ 4) ∧ y.tasks.length ≤ 96 ∧ y.uses.length ≤ 48 ∧ I64 y.now := by
  simp only [yardRight, yardHead, Bool.and_eq_true] at h
  have hn := h.1.1.1.1.1.1.2
  have ht := h.1.1.1.1.1.2
  have hu := h.1.1.1.1.2
  have hw := now_bounds h.1.1.1.2
  simp only [nodesRight, Bool.and_eq_true] at hn
  have hl := isB_true hn.1
  refine ⟨by omega, fun k hk => ?_, few_tasks ht, ?_, by unfold I64; omega⟩
  · have := List.all_eq_true.1 hn.2 _ (nth_mem hk)
    simp only [nodeOk, Bool.and_eq_true, decide_eq_true_eq] at this
    omega
  · simp only [usesRight, Bool.and_eq_true, decide_eq_true_eq] at hu
    exact hu.1
theorem two_intsY (T : TypeId) (V : World) (x y : Int) (hx : I64 x) (hy : I64 y) : Rd EInt (fun _ => True) (V.alloc (.cells #[.int .i64 x, .int .i64 y] T)) (.slice (some ⟨V.heap.size, 0, none⟩) 2 2) [x, y] := by
  refine ⟨_, _, rfl, Nat.le_refl _, by unfold maxLen; simp, fun k u hk => ⟨_, 0, [.int .i64 u], rfl, trivial, ⟨rfl, ?_⟩, fun j v hj => ?_⟩⟩
  · have := List.mem_of_getElem? hk
    simp at this
    rcases this with rfl | rfl <;> assumption
  obtain ⟨rfl, rfl⟩ : j = 0 ∧ v = .int .i64 u := by
    rcases j with _ | j
    · simpa using hj.symm
    · simp at hj
  rw [(Blk.new V T _).cell]
  rcases k with _ | _ | k
  · simp at hk; simp [EInt, hk]
  · simp at hk; simp [EInt, hk]
  · simp at hk
theorem yLab_is {S : Nat → Prop} (x : Label) (cs : List Value) (w : World) (h : ELabel.rel S w cs x) (r : Bool) (hr : labelRight x = r) :
    Calls Tryz.prog 80 #[.agg cs.toArray] w fun e w' => e = .returned (.bool r) ∧ Ext w w' := by
  subst hr
  exact labelRight_any x cs w h
theorem ySpecLab_is {S : Nat → Prop} (x : Label) (cs : List Value) (w : World) (h : ELabel.rel S w cs x) (r : Bool) (hr : labelRight x = r) :
    Calls Tryz.prog 75 #[.agg cs.toArray] w fun e w' => e = .returned (.bool r) ∧ Ext w w' := by
  subst hr
  exact specLabelRight_any x cs w h
theorem yBelow_is {S S' : Nat → Prop} (a b : Label) (cs ds : List Value) (w : World) (h : ELabel.rel S w cs a) (g : ELabel.rel S' w ds b) (r : Bool) (hr : belowB a b = r) :
    Calls Tryz.prog 83 #[.agg cs.toArray, .agg ds.toArray] w fun e w' => e = .returned (.bool r) ∧ Ext w w' := by
  subst hr
  exact below_any a b cs ds w h g
theorem ySpecBelow_is {S S' : Nat → Prop} (a b : Label) (cs ds : List Value) (w : World) (h : ELabel.rel S w cs a) (g : ELabel.rel S' w ds b) (r : Bool) (hr : belowB a b = r) :
    Calls Tryz.prog 77 #[.agg cs.toArray, .agg ds.toArray] w fun e w' => e = .returned (.bool r) ∧ Ext w w' := by
  subst hr
  exact l02Below_any a b cs ds w h g
theorem yNums_is {S : Nat → Prop} (l : List Int) (v : Value) (w : World) (h : Rd EInt S w v l) (hl : l.length ≤ 1000) (s : ByteArray) (hs : putNumsFrom ⟨#[]⟩ l = s) :
    Calls Tryz.prog 82 #[v] w fun e w' => e = .returned (.string s) ∧ Ext w w' := by
  subst hs
  exact putNums_any l v w h hl
theorem yPutNum_is (n : Int) (w : World) (hn : I64 n) (s : ByteArray) (hs : putNum n = s) : Calls Tryz.prog 81 #[.int .i64 n] w fun e w' => e = .returned (.string s) ∧ Ext w w' := by
  subst hs
  exact putNum_any n w hn
theorem yNum_is (n : Int) (w : World) (hn : I64 n) (s : ByteArray) (hs : putNum n = s) : Calls Tryz.prog 76 #[.int .i64 n] w fun e w' => e = .returned (.string s) ∧ Ext w w' := by
  subst hs
  exact specPutNum_any n w hn
theorem yText_is (t : ByteArray) (w : World) (ht : Str t) (s : ByteArray) (hs : putText t = s) : Calls Tryz.prog 85 #[.string t] w fun e w' => e = .returned (.string s) ∧ Ext w w' := by
  subst hs
  exact putText_any t w ht
theorem ySpecText_is (t : ByteArray) (w : World) (ht : Str t) (s : ByteArray) (hs : putText t = s) : Calls Tryz.prog 79 #[.string t] w fun e w' => e = .returned (.string s) ∧ Ext w w' := by
  subst hs
  exact specPutText_any t w ht
theorem yTask_is {S : Nat → Prop} (x : Task) (cs : List Value) (w : World) (h : ETask.rel S w cs x) (s : ByteArray) (hs : taskBytes x = s) :
    Calls Tryz.prog 84 #[.agg cs.toArray] w fun e w' => e = .returned (.string s) ∧ Ext w w' := by
  subst hs
  exact taskBytes_any x cs w h
theorem ySpecTask_is {S : Nat → Prop} (x : Task) (cs : List Value) (w : World) (h : ETask.rel S w cs x) (s : ByteArray) (hs : taskBytes x = s) :
    Calls Tryz.prog 78 #[.agg cs.toArray] w fun e w' => e = .returned (.string s) ∧ Ext w w' := by
  subst hs
  exact specTaskBytes_any x cs w h
theorem viewT_out {y : Yard} {lab : Label} {a : ByteArray} {k : Nat} (h : belowB (nth y.tasks k).label lab = false) : viewT y lab a (k + 1) = viewT y lab a k := by rw [viewT, if_neg (by simp [h])]
theorem viewT_in {y : Yard} {lab : Label} {a : ByteArray} {k : Nat} (h : belowB (nth y.tasks k).label lab = true) : viewT y lab a (k + 1) = viewT y lab a k ++ taskBytes (nth y.tasks k) := by rw [viewT, if_pos h]
theorem viewU_out {y : Yard} {lab : Label} {a : ByteArray} {k : Nat} (h : belowB (nth y.uses k).label lab = false) : viewU y lab a (k + 1) = viewU y lab a k := by rw [viewU, if_neg (by simp [h])]
theorem viewU_in {y : Yard} {lab : Label} {a : ByteArray} {k : Nat} (h : belowB (nth y.uses k).label lab = true) : viewU y lab a (k + 1) = useText (viewU y lab a k) (nth y.uses k) := by rw [viewU, if_pos h]

set_option maxHeartbeats 32000000 in
set_option maxRecDepth 100000 in
theorem yardView_any {S S2 : Nat → Prop} (y : Yard) (lab : Label) (cs es : List Value) (w : World) (h : EYard.rel S w cs y) (gl : ELabel.rel S2 w es lab) :
    Calls Tryz.prog 22 #[.agg cs.toArray, .agg es.toArray] w fun e w' => e = .returned (.string (yardView y lab)) ∧ Ext w w' := by
  obtain ⟨v1, v2, v3, v4, v5, v6, rfl, hf, h1, h2, h3, h4, h5, h6⟩ := h
  obtain ⟨rfl, fl⟩ := gl
  have FL := Lib.hid fl
  obtain ⟨A1, c1, rfl, -⟩ := h1.form
  obtain ⟨A2, c2, rfl, -⟩ := h2.form
  obtain ⟨A3, c3, rfl, -⟩ := h3.form
  have H4 := Lib.hid h4
  obtain ⟨A4, c4, rfl, l4, m4, hk4⟩ := h4.open_
  unfold maxLen at m4
  have H5 := Lib.hid h5
  obtain ⟨A5, c5, rfl, l5, m5, hk5⟩ := h5.open_
  unfold maxLen at m5
  have H6 := Lib.hid h6
  obtain ⟨A6, c6, rfl, l6, m6, hk6⟩ := h6.open_
  unfold maxLen at m6
  have HF := Lib.hid hf
  have H1 := Lib.hid h1
  have H2 := Lib.hid h2
  have H3 := Lib.hid h3
  have K4 := Lib.hid hk4
  have K5 := Lib.hid hk5
  have K6 := Lib.hid hk6
  clear hf h1 h2 h3 h4 h5 h6 hk4 hk5 hk6 fl
  simp only [cellsYard, cellsLabel]
  obtain ⟨t, ht⟩ : ∃ t, yardRight y = t := ⟨_, rfl⟩
  have T := Lib.hid ht
  obtain ⟨u, hu⟩ : ∃ u, labelRight lab = u := ⟨_, rfl⟩
  have U := Lib.hid hu
  clear ht hu
  go_enter Tryz.func22, Tryz.ntmps22
  go_upto_region 1 with (fail)
  obtain ⟨W, B, hW, hB, hx0, a0, d0⟩ := boxes2 w #[.slice A1 y.config.nodes.length c1, .slice A2 y.config.pairs.length c2, .slice A3 y.config.quotas.length c3, .int .i64 y.config.half, .slice A4 y.nodes.length c4, .slice A5 y.tasks.length c5, .slice A6 y.uses.length c6, .int .i64 y.now] #[.int .i64 lab.level, .int .i64 lab.set] 37 60
  rw [← hW, ← hB]
  have QA := Lib.hid a0
  have QL := Lib.hid d0
  have X := Lib.hid hx0
  clear hW hB hx0 a0 d0
  have qa := QA.out.cell
  cases t with
  | false =>
    have HN : Hid (yardView y lab = ⟨#[]⟩) := Lib.hid (yview_no1 T.out)
    clear U
    go_wp2_with (go_at_call 18; (with_reducible refine (yardRight_is (S := S) y _ _ (rel_Yard HF.out (H1.out.ext X.out) (H2.out.ext X.out) (H3.out.ext X.out) (H4.out.ext X.out) (H5.out.ext X.out) (H6.out.ext X.out)) _ T.out).mono ?_); rintro e w7 ⟨rfl, hx7⟩; have X7 := Lib.hid (X.out.trans hx7); have QA7 := Lib.hid (QA.out.ext hx7); have QL7 := Lib.hid (QL.out.ext hx7); clear hx7 qa; have l0 := QL7.out.cell)
    go_ret
    exact ⟨by rw [HN.out] <;> rfl, X7.out⟩
  | true =>
    cases u with
    | false =>
      have HN : Hid (yardView y lab = ⟨#[]⟩) := Lib.hid (yview_no2 U.out)
      go_wp2_with (first | (go_at_call 18; (with_reducible refine (yardRight_is (S := S) y _ _ (rel_Yard HF.out (H1.out.ext X.out) (H2.out.ext X.out) (H3.out.ext X.out) (H4.out.ext X.out) (H5.out.ext X.out) (H6.out.ext X.out)) _ T.out).mono ?_); rintro e w7 ⟨rfl, hx7⟩; have X7 := Lib.hid (X.out.trans hx7); have QA7 := Lib.hid (QA.out.ext hx7); have QL7 := Lib.hid (QL.out.ext hx7); clear hx7 qa; have l0 := QL7.out.cell) | (go_at_call 80; (with_reducible refine (yLab_is (S := S) lab _ _ (rel_Label FL.out) _ U.out).mono ?_); rintro e w8 ⟨rfl, hx8⟩; have X8 := Lib.hid (X7.out.trans hx8); have QA8 := Lib.hid (QA7.out.ext hx8); have QL8 := Lib.hid (QL7.out.ext hx8); clear hx8 l0))
      go_ret
      exact ⟨by rw [HN.out] <;> rfl, X8.out⟩
    | true =>
      have HV := Lib.hid (yview_of T.out U.out)
      obtain ⟨n1, n2, n3, n4, n5⟩ := right_parts T.out
      have N2 := Lib.hid n2
      have N5 := Lib.hid n5
      have hnow := putNum_size n5
      obtain ⟨s0, hs0⟩ : ∃ s, putNum y.now = s := ⟨_, rfl⟩
      have HS0 := Lib.hid hs0
      rw [hs0] at hnow
      clear n2 n5 hs0
      go_upto_region 3 with (first | (go_at_call 18; (with_reducible refine (yardRight_is (S := S) y _ _ (rel_Yard HF.out (H1.out.ext X.out) (H2.out.ext X.out) (H3.out.ext X.out) (H4.out.ext X.out) (H5.out.ext X.out) (H6.out.ext X.out)) _ T.out).mono ?_); rintro e w7 ⟨rfl, hx7⟩; have X7 := Lib.hid (X.out.trans hx7); have QA7 := Lib.hid (QA.out.ext hx7); have QL7 := Lib.hid (QL.out.ext hx7); clear hx7 qa; have l0 := QL7.out.cell) | (go_at_call 80; (with_reducible refine (yLab_is (S := S) lab _ _ (rel_Label FL.out) _ U.out).mono ?_); rintro e w8 ⟨rfl, hx8⟩; have X8 := Lib.hid (X7.out.trans hx8); have QA8 := Lib.hid (QA7.out.ext hx8); have QL8 := Lib.hid (QL7.out.ext hx8); clear hx8 l0))
      have qa : w8.cell? ⟨B, 7, none⟩ = some (.int .i64 y.now) := QA8.out.cell 7
      go_upto_region 4 with (go_at_call 81; (with_reducible refine (yPutNum_is y.now _ N5.out s0 HS0.out).mono ?_); rintro e w9 ⟨rfl, hx9⟩; have X9 := Lib.hid (X8.out.trans hx9); have QA9 := Lib.hid (QA8.out.ext hx9); have QL9 := Lib.hid (QL8.out.ext hx9); clear hx9 qa)
      have qa : w9.cell? ⟨B, 4, none⟩ = some (.slice A4 y.nodes.length c4) := QA9.out.cell 4
      go_wp2_with fail
      clear qa
      go_loopw [5, 28] (fun s i w' => ∃ k : Nat, k ≤ y.nodes.length ∧ i = .int .i64 k ∧ s = .string (viewA y k) ∧ (viewA y k).size ≤ 10 + 100 * k ∧ Ext w9 w') (fun _ i _ => y.nodes.length - (intOf i).toNat)
      case atStart => exact ⟨0, by omega, rfl, by rw [viewA, HS0.out], by rw [viewA, HS0.out]; omega, Ext.refl _⟩
      case round =>
        obtain ⟨k, hk1, rfl, rfl, hs, hx⟩ := hrel
        have HX := Lib.hid hx
        by_cases hlt : k < y.nodes.length
        · obtain ⟨b, o, cs, rfl, _, ⟨vn, rfl, hfn, hrn⟩, hc⟩ := K4.out k hlt
          obtain ⟨AN, cN, rfl, ln1, ln2, hkn⟩ := hrn.open_
          unfold maxLen at ln2
          have hxw := X9.out.trans hx
          have z0 := Ext.some hxw (hc 0 _ rfl)
          have z1 := Ext.some hxw (hc 1 _ rfl)
          simp only [ENode, Nat.add_zero] at z0 z1
          have HKN := Lib.hid hkn
          have hb4 := N2.out k hlt
          have IS : Hid (I64 (nth y.nodes k).state) := Lib.hid hfn
          have IL : Hid (I64 ((nth y.nodes k).books.length : Int)) := Lib.hid (by unfold I64; omega)
          have HVS : Hid (viewA y (k + 1) = nodeText (viewA y k) (nth y.nodes k)) := Lib.hid rfl
          obtain ⟨sT, hT⟩ : ∃ s, viewA y k = s := ⟨_, rfl⟩
          have HT := Lib.hid hT
          rw [hT] at hs HVS
          rw [hT]
          clear hc hfn hrn hkn hx hxw hT
          go_upto_region 7 with (fail)
          obtain ⟨W5, B5, hW5, hB5, hx5, b5⟩ : ∃ W B, W = wr.alloc (.cells #[.int .i64 (nth y.nodes k).state, .slice AN (nth y.nodes k).books.length cN] 115) ∧ B = wr.heap.size ∧ Ext wr W ∧ Blk W B 115 #[.int .i64 (nth y.nodes k).state, .slice AN (nth y.nodes k).books.length cN] := ⟨_, _, rfl, rfl, (Ext.refl wr).alloc _, Blk.new _ _ _⟩
          rw [← hW5, ← hB5]
          have X5 := Lib.hid (HX.out.trans hx5)
          have Q5 := Lib.hid b5
          clear hW5 hB5 hx5 b5 z0 z1
          have e0 := Q5.out.cell
          obtain ⟨sA, hA⟩ : ∃ s, putNumsFrom ⟨#[]⟩ [(nth y.nodes k).state, ((nth y.nodes k).books.length : Int)] = s := ⟨_, rfl⟩
          have a1 := from_size [(nth y.nodes k).state, ((nth y.nodes k).books.length : Int)] ⟨#[]⟩ (by intro x hx; simp at hx; rcases hx with rfl | rfl; exact IS.out; exact IL.out)
          have hz : (⟨#[]⟩ : ByteArray).size = 0 := rfl
          rw [hA, hz] at a1
          simp only [List.length_cons, List.length_nil] at a1
          have HA := Lib.hid hA
          clear hA hz
          have k0 : ¬ (9223372036854775807 < (sT.size : Int) + (sA.size : Int)) := by omega
          have k1 : ¬ (9223372036854775807 < sT.size + sA.size) := by omega
          have k2 : sT.size + sA.size ≤ 9223372036854775807 := by omega
          have k3 : (sT.size : Int) + (sA.size : Int) ≤ 9223372036854775807 := by omega
          have ks := size_app sT sA
          go_upto_region 8 with (go_at_call 82; (with_reducible refine (yNums_is (S := fun _ => True) [(nth y.nodes k).state, ((nth y.nodes k).books.length : Int)] _ _ (two_intsY _ _ _ _ IS.out IL.out) (by simp) sA HA.out).mono ?_); rintro e wA ⟨rfl, hxA⟩; have XA := Lib.hid (X5.out.trans (((Ext.refl W5).alloc _).trans hxA)); have QA5 := Lib.hid (Q5.out.ext (((Ext.refl W5).alloc _).trans hxA)); clear hxA e0)
          have e1 : wA.cell? ⟨B5, 1, none⟩ = some (.slice AN (nth y.nodes k).books.length cN) := QA5.out.cell 1
          clear k0 k1 k2 k3
          have HVB : Hid (viewA y (k + 1) = putNumsFrom (sT ++ sA) (bookNums (nth y.nodes k).books)) := Lib.hid (by rw [HVS.out, nodeText, ← from_empty sT, HA.out])
          obtain ⟨s1, hs1⟩ : ∃ s, sT ++ sA = s := ⟨_, rfl⟩
          rw [hs1] at HVB ks
          rw [hs1]
          clear hs1 HVS
          go_wp2_with fail
          clear e1
          go_loopw [5, 44] (fun s i w' => ∃ j : Nat, j ≤ (nth y.nodes k).books.length ∧ i = .int .i64 j ∧ s = .string (putNumsFrom s1 (bookNums ((nth y.nodes k).books.take j))) ∧ (putNumsFrom s1 (bookNums ((nth y.nodes k).books.take j))).size ≤ 30 + 100 * k + 20 * j ∧ Ext wA w') (fun _ i _ => (nth y.nodes k).books.length - (intOf i).toNat)
          case atStart => exact ⟨0, by omega, rfl, rfl, by simp only [List.take_zero, bookNums, List.flatMap_nil, putNumsFrom]; omega, Ext.refl _⟩
          case round =>
            obtain ⟨j, hj1, rfl, rfl, hsj, hxj⟩ := hrel
            have HXJ := Lib.hid hxj
            by_cases hj : j < (nth y.nodes k).books.length
            · obtain ⟨b3, o3, cs3, rfl, _, ⟨rfl, hfs⟩, hc3⟩ := HKN.out j hj
              have hxn := X9.out.trans (XA.out.trans hxj)
              have f0 := Ext.some hxn (hc3 0 _ rfl)
              have f1 := Ext.some hxn (hc3 1 _ rfl)
              simp only [ESpan, Nat.add_zero] at f0 f1
              have IF : Hid (I64 (nth (nth y.nodes k).books j).from_) := Lib.hid hfs.1
              have IT : Hid (I64 (nth (nth y.nodes k).books j).to_) := Lib.hid hfs.2
              have HE : Hid (putNumsFrom s1 (bookNums ((nth y.nodes k).books.take (j + 1))) = putNumsFrom s1 (bookNums ((nth y.nodes k).books.take j)) ++ putNumsFrom ⟨#[]⟩ [(nth (nth y.nodes k).books j).from_, (nth (nth y.nodes k).books j).to_]) := Lib.hid (by rw [books_succ hj, from_app, from_empty])
              obtain ⟨sT, hT⟩ : ∃ s, putNumsFrom s1 (bookNums ((nth y.nodes k).books.take j)) = s := ⟨_, rfl⟩
              obtain ⟨sA, hA⟩ : ∃ s, putNumsFrom ⟨#[]⟩ [(nth (nth y.nodes k).books j).from_, (nth (nth y.nodes k).books j).to_] = s := ⟨_, rfl⟩
              have a1 := from_size [(nth (nth y.nodes k).books j).from_, (nth (nth y.nodes k).books j).to_] ⟨#[]⟩ (by intro x hx; simp at hx; rcases hx with rfl | rfl; exact IF.out; exact IT.out)
              have hz : (⟨#[]⟩ : ByteArray).size = 0 := rfl
              rw [hA, hz] at a1
              simp only [List.length_cons, List.length_nil] at a1
              rw [hT, hA] at HE
              rw [hT] at hsj
              rw [hT]
              have HA := Lib.hid hA
              clear hA hz hT hc3 hfs hxn hxj
              have k0 : ¬ (9223372036854775807 < (sT.size : Int) + (sA.size : Int)) := by omega
              have k1 : ¬ (9223372036854775807 < sT.size + sA.size) := by omega
              have k2 : sT.size + sA.size ≤ 9223372036854775807 := by omega
              have k3 : (sT.size : Int) + (sA.size : Int) ≤ 9223372036854775807 := by omega
              have ks := size_app sT sA
              go_upto_region 11 with (fail)
              obtain ⟨W6, B6, hW6, hB6, hx6, b6⟩ : ∃ W B, W = wr.alloc (.cells #[.int .i64 (nth (nth y.nodes k).books j).from_, .int .i64 (nth (nth y.nodes k).books j).to_] 117) ∧ B = wr.heap.size ∧ Ext wr W ∧ Blk W B 117 #[.int .i64 (nth (nth y.nodes k).books j).from_, .int .i64 (nth (nth y.nodes k).books j).to_] := ⟨_, _, rfl, rfl, (Ext.refl wr).alloc _, Blk.new _ _ _⟩
              rw [← hW6, ← hB6]
              have X6 := Lib.hid (HXJ.out.trans hx6)
              have e0 := b6.cell
              clear hW6 hB6 hx6 b6 f0 f1
              go_wp2_with (go_at_call 82; (with_reducible refine (yNums_is (S := fun _ => True) [(nth (nth y.nodes k).books j).from_, (nth (nth y.nodes k).books j).to_] _ _ (two_intsY _ _ _ _ IF.out IT.out) (by simp) sA HA.out).mono ?_); rintro e wB ⟨rfl, hxB⟩; have XB := Lib.hid (X6.out.trans (((Ext.refl W6).alloc _).trans hxB)); clear hxB e0)
              go_roundw
              case rel => exact ⟨j + 1, by omega, by go_num, by rw [HE.out], by rw [HE.out, ks]; omega, XB.out⟩
              case measure => simp [intOf]; omega
            · obtain rfl : j = (nth y.nodes k).books.length := by omega
              rw [List.take_length] at hsj
              rw [List.take_length]
              have HE := Lib.hid HVB.out.symm
              rw [HE.out] at hsj
              rw [HE.out]
              clear hxj
              go_wp2_with fail
              go_roundw
              case rel => exact ⟨k + 1, by omega, by go_num, rfl, by omega, XA.out.trans HXJ.out⟩
              case measure => simp [intOf]; omega
        · obtain rfl : k = y.nodes.length := by omega
          have XN := Lib.hid (X9.out.trans hx)
          have QAN := Lib.hid (QA9.out.ext hx)
          have QLN := Lib.hid (QL9.out.ext hx)
          obtain ⟨a, ha⟩ : ∃ s, viewA y y.nodes.length = s := ⟨_, rfl⟩
          rw [ha] at hs
          rw [ha]
          have HVA : Hid (yardView y lab = viewU y lab (viewT y lab a y.tasks.length) y.uses.length) := Lib.hid (by rw [HV.out, viewAll, ha])
          have hsa : a.size ≤ 700 := by omega
          clear hx ha HV hs
          have qa : wr.cell? ⟨B, 5, none⟩ = some (.slice A5 y.tasks.length c5) := QAN.out.cell 5
          go_wp2_with fail
          clear qa
          go_loopw [5, 61] (fun s i w' => ∃ k : Nat, k ≤ y.tasks.length ∧ i = .int .i64 k ∧ s = .string (viewT y lab a k) ∧ (viewT y lab a k).size ≤ 700 + 8200 * k ∧ Ext wr w') (fun _ i _ => y.tasks.length - (intOf i).toNat)
          case atStart => exact ⟨0, by omega, rfl, rfl, by rw [viewT]; omega, Ext.refl _⟩
          case round =>
            obtain ⟨k, hk1, rfl, rfl, hs, hx⟩ := hrel
            have HX := Lib.hid hx
            have QLr := Lib.hid (QLN.out.ext hx)
            by_cases hlt : k < y.tasks.length
            · obtain ⟨b, o, cs, rfl, _, ⟨vt, rfl, hft, hrt⟩, hc⟩ := K5.out k hlt
              obtain ⟨AT, cT, rfl, -⟩ := hrt.form
              have hxw := XN.out.trans hx
              have z0 := Ext.some hxw (hc 0 _ rfl)
              have z1 := Ext.some hxw (hc 1 _ rfl)
              have z2 := Ext.some hxw (hc 2 _ rfl)
              have z3 := Ext.some hxw (hc 3 _ rfl)
              have z4 := Ext.some hxw (hc 4 _ rfl)
              have z5 := Ext.some hxw (hc 5 _ rfl)
              have z6 := Ext.some hxw (hc 6 _ rfl)
              have z7 := Ext.some hxw (hc 7 _ rfl)
              have z8 := Ext.some hxw (hc 8 _ rfl)
              have z9 := Ext.some hxw (hc 9 _ rfl)
              have z10 := Ext.some hxw (hc 10 _ rfl)
              have z11 := Ext.some hxw (hc 11 _ rfl)
              have z12 := Ext.some hxw (hc 12 _ rfl)
              have z13 := Ext.some hxw (hc 13 _ rfl)
              simp only [ETask, Nat.add_zero] at z0 z1 z2 z3 z4 z5 z6 z7 z8 z9 z10 z11 z12 z13
              have HFT := Lib.hid hft
              have HRT := Lib.hid hrt
              have FP : Hid (FitLabel (nth y.tasks k).label) := Lib.hid ⟨hft.1, hft.2.1⟩
              have hts := taskBytes_size hft
              obtain ⟨t3, ht3⟩ : ∃ t, belowB (nth y.tasks k).label lab = t := ⟨_, rfl⟩
              have T3 := Lib.hid ht3
              clear hc hft hrt hx hxw ht3
              go_upto_region 17 with (fail)
              obtain ⟨W5, B5, hW5, hB5, hx5, b5⟩ : ∃ W B, W = wr.alloc (.cells #[.int .i64 (nth y.tasks k).label.level, .int .i64 (nth y.tasks k).label.set, .int .i64 (nth y.tasks k).id, .string (nth y.tasks k).owner, .int .i64 (nth y.tasks k).need, .int .i64 (nth y.tasks k).long, .int .i64 (nth y.tasks k).prio, .int .i64 (nth y.tasks k).under.level, .int .i64 (nth y.tasks k).under.set, .int .i64 (nth y.tasks k).after, .int .i64 (nth y.tasks k).born, .int .i64 (nth y.tasks k).state, .int .i64 (nth y.tasks k).start, .slice AT (nth y.tasks k).nodes.length cT] 90) ∧ B = wr.heap.size ∧ Ext wr W ∧ Blk W B 90 #[.int .i64 (nth y.tasks k).label.level, .int .i64 (nth y.tasks k).label.set, .int .i64 (nth y.tasks k).id, .string (nth y.tasks k).owner, .int .i64 (nth y.tasks k).need, .int .i64 (nth y.tasks k).long, .int .i64 (nth y.tasks k).prio, .int .i64 (nth y.tasks k).under.level, .int .i64 (nth y.tasks k).under.set, .int .i64 (nth y.tasks k).after, .int .i64 (nth y.tasks k).born, .int .i64 (nth y.tasks k).state, .int .i64 (nth y.tasks k).start, .slice AT (nth y.tasks k).nodes.length cT] := ⟨_, _, rfl, rfl, (Ext.refl wr).alloc _, Blk.new _ _ _⟩
              rw [← hW5, ← hB5]
              have X5 := Lib.hid (HX.out.trans hx5)
              have Q5 := Lib.hid b5
              have l0 := (QLr.out.ext hx5).cell
              clear hW5 hB5 hx5 b5 z0 z1 z2 z3 z4 z5 z6 z7 z8 z9 z10 z11 z12 z13
              have e0 := Q5.out.cell
              cases t3 with
              | false =>
                have HS := Lib.hid (viewT_out (y := y) (a := a) T3.out)
                go_wp2_with (go_at_call 83; (with_reducible refine (yBelow_is (S := S) (S' := S) (nth y.tasks k).label lab _ _ _ (rel_Label FP.out) (rel_Label FL.out) _ T3.out).mono ?_); rintro e w9b ⟨rfl, hx9⟩; have X9b := Lib.hid (X5.out.trans hx9); have Q9b := Lib.hid (Q5.out.ext hx9); clear hx9 e0 l0)
                go_roundw
                case rel => exact ⟨k + 1, by omega, by go_num, by rw [HS.out], by rw [HS.out]; omega, X9b.out⟩
                case measure => simp [intOf]; omega
              | true =>
                have HS := Lib.hid (viewT_in (y := y) (a := a) T3.out)
                obtain ⟨sT, hT⟩ : ∃ s, viewT y lab a k = s := ⟨_, rfl⟩
                obtain ⟨sA, hA⟩ : ∃ s, taskBytes (nth y.tasks k) = s := ⟨_, rfl⟩
                rw [hT, hA] at HS
                rw [hT] at hs
                rw [hT]
                rw [hA] at hts
                have HA := Lib.hid hA
                clear hT hA
                have k0 : ¬ (9223372036854775807 < (sT.size : Int) + (sA.size : Int)) := by omega
                have k1 : ¬ (9223372036854775807 < sT.size + sA.size) := by omega
                have k2 : sT.size + sA.size ≤ 9223372036854775807 := by omega
                have k3 : (sT.size : Int) + (sA.size : Int) ≤ 9223372036854775807 := by omega
                have ks := size_app sT sA
                go_upto_region 18 with (go_at_call 83; (with_reducible refine (yBelow_is (S := S) (S' := S) (nth y.tasks k).label lab _ _ _ (rel_Label FP.out) (rel_Label FL.out) _ T3.out).mono ?_); rintro e w9b ⟨rfl, hx9⟩; have X9b := Lib.hid (X5.out.trans hx9); have Q9b := Lib.hid (Q5.out.ext hx9); clear hx9 e0 l0)
                have e0 := Q9b.out.cell
                go_wp2_with (go_at_call 84; (with_reducible refine (yTask_is (S := S) (nth y.tasks k) _ _ (rel_Task HFT.out (HRT.out.ext (XN.out.trans X9b.out))) sA HA.out).mono ?_); rintro e wB ⟨rfl, hxB⟩; have XB := Lib.hid (X9b.out.trans hxB); clear hxB e0)
                go_roundw
                case rel => exact ⟨k + 1, by omega, by go_num, by rw [HS.out], by rw [HS.out, ks]; omega, XB.out⟩
                case measure => simp [intOf]; omega
            · obtain rfl : k = y.tasks.length := by omega
              replace XN := Lib.hid (XN.out.trans hx)
              replace QAN := Lib.hid (QAN.out.ext hx)
              replace QLN := QLr
              obtain ⟨a2, ha⟩ : ∃ s, viewT y lab a y.tasks.length = s := ⟨_, rfl⟩
              rw [ha] at hs HVA
              rw [ha]
              have hsa2 : a2.size ≤ 800000 := by omega
              clear hx ha hs
              have qa : wr.cell? ⟨B, 6, none⟩ = some (.slice A6 y.uses.length c6) := QAN.out.cell 6
              go_wp2_with fail
              clear qa
              go_loopw [5, 77] (fun s i w' => ∃ k : Nat, k ≤ y.uses.length ∧ i = .int .i64 k ∧ s = .string (viewU y lab a2 k) ∧ (viewU y lab a2 k).size ≤ 800000 + 8040 * k ∧ Ext wr w') (fun _ i _ => y.uses.length - (intOf i).toNat)
              case atStart => exact ⟨0, by omega, rfl, rfl, by rw [viewU]; omega, Ext.refl _⟩
              case round =>
                obtain ⟨k, hk1, rfl, rfl, hs, hx⟩ := hrel
                have HX := Lib.hid hx
                have QLr := Lib.hid (QLN.out.ext hx)
                by_cases hlt : k < y.uses.length
                · obtain ⟨b, o, cs, rfl, _, ⟨rfl, hfu⟩, hc⟩ := K6.out k hlt
                  have hxw := XN.out.trans hx
                  have z0 := Ext.some hxw (hc 0 _ rfl)
                  have z1 := Ext.some hxw (hc 1 _ rfl)
                  have z2 := Ext.some hxw (hc 2 _ rfl)
                  have z3 := Ext.some hxw (hc 3 _ rfl)
                  simp only [EUse, Nat.add_zero] at z0 z1 z2 z3
                  have FP : Hid (FitLabel (nth y.uses k).label) := Lib.hid ⟨hfu.1, hfu.2.1⟩
                  have I1 : Hid (I64 (nth y.uses k).label.level) := Lib.hid hfu.1
                  have I2 : Hid (I64 (nth y.uses k).label.set) := Lib.hid hfu.2.1
                  have I3 : Hid (Str (nth y.uses k).owner) := Lib.hid hfu.2.2.1
                  have I4 : Hid (I64 (nth y.uses k).used) := Lib.hid hfu.2.2.2
                  obtain ⟨t3, ht3⟩ : ∃ t, belowB (nth y.uses k).label lab = t := ⟨_, rfl⟩
                  have T3 := Lib.hid ht3
                  clear hc hfu hx hxw ht3
                  go_upto_region 23 with (fail)
                  obtain ⟨W5, B5, hW5, hB5, hx5, b5⟩ : ∃ W B, W = wr.alloc (.cells #[.int .i64 (nth y.uses k).label.level, .int .i64 (nth y.uses k).label.set, .string (nth y.uses k).owner, .int .i64 (nth y.uses k).used] 96) ∧ B = wr.heap.size ∧ Ext wr W ∧ Blk W B 96 #[.int .i64 (nth y.uses k).label.level, .int .i64 (nth y.uses k).label.set, .string (nth y.uses k).owner, .int .i64 (nth y.uses k).used] := ⟨_, _, rfl, rfl, (Ext.refl wr).alloc _, Blk.new _ _ _⟩
                  rw [← hW5, ← hB5]
                  have X5 := Lib.hid (HX.out.trans hx5)
                  have Q5 := Lib.hid b5
                  have l0 := (QLr.out.ext hx5).cell
                  clear hW5 hB5 hx5 b5 z0 z1 z2 z3
                  have e0 := Q5.out.cell
                  cases t3 with
                  | false =>
                    have HS := Lib.hid (viewU_out (y := y) (a := a2) T3.out)
                    go_wp2_with (go_at_call 83; (with_reducible refine (yBelow_is (S := S) (S' := S) (nth y.uses k).label lab _ _ _ (rel_Label FP.out) (rel_Label FL.out) _ T3.out).mono ?_); rintro e w9b ⟨rfl, hx9⟩; have X9b := Lib.hid (X5.out.trans hx9); have Q9b := Lib.hid (Q5.out.ext hx9); clear hx9 e0 l0)
                    go_roundw
                    case rel => exact ⟨k + 1, by omega, by go_num, by rw [HS.out], by rw [HS.out]; omega, X9b.out⟩
                    case measure => simp [intOf]; omega
                  | true =>
                    have HS := Lib.hid (viewU_in (y := y) (a := a2) T3.out)
                    obtain ⟨sT, hT⟩ : ∃ s, viewU y lab a2 k = s := ⟨_, rfl⟩
                    obtain ⟨sA, hA⟩ : ∃ s, putNumsFrom ⟨#[]⟩ [(nth y.uses k).label.level, (nth y.uses k).label.set] = s := ⟨_, rfl⟩
                    obtain ⟨sB, hB⟩ : ∃ s, putText (nth y.uses k).owner = s := ⟨_, rfl⟩
                    obtain ⟨sC, hC⟩ : ∃ s, putNum (nth y.uses k).used = s := ⟨_, rfl⟩
                    have a1 := from_size [(nth y.uses k).label.level, (nth y.uses k).label.set] ⟨#[]⟩ (by intro x hx; simp at hx; rcases hx with rfl | rfl; exact I1.out; exact I2.out)
                    have a3 := @text_size (nth y.uses k).owner
                    have a4 := putNum_size I4.out
                    have hz : (⟨#[]⟩ : ByteArray).size = 0 := rfl
                    rw [hA, hz] at a1
                    simp only [List.length_cons, List.length_nil] at a1
                    rw [hB] at a3
                    rw [hC] at a4
                    rw [← use_parts, hT, hA, hB, hC] at HS
                    rw [hT] at hs
                    rw [hT]
                    have HA := Lib.hid hA
                    have HBs := Lib.hid hB
                    have HCs := Lib.hid hC
                    clear hT hA hB hC hz
                    have k0 := size_app sA sB
                    have k0' := size_app (sA ++ sB) sC
                    have k0'' := size_app sT (sA ++ sB ++ sC)
                    have k1 : ¬ (9223372036854775807 < (sA.size : Int) + (sB.size : Int)) := by omega
                    have k2 : ¬ (9223372036854775807 < sA.size + sB.size) := by omega
                    have k3 : sA.size + sB.size ≤ 9223372036854775807 := by omega
                    have k4 : (sA.size : Int) + (sB.size : Int) ≤ 9223372036854775807 := by omega
                    have k5 : ¬ (9223372036854775807 < (sA.size : Int) + (sB.size : Int) + (sC.size : Int)) := by omega
                    have k6 : ¬ (9223372036854775807 < sA.size + sB.size + sC.size) := by omega
                    have k7 : sA.size + sB.size + sC.size ≤ 9223372036854775807 := by omega
                    have k8 : (sA.size : Int) + (sB.size : Int) + (sC.size : Int) ≤ 9223372036854775807 := by omega
                    have k9 : ¬ (9223372036854775807 < (sT.size : Int) + ((sA.size : Int) + (sB.size : Int) + (sC.size : Int))) := by omega
                    have k10 : ¬ (9223372036854775807 < sT.size + (sA.size + sB.size + sC.size)) := by omega
                    have k11 : sT.size + (sA.size + sB.size + sC.size) ≤ 9223372036854775807 := by omega
                    have k12 : (sT.size : Int) + ((sA.size : Int) + (sB.size : Int) + (sC.size : Int)) ≤ 9223372036854775807 := by omega
                    have R2 : Hid (∀ V V' : World, Ext (V.alloc (.cells #[.int .i64 (nth y.uses k).label.level, .int .i64 (nth y.uses k).label.set] 2)) V' → Rd EInt (fun _ => True) V' (.slice (some ⟨V.heap.size, 0, none⟩) 2 2) [(nth y.uses k).label.level, (nth y.uses k).label.set]) := Lib.hid fun V V' hV => (two_intsY 2 V _ _ I1.out I2.out).ext hV
                    go_upto_region 24 with (go_at_call 83; (with_reducible refine (yBelow_is (S := S) (S' := S) (nth y.uses k).label lab _ _ _ (rel_Label FP.out) (rel_Label FL.out) _ T3.out).mono ?_); rintro e w9b ⟨rfl, hx9⟩; have X9b := Lib.hid (X5.out.trans hx9); have Q9b := Lib.hid (Q5.out.ext hx9); clear hx9 e0 l0)
                    have al_u : ∀ V, Ext w9b V → ∀ i, V.cell? ⟨B5, i, none⟩ = _ := fun V hx => (Q9b.out.ext hx).cell
                    go_region_held3 (fun V => Ext w9b V) (first | exact Ext.refl _ | exact (Ext.refl _).drew | assumption | exact Ext.alloc (by assumption) _ | exact Ext.trans (by assumption) hx1 | exact Ext.trans (by assumption) hx2 | exact Ext.trans (by assumption) hx3) (first
                      | (go_at_call 82; (with_reducible refine (yNums_is (S := fun _ => True) [(nth y.uses k).label.level, (nth y.uses k).label.set] _ _ (R2.out w9b _ (by repeat (first | with_reducible exact Ext.refl _ | with_reducible refine Ext.drew ?_))) (by simp) sA HA.out).mono ?_); rintro e wA ⟨rfl, hx1⟩)
                      | (go_at_call 85; (with_reducible refine (yText_is (nth y.uses k).owner _ I3.out sB HBs.out).mono ?_); rintro e wB ⟨rfl, hx2⟩)
                      | (go_at_call 81; (with_reducible refine (yPutNum_is (nth y.uses k).used _ I4.out sC HCs.out).mono ?_); rintro e wC ⟨rfl, hx3⟩))
                    all_goals clear al_u
                    have X10 : Hid (Ext w9b wC) := Lib.hid (by first | assumption | exact Ext.drew (by assumption))
                    go_wp2_with fail
                    go_roundw
                    case rel => exact ⟨k + 1, by omega, by go_num, by rw [HS.out], by rw [HS.out, k0'', k0', k0]; omega, X9b.out.trans X10.out⟩
                    case measure => simp [intOf]; omega
                · obtain rfl : k = y.uses.length := by omega
                  have HE := Lib.hid HVA.out.symm
                  have XE := Lib.hid (XN.out.trans hx)
                  clear hx
                  go_wp2_with fail
                  go_ret
                  exact ⟨by rw [← HE.out] <;> rfl, XE.out⟩

set_option maxHeartbeats 32000000 in
set_option maxRecDepth 100000 in
theorem specYardView_any {S S2 : Nat → Prop} (y : Yard) (lab : Label) (cs es : List Value) (w : World) (h : EYard.rel S w cs y) (gl : ELabel.rel S2 w es lab) :
    Calls Tryz.prog 20 #[.agg cs.toArray, .agg es.toArray] w fun e w' => e = .returned (.string (yardView y lab)) ∧ Ext w w' := by
  obtain ⟨v1, v2, v3, v4, v5, v6, rfl, hf, h1, h2, h3, h4, h5, h6⟩ := h
  obtain ⟨rfl, fl⟩ := gl
  have FL := Lib.hid fl
  obtain ⟨A1, c1, rfl, -⟩ := h1.form
  obtain ⟨A2, c2, rfl, -⟩ := h2.form
  obtain ⟨A3, c3, rfl, -⟩ := h3.form
  have H4 := Lib.hid h4
  obtain ⟨A4, c4, rfl, l4, m4, hk4⟩ := h4.open_
  unfold maxLen at m4
  have H5 := Lib.hid h5
  obtain ⟨A5, c5, rfl, l5, m5, hk5⟩ := h5.open_
  unfold maxLen at m5
  have H6 := Lib.hid h6
  obtain ⟨A6, c6, rfl, l6, m6, hk6⟩ := h6.open_
  unfold maxLen at m6
  have HF := Lib.hid hf
  have H1 := Lib.hid h1
  have H2 := Lib.hid h2
  have H3 := Lib.hid h3
  have K4 := Lib.hid hk4
  have K5 := Lib.hid hk5
  have K6 := Lib.hid hk6
  clear hf h1 h2 h3 h4 h5 h6 hk4 hk5 hk6 fl
  simp only [cellsYard, cellsLabel]
  obtain ⟨t, ht⟩ : ∃ t, yardRight y = t := ⟨_, rfl⟩
  have T := Lib.hid ht
  obtain ⟨u, hu⟩ : ∃ u, labelRight lab = u := ⟨_, rfl⟩
  have U := Lib.hid hu
  clear ht hu
  go_enter Tryz.func20, Tryz.ntmps20
  go_upto_region 1 with (fail)
  obtain ⟨W, B, hW, hB, hx0, a0, d0⟩ := boxes2 w #[.slice A1 y.config.nodes.length c1, .slice A2 y.config.pairs.length c2, .slice A3 y.config.quotas.length c3, .int .i64 y.config.half, .slice A4 y.nodes.length c4, .slice A5 y.tasks.length c5, .slice A6 y.uses.length c6, .int .i64 y.now] #[.int .i64 lab.level, .int .i64 lab.set] 37 60
  rw [← hW, ← hB]
  have QA := Lib.hid a0
  have QL := Lib.hid d0
  have X := Lib.hid hx0
  clear hW hB hx0 a0 d0
  have qa := QA.out.cell
  cases t with
  | false =>
    have HN : Hid (yardView y lab = ⟨#[]⟩) := Lib.hid (yview_no1 T.out)
    clear U
    go_wp2_with (go_at_call 16; (with_reducible refine (specYardRight_is (S := S) y _ _ (rel_Yard HF.out (H1.out.ext X.out) (H2.out.ext X.out) (H3.out.ext X.out) (H4.out.ext X.out) (H5.out.ext X.out) (H6.out.ext X.out)) _ T.out).mono ?_); rintro e w7 ⟨rfl, hx7⟩; have X7 := Lib.hid (X.out.trans hx7); have QA7 := Lib.hid (QA.out.ext hx7); have QL7 := Lib.hid (QL.out.ext hx7); clear hx7 qa; have l0 := QL7.out.cell)
    go_ret
    exact ⟨by rw [HN.out] <;> rfl, X7.out⟩
  | true =>
    cases u with
    | false =>
      have HN : Hid (yardView y lab = ⟨#[]⟩) := Lib.hid (yview_no2 U.out)
      go_wp2_with (first | (go_at_call 16; (with_reducible refine (specYardRight_is (S := S) y _ _ (rel_Yard HF.out (H1.out.ext X.out) (H2.out.ext X.out) (H3.out.ext X.out) (H4.out.ext X.out) (H5.out.ext X.out) (H6.out.ext X.out)) _ T.out).mono ?_); rintro e w7 ⟨rfl, hx7⟩; have X7 := Lib.hid (X.out.trans hx7); have QA7 := Lib.hid (QA.out.ext hx7); have QL7 := Lib.hid (QL.out.ext hx7); clear hx7 qa; have l0 := QL7.out.cell) | (go_at_call 75; (with_reducible refine (ySpecLab_is (S := S) lab _ _ (rel_Label FL.out) _ U.out).mono ?_); rintro e w8 ⟨rfl, hx8⟩; have X8 := Lib.hid (X7.out.trans hx8); have QA8 := Lib.hid (QA7.out.ext hx8); have QL8 := Lib.hid (QL7.out.ext hx8); clear hx8 l0))
      go_ret
      exact ⟨by rw [HN.out] <;> rfl, X8.out⟩
    | true =>
      have HV := Lib.hid (yview_of T.out U.out)
      obtain ⟨n1, n2, n3, n4, n5⟩ := right_parts T.out
      have N2 := Lib.hid n2
      have N5 := Lib.hid n5
      have hnow := putNum_size n5
      obtain ⟨s0, hs0⟩ : ∃ s, putNum y.now = s := ⟨_, rfl⟩
      have HS0 := Lib.hid hs0
      rw [hs0] at hnow
      clear n2 n5 hs0
      go_upto_region 3 with (first | (go_at_call 16; (with_reducible refine (specYardRight_is (S := S) y _ _ (rel_Yard HF.out (H1.out.ext X.out) (H2.out.ext X.out) (H3.out.ext X.out) (H4.out.ext X.out) (H5.out.ext X.out) (H6.out.ext X.out)) _ T.out).mono ?_); rintro e w7 ⟨rfl, hx7⟩; have X7 := Lib.hid (X.out.trans hx7); have QA7 := Lib.hid (QA.out.ext hx7); have QL7 := Lib.hid (QL.out.ext hx7); clear hx7 qa; have l0 := QL7.out.cell) | (go_at_call 75; (with_reducible refine (ySpecLab_is (S := S) lab _ _ (rel_Label FL.out) _ U.out).mono ?_); rintro e w8 ⟨rfl, hx8⟩; have X8 := Lib.hid (X7.out.trans hx8); have QA8 := Lib.hid (QA7.out.ext hx8); have QL8 := Lib.hid (QL7.out.ext hx8); clear hx8 l0))
      have qa : w8.cell? ⟨B, 7, none⟩ = some (.int .i64 y.now) := QA8.out.cell 7
      go_upto_region 4 with (go_at_call 76; (with_reducible refine (yNum_is y.now _ N5.out s0 HS0.out).mono ?_); rintro e w9 ⟨rfl, hx9⟩; have X9 := Lib.hid (X8.out.trans hx9); have QA9 := Lib.hid (QA8.out.ext hx9); have QL9 := Lib.hid (QL8.out.ext hx9); clear hx9 qa)
      go_wp2_with fail
      go_loopw [5, 6] (fun s i w' => ∃ k : Nat, k ≤ y.nodes.length ∧ i = .int .i64 k ∧ s = .string (viewA y k) ∧ (viewA y k).size ≤ 10 + 100 * k ∧ Ext w9 w') (fun _ i _ => y.nodes.length - (intOf i).toNat)
      case atStart => exact ⟨0, by omega, rfl, by rw [viewA, HS0.out], by rw [viewA, HS0.out]; omega, Ext.refl _⟩
      case round =>
        obtain ⟨k, hk1, rfl, rfl, hs, hx⟩ := hrel
        have HX := Lib.hid hx
        have ya : wr.cell? ⟨B, 4, none⟩ = some (.slice A4 y.nodes.length c4) := (QA9.out.ext hx).cell 4
        by_cases hlt : k < y.nodes.length
        · obtain ⟨b, o, cs, rfl, _, ⟨vn, rfl, hfn, hrn⟩, hc⟩ := K4.out k hlt
          obtain ⟨AN, cN, rfl, ln1, ln2, hkn⟩ := hrn.open_
          unfold maxLen at ln2
          have hxw := X9.out.trans hx
          have z0 := Ext.some hxw (hc 0 _ rfl)
          have z1 := Ext.some hxw (hc 1 _ rfl)
          simp only [ENode, Nat.add_zero] at z0 z1
          have HKN := Lib.hid hkn
          have hb4 := N2.out k hlt
          have IS : Hid (I64 (nth y.nodes k).state) := Lib.hid hfn
          have IL : Hid (I64 ((nth y.nodes k).books.length : Int)) := Lib.hid (by unfold I64; omega)
          have YA := Lib.hid ya
          have ZB := Lib.hid z1
          obtain ⟨sT, hT⟩ : ∃ s, viewA y k = s := ⟨_, rfl⟩
          obtain ⟨sA, hA⟩ : ∃ s, putNum (nth y.nodes k).state = s := ⟨_, rfl⟩
          obtain ⟨sB, hB⟩ : ∃ s, putNum ((nth y.nodes k).books.length : Int) = s := ⟨_, rfl⟩
          have HVB : Hid (viewA y (k + 1) = putNumsFrom (sT ++ sA ++ sB) (bookNums (nth y.nodes k).books)) := Lib.hid (by rw [viewA, nodeText, hT]; simp only [putNumsFrom, hA, hB])
          have a1 := putNum_size IS.out
          have a2 := putNum_size IL.out
          rw [hA] at a1
          rw [hB] at a2
          rw [hT] at hs
          rw [hT]
          have HA := Lib.hid hA
          have HBs := Lib.hid hB
          clear hc hfn hrn hkn hx hxw hT hA hB
          have k0 : ¬ (9223372036854775807 < (sT.size : Int) + (sA.size : Int)) := by omega
          have k1 : ¬ (9223372036854775807 < sT.size + sA.size) := by omega
          have k2 : sT.size + sA.size ≤ 9223372036854775807 := by omega
          have k3 : (sT.size : Int) + (sA.size : Int) ≤ 9223372036854775807 := by omega
          have k4 : ¬ (9223372036854775807 < (sT.size : Int) + (sA.size : Int) + (sB.size : Int)) := by omega
          have k5 : ¬ (9223372036854775807 < sT.size + sA.size + sB.size) := by omega
          have k6 : sT.size + sA.size + sB.size ≤ 9223372036854775807 := by omega
          have k7 : (sT.size : Int) + (sA.size : Int) + (sB.size : Int) ≤ 9223372036854775807 := by omega
          have ks := size_app sT sA
          have ks2 := size_app (sT ++ sA) sB
          go_wp2_with fail
          refine wp_region_ext (by kernel_rfl) (by kernel_rfl) ?_
          repeat (
            (refine wpQuiet_step (fun K hK => ?_)
             go_simp
             first
              | (refine hK _ ?_; clear hK K)
              | (apply Exists.intro
                 refine ⟨fun w__ hx__ => ?_, hK _ ?_⟩
                 · have ya__ := Ext.some hx__ ya; have z0__ := Ext.some hx__ z0; have z1__ := Ext.some hx__ z1; first | exact rfl | (go_simp; done) | (go_simp; exact rfl) | (first | (go_at_call 76; with_reducible exact ext_of hx__ (yNum_is (nth y.nodes k).state _ IS.out sA HA.out)) | (go_at_call 76; with_reducible exact ext_of hx__ (yNum_is ((nth y.nodes k).books.length : Int) _ IL.out sB HBs.out)))
                 clear hK K)))
          refine wpQuiet_nil ?_
          intro w1 hx1
          have XA := Lib.hid (HX.out.trans hx1)
          have YA1 := Lib.hid (Ext.some hx1 YA.out)
          have ZB1 := Lib.hid (Ext.some hx1 ZB.out)
          clear ya z0 z1 hx1 YA ZB k0 k1 k2 k3 k4 k5 k6 k7
          obtain ⟨s1, hs1⟩ : ∃ s, sT ++ sA ++ sB = s := ⟨_, rfl⟩
          rw [hs1] at HVB ks2
          rw [hs1]
          have z10 : s1.size ≤ 30 + 100 * k := by omega
          clear hs1 ks ks2 a1 a2
          go_wp2_with fail
          go_loopw [5, 7] (fun s i w' => ∃ j : Nat, j ≤ (nth y.nodes k).books.length ∧ i = .int .i64 j ∧ s = .string (putNumsFrom s1 (bookNums ((nth y.nodes k).books.take j))) ∧ (putNumsFrom s1 (bookNums ((nth y.nodes k).books.take j))).size ≤ 30 + 100 * k + 20 * j ∧ Ext w1 w') (fun _ i _ => (nth y.nodes k).books.length - (intOf i).toNat)
          case atStart => exact ⟨0, by omega, rfl, rfl, by simp only [List.take_zero, bookNums, List.flatMap_nil, putNumsFrom]; omega, Ext.refl _⟩
          case round =>
            obtain ⟨j, hj1, rfl, rfl, hsj, hxj⟩ := hrel
            have HXJ := Lib.hid hxj
            have ya := Ext.some hxj YA1.out
            have z1 := Ext.some hxj ZB1.out
            by_cases hj : j < (nth y.nodes k).books.length
            · obtain ⟨b3, o3, cs3, rfl, _, ⟨rfl, hfs⟩, hc3⟩ := HKN.out j hj
              have hxn := X9.out.trans (XA.out.trans hxj)
              have f0 := Ext.some hxn (hc3 0 _ rfl)
              have f1 := Ext.some hxn (hc3 1 _ rfl)
              simp only [ESpan, Nat.add_zero] at f0 f1
              have IF : Hid (I64 (nth (nth y.nodes k).books j).from_) := Lib.hid hfs.1
              have IT : Hid (I64 (nth (nth y.nodes k).books j).to_) := Lib.hid hfs.2
              obtain ⟨sT, hT⟩ : ∃ s, putNumsFrom s1 (bookNums ((nth y.nodes k).books.take j)) = s := ⟨_, rfl⟩
              obtain ⟨sA, hA⟩ : ∃ s, putNum (nth (nth y.nodes k).books j).from_ = s := ⟨_, rfl⟩
              obtain ⟨sB, hB⟩ : ∃ s, putNum (nth (nth y.nodes k).books j).to_ = s := ⟨_, rfl⟩
              have HE : Hid (putNumsFrom s1 (bookNums ((nth y.nodes k).books.take (j + 1))) = sT ++ sA ++ sB) := Lib.hid (by rw [books_succ hj, from_app, hT]; simp only [putNumsFrom, hA, hB])
              have a1 := putNum_size IF.out
              have a2 := putNum_size IT.out
              rw [hA] at a1
              rw [hB] at a2
              rw [hT] at hsj
              rw [hT]
              have HA := Lib.hid hA
              have HBs := Lib.hid hB
              clear hA hB hT hc3 hfs hxn hxj
              have k0 : ¬ (9223372036854775807 < (sT.size : Int) + (sA.size : Int)) := by omega
              have k1 : ¬ (9223372036854775807 < sT.size + sA.size) := by omega
              have k2 : sT.size + sA.size ≤ 9223372036854775807 := by omega
              have k3 : (sT.size : Int) + (sA.size : Int) ≤ 9223372036854775807 := by omega
              have k4 : ¬ (9223372036854775807 < (sT.size : Int) + (sA.size : Int) + (sB.size : Int)) := by omega
              have k5 : ¬ (9223372036854775807 < sT.size + sA.size + sB.size) := by omega
              have k6 : sT.size + sA.size + sB.size ≤ 9223372036854775807 := by omega
              have k7 : (sT.size : Int) + (sA.size : Int) + (sB.size : Int) ≤ 9223372036854775807 := by omega
              have ks := size_app sT sA
              have ks2 := size_app (sT ++ sA) sB
              go_wp2_with fail
              refine wp_region_ext (by kernel_rfl) (by kernel_rfl) ?_
              repeat (
                (refine wpQuiet_step (fun K hK => ?_)
                 go_simp
                 first
                  | (refine hK _ ?_; clear hK K)
                  | (apply Exists.intro
                     refine ⟨fun w__ hx__ => ?_, hK _ ?_⟩
                     · have ya__ := Ext.some hx__ ya; have z1__ := Ext.some hx__ z1; have f0__ := Ext.some hx__ f0; have f1__ := Ext.some hx__ f1; first | exact rfl | (go_simp; done) | (go_simp; exact rfl) | (first | (go_at_call 76; with_reducible exact ext_of hx__ (yNum_is (nth (nth y.nodes k).books j).from_ _ IF.out sA HA.out)) | (go_at_call 76; with_reducible exact ext_of hx__ (yNum_is (nth (nth y.nodes k).books j).to_ _ IT.out sB HBs.out)))
                     clear hK K)))
              refine wpQuiet_nil ?_
              intro w1 hx1
              have XB := Lib.hid (HXJ.out.trans hx1)
              clear ya z1 f0 f1 hx1 k0 k1 k2 k3 k4 k5 k6 k7
              go_wp2_with fail
              go_roundw
              case rel => exact ⟨j + 1, by omega, by go_num, by rw [HE.out], by rw [HE.out, ks2, ks]; omega, XB.out⟩
              case measure => simp [intOf]; omega
            · obtain rfl : j = (nth y.nodes k).books.length := by omega
              rw [List.take_length] at hsj
              rw [List.take_length]
              have HE := Lib.hid HVB.out.symm
              rw [HE.out] at hsj
              rw [HE.out]
              clear hxj
              go_wp2_with fail
              go_roundw
              case rel => exact ⟨k + 1, by omega, by go_num, rfl, by omega, XA.out.trans HXJ.out⟩
              case measure => simp [intOf]; omega
        · obtain rfl : k = y.nodes.length := by omega
          have XN := Lib.hid (X9.out.trans hx)
          have QAN := Lib.hid (QA9.out.ext hx)
          have QLN := Lib.hid (QL9.out.ext hx)
          obtain ⟨a, ha⟩ : ∃ s, viewA y y.nodes.length = s := ⟨_, rfl⟩
          rw [ha] at hs
          rw [ha]
          have HVA : Hid (yardView y lab = viewU y lab (viewT y lab a y.tasks.length) y.uses.length) := Lib.hid (by rw [HV.out, viewAll, ha])
          have hsa : a.size ≤ 700 := by omega
          clear hx ha HV hs
          go_wp2_with fail
          clear ya
          go_loopw [5, 8] (fun s i w' => ∃ k : Nat, k ≤ y.tasks.length ∧ i = .int .i64 k ∧ s = .string (viewT y lab a k) ∧ (viewT y lab a k).size ≤ 700 + 8200 * k ∧ Ext wr w') (fun _ i _ => y.tasks.length - (intOf i).toNat)
          case atStart => exact ⟨0, by omega, rfl, rfl, by rw [viewT]; omega, Ext.refl _⟩
          case round =>
            obtain ⟨k, hk1, rfl, rfl, hs, hx⟩ := hrel
            have HX := Lib.hid hx
            have QLr := Lib.hid (QLN.out.ext hx)
            have ya : wr.cell? ⟨B, 5, none⟩ = some (.slice A5 y.tasks.length c5) := (QAN.out.ext hx).cell 5
            by_cases hlt : k < y.tasks.length
            · obtain ⟨b, o, cs, rfl, _, ⟨vt, rfl, hft, hrt⟩, hc⟩ := K5.out k hlt
              obtain ⟨AT, cT, rfl, -⟩ := hrt.form
              have hxw := XN.out.trans hx
              have z0 := Ext.some hxw (hc 0 _ rfl)
              have z1 := Ext.some hxw (hc 1 _ rfl)
              have z2 := Ext.some hxw (hc 2 _ rfl)
              have z3 := Ext.some hxw (hc 3 _ rfl)
              have z4 := Ext.some hxw (hc 4 _ rfl)
              have z5 := Ext.some hxw (hc 5 _ rfl)
              have z6 := Ext.some hxw (hc 6 _ rfl)
              have z7 := Ext.some hxw (hc 7 _ rfl)
              have z8 := Ext.some hxw (hc 8 _ rfl)
              have z9 := Ext.some hxw (hc 9 _ rfl)
              have z10 := Ext.some hxw (hc 10 _ rfl)
              have z11 := Ext.some hxw (hc 11 _ rfl)
              have z12 := Ext.some hxw (hc 12 _ rfl)
              have z13 := Ext.some hxw (hc 13 _ rfl)
              simp only [ETask, Nat.add_zero] at z0 z1 z2 z3 z4 z5 z6 z7 z8 z9 z10 z11 z12 z13
              have l0 : wr.cell? ⟨B + 1, 0, none⟩ = some (.int .i64 lab.level) := QLr.out.cell 0
              have l1 : wr.cell? ⟨B + 1, 1, none⟩ = some (.int .i64 lab.set) := QLr.out.cell 1
              have HFT := Lib.hid hft
              have HRT := Lib.hid hrt
              have FP : Hid (FitLabel (nth y.tasks k).label) := Lib.hid ⟨hft.1, hft.2.1⟩
              have hts := taskBytes_size hft
              obtain ⟨t3, ht3⟩ : ∃ t, belowB (nth y.tasks k).label lab = t := ⟨_, rfl⟩
              have T3 := Lib.hid ht3
              clear hc hft hrt hx hxw ht3
              cases t3 with
              | false =>
                have HS := Lib.hid (viewT_out (y := y) (a := a) T3.out)
                go_wp2_with fail
                refine wp_region_ext (by kernel_rfl) (by kernel_rfl) ?_
                repeat (
                  (refine wpQuiet_step (fun K hK => ?_)
                   go_simp
                   first
                    | (refine hK _ ?_; clear hK K)
                    | (apply Exists.intro
                       refine ⟨fun w__ hx__ => ?_, hK _ ?_⟩
                       · have ya__ := Ext.some hx__ ya; have z0__ := Ext.some hx__ z0; have z1__ := Ext.some hx__ z1; have l0__ := Ext.some hx__ l0; have l1__ := Ext.some hx__ l1; first | exact rfl | (go_simp; done) | (go_simp; exact rfl) | (go_at_call 77; exact ext_of hx__ (ySpecBelow_is (S := S) (S' := S) (nth y.tasks k).label lab _ _ _ (rel_Label FP.out) (rel_Label FL.out) _ T3.out))
                       clear hK K)))
                refine wpQuiet_nil ?_
                intro w1 hx1
                have X9b := Lib.hid (HX.out.trans hx1)
                clear ya l0 l1 z0 z1 z2 z3 z4 z5 z6 z7 z8 z9 z10 z11 z12 z13 hx1
                go_wp2_with fail
                go_roundw
                case rel => exact ⟨k + 1, by omega, by go_num, by rw [HS.out], by rw [HS.out]; omega, X9b.out⟩
                case measure => simp [intOf]; omega
              | true =>
                have HS := Lib.hid (viewT_in (y := y) (a := a) T3.out)
                obtain ⟨sT, hT⟩ : ∃ s, viewT y lab a k = s := ⟨_, rfl⟩
                obtain ⟨sA, hA⟩ : ∃ s, taskBytes (nth y.tasks k) = s := ⟨_, rfl⟩
                rw [hT, hA] at HS
                rw [hT] at hs
                rw [hT]
                rw [hA] at hts
                have HA := Lib.hid hA
                clear hT hA
                have k0 : ¬ (9223372036854775807 < (sT.size : Int) + (sA.size : Int)) := by omega
                have k1 : ¬ (9223372036854775807 < sT.size + sA.size) := by omega
                have k2 : sT.size + sA.size ≤ 9223372036854775807 := by omega
                have k3 : (sT.size : Int) + (sA.size : Int) ≤ 9223372036854775807 := by omega
                have ks := size_app sT sA
                go_wp2_with fail
                refine wp_region_ext (by kernel_rfl) (by kernel_rfl) ?_
                repeat (
                  (refine wpQuiet_step (fun K hK => ?_)
                   go_simp
                   first
                    | (refine hK _ ?_; clear hK K)
                    | (apply Exists.intro
                       refine ⟨fun w__ hx__ => ?_, hK _ ?_⟩
                       · have ya__ := Ext.some hx__ ya; have z0__ := Ext.some hx__ z0; have z1__ := Ext.some hx__ z1; have l0__ := Ext.some hx__ l0; have l1__ := Ext.some hx__ l1; first | exact rfl | (go_simp; done) | (go_simp; exact rfl) | (go_at_call 77; exact ext_of hx__ (ySpecBelow_is (S := S) (S' := S) (nth y.tasks k).label lab _ _ _ (rel_Label FP.out) (rel_Label FL.out) _ T3.out))
                       clear hK K)))
                refine wpQuiet_nil ?_
                intro w1 hx1
                have X9b := Lib.hid (HX.out.trans hx1)
                replace ya := Ext.some hx1 ya
                replace z0 := Ext.some hx1 z0
                replace z1 := Ext.some hx1 z1
                replace z2 := Ext.some hx1 z2
                replace z3 := Ext.some hx1 z3
                replace z4 := Ext.some hx1 z4
                replace z5 := Ext.some hx1 z5
                replace z6 := Ext.some hx1 z6
                replace z7 := Ext.some hx1 z7
                replace z8 := Ext.some hx1 z8
                replace z9 := Ext.some hx1 z9
                replace z10 := Ext.some hx1 z10
                replace z11 := Ext.some hx1 z11
                replace z12 := Ext.some hx1 z12
                replace z13 := Ext.some hx1 z13
                clear l0 l1 hx1
                go_wp2_with (go_at_call 78; (with_reducible refine (ySpecTask_is (S := S) (nth y.tasks k) _ _ (rel_Task HFT.out (HRT.out.ext (XN.out.trans X9b.out))) sA HA.out).mono ?_); rintro e wB ⟨rfl, hxB⟩; have XB := Lib.hid (X9b.out.trans hxB); clear hxB ya z0 z1 z2 z3 z4 z5 z6 z7 z8 z9 z10 z11 z12 z13)
                go_roundw
                case rel => exact ⟨k + 1, by omega, by go_num, by rw [HS.out], by rw [HS.out, ks]; omega, XB.out⟩
                case measure => simp [intOf]; omega
            · obtain rfl : k = y.tasks.length := by omega
              replace XN := Lib.hid (XN.out.trans hx)
              replace QAN := Lib.hid (QAN.out.ext hx)
              replace QLN := QLr
              obtain ⟨a2, ha⟩ : ∃ s, viewT y lab a y.tasks.length = s := ⟨_, rfl⟩
              rw [ha] at hs HVA
              rw [ha]
              have hsa2 : a2.size ≤ 800000 := by omega
              clear hx ha hs
              go_wp2_with fail
              clear ya
              go_loopw [5, 9] (fun s i w' => ∃ k : Nat, k ≤ y.uses.length ∧ i = .int .i64 k ∧ s = .string (viewU y lab a2 k) ∧ (viewU y lab a2 k).size ≤ 800000 + 8040 * k ∧ Ext wr w') (fun _ i _ => y.uses.length - (intOf i).toNat)
              case atStart => exact ⟨0, by omega, rfl, rfl, by rw [viewU]; omega, Ext.refl _⟩
              case round =>
                obtain ⟨k, hk1, rfl, rfl, hs, hx⟩ := hrel
                have HX := Lib.hid hx
                have QLr := Lib.hid (QLN.out.ext hx)
                have ya : wr.cell? ⟨B, 6, none⟩ = some (.slice A6 y.uses.length c6) := (QAN.out.ext hx).cell 6
                by_cases hlt : k < y.uses.length
                · obtain ⟨b, o, cs, rfl, _, ⟨rfl, hfu⟩, hc⟩ := K6.out k hlt
                  have hxw := XN.out.trans hx
                  have z0 := Ext.some hxw (hc 0 _ rfl)
                  have z1 := Ext.some hxw (hc 1 _ rfl)
                  have z2 := Ext.some hxw (hc 2 _ rfl)
                  have z3 := Ext.some hxw (hc 3 _ rfl)
                  simp only [EUse, Nat.add_zero] at z0 z1 z2 z3
                  have FP : Hid (FitLabel (nth y.uses k).label) := Lib.hid ⟨hfu.1, hfu.2.1⟩
                  have I1 : Hid (I64 (nth y.uses k).label.level) := Lib.hid hfu.1
                  have I2 : Hid (I64 (nth y.uses k).label.set) := Lib.hid hfu.2.1
                  have I3 : Hid (Str (nth y.uses k).owner) := Lib.hid hfu.2.2.1
                  have I4 : Hid (I64 (nth y.uses k).used) := Lib.hid hfu.2.2.2
                  obtain ⟨t3, ht3⟩ : ∃ t, belowB (nth y.uses k).label lab = t := ⟨_, rfl⟩
                  have T3 := Lib.hid ht3
                  clear hc hfu hx hxw ht3
                  go_upto_region 21 with (fail)
                  obtain ⟨W5, B5, hW5, hB5, hx5, b5⟩ : ∃ W B, W = wr.alloc (.cells #[.int .i64 (nth y.uses k).label.level, .int .i64 (nth y.uses k).label.set, .string (nth y.uses k).owner, .int .i64 (nth y.uses k).used] 96) ∧ B = wr.heap.size ∧ Ext wr W ∧ Blk W B 96 #[.int .i64 (nth y.uses k).label.level, .int .i64 (nth y.uses k).label.set, .string (nth y.uses k).owner, .int .i64 (nth y.uses k).used] := ⟨_, _, rfl, rfl, (Ext.refl wr).alloc _, Blk.new _ _ _⟩
                  rw [← hW5, ← hB5]
                  have X5 := Lib.hid (HX.out.trans hx5)
                  have Q5 := Lib.hid b5
                  have l0 := (QLr.out.ext hx5).cell
                  clear hW5 hB5 hx5 b5 z0 z1 z2 z3 ya
                  have e0 := Q5.out.cell
                  cases t3 with
                  | false =>
                    have HS := Lib.hid (viewU_out (y := y) (a := a2) T3.out)
                    go_wp2_with (go_at_call 77; (with_reducible refine (ySpecBelow_is (S := S) (S' := S) (nth y.uses k).label lab _ _ _ (rel_Label FP.out) (rel_Label FL.out) _ T3.out).mono ?_); rintro e w9b ⟨rfl, hx9⟩; have X9b := Lib.hid (X5.out.trans hx9); have Q9b := Lib.hid (Q5.out.ext hx9); clear hx9 e0 l0)
                    go_roundw
                    case rel => exact ⟨k + 1, by omega, by go_num, by rw [HS.out], by rw [HS.out]; omega, X9b.out⟩
                    case measure => simp [intOf]; omega
                  | true =>
                    have HS := Lib.hid (viewU_in (y := y) (a := a2) T3.out)
                    obtain ⟨sT, hT⟩ : ∃ s, viewU y lab a2 k = s := ⟨_, rfl⟩
                    obtain ⟨sA, hA⟩ : ∃ s, putNum (nth y.uses k).label.level = s := ⟨_, rfl⟩
                    obtain ⟨sD, hD⟩ : ∃ s, putNum (nth y.uses k).label.set = s := ⟨_, rfl⟩
                    obtain ⟨sB, hB⟩ : ∃ s, putText (nth y.uses k).owner = s := ⟨_, rfl⟩
                    obtain ⟨sC, hC⟩ : ∃ s, putNum (nth y.uses k).used = s := ⟨_, rfl⟩
                    have a1 := putNum_size I1.out
                    have a2' := putNum_size I2.out
                    have a3 := @text_size (nth y.uses k).owner
                    have a4 := putNum_size I4.out
                    rw [hA] at a1
                    rw [hD] at a2'
                    rw [hB] at a3
                    rw [hC] at a4
                    rw [useText, hT, hA, hD, hB, hC] at HS
                    rw [hT] at hs
                    rw [hT]
                    have HA := Lib.hid hA
                    have HD := Lib.hid hD
                    have HBs := Lib.hid hB
                    have HCs := Lib.hid hC
                    clear hT hA hD hB hC
                    have k_0 := size_app sT sA
                    have k_1 := size_app (sT ++ sA) sD
                    have k_2 := size_app (sT ++ sA ++ sD) sB
                    have k_3 := size_app (sT ++ sA ++ sD ++ sB) sC
                    have k0 : ¬ (9223372036854775807 < (sT.size : Int) + (sA.size : Int)) := by omega
                    have k1 : ¬ (9223372036854775807 < sT.size + sA.size) := by omega
                    have k2 : sT.size + sA.size ≤ 9223372036854775807 := by omega
                    have k3 : (sT.size : Int) + (sA.size : Int) ≤ 9223372036854775807 := by omega
                    have k4 : ¬ (9223372036854775807 < (sT.size : Int) + (sA.size : Int) + (sD.size : Int)) := by omega
                    have k5 : ¬ (9223372036854775807 < sT.size + sA.size + sD.size) := by omega
                    have k6 : sT.size + sA.size + sD.size ≤ 9223372036854775807 := by omega
                    have k7 : (sT.size : Int) + (sA.size : Int) + (sD.size : Int) ≤ 9223372036854775807 := by omega
                    have k8 : ¬ (9223372036854775807 < (sT.size : Int) + (sA.size : Int) + (sD.size : Int) + (sB.size : Int)) := by omega
                    have k9 : ¬ (9223372036854775807 < sT.size + sA.size + sD.size + sB.size) := by omega
                    have k10 : sT.size + sA.size + sD.size + sB.size ≤ 9223372036854775807 := by omega
                    have k11 : (sT.size : Int) + (sA.size : Int) + (sD.size : Int) + (sB.size : Int) ≤ 9223372036854775807 := by omega
                    have k12 : ¬ (9223372036854775807 < (sT.size : Int) + (sA.size : Int) + (sD.size : Int) + (sB.size : Int) + (sC.size : Int)) := by omega
                    have k13 : ¬ (9223372036854775807 < sT.size + sA.size + sD.size + sB.size + sC.size) := by omega
                    have k14 : sT.size + sA.size + sD.size + sB.size + sC.size ≤ 9223372036854775807 := by omega
                    have k15 : (sT.size : Int) + (sA.size : Int) + (sD.size : Int) + (sB.size : Int) + (sC.size : Int) ≤ 9223372036854775807 := by omega
                    go_upto_region 22 with (go_at_call 77; (with_reducible refine (ySpecBelow_is (S := S) (S' := S) (nth y.uses k).label lab _ _ _ (rel_Label FP.out) (rel_Label FL.out) _ T3.out).mono ?_); rintro e w9b ⟨rfl, hx9⟩; have X9b := Lib.hid (X5.out.trans hx9); have Q9b := Lib.hid (Q5.out.ext hx9); clear hx9 e0 l0)
                    have e0 : w9b.cell? ⟨B5, 0, none⟩ = some (.int .i64 (nth y.uses k).label.level) := Q9b.out.cell 0
                    have e1 : w9b.cell? ⟨B5, 1, none⟩ = some (.int .i64 (nth y.uses k).label.set) := Q9b.out.cell 1
                    have e2 : w9b.cell? ⟨B5, 2, none⟩ = some (.string (nth y.uses k).owner) := Q9b.out.cell 2
                    have e3 : w9b.cell? ⟨B5, 3, none⟩ = some (.int .i64 (nth y.uses k).used) := Q9b.out.cell 3
                    refine wp_region_ext (by kernel_rfl) (by kernel_rfl) ?_
                    repeat (
                      (refine wpQuiet_step (fun K hK => ?_)
                       go_simp
                       first
                        | (refine hK _ ?_; clear hK K)
                        | (apply Exists.intro
                           refine ⟨fun w__ hx__ => ?_, hK _ ?_⟩
                           · have e0__ := Ext.some hx__ e0; have e1__ := Ext.some hx__ e1; have e2__ := Ext.some hx__ e2; have e3__ := Ext.some hx__ e3; first | exact rfl | (go_simp; done) | (go_simp; exact rfl) | (first | (go_at_call 76; with_reducible exact ext_of hx__ (yNum_is (nth y.uses k).label.level _ I1.out sA HA.out)) | (go_at_call 76; with_reducible exact ext_of hx__ (yNum_is (nth y.uses k).label.set _ I2.out sD HD.out)) | (go_at_call 79; with_reducible exact ext_of hx__ (ySpecText_is (nth y.uses k).owner _ I3.out sB HBs.out)) | (go_at_call 76; with_reducible exact ext_of hx__ (yNum_is (nth y.uses k).used _ I4.out sC HCs.out)))
                           clear hK K)))
                    refine wpQuiet_nil ?_
                    intro w1 hx1
                    have X10 := Lib.hid (X9b.out.trans hx1)
                    clear e0 e1 e2 e3 hx1 k0 k1 k2 k3 k4 k5 k6 k7 k8 k9 k10 k11 k12 k13 k14 k15
                    go_wp2_with fail
                    go_roundw
                    case rel => exact ⟨k + 1, by omega, by go_num, by rw [HS.out], by rw [HS.out, k_3, k_2, k_1, k_0]; omega, X10.out⟩
                    case measure => simp [intOf]; omega
                · obtain rfl : k = y.uses.length := by omega
                  have HE := Lib.hid HVA.out.symm
                  have XE := Lib.hid (XN.out.trans hx)
                  clear hx
                  go_wp2_with fail
                  go_ret
                  exact ⟨by rw [← HE.out] <;> rfl, XE.out⟩
end Go.Proofs.YtocomclenbhhaaaGreat

namespace Go.Proofs.YtocomclenbhhaaaGreat
open Go.ChangeShapes Go.WideShapes Go.ChangeAt Go.RowKit Go.ChangeMaps
attribute [local irreducible] wpQuiet

set_option maxHeartbeats 16000000 in
set_option maxRecDepth 100000 in
theorem fnExactYardView_walk {S : Nat → Prop} (y : Yard) (csy : List Value) (lab : Label) (cslab : List Value) (w : World) (hy : EYard.rel S w csy y) (hlab : ELabel.rel S w cslab lab) :
    Calls Tryz.prog 5 #[.agg csy.toArray, .agg cslab.toArray] w fun e w' => e = .returned (.bool true) ∧ Ext w w' := by
  have h0 : (0 : Int) ≤ 1048576 := by decide
  obtain ⟨vy_0, vy_1, vy_2, vy_3, vy_4, vy_5, rfl, hf_y, hry_0, hry_1, hry_2, hry_3, hry_4, hry_5⟩ := hy
  have F_y := Lib.hid hf_y
  clear hf_y
  obtain ⟨Ay_0, cy_0, rfl, l1y_0, l2y_0⟩ := hry_0.form
  unfold maxLen at l2y_0
  have Ry_0 := Lib.hid hry_0
  clear hry_0
  obtain ⟨Ay_1, cy_1, rfl, l1y_1, l2y_1⟩ := hry_1.form
  unfold maxLen at l2y_1
  have Ry_1 := Lib.hid hry_1
  clear hry_1
  obtain ⟨Ay_2, cy_2, rfl, l1y_2, l2y_2⟩ := hry_2.form
  unfold maxLen at l2y_2
  have Ry_2 := Lib.hid hry_2
  clear hry_2
  obtain ⟨Ay_3, cy_3, rfl, l1y_3, l2y_3⟩ := hry_3.form
  unfold maxLen at l2y_3
  have Ry_3 := Lib.hid hry_3
  clear hry_3
  obtain ⟨Ay_4, cy_4, rfl, l1y_4, l2y_4⟩ := hry_4.form
  unfold maxLen at l2y_4
  have Ry_4 := Lib.hid hry_4
  clear hry_4
  obtain ⟨Ay_5, cy_5, rfl, l1y_5, l2y_5⟩ := hry_5.form
  unfold maxLen at l2y_5
  have Ry_5 := Lib.hid hry_5
  clear hry_5
  simp only [cellsYard]
  obtain ⟨rfl, hf_lab⟩ := hlab
  have F_lab := Lib.hid hf_lab
  clear hf_lab
  simp only [cellsLabel]
  go_enter Tryz.func5, Tryz.ntmps5
  go_upto_region 1 with (fail)
  obtain ⟨W0, B, hW, hB, hx0, b_0, b_1⟩ := boxes2 w #[.slice Ay_0 y.config.nodes.length cy_0, .slice Ay_1 y.config.pairs.length cy_1, .slice Ay_2 y.config.quotas.length cy_2, .int .i64 y.config.half, .slice Ay_3 y.nodes.length cy_3, .slice Ay_4 y.tasks.length cy_4, .slice Ay_5 y.uses.length cy_5, .int .i64 y.now] #[.int .i64 lab.level, .int .i64 lab.set] 51 58
  rw [← hW, ← hB]
  have Q_y : Hid (Blk W0 (B) 51 #[.slice Ay_0 y.config.nodes.length cy_0, .slice Ay_1 y.config.pairs.length cy_1, .slice Ay_2 y.config.quotas.length cy_2, .int .i64 y.config.half, .slice Ay_3 y.nodes.length cy_3, .slice Ay_4 y.tasks.length cy_4, .slice Ay_5 y.uses.length cy_5, .int .i64 y.now]) := Lib.hid b_0
  have Q_lab : Hid (Blk W0 (B + 1) 58 #[.int .i64 lab.level, .int .i64 lab.set]) := Lib.hid b_1
  clear hW hB b_0 b_1
  have X0 := Lib.hid hx0
  clear hx0
  have ac_y := (Q_y.out.ext (Ext.refl _)).cell
  have ac_lab := (Q_lab.out.ext (Ext.refl _)).cell
  by_cases hs_y : szYard y 1048576 < 0
  · go_wp2_with fail
    refine (szYard_any y _ 1048576 _ (rel_Yard F_y.out (Ry_0.out.ext (X0.out)) (Ry_1.out.ext (X0.out)) (Ry_2.out.ext (X0.out)) (Ry_3.out.ext (X0.out)) (Ry_4.out.ext (X0.out)) (Ry_5.out.ext (X0.out))) h0 (Int.le_refl _)).mono ?_
    rintro e w12 ⟨rfl, hx⟩
    have X1 := Lib.hid hx
    clear hx ac_y ac_lab
    go_wp2_with fail
    go_ret
    exact ⟨rfl, (X0.out.trans X1.out)⟩
  have hp_y : 0 ≤ szYard y 1048576 := by omega
  have M_y := Lib.hid (small_szYard h0 (Int.le_refl _) hp_y)
  have hq_y : szYard y 1048576 ≤ 1048576 := by have := pays_szYard y 1048576 h0; have := h0; omega
  clear hs_y
  go_wp2_with fail
  refine (szYard_any y _ 1048576 _ (rel_Yard F_y.out (Ry_0.out.ext (X0.out)) (Ry_1.out.ext (X0.out)) (Ry_2.out.ext (X0.out)) (Ry_3.out.ext (X0.out)) (Ry_4.out.ext (X0.out)) (Ry_5.out.ext (X0.out))) h0 (Int.le_refl _)).mono ?_
  rintro e w12 ⟨rfl, hx⟩
  have X1 := Lib.hid hx
  clear hx ac_y ac_lab
  generalize szYard y 1048576 = q_y at *
  have HP_y := Lib.hid hp_y
  have HQ_y := Lib.hid hq_y
  clear hq_y
  have M_lab : Hid (SmLabel lab) := Lib.hid trivial
  have ac_y := (Q_y.out.ext (X1.out)).cell
  have ac_lab := (Q_lab.out.ext (X1.out)).cell
  go_wp2_with fail
  clear ac_y ac_lab
  have al_y : ∀ V, Ext w12 V → ∀ i, V.cell? ⟨B, i, none⟩ = _ := fun V hx => (Q_y.out.ext (X1.out.trans hx)).cell
  have al_lab : ∀ V, Ext w12 V → ∀ i, V.cell? ⟨(B + 1), i, none⟩ = _ := fun V hx => (Q_lab.out.ext (X1.out.trans hx)).cell
  go_region_held3 (fun w' => Ext w12 w') (first | exact Ext.refl _ | exact (Ext.refl _).drew | assumption | exact Ext.alloc (by assumption) _ | exact Ext.trans (by assumption) hx1 | exact Ext.trans (by assumption) hx2 | exact Ext.trans (by assumption) hx3) (first | (go_at_call 17; (with_reducible refine (toYard_any (S := S) y _ _ (rel_Yard F_y.out (Ry_0.out.ext (X0.out.trans (X1.out.trans (by assumption)))) (Ry_1.out.ext (X0.out.trans (X1.out.trans (by assumption)))) (Ry_2.out.ext (X0.out.trans (X1.out.trans (by assumption)))) (Ry_3.out.ext (X0.out.trans (X1.out.trans (by assumption)))) (Ry_4.out.ext (X0.out.trans (X1.out.trans (by assumption)))) (Ry_5.out.ext (X0.out.trans (X1.out.trans (by assumption))))) M_y.out).mono ?_); rintro e w13_1 ⟨_, rfl, ⟨u1_0, u1_1, u1_2, u1_3, u1_4, u1_5, rfl, f1, r1_0, r1_1, r1_2, r1_3, r1_4, r1_5⟩, hx1⟩; clear f1; simp only [cellsYard]; obtain ⟨A1_0, c1_0, rfl, -⟩ := Rd.form r1_0; have R1_0 := Lib.hid r1_0; clear r1_0; obtain ⟨A1_1, c1_1, rfl, -⟩ := Rd.form r1_1; have R1_1 := Lib.hid r1_1; clear r1_1; obtain ⟨A1_2, c1_2, rfl, -⟩ := Rd.form r1_2; have R1_2 := Lib.hid r1_2; clear r1_2; obtain ⟨A1_3, c1_3, rfl, -⟩ := Rd.form r1_3; have R1_3 := Lib.hid r1_3; clear r1_3; obtain ⟨A1_4, c1_4, rfl, -⟩ := Rd.form r1_4; have R1_4 := Lib.hid r1_4; clear r1_4; obtain ⟨A1_5, c1_5, rfl, -⟩ := Rd.form r1_5; have R1_5 := Lib.hid r1_5; clear r1_5) | (go_at_call 21; (with_reducible refine (toLabel_any (S := S) lab _ _ (rel_Label F_lab.out) M_lab.out).mono ?_); rintro e w13_2 ⟨_, rfl, ⟨rfl, f2⟩, hx2⟩; clear f2; simp only [cellsLabel]) | (go_at_call 20; (with_reducible refine (specYardView_any (S2 := S) y lab _ _ _ (rel_Yard F_y.out (by first | exact R1_0.out | exact R1_0.out.ext (by assumption) | exact R1_0.out.ext (Ext.trans (by assumption) hx3) | exact R1_0.out.ext (Ext.trans (by assumption) hx2) | exact R1_0.out.ext (Ext.trans (by assumption) hx1)) (by first | exact R1_1.out | exact R1_1.out.ext (by assumption) | exact R1_1.out.ext (Ext.trans (by assumption) hx3) | exact R1_1.out.ext (Ext.trans (by assumption) hx2) | exact R1_1.out.ext (Ext.trans (by assumption) hx1)) (by first | exact R1_2.out | exact R1_2.out.ext (by assumption) | exact R1_2.out.ext (Ext.trans (by assumption) hx3) | exact R1_2.out.ext (Ext.trans (by assumption) hx2) | exact R1_2.out.ext (Ext.trans (by assumption) hx1)) (by first | exact R1_3.out | exact R1_3.out.ext (by assumption) | exact R1_3.out.ext (Ext.trans (by assumption) hx3) | exact R1_3.out.ext (Ext.trans (by assumption) hx2) | exact R1_3.out.ext (Ext.trans (by assumption) hx1)) (by first | exact R1_4.out | exact R1_4.out.ext (by assumption) | exact R1_4.out.ext (Ext.trans (by assumption) hx3) | exact R1_4.out.ext (Ext.trans (by assumption) hx2) | exact R1_4.out.ext (Ext.trans (by assumption) hx1)) (by first | exact R1_5.out | exact R1_5.out.ext (by assumption) | exact R1_5.out.ext (Ext.trans (by assumption) hx3) | exact R1_5.out.ext (Ext.trans (by assumption) hx2) | exact R1_5.out.ext (Ext.trans (by assumption) hx1))) (rel_Label F_lab.out)).mono ?_); rintro e w13 ⟨rfl, hx3⟩))
  all_goals clear al_y al_lab
  have X2 : Hid (Ext w12 w13) := Lib.hid (by first | assumption | exact Ext.drew (by assumption))
  have ac_y := (Q_y.out.ext (X1.out.trans X2.out)).cell
  have ac_lab := (Q_lab.out.ext (X1.out.trans X2.out)).cell
  go_wp2_with fail
  refine (toYard_any (S := S) y _ _ (rel_Yard F_y.out (Ry_0.out.ext (X0.out.trans (X1.out.trans X2.out))) (Ry_1.out.ext (X0.out.trans (X1.out.trans X2.out))) (Ry_2.out.ext (X0.out.trans (X1.out.trans X2.out))) (Ry_3.out.ext (X0.out.trans (X1.out.trans X2.out))) (Ry_4.out.ext (X0.out.trans (X1.out.trans X2.out))) (Ry_5.out.ext (X0.out.trans (X1.out.trans X2.out)))) M_y.out).mono ?_
  rintro e w14 ⟨_, rfl, ⟨u4_0, u4_1, u4_2, u4_3, u4_4, u4_5, rfl, f4, r4_0, r4_1, r4_2, r4_3, r4_4, r4_5⟩, hx⟩
  have X3 := Lib.hid hx
  clear hx ac_y ac_lab
  clear f4
  simp only [cellsYard]
  obtain ⟨A4_0, c4_0, rfl, -⟩ := Rd.form r4_0
  have R4_0 := Lib.hid r4_0
  clear r4_0
  obtain ⟨A4_1, c4_1, rfl, -⟩ := Rd.form r4_1
  have R4_1 := Lib.hid r4_1
  clear r4_1
  obtain ⟨A4_2, c4_2, rfl, -⟩ := Rd.form r4_2
  have R4_2 := Lib.hid r4_2
  clear r4_2
  obtain ⟨A4_3, c4_3, rfl, -⟩ := Rd.form r4_3
  have R4_3 := Lib.hid r4_3
  clear r4_3
  obtain ⟨A4_4, c4_4, rfl, -⟩ := Rd.form r4_4
  have R4_4 := Lib.hid r4_4
  clear r4_4
  obtain ⟨A4_5, c4_5, rfl, -⟩ := Rd.form r4_5
  have R4_5 := Lib.hid r4_5
  clear r4_5
  have ac_y := (Q_y.out.ext (X1.out.trans (X2.out.trans X3.out))).cell
  have ac_lab := (Q_lab.out.ext (X1.out.trans (X2.out.trans X3.out))).cell
  go_upto_region 7 with (fail)
  clear ac_y ac_lab
  obtain ⟨V4, C4, hW, hB, hx, hbox⟩ := box_new w14 #[.slice A4_0 y.config.nodes.length c4_0, .slice A4_1 y.config.pairs.length c4_1, .slice A4_2 y.config.quotas.length c4_2, .int .i64 y.config.half, .slice A4_3 y.nodes.length c4_3, .slice A4_4 y.tasks.length c4_4, .slice A4_5 y.uses.length c4_5, .int .i64 y.now] 37
  rw [← hW, ← hB]
  have Q_xy : Hid (Blk V4 C4 37 #[.slice A4_0 y.config.nodes.length c4_0, .slice A4_1 y.config.pairs.length c4_1, .slice A4_2 y.config.quotas.length c4_2, .int .i64 y.config.half, .slice A4_3 y.nodes.length c4_3, .slice A4_4 y.tasks.length c4_4, .slice A4_5 y.uses.length c4_5, .int .i64 y.now]) := Lib.hid (by rw [hW, hB]; exact Blk.new w14 _ _)
  have X4 := Lib.hid hx
  clear hW hB hbox hx
  have ac_y := (Q_y.out.ext (X1.out.trans (X2.out.trans (X3.out.trans X4.out)))).cell
  have ac_lab := (Q_lab.out.ext (X1.out.trans (X2.out.trans (X3.out.trans X4.out)))).cell
  have ac_xy := (Q_xy.out.ext (Ext.refl _)).cell
  go_wp2_with fail
  clear ac_y ac_lab ac_xy
  have al_y : ∀ V, Ext V4 V → ∀ i, V.cell? ⟨B, i, none⟩ = _ := fun V hx => (Q_y.out.ext (X1.out.trans (X2.out.trans (X3.out.trans (X4.out.trans hx))))).cell
  have al_lab : ∀ V, Ext V4 V → ∀ i, V.cell? ⟨(B + 1), i, none⟩ = _ := fun V hx => (Q_lab.out.ext (X1.out.trans (X2.out.trans (X3.out.trans (X4.out.trans hx))))).cell
  have al_xy : ∀ V, Ext V4 V → ∀ i, V.cell? ⟨C4, i, none⟩ = _ := fun V hx => (Q_xy.out.ext hx).cell
  go_region_held3 (fun w' => Ext V4 w') (first | exact Ext.refl _ | exact (Ext.refl _).drew | assumption | exact Ext.alloc (by assumption) _ | exact Ext.trans (by assumption) hx5 | exact Ext.trans (by assumption) hx6) (first | (go_at_call 21; (with_reducible refine (toLabel_any (S := S) lab _ _ (rel_Label F_lab.out) M_lab.out).mono ?_); rintro e w16_5 ⟨_, rfl, ⟨rfl, f5⟩, hx5⟩; clear f5; simp only [cellsLabel]) | (go_at_call 22; (with_reducible refine (yardView_any (S2 := S) y lab _ _ _ (rel_Yard F_y.out (R4_0.out.ext (X4.out.trans (by assumption))) (R4_1.out.ext (X4.out.trans (by assumption))) (R4_2.out.ext (X4.out.trans (by assumption))) (R4_3.out.ext (X4.out.trans (by assumption))) (R4_4.out.ext (X4.out.trans (by assumption))) (R4_5.out.ext (X4.out.trans (by assumption)))) (rel_Label F_lab.out)).mono ?_); rintro e w16 ⟨rfl, hx6⟩))
  all_goals clear al_y al_lab al_xy
  have X5 : Hid (Ext V4 w16) := Lib.hid (by first | assumption | exact Ext.drew (by assumption))
  have F_new := F_y
  have ac_y := (Q_y.out.ext (X1.out.trans (X2.out.trans (X3.out.trans (X4.out.trans X5.out))))).cell
  have ac_lab := (Q_lab.out.ext (X1.out.trans (X2.out.trans (X3.out.trans (X4.out.trans X5.out))))).cell
  have ac_xy := (Q_xy.out.ext (X5.out)).cell
  go_wp2_with fail
  clear ac_y ac_lab ac_xy
  have al_y : ∀ V, Ext w16 V → ∀ i, V.cell? ⟨B, i, none⟩ = _ := fun V hx => (Q_y.out.ext (X1.out.trans (X2.out.trans (X3.out.trans (X4.out.trans (X5.out.trans hx)))))).cell
  have al_lab : ∀ V, Ext w16 V → ∀ i, V.cell? ⟨(B + 1), i, none⟩ = _ := fun V hx => (Q_lab.out.ext (X1.out.trans (X2.out.trans (X3.out.trans (X4.out.trans (X5.out.trans hx)))))).cell
  have al_xy : ∀ V, Ext w16 V → ∀ i, V.cell? ⟨C4, i, none⟩ = _ := fun V hx => (Q_xy.out.ext (X5.out.trans hx)).cell
  go_region_held3 (fun w' => Ext w16 w') (first | exact Ext.refl _ | exact (Ext.refl _).drew | assumption | exact Ext.alloc (by assumption) _ | exact Ext.trans (by assumption) hx7 | exact Ext.trans (by assumption) hx8) (first | (go_at_call 17; (with_reducible refine (toYard_any (S := S) y _ _ (rel_Yard F_y.out (Ry_0.out.ext (X0.out.trans (X1.out.trans (X2.out.trans (X3.out.trans (X4.out.trans (X5.out.trans (by assumption)))))))) (Ry_1.out.ext (X0.out.trans (X1.out.trans (X2.out.trans (X3.out.trans (X4.out.trans (X5.out.trans (by assumption)))))))) (Ry_2.out.ext (X0.out.trans (X1.out.trans (X2.out.trans (X3.out.trans (X4.out.trans (X5.out.trans (by assumption)))))))) (Ry_3.out.ext (X0.out.trans (X1.out.trans (X2.out.trans (X3.out.trans (X4.out.trans (X5.out.trans (by assumption)))))))) (Ry_4.out.ext (X0.out.trans (X1.out.trans (X2.out.trans (X3.out.trans (X4.out.trans (X5.out.trans (by assumption)))))))) (Ry_5.out.ext (X0.out.trans (X1.out.trans (X2.out.trans (X3.out.trans (X4.out.trans (X5.out.trans (by assumption))))))))) M_y.out).mono ?_); rintro e w17_7 ⟨_, rfl, ⟨u7_0, u7_1, u7_2, u7_3, u7_4, u7_5, rfl, f7, r7_0, r7_1, r7_2, r7_3, r7_4, r7_5⟩, hx7⟩; clear f7; simp only [cellsYard]; obtain ⟨A7_0, c7_0, rfl, -⟩ := Rd.form r7_0; have R7_0 := Lib.hid r7_0; clear r7_0; obtain ⟨A7_1, c7_1, rfl, -⟩ := Rd.form r7_1; have R7_1 := Lib.hid r7_1; clear r7_1; obtain ⟨A7_2, c7_2, rfl, -⟩ := Rd.form r7_2; have R7_2 := Lib.hid r7_2; clear r7_2; obtain ⟨A7_3, c7_3, rfl, -⟩ := Rd.form r7_3; have R7_3 := Lib.hid r7_3; clear r7_3; obtain ⟨A7_4, c7_4, rfl, -⟩ := Rd.form r7_4; have R7_4 := Lib.hid r7_4; clear r7_4; obtain ⟨A7_5, c7_5, rfl, -⟩ := Rd.form r7_5; have R7_5 := Lib.hid r7_5; clear r7_5) | (go_at_call 19; (with_reducible refine (eqYard_any y y _ _ _ (rel_Yard F_y.out (R4_0.out.ext (X4.out.trans (X5.out.trans (by assumption)))) (R4_1.out.ext (X4.out.trans (X5.out.trans (by assumption)))) (R4_2.out.ext (X4.out.trans (X5.out.trans (by assumption)))) (R4_3.out.ext (X4.out.trans (X5.out.trans (by assumption)))) (R4_4.out.ext (X4.out.trans (X5.out.trans (by assumption)))) (R4_5.out.ext (X4.out.trans (X5.out.trans (by assumption))))) (rel_Yard F_new.out (by first | exact R7_0.out | exact R7_0.out.ext (by assumption) | exact R7_0.out.ext (Ext.trans (by assumption) hx8) | exact R7_0.out.ext (Ext.trans (by assumption) hx7) | exact R7_0.out.ext (Ext.trans (by assumption) hx6) | exact R7_0.out.ext (Ext.trans (by assumption) hx5) | exact R7_0.out.ext (Ext.trans (by assumption) hx4) | exact R7_0.out.ext (Ext.trans (by assumption) hx3) | exact R7_0.out.ext (Ext.trans (by assumption) hx2) | exact R7_0.out.ext (Ext.trans (by assumption) hx1)) (by first | exact R7_1.out | exact R7_1.out.ext (by assumption) | exact R7_1.out.ext (Ext.trans (by assumption) hx8) | exact R7_1.out.ext (Ext.trans (by assumption) hx7) | exact R7_1.out.ext (Ext.trans (by assumption) hx6) | exact R7_1.out.ext (Ext.trans (by assumption) hx5) | exact R7_1.out.ext (Ext.trans (by assumption) hx4) | exact R7_1.out.ext (Ext.trans (by assumption) hx3) | exact R7_1.out.ext (Ext.trans (by assumption) hx2) | exact R7_1.out.ext (Ext.trans (by assumption) hx1)) (by first | exact R7_2.out | exact R7_2.out.ext (by assumption) | exact R7_2.out.ext (Ext.trans (by assumption) hx8) | exact R7_2.out.ext (Ext.trans (by assumption) hx7) | exact R7_2.out.ext (Ext.trans (by assumption) hx6) | exact R7_2.out.ext (Ext.trans (by assumption) hx5) | exact R7_2.out.ext (Ext.trans (by assumption) hx4) | exact R7_2.out.ext (Ext.trans (by assumption) hx3) | exact R7_2.out.ext (Ext.trans (by assumption) hx2) | exact R7_2.out.ext (Ext.trans (by assumption) hx1)) (by first | exact R7_3.out | exact R7_3.out.ext (by assumption) | exact R7_3.out.ext (Ext.trans (by assumption) hx8) | exact R7_3.out.ext (Ext.trans (by assumption) hx7) | exact R7_3.out.ext (Ext.trans (by assumption) hx6) | exact R7_3.out.ext (Ext.trans (by assumption) hx5) | exact R7_3.out.ext (Ext.trans (by assumption) hx4) | exact R7_3.out.ext (Ext.trans (by assumption) hx3) | exact R7_3.out.ext (Ext.trans (by assumption) hx2) | exact R7_3.out.ext (Ext.trans (by assumption) hx1)) (by first | exact R7_4.out | exact R7_4.out.ext (by assumption) | exact R7_4.out.ext (Ext.trans (by assumption) hx8) | exact R7_4.out.ext (Ext.trans (by assumption) hx7) | exact R7_4.out.ext (Ext.trans (by assumption) hx6) | exact R7_4.out.ext (Ext.trans (by assumption) hx5) | exact R7_4.out.ext (Ext.trans (by assumption) hx4) | exact R7_4.out.ext (Ext.trans (by assumption) hx3) | exact R7_4.out.ext (Ext.trans (by assumption) hx2) | exact R7_4.out.ext (Ext.trans (by assumption) hx1)) (by first | exact R7_5.out | exact R7_5.out.ext (by assumption) | exact R7_5.out.ext (Ext.trans (by assumption) hx8) | exact R7_5.out.ext (Ext.trans (by assumption) hx7) | exact R7_5.out.ext (Ext.trans (by assumption) hx6) | exact R7_5.out.ext (Ext.trans (by assumption) hx5) | exact R7_5.out.ext (Ext.trans (by assumption) hx4) | exact R7_5.out.ext (Ext.trans (by assumption) hx3) | exact R7_5.out.ext (Ext.trans (by assumption) hx2) | exact R7_5.out.ext (Ext.trans (by assumption) hx1)))).mono ?_); rintro e w17 ⟨rfl, hx8⟩))
  all_goals clear al_y al_lab al_xy
  have X6 : Hid (Ext w16 w17) := Lib.hid (by first | assumption | exact Ext.drew (by assumption))
  clear F_new
  have ac_y := (Q_y.out.ext (X1.out.trans (X2.out.trans (X3.out.trans (X4.out.trans (X5.out.trans X6.out)))))).cell
  have ac_lab := (Q_lab.out.ext (X1.out.trans (X2.out.trans (X3.out.trans (X4.out.trans (X5.out.trans X6.out)))))).cell
  have ac_xy := (Q_xy.out.ext (X5.out.trans X6.out)).cell
  go_wp2_with fail
  go_ret
  exact ⟨rfl, (X0.out.trans (X1.out.trans (X2.out.trans (X3.out.trans (X4.out.trans (X5.out.trans X6.out))))))⟩

set_option maxRecDepth 100000 in
theorem fnExactYardView_lifted (os : Os) (started : os.Started) (H : Type) (enc : TypeId × Value → H) :
    ReturnsInHanded {} Tryz.checked os 5 .any (Rows.fnExactYardViewSpec.pre6 enc Tryz.prog Tryz.f5 Rows.fnExactYardViewRow.domain false) (Rows.fnExactYardViewSpec.post enc Tryz.prog Tryz.f5 false true false false) := by
  refine returnsInHanded_of_change (C := Tryz.checked) (show ownKnob Tryz.prog.godebug = none by kernel_rfl) started (by kernel_rfl) Tryz.func5
    (ChangeSpec.witness6 (enc := enc) (C := Tryz.checked) false ⟨#[], #[.agg #[.slice none 0 0, .slice none 0 0, .slice none 0 0, .int .i64 0, .slice none 0 0, .slice none 0 0, .slice none 0 0, .int .i64 0], .agg #[.int .i64 0, .int .i64 0]], []⟩ 8 (by kernel_rfl) (by kernel_rfl) (by kernel_rfl) (by kernel_rfl)) ?_
  intro W base args ds gs before hval0 hW hcnd _
  have hval : ∀ (j : Nat) t v, Tryz.f5.params[j]? = some t → args[j]? = some v → Value.okWide Tryz.prog W .any base t v := hval0
  have hW' := hW
  obtain ⟨p, q, hA0, hV, rfl, hfz, hnd⟩ := hW
  have hA : DataW.TrodAll enc Tryz.prog W 0 (fun _ => true) true Tryz.f5.params.toList args.toList ds p := hA0
  rw [Tryz.params5] at hA hval
  obtain ⟨v0, v1, d0, d1, p0, p1, rfl, rfl, rfl, h0, h1⟩ := trodAll_two hA
  obtain ⟨rfl, rfl⟩ := trodVars_none hV
  obtain ⟨fu0, hf0⟩ := h0
  obtain ⟨y1, ry1⟩ := opens_Yard hf0
  obtain ⟨⟨cs0⟩, rfl, hsz0⟩ := okWide_struct Tryz.underlying51 (hval 0 51 v0 rfl rfl)
  simp only [Value.cells] at ry1
  clear hf0 hsz0
  obtain ⟨fu1, hf1⟩ := h1
  obtain ⟨lab1, rlab1⟩ := opens_Label hf1
  obtain ⟨⟨cs1⟩, rfl, hsz1⟩ := okWide_struct Tryz.underlying58 (hval 1 58 v1 rfl rfl)
  simp only [Value.cells] at rlab1
  clear hf1 hsz1
  clear hA0 hval0 hval hcnd
  refine (fnExactYardView_walk y1 _ lab1 _ W ry1 rlab1).mono fun e W2 ⟨he, hx⟩ => ?_
  subst he
  exact ⟨_, rfl, law_post (by kernel_rfl) (by kernel_rfl) Tryz.underlying4 (by intro t ht; rw [Tryz.params5] at ht; simp only [List.mem_cons, List.not_mem_nil, or_false] at ht; rcases ht with rfl | rfl <;> exact ⟨by kernel_rfl, of_decide_eq_true (by kernel_rfl)⟩) rfl rfl hW' hx⟩

theorem fnExactYardView_holds : Rows.FnExactYardViewSaid :=
  OpenClaim.holds_of_wide 5 Tryz.f5 rfl rfl rfl rfl rfl rfl rfl ⟨rfl, rfl, rfl, rfl, rfl⟩ rfl rfl rfl rfl rfl (by kernel_rfl) Tryz.func5 fnExactYardView_closed
    (of_decide_eq_true (by kernel_rfl)) (by unfold Func.isWrapper; rw [if_neg (of_decide_eq_false (by kernel_rfl))]; exact ⟨rfl, rfl⟩)
    (fun os started H enc _ => fnExactYardView_lifted os started H enc)
end Go.Proofs.YtocomclenbhhaaaGreat

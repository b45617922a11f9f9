/- What a label may see of a mail, in plain Lean; the walks of MailView, the program's and the reference's. Printed by wip/mailv.py. -/
import Derived.Test.YtdhcbbbmajjehaaGreatMailI
import Derived.Test.YtdhcbbbmajjehaaGreatMailS
import Derived.Test.YtdhcbbbmajjehaaGreatPutT
import Derived.Deep.RegionHeld3
namespace Go.Proofs.YtdhcbbbmajjehaaGreat
open Go.RowKit
attribute [local irreducible] wpQuiet

def viewStep (c : Config) (m : Mail) (lab : Label) (k : Nat) (a : ByteArray) : ByteArray :=
  if belowB (nth c.pairs k).to_ lab = true then putNumsFrom (putNumsFrom a [(k : Int), ((nth m.boxes k).here.length : Int)]) (nth m.boxes k).here else a
def viewN (c : Config) (m : Mail) (lab : Label) : Nat → ByteArray
  | 0 => ⟨#[]⟩
  | k + 1 => viewStep c m lab k (viewN c m lab k)
def mailView (c : Config) (m : Mail) (lab : Label) : ByteArray := if mailRight c m = true ∧ labelRight lab = true then viewN c m lab c.pairs.length else ⟨#[]⟩
theorem view_of {c : Config} {m : Mail} {lab : Label} (h1 : mailRight c m = true) (h2 : labelRight lab = true) : mailView c m lab = viewN c m lab c.pairs.length := by rw [mailView, if_pos ⟨h1, h2⟩]
theorem view_no1 {c : Config} {m : Mail} {lab : Label} (h : mailRight c m = false) : mailView c m lab = ⟨#[]⟩ := by rw [mailView, if_neg (by simp [h])]
theorem view_no2 {c : Config} {m : Mail} {lab : Label} (h : labelRight lab = false) : mailView c m lab = ⟨#[]⟩ := by rw [mailView, if_neg (by simp [h])]
theorem view_out {c : Config} {m : Mail} {lab : Label} {k : Nat} (h : belowB (nth c.pairs k).to_ lab = false) : viewN c m lab (k + 1) = viewN c m lab k := by rw [viewN, viewStep, if_neg (by simp [h])]
theorem view_in {c : Config} {m : Mail} {lab : Label} {k : Nat} (h : belowB (nth c.pairs k).to_ lab = true) : viewN c m lab (k + 1) = putNumsFrom (putNumsFrom (viewN c m lab k) [(k : Int), ((nth m.boxes k).here.length : Int)]) (nth m.boxes k).here := by rw [viewN, viewStep, if_pos h]
theorem app_nil (x : ByteArray) : x ++ ⟨#[]⟩ = x := by apply ByteArray.ext; simp
theorem two_parts (a : ByteArray) (l r : List Int) : a ++ (putNumsFrom ⟨#[]⟩ l ++ putNumsFrom ⟨#[]⟩ r) = putNumsFrom (putNumsFrom a l) r := by
  rw [from_assoc, app_nil, from_assoc, from_assoc, app_nil]
theorem ints_fit {S : Nat → Prop} {w : World} {v : Value} {l : List Int} (h : Rd EInt S w v l) : ∀ y ∈ l, I64 y := fun y hy => by
  obtain ⟨k, hk⟩ := List.getElem?_of_mem hy
  obtain ⟨_, _, _, _, _, hkk⟩ := h
  obtain ⟨_, _, _, _, _, ⟨_, h64⟩, _⟩ := hkk k y hk
  exact h64
theorem view_pairs {c : Config} {m : Mail} (h : mailRight c m = true) : c.pairs.length ≤ 4 ∧ m.boxes.length = c.pairs.length ∧ ∀ k, k < c.pairs.length → (nth m.boxes k).here.length ≤ 3 := by
  simp only [mailRight, Bool.and_eq_true, decide_eq_true_eq] at h
  obtain ⟨⟨h1, h2⟩, h3⟩ := h
  have h4 := h1
  simp only [configRight, pairsOk, Bool.and_eq_true, decide_eq_true_eq] at h4
  have h5 := h4.2.1.2.1
  have h6 := h4.2.1.2.2
  refine ⟨h5, h2, fun k hk => ?_⟩
  have a := List.all_eq_true.1 h3 k (List.mem_range.2 (by omega))
  have b := List.all_eq_true.1 h6 k (List.mem_range.2 hk)
  simp only [pairAtB, pairOk, Bool.and_eq_true] at b
  have r := isB_true b.1.2
  simp only [boxAt, boxOk, Bool.and_eq_true, decide_eq_true_eq] at a
  have := a.1.2
  omega
theorem two_ints (T : TypeId) (V : World) (x y : Int) (hx : I64 x) (hy : I64 y) : Rd EInt (fun _ => True) (V.alloc (.cells #[.int .i64 x, .int .i64 y] T)) (.slice (some ⟨V.heap.size, 0, none⟩) 2 2) [x, y] := by
  refine ⟨_, _, rfl, Nat.le_refl _, by unfold maxLen; simp, fun k u hk => ⟨_, 0, [.int .i64 u], rfl, trivial, ⟨rfl, ?_⟩, fun j v hj => ?_⟩⟩
  · have := List.mem_of_getElem? hk
    simp at this
    rcases this with rfl | rfl <;> assumption
  obtain ⟨rfl, rfl⟩ : j = 0 ∧ v = .int .i64 u := by
    rcases j with _ | j
    · simpa using hj.symm
    · simp at hj
  rw [(Blk.new V T _).cell]
  rcases k with _ | _ | k
  · simp at hk; simp [EInt, hk]
  · simp at hk; simp [EInt, hk]
  · simp at hk
theorem vMail_is {S S' : Nat → Prop} (c : Config) (m : Mail) (cs ds : List Value) (w : World) (h : EConfig.rel S w cs c) (g : EMail.rel S' w ds m) (r : Bool) (hr : mailRight c m = r) :
    Calls Tryz.prog 25 #[.agg cs.toArray, .agg ds.toArray] w fun e w' => e = .returned (.bool r) ∧ Ext w w' := by
  subst hr
  exact mailRight_any c m cs ds w h g
theorem vSpecMail_is {S S' : Nat → Prop} (c : Config) (m : Mail) (cs ds : List Value) (w : World) (h : EConfig.rel S w cs c) (g : EMail.rel S' w ds m) (r : Bool) (hr : mailRight c m = r) :
    Calls Tryz.prog 17 #[.agg cs.toArray, .agg ds.toArray] w fun e w' => e = .returned (.bool r) ∧ Ext w w' := by
  subst hr
  exact specMailRight_any c m cs ds w h g
theorem vLab_is {S : Nat → Prop} (x : Label) (cs : List Value) (w : World) (h : ELabel.rel S w cs x) (r : Bool) (hr : labelRight x = r) :
    Calls Tryz.prog 26 #[.agg cs.toArray] w fun e w' => e = .returned (.bool r) ∧ Ext w w' := by
  subst hr
  exact labelRight_any x cs w h
theorem vSpecLab_is {S : Nat → Prop} (x : Label) (cs : List Value) (w : World) (h : ELabel.rel S w cs x) (r : Bool) (hr : labelRight x = r) :
    Calls Tryz.prog 18 #[.agg cs.toArray] w fun e w' => e = .returned (.bool r) ∧ Ext w w' := by
  subst hr
  exact specLabelRight_any x cs w h
theorem vBelow_is {S S' : Nat → Prop} (a b : Label) (cs ds : List Value) (w : World) (h : ELabel.rel S w cs a) (g : ELabel.rel S' w ds b) (r : Bool) (hr : belowB a b = r) :
    Calls Tryz.prog 27 #[.agg cs.toArray, .agg ds.toArray] w fun e w' => e = .returned (.bool r) ∧ Ext w w' := by
  subst hr
  exact below_any a b cs ds w h g
theorem vSpecBelow_is {S S' : Nat → Prop} (a b : Label) (cs ds : List Value) (w : World) (h : ELabel.rel S w cs a) (g : ELabel.rel S' w ds b) (r : Bool) (hr : belowB a b = r) :
    Calls Tryz.prog 19 #[.agg cs.toArray, .agg ds.toArray] w fun e w' => e = .returned (.bool r) ∧ Ext w w' := by
  subst hr
  exact l02Below_any a b cs ds w h g
theorem vNums_is {S : Nat → Prop} (l : List Int) (v : Value) (w : World) (h : Rd EInt S w v l) (hl : l.length ≤ 1000) (s : ByteArray) (hs : putNumsFrom ⟨#[]⟩ l = s) :
    Calls Tryz.prog 28 #[v] w fun e w' => e = .returned (.string s) ∧ Ext w w' := by
  subst hs
  exact putNums_any l v w h hl
theorem vNum_is (n : Int) (w : World) (hn : I64 n) (s : ByteArray) (hs : putNum n = s) : Calls Tryz.prog 20 #[.int .i64 n] w fun e w' => e = .returned (.string s) ∧ Ext w w' := by
  subst hs
  exact specPutNum_any n w hn

set_option maxHeartbeats 16000000 in
set_option maxRecDepth 100000 in
theorem mailView_any {S S' S3 : Nat → Prop} (c : Config) (m : Mail) (lab : Label) (cs ds es : List Value) (w : World) (h : EConfig.rel S w cs c) (g : EMail.rel S' w ds m) (gl : ELabel.rel S3 w es lab) :
    Calls Tryz.prog 10 #[.agg cs.toArray, .agg ds.toArray, .agg es.toArray] w fun e w' => e = .returned (.string (mailView c m lab)) ∧ Ext w w' := by
  obtain ⟨v1, v2, v3, rfl, hf, h1, h2, h3⟩ := h
  obtain ⟨u1, rfl, fm, g1⟩ := g
  obtain ⟨rfl, fl⟩ := gl
  have FM := Lib.hid fm
  have FL := Lib.hid fl
  obtain ⟨A1, c1, rfl, -⟩ := h1.form
  have H2 := Lib.hid h2
  obtain ⟨A2, c2, rfl, l1, l2, hk⟩ := h2.open_
  unfold maxLen at l2
  obtain ⟨A3, c3, rfl, -⟩ := h3.form
  have HM := Lib.hid g1
  obtain ⟨AM, cM, rfl, m1, m2, gk⟩ := g1.open_
  unfold maxLen at m2
  have HF := Lib.hid hf
  have H1 := Lib.hid h1
  have H3 := Lib.hid h3
  have HK := Lib.hid hk
  have GK := Lib.hid gk
  clear hf h1 h2 h3 hk gk g1 fm fl
  simp only [cellsConfig, cellsMail, cellsLabel]
  obtain ⟨t, ht⟩ : ∃ t, mailRight c m = t := ⟨_, rfl⟩
  have T := Lib.hid ht
  obtain ⟨u, hu⟩ : ∃ u, labelRight lab = u := ⟨_, rfl⟩
  have U := Lib.hid hu
  clear ht hu
  go_enter Tryz.func10, Tryz.ntmps10
  go_upto_region 1 with (fail)
  obtain ⟨W, B, hW, hB, hx0, a0, b0, d0⟩ := boxes3 w #[.slice A1 c.nodes.length c1, .slice A2 c.pairs.length c2, .slice A3 c.quotas.length c3, .int .i64 c.half] #[.slice AM m.boxes.length cM] #[.int .i64 lab.level, .int .i64 lab.set] 39 43 45
  rw [← hW, ← hB]
  have QA := Lib.hid a0
  have QM := Lib.hid b0
  have QL := Lib.hid d0
  have X := Lib.hid hx0
  clear hW hB hx0 a0 b0 d0
  have q0 := QA.out.cell 0
  have q1 := QA.out.cell 1
  have q2 := QA.out.cell 2
  have q3 := QA.out.cell 3
  have p0 := QM.out.cell 0
  have l0 := QL.out.cell 0
  have l1 := QL.out.cell 1
  cases t with
  | false =>
    have HN : Hid (mailView c m lab = ⟨#[]⟩) := Lib.hid (view_no1 T.out)
    clear U
    go_wp2_with (go_at_call 25; (with_reducible refine (vMail_is (S := S) (S' := S') c m [.slice A1 c.nodes.length c1, .slice A2 c.pairs.length c2, .slice A3 c.quotas.length c3, .int .i64 c.half] [.slice AM m.boxes.length cM] _ (rel_Config HF.out (H1.out.ext X.out) (H2.out.ext X.out) (H3.out.ext X.out)) (rel_Mail FM.out (HM.out.ext X.out)) _ T.out).mono ?_); rintro e w7 ⟨rfl, hx7⟩; have X7 := Lib.hid (X.out.trans hx7); have QA7 := Lib.hid (QA.out.ext hx7); have QM7 := Lib.hid (QM.out.ext hx7); have QL7 := Lib.hid (QL.out.ext hx7); clear hx7 q0 q1 q2 q3 p0 l0 l1; have l0 := QL7.out.cell 0; have l1 := QL7.out.cell 1)
    go_ret
    exact ⟨by rw [HN.out] <;> rfl, X7.out⟩
  | true =>
    cases u with
    | false =>
      have HN : Hid (mailView c m lab = ⟨#[]⟩) := Lib.hid (view_no2 U.out)
      go_wp2_with (first | (go_at_call 25; (with_reducible refine (vMail_is (S := S) (S' := S') c m [.slice A1 c.nodes.length c1, .slice A2 c.pairs.length c2, .slice A3 c.quotas.length c3, .int .i64 c.half] [.slice AM m.boxes.length cM] _ (rel_Config HF.out (H1.out.ext X.out) (H2.out.ext X.out) (H3.out.ext X.out)) (rel_Mail FM.out (HM.out.ext X.out)) _ T.out).mono ?_); rintro e w7 ⟨rfl, hx7⟩; have X7 := Lib.hid (X.out.trans hx7); have QA7 := Lib.hid (QA.out.ext hx7); have QM7 := Lib.hid (QM.out.ext hx7); have QL7 := Lib.hid (QL.out.ext hx7); clear hx7 q0 q1 q2 q3 p0 l0 l1; have l0 := QL7.out.cell 0; have l1 := QL7.out.cell 1) | (go_at_call 26; (with_reducible refine (vLab_is (S := S) lab [.int .i64 lab.level, .int .i64 lab.set] _ (rel_Label FL.out) _ U.out).mono ?_); rintro e w8 ⟨rfl, hx8⟩; have X8 := Lib.hid (X7.out.trans hx8); have QA8 := Lib.hid (QA7.out.ext hx8); have QM8 := Lib.hid (QM7.out.ext hx8); have QL8 := Lib.hid (QL7.out.ext hx8); clear hx8 l0 l1))
      go_ret
      exact ⟨by rw [HN.out] <;> rfl, X8.out⟩
    | true =>
      have HV := Lib.hid (view_of T.out U.out)
      obtain ⟨n1, n2, n3⟩ := view_pairs T.out
      have N3 := Lib.hid n3
      have N2 := Lib.hid n2
      clear n2 n3
      go_upto_region 3 with (first | (go_at_call 25; (with_reducible refine (vMail_is (S := S) (S' := S') c m [.slice A1 c.nodes.length c1, .slice A2 c.pairs.length c2, .slice A3 c.quotas.length c3, .int .i64 c.half] [.slice AM m.boxes.length cM] _ (rel_Config HF.out (H1.out.ext X.out) (H2.out.ext X.out) (H3.out.ext X.out)) (rel_Mail FM.out (HM.out.ext X.out)) _ T.out).mono ?_); rintro e w7 ⟨rfl, hx7⟩; have X7 := Lib.hid (X.out.trans hx7); have QA7 := Lib.hid (QA.out.ext hx7); have QM7 := Lib.hid (QM.out.ext hx7); have QL7 := Lib.hid (QL.out.ext hx7); clear hx7 q0 q1 q2 q3 p0 l0 l1; have l0 := QL7.out.cell 0; have l1 := QL7.out.cell 1) | (go_at_call 26; (with_reducible refine (vLab_is (S := S) lab [.int .i64 lab.level, .int .i64 lab.set] _ (rel_Label FL.out) _ U.out).mono ?_); rintro e w8 ⟨rfl, hx8⟩; have X8 := Lib.hid (X7.out.trans hx8); have QA8 := Lib.hid (QA7.out.ext hx8); have QM8 := Lib.hid (QM7.out.ext hx8); have QL8 := Lib.hid (QL7.out.ext hx8); clear hx8 l0 l1))
      have q1 := QA8.out.cell 1
      go_wp2_with fail
      clear q1
      go_loopw [7, 22] (fun s i w' => ∃ k : Nat, k ≤ c.pairs.length ∧ i = .int .i64 k ∧ s = .string (viewN c m lab k) ∧ (viewN c m lab k).size ≤ 50 * k ∧ Ext w8 w') (fun _ i _ => c.pairs.length - (intOf i).toNat)
      case atStart => exact ⟨0, by omega, rfl, rfl, by simp [viewN, ByteArray.size], Ext.refl _⟩
      case round =>
        obtain ⟨k, hk1, rfl, rfl, hs, hx⟩ := hrel
        have HX := Lib.hid hx
        by_cases hlt : k < c.pairs.length
        · obtain ⟨b', o', ds, rfl, _, ⟨rfl, fp⟩, hd⟩ := HK.out k hlt
          have hkb : k < m.boxes.length := by have := N2.out; omega
          have hkb' : (k : Int) < (m.boxes.length : Int) := by omega
          obtain ⟨b, o, cs, rfl, _, ⟨y1, y2, y3, rfl, -, r1, r2, r3⟩, hc⟩ := GK.out k hkb
          obtain ⟨Y1, z1, rfl, -⟩ := r1.form
          have RH := Lib.hid r2
          obtain ⟨Y2, z2, rfl, -⟩ := r2.form
          obtain ⟨Y3, z3, rfl, -⟩ := r3.form
          have FP : Hid (FitLabel (nth c.pairs k).to_) := Lib.hid ⟨fp.2.2.1, fp.2.2.2.1⟩
          have h3 := N3.out k hlt
          have FH := Lib.hid (ints_fit r2)
          have IK : Hid (I64 (k : Int)) := Lib.hid (by unfold I64; omega)
          have IL : Hid (I64 ((nth m.boxes k).here.length : Int)) := Lib.hid (by unfold I64; omega)
          obtain ⟨t3, ht3⟩ : ∃ t, belowB (nth c.pairs k).to_ lab = t := ⟨_, rfl⟩
          have T3 := Lib.hid ht3
          have hxx := X8.out.trans hx
          have d0 := Ext.some hxx (hd 0 _ rfl)
          have d1 := Ext.some hxx (hd 1 _ rfl)
          have d2 := Ext.some hxx (hd 2 _ rfl)
          have d3 := Ext.some hxx (hd 3 _ rfl)
          have d4 := Ext.some hxx (hd 4 _ rfl)
          simp only [EPair, Nat.add_zero] at d0 d1 d2 d3 d4
          have c0 := Ext.some hxx (hc 0 _ rfl)
          have c1 := Ext.some hxx (hc 1 _ rfl)
          have c2 := Ext.some hxx (hc 2 _ rfl)
          simp only [EBox, Nat.add_zero] at c0 c1 c2
          have l0 := Ext.some hx (QL8.out.cell 0)
          have l1 := Ext.some hx (QL8.out.cell 1)
          have p0 := Ext.some hx (QM8.out.cell 0)
          have q1 := Ext.some hx (QA8.out.cell 1)
          clear hc r1 r2 r3 fp hd ht3
          have CB := Lib.hid c1
          have CP := Lib.hid p0
          clear hx hxx c0 c1 c2 p0 q1
          obtain ⟨sT, hT⟩ : ∃ s, viewN c m lab k = s := ⟨_, rfl⟩
          have HT := Lib.hid hT
          rw [hT] at hs
          rw [hT]
          clear hT
          go_upto_region 7 with (fail)
          obtain ⟨W5, B5, hW5, hB5, hx5, b5⟩ : ∃ W5 B5, W5 = wr.alloc (.cells #[.int .i64 (nth c.pairs k).from_.level, .int .i64 (nth c.pairs k).from_.set, .int .i64 (nth c.pairs k).to_.level, .int .i64 (nth c.pairs k).to_.set, .int .i64 (nth c.pairs k).rate] 58) ∧ B5 = wr.heap.size ∧ Ext wr W5 ∧ Blk W5 B5 58 #[.int .i64 (nth c.pairs k).from_.level, .int .i64 (nth c.pairs k).from_.set, .int .i64 (nth c.pairs k).to_.level, .int .i64 (nth c.pairs k).to_.set, .int .i64 (nth c.pairs k).rate] := ⟨_, _, rfl, rfl, (Ext.refl _).alloc _, Blk.new _ _ _⟩
          rw [← hW5, ← hB5]
          have X5 : Hid (Ext w8 W5) := Lib.hid (HX.out.trans hx5)
          have e2 := b5.cell 2
          have e3 := b5.cell 3
          have l0' := Ext.some hx5 l0
          have l1' := Ext.some hx5 l1
          have CB5 := Lib.hid (Ext.some hx5 CB.out)
          have CP5 := Lib.hid (Ext.some hx5 CP.out)
          clear hW5 hB5 hx5 b5 d0 d1 d2 d3 d4 l0 l1 CB CP
          cases t3 with
          | false =>
            have HS := Lib.hid ((view_out (m := m) T3.out).trans HT.out)
            go_wp2_with (go_at_call 27; (with_reducible refine (vBelow_is (S := S) (S' := S) (nth c.pairs k).to_ lab [.int .i64 (nth c.pairs k).to_.level, .int .i64 (nth c.pairs k).to_.set] [.int .i64 lab.level, .int .i64 lab.set] _ (rel_Label FP.out) (rel_Label FL.out) _ T3.out).mono ?_); rintro e w9 ⟨rfl, hx9⟩; have X9 := Lib.hid (X5.out.trans hx9); clear hx9 e2 e3 l0' l1')
            go_roundw
            case rel => exact ⟨k + 1, by omega, by go_num, by rw [HS.out], by rw [HS.out]; omega, X9.out⟩
            case measure => simp [intOf]; omega
          | true =>
            have HS := Lib.hid (view_in (m := m) T3.out)
            rw [HT.out] at HS
            obtain ⟨sA, hA⟩ : ∃ s, putNumsFrom ⟨#[]⟩ [(k : Int), ((nth m.boxes k).here.length : Int)] = s := ⟨_, rfl⟩
            obtain ⟨sB, hB⟩ : ∃ s, putNumsFrom ⟨#[]⟩ (nth m.boxes k).here = s := ⟨_, rfl⟩
            have a1 := from_size [(k : Int), ((nth m.boxes k).here.length : Int)] ⟨#[]⟩ (by intro x hx; simp at hx; rcases hx with rfl | rfl; exact IK.out; exact IL.out)
            have a2 := from_size (nth m.boxes k).here ⟨#[]⟩ FH.out
            have hz : (⟨#[]⟩ : ByteArray).size = 0 := rfl
            rw [hA, hz] at a1
            rw [hB, hz] at a2
            simp only [List.length_cons, List.length_nil] at a1
            have HA := Lib.hid hA
            have HB := Lib.hid hB
            have HC : Hid (sT ++ (sA ++ sB) = viewN c m lab (k + 1)) := Lib.hid (by rw [HS.out, ← two_parts, hA, hB])
            have k0 := size_app sA sB
            have k1 : ¬ (9223372036854775807 < (sA.size : Int) + (sB.size : Int)) := by omega
            have k2 : ¬ (9223372036854775807 < sA.size + sB.size) := by omega
            have k3 : sA.size + sB.size ≤ 9223372036854775807 := by omega
            have k4 : (sA.size : Int) + (sB.size : Int) ≤ 9223372036854775807 := by omega
            have k5 : ¬ (9223372036854775807 < (sT.size : Int) + ((sA.size : Int) + (sB.size : Int))) := by omega
            have k6 : ¬ (9223372036854775807 < sT.size + (sA.size + sB.size)) := by omega
            have k7 : sT.size + (sA.size + sB.size) ≤ 9223372036854775807 := by omega
            have k8 : (sT.size : Int) + ((sA.size : Int) + (sB.size : Int)) ≤ 9223372036854775807 := by omega
            have R2 : Hid (∀ V V' : World, Ext (V.alloc (.cells #[.int .i64 (k : Int), .int .i64 ((nth m.boxes k).here.length : Int)] 2)) V' → Rd EInt (fun _ => True) V' (.slice (some ⟨V.heap.size, 0, none⟩) 2 2) [(k : Int), ((nth m.boxes k).here.length : Int)]) := Lib.hid fun V V' hV => (two_ints 2 V _ _ IK.out IL.out).ext hV
            clear hA hB hz HS
            go_upto_region 8 with (go_at_call 27; (with_reducible refine (vBelow_is (S := S) (S' := S) (nth c.pairs k).to_ lab [.int .i64 (nth c.pairs k).to_.level, .int .i64 (nth c.pairs k).to_.set] [.int .i64 lab.level, .int .i64 lab.set] _ (rel_Label FP.out) (rel_Label FL.out) _ T3.out).mono ?_); rintro e w9 ⟨rfl, hx9⟩; have X9 := Lib.hid (X5.out.trans hx9); have CB9 := Lib.hid (Ext.some hx9 CB5.out); have CP9 := Lib.hid (Ext.some hx9 CP5.out); clear hx9 e2 e3 l0' l1')
            have al_p : ∀ V, Ext w9 V → V.cell? ⟨B + 1, 0, none⟩ = _ := fun V hx => Ext.some hx CP9.out
            have al_b : ∀ V, Ext w9 V → V.cell? _ = _ := fun V hx => Ext.some hx CB9.out
            go_region_held3 (fun V => Ext w9 V) (first | exact Ext.refl _ | exact (Ext.refl _).drew | assumption | exact Ext.alloc (by assumption) _ | exact Ext.trans (by assumption) hx1 | exact Ext.trans (by assumption) hx2) (first | (go_at_call 28; (with_reducible refine (vNums_is (S := S') (nth m.boxes k).here _ _ (RH.out.ext (X8.out.trans (X9.out.trans (by assumption)))) (by omega) sB HB.out).mono ?_); rintro e wB ⟨rfl, hx2⟩) | (go_at_call 28; (with_reducible refine (vNums_is (S := fun _ => True) [(k : Int), ((nth m.boxes k).here.length : Int)] _ _ (R2.out w9 _ (by repeat (first | with_reducible exact Ext.refl _ | with_reducible refine Ext.drew ?_))) (by simp) sA HA.out).mono ?_); rintro e wA ⟨rfl, hx1⟩))
            all_goals clear al_p al_b
            have X10 : Hid (Ext w9 wB) := Lib.hid (by first | assumption | exact Ext.drew (by assumption))
            go_wp2_with fail
            go_roundw
            case rel => exact ⟨k + 1, by omega, by go_num, by rw [← HC.out], by rw [← HC.out, size_app, size_app]; omega, X9.out.trans X10.out⟩
            case measure => simp [intOf]; omega
        · obtain rfl : k = c.pairs.length := by omega
          have HE := Lib.hid HV.out.symm
          clear hx
          go_wp2_with fail
          go_ret
          exact ⟨by rw [← HE.out] <;> rfl, X8.out.trans HX.out⟩

set_option maxHeartbeats 16000000 in
set_option maxRecDepth 100000 in
theorem specMailView_any {S S' S3 : Nat → Prop} (c : Config) (m : Mail) (lab : Label) (cs ds es : List Value) (w : World) (h : EConfig.rel S w cs c) (g : EMail.rel S' w ds m) (gl : ELabel.rel S3 w es lab) :
    Calls Tryz.prog 6 #[.agg cs.toArray, .agg ds.toArray, .agg es.toArray] w fun e w' => e = .returned (.string (mailView c m lab)) ∧ Ext w w' := by
  obtain ⟨v1, v2, v3, rfl, hf, h1, h2, h3⟩ := h
  obtain ⟨u1, rfl, fm, g1⟩ := g
  obtain ⟨rfl, fl⟩ := gl
  have FM := Lib.hid fm
  have FL := Lib.hid fl
  obtain ⟨A1, c1, rfl, -⟩ := h1.form
  have H2 := Lib.hid h2
  obtain ⟨A2, c2, rfl, l1, l2, hk⟩ := h2.open_
  unfold maxLen at l2
  obtain ⟨A3, c3, rfl, -⟩ := h3.form
  have HM := Lib.hid g1
  obtain ⟨AM, cM, rfl, m1, m2, gk⟩ := g1.open_
  unfold maxLen at m2
  have HF := Lib.hid hf
  have H1 := Lib.hid h1
  have H3 := Lib.hid h3
  have HK := Lib.hid hk
  have GK := Lib.hid gk
  clear hf h1 h2 h3 hk gk g1 fm fl
  simp only [cellsConfig, cellsMail, cellsLabel]
  obtain ⟨t, ht⟩ : ∃ t, mailRight c m = t := ⟨_, rfl⟩
  have T := Lib.hid ht
  obtain ⟨u, hu⟩ : ∃ u, labelRight lab = u := ⟨_, rfl⟩
  have U := Lib.hid hu
  clear ht hu
  go_enter Tryz.func6, Tryz.ntmps6
  go_upto_region 1 with (fail)
  obtain ⟨W, B, hW, hB, hx0, a0, b0, d0⟩ := boxes3 w #[.slice A1 c.nodes.length c1, .slice A2 c.pairs.length c2, .slice A3 c.quotas.length c3, .int .i64 c.half] #[.slice AM m.boxes.length cM] #[.int .i64 lab.level, .int .i64 lab.set] 39 43 45
  rw [← hW, ← hB]
  have QA := Lib.hid a0
  have QM := Lib.hid b0
  have QL := Lib.hid d0
  have X := Lib.hid hx0
  clear hW hB hx0 a0 b0 d0
  have q0 := QA.out.cell 0
  have q1 := QA.out.cell 1
  have q2 := QA.out.cell 2
  have q3 := QA.out.cell 3
  have p0 := QM.out.cell 0
  have l0 := QL.out.cell 0
  have l1 := QL.out.cell 1
  cases t with
  | false =>
    have HN : Hid (mailView c m lab = ⟨#[]⟩) := Lib.hid (view_no1 T.out)
    clear U
    go_wp2_with (go_at_call 17; (with_reducible refine (vSpecMail_is (S := S) (S' := S') c m [.slice A1 c.nodes.length c1, .slice A2 c.pairs.length c2, .slice A3 c.quotas.length c3, .int .i64 c.half] [.slice AM m.boxes.length cM] _ (rel_Config HF.out (H1.out.ext X.out) (H2.out.ext X.out) (H3.out.ext X.out)) (rel_Mail FM.out (HM.out.ext X.out)) _ T.out).mono ?_); rintro e w7 ⟨rfl, hx7⟩; have X7 := Lib.hid (X.out.trans hx7); have QA7 := Lib.hid (QA.out.ext hx7); have QM7 := Lib.hid (QM.out.ext hx7); have QL7 := Lib.hid (QL.out.ext hx7); clear hx7 q0 q1 q2 q3 p0 l0 l1; have l0 := QL7.out.cell 0; have l1 := QL7.out.cell 1)
    go_ret
    exact ⟨by rw [HN.out] <;> rfl, X7.out⟩
  | true =>
    cases u with
    | false =>
      have HN : Hid (mailView c m lab = ⟨#[]⟩) := Lib.hid (view_no2 U.out)
      go_wp2_with (first | (go_at_call 17; (with_reducible refine (vSpecMail_is (S := S) (S' := S') c m [.slice A1 c.nodes.length c1, .slice A2 c.pairs.length c2, .slice A3 c.quotas.length c3, .int .i64 c.half] [.slice AM m.boxes.length cM] _ (rel_Config HF.out (H1.out.ext X.out) (H2.out.ext X.out) (H3.out.ext X.out)) (rel_Mail FM.out (HM.out.ext X.out)) _ T.out).mono ?_); rintro e w7 ⟨rfl, hx7⟩; have X7 := Lib.hid (X.out.trans hx7); have QA7 := Lib.hid (QA.out.ext hx7); have QM7 := Lib.hid (QM.out.ext hx7); have QL7 := Lib.hid (QL.out.ext hx7); clear hx7 q0 q1 q2 q3 p0 l0 l1; have l0 := QL7.out.cell 0; have l1 := QL7.out.cell 1) | (go_at_call 18; (with_reducible refine (vSpecLab_is (S := S) lab [.int .i64 lab.level, .int .i64 lab.set] _ (rel_Label FL.out) _ U.out).mono ?_); rintro e w8 ⟨rfl, hx8⟩; have X8 := Lib.hid (X7.out.trans hx8); have QA8 := Lib.hid (QA7.out.ext hx8); have QM8 := Lib.hid (QM7.out.ext hx8); have QL8 := Lib.hid (QL7.out.ext hx8); clear hx8 l0 l1))
      go_ret
      exact ⟨by rw [HN.out] <;> rfl, X8.out⟩
    | true =>
      have HV := Lib.hid (view_of T.out U.out)
      obtain ⟨n1, n2, n3⟩ := view_pairs T.out
      have N3 := Lib.hid n3
      have N2 := Lib.hid n2
      clear n2 n3
      go_upto_region 3 with (first | (go_at_call 17; (with_reducible refine (vSpecMail_is (S := S) (S' := S') c m [.slice A1 c.nodes.length c1, .slice A2 c.pairs.length c2, .slice A3 c.quotas.length c3, .int .i64 c.half] [.slice AM m.boxes.length cM] _ (rel_Config HF.out (H1.out.ext X.out) (H2.out.ext X.out) (H3.out.ext X.out)) (rel_Mail FM.out (HM.out.ext X.out)) _ T.out).mono ?_); rintro e w7 ⟨rfl, hx7⟩; have X7 := Lib.hid (X.out.trans hx7); have QA7 := Lib.hid (QA.out.ext hx7); have QM7 := Lib.hid (QM.out.ext hx7); have QL7 := Lib.hid (QL.out.ext hx7); clear hx7 q0 q1 q2 q3 p0 l0 l1; have l0 := QL7.out.cell 0; have l1 := QL7.out.cell 1) | (go_at_call 18; (with_reducible refine (vSpecLab_is (S := S) lab [.int .i64 lab.level, .int .i64 lab.set] _ (rel_Label FL.out) _ U.out).mono ?_); rintro e w8 ⟨rfl, hx8⟩; have X8 := Lib.hid (X7.out.trans hx8); have QA8 := Lib.hid (QA7.out.ext hx8); have QM8 := Lib.hid (QM7.out.ext hx8); have QL8 := Lib.hid (QL7.out.ext hx8); clear hx8 l0 l1))
      go_wp2_with fail
      go_loopw [7, 8] (fun s i w' => ∃ k : Nat, k ≤ c.pairs.length ∧ i = .int .i64 k ∧ s = .string (viewN c m lab k) ∧ (viewN c m lab k).size ≤ 50 * k ∧ Ext w8 w') (fun _ i _ => c.pairs.length - (intOf i).toNat)
      case atStart => exact ⟨0, by omega, rfl, rfl, by simp [viewN, ByteArray.size], Ext.refl _⟩
      case round =>
        obtain ⟨k, hk1, rfl, rfl, hs, hx⟩ := hrel
        have HX := Lib.hid hx
        by_cases hlt : k < c.pairs.length
        · obtain ⟨b', o', ds, rfl, _, ⟨rfl, fp⟩, hd⟩ := HK.out k hlt
          have hkb : k < m.boxes.length := by have := N2.out; omega
          have hkb' : (k : Int) < (m.boxes.length : Int) := by omega
          obtain ⟨b, o, cs, rfl, _, ⟨y1, y2, y3, rfl, -, r1, r2, r3⟩, hc⟩ := GK.out k hkb
          obtain ⟨Y1, z1, rfl, -⟩ := r1.form
          have RH := Lib.hid r2
          obtain ⟨Y2, z2, rfl, y1, y2, yk⟩ := r2.open_
          have YK := Lib.hid yk
          unfold maxLen at y2
          obtain ⟨Y3, z3, rfl, -⟩ := r3.form
          have FP : Hid (FitLabel (nth c.pairs k).to_) := Lib.hid ⟨fp.2.2.1, fp.2.2.2.1⟩
          have h3 := N3.out k hlt
          have FH := Lib.hid (ints_fit r2)
          have IK : Hid (I64 (k : Int)) := Lib.hid (by unfold I64; omega)
          have IL : Hid (I64 ((nth m.boxes k).here.length : Int)) := Lib.hid (by unfold I64; omega)
          obtain ⟨t3, ht3⟩ : ∃ t, belowB (nth c.pairs k).to_ lab = t := ⟨_, rfl⟩
          have T3 := Lib.hid ht3
          have hxx := X8.out.trans hx
          have d0 := Ext.some hxx (hd 0 _ rfl)
          have d1 := Ext.some hxx (hd 1 _ rfl)
          have d2 := Ext.some hxx (hd 2 _ rfl)
          have d3 := Ext.some hxx (hd 3 _ rfl)
          have d4 := Ext.some hxx (hd 4 _ rfl)
          simp only [EPair, Nat.add_zero] at d0 d1 d2 d3 d4
          have c0 := Ext.some hxx (hc 0 _ rfl)
          have c1 := Ext.some hxx (hc 1 _ rfl)
          have c2 := Ext.some hxx (hc 2 _ rfl)
          simp only [EBox, Nat.add_zero] at c0 c1 c2
          have l0 := Ext.some hx (QL8.out.cell 0)
          have l1 := Ext.some hx (QL8.out.cell 1)
          have p0 := Ext.some hx (QM8.out.cell 0)
          have q1 := Ext.some hx (QA8.out.cell 1)
          clear yk hc r1 r2 r3 fp hd ht3
          have CB := Lib.hid c1
          have CP := Lib.hid p0
          clear hx hxx c0 c2 d0 d1 d4
          obtain ⟨sT, hT⟩ : ∃ s, viewN c m lab k = s := ⟨_, rfl⟩
          have HT := Lib.hid hT
          rw [hT] at hs
          rw [hT]
          clear hT
          cases t3 with
          | false =>
            have HS := Lib.hid ((view_out (m := m) T3.out).trans HT.out)
            clear c1 p0
            go_upto_region 7 with (fail)
            refine wp_region_ext (by kernel_rfl) (by kernel_rfl) ?_
            repeat (
              (refine wpQuiet_step (fun K hK => ?_)
               go_simp
               first
                | (refine hK _ ?_; clear hK K)
                | (apply Exists.intro
                   refine ⟨fun w__ hx__ => ?_, hK _ ?_⟩
                   · have q1__ := Ext.some hx__ q1; have d2__ := Ext.some hx__ d2; have d3__ := Ext.some hx__ d3; have l0__ := Ext.some hx__ l0; have l1__ := Ext.some hx__ l1; first | exact rfl | (go_simp; done) | (go_simp; exact rfl) | (go_at_call 19; exact ext_of hx__ (vSpecBelow_is (S := S) (S' := S) (nth c.pairs k).to_ lab [.int .i64 (nth c.pairs k).to_.level, .int .i64 (nth c.pairs k).to_.set] [.int .i64 lab.level, .int .i64 lab.set] _ (rel_Label FP.out) (rel_Label FL.out) _ T3.out))
                   clear hK K)))
            refine wpQuiet_nil ?_
            intro w1 hx1
            have X9 := Lib.hid (HX.out.trans hx1)
            clear q1 d2 d3 l0 l1 hx1
            go_wp2_with fail
            go_roundw
            case rel => exact ⟨k + 1, by omega, by go_num, by rw [HS.out], by rw [HS.out]; omega, X9.out⟩
            case measure => simp [intOf]; omega
          | true =>
            have HS := Lib.hid (view_in (m := m) T3.out)
            rw [HT.out] at HS
            obtain ⟨sA, hA⟩ : ∃ s, putNum (k : Int) = s := ⟨_, rfl⟩
            obtain ⟨sB, hB⟩ : ∃ s, putNum ((nth m.boxes k).here.length : Int) = s := ⟨_, rfl⟩
            have a1 := putNum_size IK.out
            have a2 := putNum_size IL.out
            rw [hA] at a1
            rw [hB] at a2
            have HA := Lib.hid hA
            have HB := Lib.hid hB
            have HC : Hid (viewN c m lab (k + 1) = putNumsFrom (sT ++ sA ++ sB) (nth m.boxes k).here) := Lib.hid (by rw [HS.out]; simp only [putNumsFrom, hA, hB])
            have k1 : ¬ (9223372036854775807 < (sT.size : Int) + (sA.size : Int)) := by omega
            have k2 : ¬ (9223372036854775807 < sT.size + sA.size) := by omega
            have k3 : sT.size + sA.size ≤ 9223372036854775807 := by omega
            have k4 : (sT.size : Int) + (sA.size : Int) ≤ 9223372036854775807 := by omega
            have k5 : ¬ (9223372036854775807 < (sT.size : Int) + (sA.size : Int) + (sB.size : Int)) := by omega
            have k6 : ¬ (9223372036854775807 < sT.size + sA.size + sB.size) := by omega
            have k7 : sT.size + sA.size + sB.size ≤ 9223372036854775807 := by omega
            have k8 : (sT.size : Int) + (sA.size : Int) + (sB.size : Int) ≤ 9223372036854775807 := by omega
            have kz := size_app sT sA
            have kz2 := size_app (sT ++ sA) sB
            clear hA hB HS
            go_upto_region 7 with (fail)
            refine wp_region_ext (by kernel_rfl) (by kernel_rfl) ?_
            repeat (
              (refine wpQuiet_step (fun K hK => ?_)
               go_simp
               first
                | (refine hK _ ?_; clear hK K)
                | (apply Exists.intro
                   refine ⟨fun w__ hx__ => ?_, hK _ ?_⟩
                   · have q1__ := Ext.some hx__ q1; have d2__ := Ext.some hx__ d2; have d3__ := Ext.some hx__ d3; have l0__ := Ext.some hx__ l0; have l1__ := Ext.some hx__ l1; have c1__ := Ext.some hx__ c1; have p0__ := Ext.some hx__ p0; first | exact rfl | (go_simp; done) | (go_simp; exact rfl) | (go_at_call 19; exact ext_of hx__ (vSpecBelow_is (S := S) (S' := S) (nth c.pairs k).to_ lab [.int .i64 (nth c.pairs k).to_.level, .int .i64 (nth c.pairs k).to_.set] [.int .i64 lab.level, .int .i64 lab.set] _ (rel_Label FP.out) (rel_Label FL.out) _ T3.out))
                   clear hK K)))
            refine wpQuiet_nil ?_
            intro w1 hx1
            have X9 := Lib.hid (HX.out.trans hx1)
            have CB9 := Lib.hid (Ext.some hx1 CB.out)
            have CP9 := Lib.hid (Ext.some hx1 CP.out)
            clear q1 d2 d3 l0 l1 c1 p0 hx1 CB CP
            go_wp2_with fail
            have c1 := CB9.out
            have p0 := CP9.out
            refine wp_region_ext (by kernel_rfl) (by kernel_rfl) ?_
            repeat (
              (refine wpQuiet_step (fun K hK => ?_)
               go_simp
               first
                | (refine hK _ ?_; clear hK K)
                | (apply Exists.intro
                   refine ⟨fun w__ hx__ => ?_, hK _ ?_⟩
                   · have c1__ := Ext.some hx__ c1; have p0__ := Ext.some hx__ p0; first | exact rfl | (go_simp; done) | (go_simp; exact rfl) | (first | (go_at_call 20; with_reducible exact ext_of hx__ (vNum_is (k : Int) _ IK.out sA HA.out)) | (go_at_call 20; with_reducible exact ext_of hx__ (vNum_is ((nth m.boxes k).here.length : Int) _ IL.out sB HB.out)))
                   clear hK K)))
            refine wpQuiet_nil ?_
            intro w1 hx1
            have X10 := Lib.hid (X9.out.trans hx1)
            have CB10 := Lib.hid (Ext.some hx1 CB9.out)
            have CP10 := Lib.hid (Ext.some hx1 CP9.out)
            clear c1 p0 hx1 CB9 CP9 k1 k2 k3 k4 k5 k6 k7 k8
            obtain ⟨s0, hs0⟩ : ∃ s, sT ++ sA ++ sB = s := ⟨_, rfl⟩
            rw [hs0] at HC kz2
            rw [hs0]
            have z0 : s0.size ≤ 50 * k + 20 := by omega
            clear hs0 kz kz2 a1 a2
            have h3' := h3
            go_wp2_with fail
            go_loopw [7, 9] (fun s i w' => ∃ j : Nat, j ≤ (nth m.boxes k).here.length ∧ i = .int .i64 j ∧ s = .string (putNumsFrom s0 ((nth m.boxes k).here.take j)) ∧ (putNumsFrom s0 ((nth m.boxes k).here.take j)).size ≤ 50 * k + 20 + 10 * j ∧ Ext w1 w') (fun _ i _ => (nth m.boxes k).here.length - (intOf i).toNat)
            case atStart => exact ⟨0, by omega, rfl, rfl, by simp [putNumsFrom]; omega, Ext.refl _⟩
            case round =>
              obtain ⟨j, hj1, rfl, rfl, hsj, hxj⟩ := hrel
              have HXJ := Lib.hid hxj
              have c1 := Ext.some hxj CB10.out
              have p0 := Ext.some hxj CP10.out
              by_cases hj : j < (nth m.boxes k).here.length
              · obtain ⟨b3, o3, cs3, rfl, _, ⟨rfl, h64⟩, hc3⟩ := YK.out j hj
                have hxn := X8.out.trans (X10.out.trans hxj)
                have f0 := Ext.some hxn (hc3 0 _ rfl)
                simp only [EInt, Nat.add_zero, Nat.mul_one] at f0
                have H64 := Lib.hid h64
                have HP := putNum_size h64
                have HE : Hid (putNumsFrom s0 ((nth m.boxes k).here.take (j + 1)) = putNumsFrom s0 ((nth m.boxes k).here.take j) ++ putNum (nth (nth m.boxes k).here j)) := Lib.hid (by rw [take_succ_nth hj, from_app]; rfl)
                clear hc3 h64 hxn hxj
                go_wp2_with (go_at_call 20; (with_reducible refine (specPutNum_any _ _ H64.out).mono ?_); rintro e w4 ⟨rfl, hx4⟩; have X4 := Lib.hid hx4; clear hx4 c1 p0 f0)
                go_roundw
                case rel => exact ⟨j + 1, by omega, by go_num, by rw [HE.out], by rw [HE.out, size_app]; omega, HXJ.out.trans X4.out⟩
                case measure => simp [intOf]; omega
              · obtain rfl : j = (nth m.boxes k).here.length := by omega
                have HE : Hid (putNumsFrom s0 ((nth m.boxes k).here.take (nth m.boxes k).here.length) = viewN c m lab (k + 1)) := Lib.hid (by rw [List.take_length, HC.out])
                rw [HE.out] at hsj
                rw [HE.out]
                clear hxj
                go_wp2_with fail
                go_roundw
                case rel => exact ⟨k + 1, by omega, by go_num, rfl, by omega, X10.out.trans HXJ.out⟩
                case measure => simp [intOf]; omega
        · obtain rfl : k = c.pairs.length := by omega
          have HE := Lib.hid HV.out.symm
          have q1 := Ext.some hx (QA8.out.cell 1)
          clear hx
          go_wp2_with fail
          go_ret
          exact ⟨by rw [← HE.out] <;> rfl, X8.out.trans HX.out⟩
end Go.Proofs.YtdhcbbbmajjehaaGreat

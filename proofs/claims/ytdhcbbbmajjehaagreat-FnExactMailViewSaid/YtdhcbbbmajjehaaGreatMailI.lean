/- What a mail must be, in plain Lean; the walks of the program's notesRight and MailRight. Printed by wip/mail.py. -/
import Derived.Test.YtdhcbbbmajjehaaGreatConf4
namespace Go.Proofs.YtdhcbbbmajjehaaGreat
open Go.RowKit
attribute [local irreducible] wpQuiet

def noteAt (l : List Note) (k : Nat) : Bool := nowOk (nth l k).at_ && (decide (k = 0) || decide ((nth l (k - 1)).at_ ≤ (nth l k).at_))
def notesOk (l : List Note) : Bool := decide (l.length ≤ 12) && (List.range l.length).all (noteAt l)
def boxOk (r : Int) (b : Box) : Bool := decide ((b.next.length : Int) ≤ r) && decide ((b.here.length : Int) ≤ r) && notesOk b.log
def boxAt (c : Config) (m : Mail) (k : Nat) : Bool := boxOk (nth c.pairs k).rate (nth m.boxes k)
def mailRight (c : Config) (m : Mail) : Bool := configRight c && decide (m.boxes.length = c.pairs.length) && (List.range m.boxes.length).all (boxAt c m)
theorem notesOk_of {l : List Note} (h : ∀ k, k < l.length → noteAt l k = true) : notesOk l = decide (l.length ≤ 12) := by
  unfold notesOk
  rw [List.all_eq_true.mpr (fun k hk => h k (List.mem_range.mp hk)), Bool.and_true]
theorem notesOk_bad {l : List Note} {k : Nat} (hk : k < l.length) (h : noteAt l k = false) : notesOk l = false := by
  unfold notesOk
  rw [List.all_eq_false.mpr ⟨k, List.mem_range.mpr hk, by simp [h]⟩, Bool.and_false]
theorem mail_bad {c : Config} {m : Mail} {k : Nat} (hk : k < m.boxes.length) (h : boxAt c m k = false) : mailRight c m = false := by
  unfold mailRight
  rw [List.all_eq_false.mpr ⟨k, List.mem_range.mpr hk, by simp [h]⟩, Bool.and_false]
theorem mail_of {c : Config} {m : Mail} (h1 : configRight c = true) (h2 : m.boxes.length = c.pairs.length) (h : ∀ k, k < m.boxes.length → boxAt c m k = true) : mailRight c m = true := by
  unfold mailRight
  rw [h1, decide_eq_true h2, List.all_eq_true.mpr (fun k hk => h k (List.mem_range.mp hk))]; rfl
theorem isNow_is (n : Int) (w : World) (r : Bool) (hr : nowOk n = r) : Calls Tryz.prog 63 #[.int .i64 n] w fun e w' => e = .returned (.bool r) ∧ w = w' := by
  subst hr
  exact isNow_any n w
theorem l03Now_is (n : Int) (w : World) (r : Bool) (hr : nowOk n = r) : Calls Tryz.prog 36 #[.int .i64 n] w fun e w' => e = .returned (.bool r) ∧ w = w' := by
  subst hr
  exact l03Now_any n w

set_option maxHeartbeats 8000000 in
set_option maxRecDepth 50000 in
theorem notesRight_any {S : Nat → Prop} (l : List Note) (v : Value) (w : World) (h : Rd ENote S w v l) :
    Calls Tryz.prog 44 #[v] w fun e w' => e = .returned (.bool (notesOk l)) ∧ Ext w w' := by
  obtain ⟨A, c, rfl, h1, h2, hk⟩ := h.open_
  unfold maxLen at h2
  have HK := Lib.hid hk
  clear hk h
  go_enter Tryz.func44, Tryz.ntmps44
  go_wp2_with fail
  go_loopw [7] (fun i w' => ∃ k : Nat, k ≤ l.length ∧ i = .int .i64 k ∧ (∀ j, j < k → noteAt l j = true) ∧ Ext w w') (fun i _ => l.length - (intOf i).toNat)
  case atStart => exact ⟨0, by omega, rfl, fun j hj => by omega, Ext.refl _⟩
  case round =>
    obtain ⟨k, hk1, rfl, hall, hx⟩ := hrel
    have HA := Lib.hid hall
    have HX := Lib.hid hx
    clear hall
    by_cases hlt : k < l.length
    · obtain ⟨b, o, cs, rfl, _, ⟨rfl, f1⟩, hc⟩ := HK.out k hlt
      have c0 := Ext.some hx (hc 0 _ rfl)
      have c1 := Ext.some hx (hc 1 _ rfl)
      simp only [ENote, Nat.add_zero] at c0 c1
      clear hc f1 hx
      go_upto_region 4 with (fail)
      obtain ⟨W5, B5, hW5, hB5, hx5, b5⟩ : ∃ W5 B5, W5 = wr.alloc (.cells #[.int .i64 (nth l k).at_, .int .i64 (nth l k).word] 82) ∧ B5 = wr.heap.size ∧ Ext wr W5 ∧ Blk W5 B5 82 #[.int .i64 (nth l k).at_, .int .i64 (nth l k).word] := ⟨_, _, rfl, rfl, (Ext.refl _).alloc _, Blk.new _ _ _⟩
      rw [← hW5, ← hB5]
      have X5 : Hid (Ext w W5) := Lib.hid (HX.out.trans hx5)
      have q0 := b5.cell 0
      clear hW5 hB5 hx5 b5 c0 c1
      obtain ⟨t1, ht1⟩ : ∃ t, nowOk (nth l k).at_ = t := ⟨_, rfl⟩
      have T1 := Lib.hid ht1
      clear ht1
      cases t1 with
      | false =>
        have HF := Lib.hid (notesOk_bad hlt (by simp [noteAt, T1.out]))
        refine wp_region_ext (by kernel_rfl) (by kernel_rfl) ?_
        repeat (
          (refine wpQuiet_step (fun K hK => ?_)
           go_simp
           first
            | (refine hK _ ?_; clear hK K)
            | (apply Exists.intro
               refine ⟨fun w__ hx__ => ?_, hK _ ?_⟩
               · have q0__ := Ext.some hx__ q0; first | exact rfl | (go_simp; done) | (go_simp; exact rfl) | (go_at_call 63; exact ext_of_same hx__ (isNow_is _ _ _ T1.out))
               clear hK K)))
        refine wpQuiet_nil ?_
        intro w1 hx1
        have HE := Lib.hid hx1
        clear q0 hx1
        go_wp2_with fail
        go_ret
        exact ⟨ret_bool HF.out.symm, X5.out.trans HE.out⟩
      | true =>
        by_cases hk0 : 0 < k
        · obtain ⟨m, rfl⟩ : ∃ m, k = m + 1 := ⟨k - 1, by omega⟩
          obtain ⟨b', o', ds, hA', _, ⟨rfl, f2⟩, hd⟩ := HK.out m (by omega)
          injection hA' with hA'
          injection hA' with g1 g2
          subst g1
          subst g2
          have hxw := X5.out
          have d0 := Ext.some hxw (hd 0 _ rfl)
          have d1 := Ext.some hxw (hd 1 _ rfl)
          simp only [ENote, Nat.add_zero] at d0 d1
          clear hd f2 hxw d1
          have i0 : (0 : Int) ≤ (m : Int) + 1 := by omega
          have i1 : (m : Int) + 1 < (l.length : Int) := by omega
          have i2 : ((m : Int) + 1).toNat = m + 1 := by omega
          have i3 : IntKind.i64.wrap (m : Int) = (m : Int) := IntWalk.i64_in _ (by omega)
          have i4 : m < l.length := by omega
          by_cases hz : (nth l (m + 1)).at_ < (nth l m).at_
          · have HF := Lib.hid (notesOk_bad hlt (by simp [noteAt, T1.out]; omega))
            refine wp_region_ext (by kernel_rfl) (by kernel_rfl) ?_
            repeat (
              (refine wpQuiet_step (fun K hK => ?_)
               go_simp
               first
                | (refine hK _ ?_; clear hK K)
                | (apply Exists.intro
                   refine ⟨fun w__ hx__ => ?_, hK _ ?_⟩
                   · have q0__ := Ext.some hx__ q0; have d0__ := Ext.some hx__ d0; first | exact rfl | (go_simp; done) | (go_simp; exact rfl) | (go_at_call 63; exact ext_of_same hx__ (isNow_is _ _ _ T1.out))
                   clear hK K)))
            refine wpQuiet_nil ?_
            intro w1 hx1
            have HE := Lib.hid hx1
            clear q0 d0 hx1
            go_wp2_with fail
            go_ret
            exact ⟨ret_bool HF.out.symm, X5.out.trans HE.out⟩
          · have HZ := Lib.hid hz
            have HG := Lib.hid (all_succ (p := fun j => noteAt l j = true) HA.out (by have := HZ.out; simp [noteAt, T1.out]; omega))
            refine wp_region_ext (by kernel_rfl) (by kernel_rfl) ?_
            repeat (
              (refine wpQuiet_step (fun K hK => ?_)
               go_simp
               first
                | (refine hK _ ?_; clear hK K)
                | (apply Exists.intro
                   refine ⟨fun w__ hx__ => ?_, hK _ ?_⟩
                   · have q0__ := Ext.some hx__ q0; have d0__ := Ext.some hx__ d0; first | exact rfl | (go_simp; done) | (go_simp; exact rfl) | (go_at_call 63; exact ext_of_same hx__ (isNow_is _ _ _ T1.out))
                   clear hK K)))
            refine wpQuiet_nil ?_
            intro w1 hx1
            have HE := Lib.hid hx1
            clear q0 d0 hx1
            go_wp2_with fail
            go_roundw
            case rel => exact ⟨m + 1 + 1, by omega, by go_num, HG.out, X5.out.trans HE.out⟩
            case measure => simp [intOf]; omega
        · obtain rfl : k = 0 := by omega
          have HG := Lib.hid (all_succ (p := fun j => noteAt l j = true) HA.out (by simp [noteAt, T1.out]))
          refine wp_region_ext (by kernel_rfl) (by kernel_rfl) ?_
          repeat (
            (refine wpQuiet_step (fun K hK => ?_)
             go_simp
             first
              | (refine hK _ ?_; clear hK K)
              | (apply Exists.intro
                 refine ⟨fun w__ hx__ => ?_, hK _ ?_⟩
                 · have q0__ := Ext.some hx__ q0; first | exact rfl | (go_simp; done) | (go_simp; exact rfl) | (go_at_call 63; exact ext_of_same hx__ (isNow_is _ _ _ T1.out))
                 clear hK K)))
          refine wpQuiet_nil ?_
          intro w1 hx1
          have HE := Lib.hid hx1
          clear q0 hx1
          go_wp2_with fail
          go_roundw
          case rel => exact ⟨1, by omega, by go_num, HG.out, X5.out.trans HE.out⟩
          case measure => simp [intOf]; omega
    · have HF := Lib.hid (notesOk_of (l := l) fun j hj => HA.out j (by omega))
      clear hx
      go_wp2_with fail
      go_ret
      exact ⟨ret_bool (by rw [HF.out]; simp; try omega), HX.out⟩
theorem notesRight_is {S : Nat → Prop} (l : List Note) (v : Value) (w : World) (h : Rd ENote S w v l) (r : Bool) (hr : notesOk l = r) :
    Calls Tryz.prog 44 #[v] w fun e w' => e = .returned (.bool r) ∧ Ext w w' := by
  subst hr
  exact notesRight_any l v w h

set_option maxHeartbeats 16000000 in
set_option maxRecDepth 100000 in
theorem mailRight_any {S S' : Nat → Prop} (c : Config) (m : Mail) (cs ds : List Value) (w : World) (h : EConfig.rel S w cs c) (g : EMail.rel S' w ds m) :
    Calls Tryz.prog 25 #[.agg cs.toArray, .agg ds.toArray] w fun e w' => e = .returned (.bool (mailRight c m)) ∧ Ext w w' := by
  obtain ⟨v1, v2, v3, rfl, hf, h1, h2, h3⟩ := h
  obtain ⟨u1, rfl, -, g1⟩ := g
  obtain ⟨A1, c1, rfl, -⟩ := h1.form
  have H2 := Lib.hid h2
  obtain ⟨A2, c2, rfl, l1, l2, hk⟩ := h2.open_
  unfold maxLen at l2
  obtain ⟨A3, c3, rfl, -⟩ := h3.form
  obtain ⟨AM, cM, rfl, m1, m2, gk⟩ := g1.open_
  unfold maxLen at m2
  have HF := Lib.hid hf
  have H1 := Lib.hid h1
  have H3 := Lib.hid h3
  have HK := Lib.hid hk
  have GK := Lib.hid gk
  clear hf h1 h2 h3 hk gk g1
  simp only [cellsConfig, cellsMail]
  obtain ⟨t, ht⟩ : ∃ t, configRight c = t := ⟨_, rfl⟩
  have T := Lib.hid ht
  clear ht
  go_enter Tryz.func25, Tryz.ntmps25
  go_upto_region 1 with (fail)
  obtain ⟨W, B, hW, hB, hx0, a0, b0⟩ := boxes2 w #[.slice A1 c.nodes.length c1, .slice A2 c.pairs.length c2, .slice A3 c.quotas.length c3, .int .i64 c.half] #[.slice AM m.boxes.length cM] 39 43
  rw [← hW, ← hB]
  have QA := Lib.hid a0
  have QM := Lib.hid b0
  have X := Lib.hid hx0
  clear hW hB hx0 a0 b0
  have q0 := QA.out.cell 0
  have q1 := QA.out.cell 1
  have q2 := QA.out.cell 2
  have q3 := QA.out.cell 3
  have p0 := QM.out.cell 0
  cases t with
  | false =>
    have HN : Hid (mailRight c m = false) := Lib.hid (by simp [mailRight, T.out])
    go_wp2_with (go_at_call 43; (with_reducible refine (configRight_is (S := S) c [.slice A1 c.nodes.length c1, .slice A2 c.pairs.length c2, .slice A3 c.quotas.length c3, .int .i64 c.half] _ (rel_Config HF.out (H1.out.ext X.out) (H2.out.ext X.out) (H3.out.ext X.out)) _ T.out).mono ?_); rintro e w7 ⟨rfl, hx7⟩; have X7 := Lib.hid (X.out.trans hx7); clear hx7 q0 q1 q2 q3 p0)
    go_ret
    exact ⟨ret_bool HN.out.symm, X7.out⟩
  | true =>
    by_cases hl : m.boxes.length = c.pairs.length
    case neg =>
      have HN : Hid (mailRight c m = false) := Lib.hid (by simp [mailRight, hl])
      have hl' : ¬ ((m.boxes.length : Int) = (c.pairs.length : Int)) := by omega
      go_wp2_with (go_at_call 43; (with_reducible refine (configRight_is (S := S) c [.slice A1 c.nodes.length c1, .slice A2 c.pairs.length c2, .slice A3 c.quotas.length c3, .int .i64 c.half] _ (rel_Config HF.out (H1.out.ext X.out) (H2.out.ext X.out) (H3.out.ext X.out)) _ T.out).mono ?_); rintro e w7 ⟨rfl, hx7⟩; have X7 := Lib.hid (X.out.trans hx7); have q1' := (QA.out.ext hx7).cell 1; have p0' := (QM.out.ext hx7).cell 0; clear hx7 q0 q1 q2 q3 p0)
      go_ret
      exact ⟨ret_bool HN.out.symm, X7.out⟩
    case pos =>
      have HL := Lib.hid hl
      have hl' : ((m.boxes.length : Int) = (c.pairs.length : Int)) := by omega
      have hl2 : ((m.boxes.length : Int) != (c.pairs.length : Int)) = false := by simp [hl']
      clear hl hl'
      go_upto_region 3 with (go_at_call 43; (with_reducible refine (configRight_is (S := S) c [.slice A1 c.nodes.length c1, .slice A2 c.pairs.length c2, .slice A3 c.quotas.length c3, .int .i64 c.half] _ (rel_Config HF.out (H1.out.ext X.out) (H2.out.ext X.out) (H3.out.ext X.out)) _ T.out).mono ?_); rintro e w7 ⟨rfl, hx7⟩; have X7 := Lib.hid (X.out.trans hx7); have QA7 := Lib.hid (QA.out.ext hx7); have QM7 := Lib.hid (QM.out.ext hx7); clear hx7 q0 q1 q2 q3 p0; have q1 := QA7.out.cell 1; have p0 := QM7.out.cell 0)
      clear hl2
      go_wp2_with fail
      clear q1 p0
      go_loopw [23] (fun i w' => ∃ k : Nat, k ≤ m.boxes.length ∧ i = .int .i64 k ∧ (∀ j, j < k → boxAt c m j = true) ∧ Ext w7 w') (fun i _ => m.boxes.length - (intOf i).toNat)
      case atStart => exact ⟨0, by omega, rfl, fun j hj => by omega, Ext.refl _⟩
      case round =>
        obtain ⟨k, hk1, rfl, hall, hx⟩ := hrel
        have HA := Lib.hid hall
        have HX := Lib.hid hx
        clear hall
        by_cases hlt : k < m.boxes.length
        · obtain ⟨b, o, cs, rfl, _, ⟨y1, y2, y3, rfl, -, r1, r2, r3⟩, hc⟩ := GK.out k hlt
          obtain ⟨Y1, z1, rfl, -⟩ := r1.form
          obtain ⟨Y2, z2, rfl, -⟩ := r2.form
          have R3 := Lib.hid r3
          obtain ⟨Y3, z3, rfl, -, n2, nk⟩ := r3.open_
          have hkp : k < c.pairs.length := by have := HL.out; omega
          have hkp' : (k : Int) < (c.pairs.length : Int) := by omega
          obtain ⟨b', o', ds, rfl, _, ⟨rfl, fp⟩, hd⟩ := HK.out k hkp
          have hxx := X7.out.trans hx
          have c0 := Ext.some hxx (hc 0 _ rfl)
          have c1 := Ext.some hxx (hc 1 _ rfl)
          have c2 := Ext.some hxx (hc 2 _ rfl)
          simp only [EBox, Nat.add_zero] at c0 c1 c2
          have d0 := Ext.some hxx (hd 0 _ rfl)
          have d1 := Ext.some hxx (hd 1 _ rfl)
          have d2 := Ext.some hxx (hd 2 _ rfl)
          have d3 := Ext.some hxx (hd 3 _ rfl)
          have d4 := Ext.some hxx (hd 4 _ rfl)
          simp only [EPair, Nat.add_zero] at d0 d1 d2 d3 d4
          have q1 := Ext.some hx (QA7.out.cell 1)
          have p0 := Ext.some hx (QM7.out.cell 0)
          clear hc r1 r2 r3 fp hd hx hxx d0 d1 d2 d3
          go_upto_region 6 with (fail)
          obtain ⟨W5, B5, hW5, hB5, hx5, b5⟩ : ∃ W5 B5, W5 = wr.alloc (.cells #[.slice Y1 (nth m.boxes k).next.length z1, .slice Y2 (nth m.boxes k).here.length z2, .slice Y3 (nth m.boxes k).log.length z3] 63) ∧ B5 = wr.heap.size ∧ Ext wr W5 ∧ Blk W5 B5 63 #[.slice Y1 (nth m.boxes k).next.length z1, .slice Y2 (nth m.boxes k).here.length z2, .slice Y3 (nth m.boxes k).log.length z3] := ⟨_, _, rfl, rfl, (Ext.refl _).alloc _, Blk.new _ _ _⟩
          rw [← hW5, ← hB5]
          have X5 : Hid (Ext w7 W5) := Lib.hid (HX.out.trans hx5)
          have X0 : Hid (Ext w W5) := Lib.hid (X7.out.trans X5.out)
          have Q5 := Lib.hid b5
          have e0 := b5.cell 0
          have e1 := b5.cell 1
          have e2 := b5.cell 2
          have q1' := Ext.some hx5 q1
          have d4' := Ext.some hx5 d4
          clear hW5 hB5 hx5 b5 c0 c1 c2 q1 d4 p0
          obtain ⟨t3, ht3⟩ : ∃ t, notesOk (nth m.boxes k).log = t := ⟨_, rfl⟩
          have T3 := Lib.hid ht3
          clear ht3
          by_cases hn1 : (nth c.pairs k).rate < ((nth m.boxes k).next.length : Int)
          · have HN : Hid (mailRight c m = false) := Lib.hid (mail_bad hlt (by simp [boxAt, boxOk]; omega))
            go_wp2_with fail
            go_ret
            exact ⟨ret_bool HN.out.symm, X0.out⟩
          · by_cases hn2 : (nth c.pairs k).rate < ((nth m.boxes k).here.length : Int)
            · have HN : Hid (mailRight c m = false) := Lib.hid (mail_bad hlt (by simp [boxAt, boxOk]; omega))
              go_wp2_with fail
              go_ret
              exact ⟨ret_bool HN.out.symm, X0.out⟩
            · have HN1 := Lib.hid hn1
              have HN2 := Lib.hid hn2
              cases t3 with
              | false =>
                have HN : Hid (mailRight c m = false) := Lib.hid (mail_bad hlt (by simp [boxAt, boxOk, T3.out]))
                go_wp2_with (go_at_call 44; (with_reducible refine (notesRight_is (S := S') (nth m.boxes k).log _ _ (R3.out.ext X0.out) _ T3.out).mono ?_); rintro e w8 ⟨rfl, hx8⟩; have X8 := Lib.hid hx8; clear hx8)
                go_ret
                exact ⟨ret_bool HN.out.symm, X0.out.trans X8.out⟩
              | true =>
                have HG := Lib.hid (all_succ (p := fun j => boxAt c m j = true) HA.out (by have := HN1.out; have := HN2.out; simp [boxAt, boxOk, T3.out]; omega))
                go_wp2_with (go_at_call 44; (with_reducible refine (notesRight_is (S := S') (nth m.boxes k).log _ _ (R3.out.ext X0.out) _ T3.out).mono ?_); rintro e w8 ⟨rfl, hx8⟩; have X8 := Lib.hid hx8; clear hx8)
                go_roundw
                case rel => exact ⟨k + 1, by omega, by go_num, HG.out, X5.out.trans X8.out⟩
                case measure => simp [intOf]; omega
        · have HN := Lib.hid (mail_of T.out HL.out (fun j hj => HA.out j (by omega)))
          have q1 := Ext.some hx (QA7.out.cell 1)
          have p0 := Ext.some hx (QM7.out.cell 0)
          clear hx
          go_wp2_with fail
          go_ret
          exact ⟨ret_bool HN.out.symm, X7.out.trans HX.out⟩
end Go.Proofs.YtdhcbbbmajjehaaGreat

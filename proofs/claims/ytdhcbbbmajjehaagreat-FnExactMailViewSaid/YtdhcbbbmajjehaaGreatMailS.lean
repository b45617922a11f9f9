/- The walk of the reference's MailRight. Printed by wip/mail.py. -/
import Derived.Test.YtdhcbbbmajjehaaGreatMailI
import Derived.Test.YtdhcbbbmajjehaaGreatConfW
namespace Go.Proofs.YtdhcbbbmajjehaaGreat
open Go.RowKit
attribute [local irreducible] wpQuiet

theorem box_log {c : Config} {m : Mail} {k j : Nat} (hj : j < (nth m.boxes k).log.length) (h : noteAt (nth m.boxes k).log j = false) : boxAt c m k = false := by
  unfold boxAt boxOk
  rw [notesOk_bad hj h, Bool.and_false]
theorem box_long {c : Config} {m : Mail} {k : Nat} (h : 12 < (nth m.boxes k).log.length) : boxAt c m k = false := by
  unfold boxAt boxOk notesOk
  rw [decide_eq_false (p := (nth m.boxes k).log.length ≤ 12) (by omega), Bool.false_and, Bool.and_false]

set_option maxHeartbeats 16000000 in
set_option maxRecDepth 100000 in
theorem specMailRight_any {S S' : Nat → Prop} (c : Config) (m : Mail) (cs ds : List Value) (w : World) (h : EConfig.rel S w cs c) (g : EMail.rel S' w ds m) :
    Calls Tryz.prog 17 #[.agg cs.toArray, .agg ds.toArray] w fun e w' => e = .returned (.bool (mailRight c m)) ∧ Ext w w' := by
  obtain ⟨v1, v2, v3, rfl, hf, h1, h2, h3⟩ := h
  obtain ⟨u1, rfl, -, g1⟩ := g
  obtain ⟨A1, c1, rfl, -⟩ := h1.form
  have H2 := Lib.hid h2
  obtain ⟨A2, c2, rfl, l1, l2, hk⟩ := h2.open_
  unfold maxLen at l2
  obtain ⟨A3, c3, rfl, -⟩ := h3.form
  obtain ⟨AM, cM, rfl, m1, m2, gk⟩ := g1.open_
  unfold maxLen at m2
  have HF := Lib.hid hf
  have H1 := Lib.hid h1
  have H3 := Lib.hid h3
  have HK := Lib.hid hk
  have GK := Lib.hid gk
  clear hf h1 h2 h3 hk gk g1
  simp only [cellsConfig, cellsMail]
  obtain ⟨t, ht⟩ : ∃ t, configRight c = t := ⟨_, rfl⟩
  have T := Lib.hid ht
  clear ht
  go_enter Tryz.func17, Tryz.ntmps17
  go_upto_region 1 with (fail)
  obtain ⟨W, B, hW, hB, hx0, a0, b0⟩ := boxes2 w #[.slice A1 c.nodes.length c1, .slice A2 c.pairs.length c2, .slice A3 c.quotas.length c3, .int .i64 c.half] #[.slice AM m.boxes.length cM] 39 43
  rw [← hW, ← hB]
  have QA := Lib.hid a0
  have QM := Lib.hid b0
  have X := Lib.hid hx0
  clear hW hB hx0 a0 b0
  have q0 := QA.out.cell 0
  have q1 := QA.out.cell 1
  have q2 := QA.out.cell 2
  have q3 := QA.out.cell 3
  have p0 := QM.out.cell 0
  cases t with
  | false =>
    have HN : Hid (mailRight c m = false) := Lib.hid (by simp [mailRight, T.out])
    go_wp2_with (go_at_call 35; (with_reducible refine (specConfigRight_is (S := S) c [.slice A1 c.nodes.length c1, .slice A2 c.pairs.length c2, .slice A3 c.quotas.length c3, .int .i64 c.half] _ (rel_Config HF.out (H1.out.ext X.out) (H2.out.ext X.out) (H3.out.ext X.out)) _ T.out).mono ?_); rintro e w7 ⟨rfl, hx7⟩; have X7 := Lib.hid (X.out.trans hx7); clear hx7 q0 q1 q2 q3 p0)
    go_ret
    exact ⟨ret_bool HN.out.symm, X7.out⟩
  | true =>
    by_cases hl : m.boxes.length = c.pairs.length
    case neg =>
      have HN : Hid (mailRight c m = false) := Lib.hid (by simp [mailRight, hl])
      have hl' : ¬ ((m.boxes.length : Int) = (c.pairs.length : Int)) := by omega
      go_wp2_with (go_at_call 35; (with_reducible refine (specConfigRight_is (S := S) c [.slice A1 c.nodes.length c1, .slice A2 c.pairs.length c2, .slice A3 c.quotas.length c3, .int .i64 c.half] _ (rel_Config HF.out (H1.out.ext X.out) (H2.out.ext X.out) (H3.out.ext X.out)) _ T.out).mono ?_); rintro e w7 ⟨rfl, hx7⟩; have X7 := Lib.hid (X.out.trans hx7); have q1' := (QA.out.ext hx7).cell 1; have p0' := (QM.out.ext hx7).cell 0; clear hx7 q0 q1 q2 q3 p0)
      go_ret
      exact ⟨ret_bool HN.out.symm, X7.out⟩
    case pos =>
      have HL := Lib.hid hl
      have hl' : ((m.boxes.length : Int) = (c.pairs.length : Int)) := by omega
      have hl2 : ((m.boxes.length : Int) != (c.pairs.length : Int)) = false := by simp [hl']
      clear hl hl'
      go_upto_region 3 with (go_at_call 35; (with_reducible refine (specConfigRight_is (S := S) c [.slice A1 c.nodes.length c1, .slice A2 c.pairs.length c2, .slice A3 c.quotas.length c3, .int .i64 c.half] _ (rel_Config HF.out (H1.out.ext X.out) (H2.out.ext X.out) (H3.out.ext X.out)) _ T.out).mono ?_); rintro e w7 ⟨rfl, hx7⟩; have X7 := Lib.hid (X.out.trans hx7); have QA7 := Lib.hid (QA.out.ext hx7); have QM7 := Lib.hid (QM.out.ext hx7); clear hx7 q0 q1 q2 q3 p0; have q1 := QA7.out.cell 1; have p0 := QM7.out.cell 0)
      clear hl2
      go_wp2_with fail
      clear q1 p0
      go_loopw [5] (fun i w' => ∃ k : Nat, k ≤ m.boxes.length ∧ i = .int .i64 k ∧ (∀ j, j < k → boxAt c m j = true) ∧ Ext w7 w') (fun i _ => m.boxes.length - (intOf i).toNat)
      case atStart => exact ⟨0, by omega, rfl, fun j hj => by omega, Ext.refl _⟩
      case round =>
        obtain ⟨k, hk1, rfl, hall, hx⟩ := hrel
        have HA := Lib.hid hall
        have HX := Lib.hid hx
        clear hall
        by_cases hlt : k < m.boxes.length
        · obtain ⟨b, o, cs, rfl, _, ⟨y1, y2, y3, rfl, -, r1, r2, r3⟩, hc⟩ := GK.out k hlt
          obtain ⟨Y1, z1, rfl, -⟩ := r1.form
          obtain ⟨Y2, z2, rfl, -⟩ := r2.form
          have R3 := Lib.hid r3
          obtain ⟨Y3, z3, rfl, -, n2, nk⟩ := r3.open_
          have hkp : k < c.pairs.length := by have := HL.out; omega
          have hkp' : (k : Int) < (c.pairs.length : Int) := by omega
          obtain ⟨b', o', ds, rfl, _, ⟨rfl, fp⟩, hd⟩ := HK.out k hkp
          have hxx := X7.out.trans hx
          have c0 := Ext.some hxx (hc 0 _ rfl)
          have c1 := Ext.some hxx (hc 1 _ rfl)
          have c2 := Ext.some hxx (hc 2 _ rfl)
          simp only [EBox, Nat.add_zero] at c0 c1 c2
          have d0 := Ext.some hxx (hd 0 _ rfl)
          have d1 := Ext.some hxx (hd 1 _ rfl)
          have d2 := Ext.some hxx (hd 2 _ rfl)
          have d3 := Ext.some hxx (hd 3 _ rfl)
          have d4 := Ext.some hxx (hd 4 _ rfl)
          simp only [EPair, Nat.add_zero] at d0 d1 d2 d3 d4
          have q1 := Ext.some hx (QA7.out.cell 1)
          have p0 := Ext.some hx (QM7.out.cell 0)
          clear hc r1 r2 r3 fp hd hx hxx d0 d1 d2 d3
          go_upto_region 7 with (fail)
          obtain ⟨W5, B5, hW5, hB5, hx5, b5⟩ : ∃ W5 B5, W5 = wr.alloc (.cells #[.slice Y1 (nth m.boxes k).next.length z1, .slice Y2 (nth m.boxes k).here.length z2, .slice Y3 (nth m.boxes k).log.length z3] 63) ∧ B5 = wr.heap.size ∧ Ext wr W5 ∧ Blk W5 B5 63 #[.slice Y1 (nth m.boxes k).next.length z1, .slice Y2 (nth m.boxes k).here.length z2, .slice Y3 (nth m.boxes k).log.length z3] := ⟨_, _, rfl, rfl, (Ext.refl _).alloc _, Blk.new _ _ _⟩
          rw [← hW5, ← hB5]
          have X5 : Hid (Ext w7 W5) := Lib.hid (HX.out.trans hx5)
          have X0 : Hid (Ext w W5) := Lib.hid (X7.out.trans X5.out)
          have Q5 := Lib.hid b5
          have e0 := b5.cell 0
          have e1 := b5.cell 1
          have e2 := b5.cell 2
          have q1' := Ext.some hx5 q1
          have d4' := Ext.some hx5 d4
          clear hW5 hB5 hx5 b5 c0 c1 c2 q1 d4 p0
          have NK := Lib.hid nk
          clear nk
          unfold maxLen at n2
          by_cases hn1 : (nth c.pairs k).rate < ((nth m.boxes k).next.length : Int)
          · have HN : Hid (mailRight c m = false) := Lib.hid (mail_bad hlt (by simp [boxAt, boxOk]; omega))
            go_wp2_with fail
            refine wp_region_ext (by kernel_rfl) (by kernel_rfl) ?_
            repeat (
              (refine wpQuiet_step (fun K hK => ?_)
               go_simp
               first
                | (refine hK _ ?_; clear hK K)
                | (apply Exists.intro
                   refine ⟨fun w__ hx__ => ?_, hK _ ?_⟩
                   · have e0__ := Ext.some hx__ e0; have e1__ := Ext.some hx__ e1; have e2__ := Ext.some hx__ e2; have q1'__ := Ext.some hx__ q1'; have d4'__ := Ext.some hx__ d4'; first | exact rfl | (go_simp; done) | (go_simp; exact rfl)
                   clear hK K)))
            refine wpQuiet_nil ?_
            intro w1 hx1
            have HE := Lib.hid hx1
            clear e0 e1 e2 q1' d4' hx1
            go_wp2_with fail
            go_ret
            exact ⟨ret_bool HN.out.symm, X0.out.trans HE.out⟩
          · by_cases hn2 : (nth c.pairs k).rate < ((nth m.boxes k).here.length : Int)
            · have HN : Hid (mailRight c m = false) := Lib.hid (mail_bad hlt (by simp [boxAt, boxOk]; omega))
              go_wp2_with fail
              refine wp_region_ext (by kernel_rfl) (by kernel_rfl) ?_
              repeat (
                (refine wpQuiet_step (fun K hK => ?_)
                 go_simp
                 first
                  | (refine hK _ ?_; clear hK K)
                  | (apply Exists.intro
                     refine ⟨fun w__ hx__ => ?_, hK _ ?_⟩
                     · have e0__ := Ext.some hx__ e0; have e1__ := Ext.some hx__ e1; have e2__ := Ext.some hx__ e2; have q1'__ := Ext.some hx__ q1'; have d4'__ := Ext.some hx__ d4'; first | exact rfl | (go_simp; done) | (go_simp; exact rfl)
                     clear hK K)))
              refine wpQuiet_nil ?_
              intro w1 hx1
              have HE := Lib.hid hx1
              clear e0 e1 e2 q1' d4' hx1
              go_wp2_with fail
              go_ret
              exact ⟨ret_bool HN.out.symm, X0.out.trans HE.out⟩
            · by_cases h12 : 12 < (nth m.boxes k).log.length
              · have HN : Hid (mailRight c m = false) := Lib.hid (mail_bad hlt (box_long h12))
                go_wp2_with fail
                refine wp_region_ext (by kernel_rfl) (by kernel_rfl) ?_
                repeat (
                  (refine wpQuiet_step (fun K hK => ?_)
                   go_simp
                   first
                    | (refine hK _ ?_; clear hK K)
                    | (apply Exists.intro
                       refine ⟨fun w__ hx__ => ?_, hK _ ?_⟩
                       · have e0__ := Ext.some hx__ e0; have e1__ := Ext.some hx__ e1; have e2__ := Ext.some hx__ e2; have q1'__ := Ext.some hx__ q1'; have d4'__ := Ext.some hx__ d4'; first | exact rfl | (go_simp; done) | (go_simp; exact rfl)
                       clear hK K)))
                refine wpQuiet_nil ?_
                intro w1 hx1
                have HE := Lib.hid hx1
                clear e0 e1 e2 q1' d4' hx1
                go_wp2_with fail
                go_ret
                exact ⟨ret_bool HN.out.symm, X0.out.trans HE.out⟩
              · have HN1 := Lib.hid hn1
                have HN2 := Lib.hid hn2
                have H12 := Lib.hid h12
                go_wp2_with fail
                refine wp_region_ext (by kernel_rfl) (by kernel_rfl) ?_
                repeat (
                  (refine wpQuiet_step (fun K hK => ?_)
                   go_simp
                   first
                    | (refine hK _ ?_; clear hK K)
                    | (apply Exists.intro
                       refine ⟨fun w__ hx__ => ?_, hK _ ?_⟩
                       · have e0__ := Ext.some hx__ e0; have e1__ := Ext.some hx__ e1; have e2__ := Ext.some hx__ e2; have q1'__ := Ext.some hx__ q1'; have d4'__ := Ext.some hx__ d4'; first | exact rfl | (go_simp; done) | (go_simp; exact rfl)
                       clear hK K)))
                refine wpQuiet_nil ?_
                intro w1 hx1
                have X9 := Lib.hid (X0.out.trans hx1)
                have X59 := Lib.hid (X5.out.trans hx1)
                have Q9 := Lib.hid (Q5.out.ext hx1)
                clear e0 e1 e2 q1' d4' hx1
                go_wp2_with fail
                go_loopw [7] (fun i w' => ∃ j : Nat, j ≤ (nth m.boxes k).log.length ∧ i = .int .i64 j ∧ (∀ i, i < j → noteAt (nth m.boxes k).log i = true) ∧ Ext w1 w') (fun i _ => (nth m.boxes k).log.length - (intOf i).toNat)
                case atStart => exact ⟨0, by omega, rfl, fun j hj => by omega, Ext.refl _⟩
                case round =>
                  obtain ⟨j, hj1, rfl, hall3, hx3⟩ := hrel
                  have HA3 := Lib.hid hall3
                  have HX3 := Lib.hid hx3
                  have e2 := Ext.some hx3 (Q9.out.cell 2)
                  clear hall3
                  by_cases hj2 : j < (nth m.boxes k).log.length
                  · obtain ⟨b3, o3, cs3, rfl, _, ⟨rfl, fn1⟩, hc3⟩ := NK.out j hj2
                    have hxn := X9.out.trans hx3
                    have f0 := Ext.some hxn (hc3 0 _ rfl)
                    have f1 := Ext.some hxn (hc3 1 _ rfl)
                    simp only [ENote, Nat.add_zero] at f0 f1
                    obtain ⟨t1, ht1⟩ : ∃ t, nowOk (nth (nth m.boxes k).log j).at_ = t := ⟨_, rfl⟩
                    have T1 := Lib.hid ht1
                    clear hc3 fn1 ht1 f1
                    cases t1 with
                    | false =>
                      clear hxn hx3
                      have HN : Hid (mailRight c m = false) := Lib.hid (mail_bad hlt (box_log hj2 (by simp [noteAt, T1.out])))
                      go_wp2_with fail
                      refine wp_region_ext (by kernel_rfl) (by kernel_rfl) ?_
                      repeat (
                        (refine wpQuiet_step (fun K hK => ?_)
                         go_simp
                         first
                          | (refine hK _ ?_; clear hK K)
                          | (apply Exists.intro
                             refine ⟨fun w__ hx__ => ?_, hK _ ?_⟩
                             · have f0__ := Ext.some hx__ f0; have e2__ := Ext.some hx__ e2; first | exact rfl | (go_simp; done) | (go_simp; exact rfl) | (go_at_call 36; exact ext_of_same hx__ (l03Now_is _ _ _ T1.out))
                             clear hK K)))
                      refine wpQuiet_nil ?_
                      intro w1 hx1
                      have HE := Lib.hid hx1
                      clear f0 e2 hx1
                      go_wp2_with fail
                      go_ret
                      exact ⟨ret_bool HN.out.symm, X9.out.trans (HX3.out.trans HE.out)⟩
                    | true =>
                      by_cases hj0 : 0 < j
                      · obtain ⟨i, rfl⟩ : ∃ i, j = i + 1 := ⟨j - 1, by omega⟩
                        obtain ⟨b3', o3', ds3, hA3', _, ⟨rfl, fn2⟩, hd3⟩ := NK.out i (by omega)
                        injection hA3' with hA3'
                        injection hA3' with g1 g2
                        subst g1
                        subst g2
                        have g0 := Ext.some hxn (hd3 0 _ rfl)
                        have g1 := Ext.some hxn (hd3 1 _ rfl)
                        simp only [ENote, Nat.add_zero] at g0 g1
                        clear hd3 fn2 g1 hxn hx3
                        have i0 : (0 : Int) ≤ (i : Int) + 1 := by omega
                        have i1 : (i : Int) + 1 < ((nth m.boxes k).log.length : Int) := by omega
                        have i2 : ((i : Int) + 1).toNat = i + 1 := by omega
                        have i3 : IntKind.i64.wrap (i : Int) = (i : Int) := IntWalk.i64_in _ (by omega)
                        have i4 : i < (nth m.boxes k).log.length := by omega
                        by_cases hz : (nth (nth m.boxes k).log (i + 1)).at_ < (nth (nth m.boxes k).log i).at_
                        · have HN : Hid (mailRight c m = false) := Lib.hid (mail_bad hlt (box_log hj2 (by simp [noteAt, T1.out]; omega)))
                          go_wp2_with fail
                          refine wp_region_ext (by kernel_rfl) (by kernel_rfl) ?_
                          repeat (
                            (refine wpQuiet_step (fun K hK => ?_)
                             go_simp
                             first
                              | (refine hK _ ?_; clear hK K)
                              | (apply Exists.intro
                                 refine ⟨fun w__ hx__ => ?_, hK _ ?_⟩
                                 · have f0__ := Ext.some hx__ f0; have g0__ := Ext.some hx__ g0; have e2__ := Ext.some hx__ e2; first | exact rfl | (go_simp; done) | (go_simp; exact rfl) | (go_at_call 36; exact ext_of_same hx__ (l03Now_is _ _ _ T1.out))
                                 clear hK K)))
                          refine wpQuiet_nil ?_
                          intro w1 hx1
                          have HE := Lib.hid hx1
                          clear f0 g0 e2 hx1
                          go_wp2_with fail
                          go_ret
                          exact ⟨ret_bool HN.out.symm, X9.out.trans (HX3.out.trans HE.out)⟩
                        · have HZ := Lib.hid hz
                          have HG := Lib.hid (all_succ (p := fun j => noteAt (nth m.boxes k).log j = true) HA3.out (by have := HZ.out; simp [noteAt, T1.out]; omega))
                          go_wp2_with fail
                          refine wp_region_ext (by kernel_rfl) (by kernel_rfl) ?_
                          repeat (
                            (refine wpQuiet_step (fun K hK => ?_)
                             go_simp
                             first
                              | (refine hK _ ?_; clear hK K)
                              | (apply Exists.intro
                                 refine ⟨fun w__ hx__ => ?_, hK _ ?_⟩
                                 · have f0__ := Ext.some hx__ f0; have g0__ := Ext.some hx__ g0; have e2__ := Ext.some hx__ e2; first | exact rfl | (go_simp; done) | (go_simp; exact rfl) | (go_at_call 36; exact ext_of_same hx__ (l03Now_is _ _ _ T1.out))
                                 clear hK K)))
                          refine wpQuiet_nil ?_
                          intro w1 hx1
                          have HE := Lib.hid hx1
                          clear f0 g0 e2 hx1
                          go_wp2_with fail
                          go_roundw
                          case rel => exact ⟨i + 1 + 1, by omega, by go_num, HG.out, HX3.out.trans HE.out⟩
                          case measure => simp [intOf]; omega
                      · clear hxn hx3
                        obtain rfl : j = 0 := by omega
                        simp only [Nat.zero_mul, Nat.add_zero] at f0
                        have HG := Lib.hid (all_succ (p := fun j => noteAt (nth m.boxes k).log j = true) HA3.out (by simp [noteAt, T1.out]))
                        go_wp2_with fail
                        refine wp_region_ext (by kernel_rfl) (by kernel_rfl) ?_
                        repeat (
                          (refine wpQuiet_step (fun K hK => ?_)
                           go_simp
                           first
                            | (refine hK _ ?_; clear hK K)
                            | (apply Exists.intro
                               refine ⟨fun w__ hx__ => ?_, hK _ ?_⟩
                               · have f0__ := Ext.some hx__ f0; have e2__ := Ext.some hx__ e2; first | exact rfl | (go_simp; done) | (go_simp; exact rfl) | (go_at_call 36; exact ext_of_same hx__ (l03Now_is _ _ _ T1.out))
                               clear hK K)))
                        refine wpQuiet_nil ?_
                        intro w1 hx1
                        have HE := Lib.hid hx1
                        clear f0 e2 hx1
                        go_wp2_with fail
                        go_roundw
                        case rel => exact ⟨1, by omega, by go_num, HG.out, HX3.out.trans HE.out⟩
                        case measure => simp [intOf]; omega
                  · have HG := Lib.hid (all_succ (p := fun j => boxAt c m j = true) HA.out (by
                      have h3 := notesOk_of (l := (nth m.boxes k).log) fun i hi => HA3.out i (by omega)
                      have := HN1.out
                      have := HN2.out
                      have := H12.out
                      rw [decide_eq_true (by omega)] at h3
                      simp [boxAt, boxOk, h3]; omega))
                    clear hx3
                    go_wp2_with fail
                    go_roundw
                    case rel => exact ⟨k + 1, by omega, by go_num, HG.out, X59.out.trans HX3.out⟩
                    case measure => simp [intOf]; omega
        · have HN := Lib.hid (mail_of T.out HL.out (fun j hj => HA.out j (by omega)))
          have q1 := Ext.some hx (QA7.out.cell 1)
          have p0 := Ext.some hx (QM7.out.cell 0)
          clear hx
          go_wp2_with fail
          go_ret
          exact ⟨ret_bool HN.out.symm, X7.out.trans HX.out⟩
end Go.Proofs.YtdhcbbbmajjehaaGreat

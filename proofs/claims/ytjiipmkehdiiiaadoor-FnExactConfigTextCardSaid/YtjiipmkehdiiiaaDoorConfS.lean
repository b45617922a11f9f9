/- The walk of the reference's Chain. Printed by wip/confs.py. The walk of the reference's l05Clear. Printed by wip/confs.py. The walk of the reference's l05Cleared. Printed by wip/confs.py. -/
import Derived.Test.YtjiipmkehdiiiaaDoorConf4
namespace Go.Proofs.YtjiipmkehdiiiaaDoor
open Go.RowKit
attribute [local irreducible] wpQuiet

theorem specLabelRight_is {S : Nat → Prop} (x : Label) (cs : List Value) (w : World) (h : ELabel.rel S w cs x) (r : Bool) (hr : labelRight x = r) :
    Calls Tryd.prog 30 #[.agg cs.toArray] w fun e w' => e = .returned (.bool r) ∧ Ext w w' := by
  subst hr
  exact specLabelRight_any x cs w h
theorem l02Below_is {S S' : Nat → Prop} (a b : Label) (cs ds : List Value) (w : World) (h : ELabel.rel S w cs a) (g : ELabel.rel S' w ds b) (r : Bool) (hr : belowB a b = r) :
    Calls Tryd.prog 46 #[.agg cs.toArray, .agg ds.toArray] w fun e w' => e = .returned (.bool r) ∧ Ext w w' := by
  subst hr
  exact l02Below_any a b cs ds w h g
theorem l02Is_is (n a b : Int) (w : World) (r : Bool) (hr : isB n a b = r) :
    Calls Tryd.prog 26 #[.int .i64 n, .int .i64 a, .int .i64 b] w fun e w' => e = .returned (.bool r) ∧ w = w' := by
  subst hr
  exact l02Is_any n a b w

set_option maxHeartbeats 8000000 in
set_option maxRecDepth 50000 in
theorem specChain_any {S : Nat → Prop} (l : List Label) (v : Value) (w : World) (h : Rd ELabel S w v l) :
    Calls Tryd.prog 44 #[v] w fun e w' => e = .returned (.bool (chainOk l)) ∧ Ext w w' := by
  obtain ⟨A, c, rfl, h1, h2, hk⟩ := h.open_
  unfold maxLen at h2
  have HK := Lib.hid hk
  clear hk h
  by_cases h0 : l.length < 1
  · have HN := Lib.hid (chain_short h0)
    go_enter Tryd.func44, Tryd.ntmps44
    go_wp2_with fail
    go_ret
    exact ⟨ret_bool HN.out.symm, Ext.refl _⟩
  by_cases h4 : 4 < l.length
  · have HN := Lib.hid (chain_long h4)
    go_enter Tryd.func44, Tryd.ntmps44
    go_wp2_with fail
    go_ret
    exact ⟨ret_bool HN.out.symm, Ext.refl _⟩
  have h0' : 1 ≤ l.length := by omega
  have h4' : l.length ≤ 4 := by omega
  clear h0 h4
  go_enter Tryd.func44, Tryd.ntmps44
  go_wp2_with fail
  go_loopw [3] (fun i w' => ∃ k : Nat, k ≤ l.length ∧ i = .int .i64 k ∧ (∀ j, j < k → chainAt l j = true) ∧ Ext w w') (fun i _ => l.length - (intOf i).toNat)
  case atStart => exact ⟨0, by omega, rfl, fun j hj => by omega, Ext.refl _⟩
  case round =>
    obtain ⟨k, hk1, rfl, hall, hx⟩ := hrel
    have HA := Lib.hid hall
    have HX := Lib.hid hx
    clear hall
    by_cases hlt : k < l.length
    · obtain ⟨b, o, cs, rfl, _, ⟨rfl, f1⟩, hc⟩ := HK.out k hlt
      have c0 := Ext.some hx (hc 0 _ rfl)
      have c1 := Ext.some hx (hc 1 _ rfl)
      simp only [ELabel, Nat.add_zero] at c0 c1
      have F1 := Lib.hid f1
      obtain ⟨t1, ht1⟩ : ∃ t, labelRight (nth l k) = t := ⟨_, rfl⟩
      have T1 := Lib.hid ht1
      clear hc f1 ht1
      cases t1 with
      | false =>
        clear hx
        have HF := Lib.hid (chainOk_bad hlt (chainAt_bad T1.out))
        go_wp2_with fail
        refine wp_region_ext (by kernel_rfl) (by kernel_rfl) ?_
        repeat (
          (refine wpQuiet_step (fun K hK => ?_)
           go_simp
           first
            | (refine hK _ ?_; clear hK K)
            | (apply Exists.intro
               refine ⟨fun w__ hx__ => ?_, hK _ ?_⟩
               · have c0__ := Ext.some hx__ c0; have c1__ := Ext.some hx__ c1; first | exact rfl | (go_simp; done) | (go_simp; exact rfl) | (go_at_call 30; exact ext_of hx__ (specLabelRight_is (S := S) (nth l k) _ _ (rel_Label F1.out) _ T1.out))
               clear hK K)))
        refine wpQuiet_nil ?_
        intro w1 hx1
        have HE := Lib.hid hx1
        clear c0 c1 hx1
        go_wp2_with fail
        go_ret
        exact ⟨ret_bool HF.out.symm, HX.out.trans HE.out⟩
      | true =>
        by_cases hk0 : 0 < k
        · obtain ⟨m, rfl⟩ : ∃ m, k = m + 1 := ⟨k - 1, by omega⟩
          obtain ⟨b', o', ds, hA', _, ⟨rfl, f2⟩, hd⟩ := HK.out m (by omega)
          injection hA' with hA'
          injection hA' with e1 e2
          subst e1
          subst e2
          have d0 := Ext.some hx (hd 0 _ rfl)
          have d1 := Ext.some hx (hd 1 _ rfl)
          simp only [ELabel, Nat.add_zero] at d0 d1
          have F2 := Lib.hid f2
          have HC := Lib.hid (chainAt_succ T1.out)
          clear hd hx f2
          have i0 : (0 : Int) ≤ (m : Int) + 1 := by omega
          have i1 : (m : Int) + 1 < (l.length : Int) := by omega
          have i2 : ((m : Int) + 1).toNat = m + 1 := by omega
          have i3 : IntKind.i64.wrap (m : Int) = (m : Int) := IntWalk.i64_in _ (by omega)
          have i4 : m < l.length := by omega
          obtain ⟨t2, ht2⟩ : ∃ t, belowB (nth l m) (nth l (m + 1)) = t := ⟨_, rfl⟩
          have T2 := Lib.hid ht2
          clear ht2
          cases t2 with
          | false =>
            have HF := Lib.hid (chainOk_bad hlt (by rw [HC.out, T2.out]; rfl))
            go_wp2_with fail
            refine wp_region_ext (by kernel_rfl) (by kernel_rfl) ?_
            repeat (
              (refine wpQuiet_step (fun K hK => ?_)
               go_simp
               first
                | (refine hK _ ?_; clear hK K)
                | (apply Exists.intro
                   refine ⟨fun w__ hx__ => ?_, hK _ ?_⟩
                   · have c0__ := Ext.some hx__ c0; have c1__ := Ext.some hx__ c1; have d0__ := Ext.some hx__ d0; have d1__ := Ext.some hx__ d1; first | exact rfl | (go_simp; done) | (go_simp; exact rfl) | (go_at_call 30; exact ext_of hx__ (specLabelRight_is (S := S) (nth l (m + 1)) _ _ (rel_Label F1.out) _ T1.out)) | (go_at_call 46; exact ext_of hx__ (l02Below_is (S := S) (S' := S) (nth l m) (nth l (m + 1)) _ _ _ (rel_Label F2.out) (rel_Label F1.out) _ T2.out))
                   clear hK K)))
            refine wpQuiet_nil ?_
            intro w1 hx1
            have HE := Lib.hid hx1
            clear c0 c1 d0 d1 hx1
            go_wp2_with fail
            go_ret
            exact ⟨ret_bool HF.out.symm, HX.out.trans HE.out⟩
          | true =>
            by_cases he : nth l m = nth l (m + 1)
            · have HEq := Lib.hid he
              have T3 : Hid (belowB (nth l (m + 1)) (nth l (m + 1)) = true) := Lib.hid (by have := T2.out; rwa [he] at this)
              have g0 : (nth l m).level = (nth l (m + 1)).level := by rw [he]
              have g1 : (nth l m).set = (nth l (m + 1)).set := by rw [he]
              clear he
              have HF := Lib.hid (chainOk_bad hlt (by rw [HC.out, decide_eq_true HEq.out]; simp))
              go_wp2_with fail
              refine wp_region_ext (by kernel_rfl) (by kernel_rfl) ?_
              repeat (
                (refine wpQuiet_step (fun K hK => ?_)
                 go_simp
                 first
                  | (refine hK _ ?_; clear hK K)
                  | (apply Exists.intro
                     refine ⟨fun w__ hx__ => ?_, hK _ ?_⟩
                     · have c0__ := Ext.some hx__ c0; have c1__ := Ext.some hx__ c1; have d0__ := Ext.some hx__ d0; have d1__ := Ext.some hx__ d1; first | exact rfl | (go_simp; done) | (go_simp; exact rfl) | (go_at_call 30; exact ext_of hx__ (specLabelRight_is (S := S) (nth l (m + 1)) _ _ (rel_Label F1.out) _ T1.out)) | (go_at_call 46; exact ext_of hx__ (l02Below_is (S := S) (S' := S) (nth l (m + 1)) (nth l (m + 1)) _ _ _ (rel_Label F1.out) (rel_Label F1.out) _ T3.out))
                     clear hK K)))
              refine wpQuiet_nil ?_
              intro w1 hx1
              have HE := Lib.hid hx1
              clear c0 c1 d0 d1 hx1
              go_wp2_with fail
              go_ret
              exact ⟨ret_bool HF.out.symm, HX.out.trans HE.out⟩
            · have HNe := Lib.hid he
              rcases label_ne he with g | g
              all_goals
                clear he
                have ite__ := @ite_ok
                have HG := Lib.hid (all_succ (p := fun j => chainAt l j = true) HA.out (by rw [HC.out, T2.out, decide_eq_false HNe.out]; rfl))
                go_wp2_with fail
                refine wp_region_ext (by kernel_rfl) (by kernel_rfl) ?_
                repeat (
                  (refine wpQuiet_step (fun K hK => ?_)
                   go_simp
                   first
                    | (refine hK _ ?_; clear hK K)
                    | (apply Exists.intro
                       refine ⟨fun w__ hx__ => ?_, hK _ ?_⟩
                       · have c0__ := Ext.some hx__ c0; have c1__ := Ext.some hx__ c1; have d0__ := Ext.some hx__ d0; have d1__ := Ext.some hx__ d1; first | exact rfl | (go_simp; done) | (go_simp; exact rfl) | (go_at_call 30; exact ext_of hx__ (specLabelRight_is (S := S) (nth l (m + 1)) _ _ (rel_Label F1.out) _ T1.out)) | (go_at_call 46; exact ext_of hx__ (l02Below_is (S := S) (S' := S) (nth l m) (nth l (m + 1)) _ _ _ (rel_Label F2.out) (rel_Label F1.out) _ T2.out))
                       clear hK K)))
                refine wpQuiet_nil ?_
                intro w1 hx1
                have HE := Lib.hid hx1
                clear c0 c1 d0 d1 hx1 ite__
                go_wp2_with fail
                go_roundw
                case rel => exact ⟨m + 1 + 1, by omega, by go_num, HG.out, HX.out.trans HE.out⟩
                case measure => simp [intOf]; omega
        · obtain rfl : k = 0 := by omega
          clear hx
          simp only [Nat.zero_mul, Nat.add_zero] at c0 c1
          have HG := Lib.hid (all_succ (p := fun j => chainAt l j = true) HA.out (chainAt_zero T1.out))
          go_wp2_with fail
          refine wp_region_ext (by kernel_rfl) (by kernel_rfl) ?_
          repeat (
            (refine wpQuiet_step (fun K hK => ?_)
             go_simp
             first
              | (refine hK _ ?_; clear hK K)
              | (apply Exists.intro
                 refine ⟨fun w__ hx__ => ?_, hK _ ?_⟩
                 · have c0__ := Ext.some hx__ c0; have c1__ := Ext.some hx__ c1; first | exact rfl | (go_simp; done) | (go_simp; exact rfl) | (go_at_call 30; exact ext_of hx__ (specLabelRight_is (S := S) (nth l 0) _ _ (rel_Label F1.out) _ T1.out))
                 clear hK K)))
          refine wpQuiet_nil ?_
          intro w1 hx1
          have HE := Lib.hid hx1
          clear c0 c1 hx1
          go_wp2_with fail
          go_roundw
          case rel => exact ⟨1, by omega, by go_num, HG.out, HX.out.trans HE.out⟩
          case measure => simp [intOf]; omega
    · have HF := Lib.hid (chainOk_of (l := l) fun j hj => HA.out j (by omega))
      have HI : Hid (isB (l.length : Int) 1 4 = true) := Lib.hid (isB_iff.2 (by omega))
      go_wp2_with fail
      go_ret
      exact ⟨ret_bool (by rw [HF.out, HI.out]), HX.out⟩
theorem specChain_is {S : Nat → Prop} (l : List Label) (v : Value) (w : World) (h : Rd ELabel S w v l) (r : Bool) (hr : chainOk l = r) :
    Calls Tryd.prog 44 #[v] w fun e w' => e = .returned (.bool r) ∧ Ext w w' := by
  subst hr
  exact specChain_any l v w h
end Go.Proofs.YtjiipmkehdiiiaaDoor

namespace Go.Proofs.YtjiipmkehdiiiaaDoor
open Go.RowKit
attribute [local irreducible] wpQuiet

theorem clearOk_bad {ns : List (List Label)} {k : Nat} (hk : k < ns.length) (h : chainOk (nth ns k) = false) : clearOk ns = false := by
  unfold clearOk
  rw [all_fails hk h, Bool.and_false]
theorem clearOk_of {ns : List (List Label)} (h : ∀ k, k < ns.length → chainOk (nth ns k) = true) : clearOk ns = isB ns.length 1 6 := by
  unfold clearOk
  rw [all_of_nth h, Bool.and_true]
theorem clearOk_long {ns : List (List Label)} (h : 6 < ns.length) : clearOk ns = false := by unfold clearOk isB; rw [decide_eq_false (by omega)]; rfl

set_option maxHeartbeats 8000000 in
theorem l05Clear_any {S : Nat → Prop} (ns : List (List Label)) (v : Value) (w : World) (h : Rd (ERow ELabel) S w v ns) :
    Calls Tryd.prog 25 #[v] w fun e w' => e = .returned (.bool (clearOk ns)) ∧ Ext w w' := by
  obtain ⟨A, c, rfl, h1, h2, hk⟩ := h.open_
  unfold maxLen at h2
  have HK := Lib.hid hk
  clear hk h
  go_enter Tryd.func25, Tryd.ntmps25
  go_wp2_with fail
  go_loopw [3] (fun i w' => ∃ k : Nat, k ≤ ns.length ∧ k ≤ 7 ∧ i = .int .i64 k ∧ (∀ j, j < k → chainOk (nth ns j) = true) ∧ Ext w w') (fun i _ => ns.length - (intOf i).toNat)
  case atStart => exact ⟨0, by omega, by omega, rfl, fun j hj => by omega, Ext.refl _⟩
  case round =>
    obtain ⟨k, hk1, hk7, rfl, hall, hx⟩ := hrel
    have HA := Lib.hid hall
    have HX := Lib.hid hx
    clear hall
    by_cases hlt : k < ns.length
    · by_cases h6 : k ≤ 6
      · obtain ⟨b, o, cs, rfl, _, ⟨v1, rfl, hr⟩, hc⟩ := HK.out k hlt
        have c0 := Ext.some hx (hc 0 _ rfl)
        simp only [ERow, Nat.mul_one, Nat.add_zero] at c0
        obtain ⟨A1, c1, rfl, -⟩ := hr.form
        have HR := Lib.hid (hr.ext hx)
        obtain ⟨t, ht⟩ : ∃ t, chainOk (nth ns k) = t := ⟨_, rfl⟩
        have T := Lib.hid ht
        clear hc hr hx ht
        cases t with
        | false =>
          have HF := Lib.hid (clearOk_bad hlt T.out)
          go_wp2_with (go_at_call 44; (with_reducible refine (specChain_is (S := S) (nth ns k) _ _ HR.out _ T.out).mono ?_); rintro e w7 ⟨rfl, hx7⟩; have X7 := Lib.hid hx7; clear hx7)
          go_ret
          exact ⟨ret_bool HF.out.symm, HX.out.trans X7.out⟩
        | true =>
          have HG := Lib.hid (all_succ (p := fun j => chainOk (nth ns j) = true) HA.out T.out)
          go_wp2_with (go_at_call 44; (with_reducible refine (specChain_is (S := S) (nth ns k) _ _ HR.out _ T.out).mono ?_); rintro e w7 ⟨rfl, hx7⟩; have X7 := Lib.hid hx7; clear hx7)
          go_roundw
          case rel => exact ⟨k + 1, by omega, by omega, by go_num, HG.out, HX.out.trans X7.out⟩
          case measure => simp [intOf]; omega
      · obtain rfl : k = 7 := by omega
        have HF := Lib.hid (clearOk_long (ns := ns) (by omega))
        have h6' : 6 < ns.length := by omega
        clear hx
        go_wp2_with fail
        go_ret
        exact ⟨ret_bool (by rw [HF.out]; simp; omega), HX.out⟩
    · obtain rfl : k = ns.length := by omega
      have HF := Lib.hid (clearOk_of HA.out)
      clear hx
      go_wp2_with fail
      all_goals (go_ret; exact ⟨ret_bool (by rw [HF.out]; unfold isB; simp; try omega), HX.out⟩)
end Go.Proofs.YtjiipmkehdiiiaaDoor

namespace Go.Proofs.YtjiipmkehdiiiaaDoor
open Go.RowKit
attribute [local irreducible] wpQuiet

theorem l02Below_as {S S' : Nat → Prop} (a b : Label) (cs ds : List Value) (w : World) (h : ELabel.rel S w cs a) (g : ELabel.rel S' w ds b) (r : Bool) (hr : belowB a b = r) :
    Calls Tryd.prog 46 #[.agg cs.toArray, .agg ds.toArray] w fun e w' => e = .returned (.bool r) ∧ Ext w w' := by
  subst hr
  exact l02Below_any a b cs ds w h g
theorem l02Is_as (n a b : Int) (w : World) (r : Bool) (hr : isB n a b = r) :
    Calls Tryd.prog 26 #[.int .i64 n, .int .i64 a, .int .i64 b] w fun e w' => e = .returned (.bool r) ∧ w = w' := by
  subst hr
  exact l02Is_any n a b w

set_option maxHeartbeats 4000000 in
theorem l05Cleared_any {S : Nat → Prop} (l : List Label) (a : Label) (v : Value) (w : World) (h : Rd ELabel S w v l) :
    Calls Tryd.prog 45 #[v, .agg #[.int .i64 a.level, .int .i64 a.set]] w fun e w' => e = .returned (.bool (cleared l a)) ∧ Ext w w' := by
  obtain ⟨A, c, rfl, h1, h2, hk⟩ := h.open_
  unfold maxLen at h2
  have HK := Lib.hid hk
  clear hk h
  go_enter Tryd.func45, Tryd.ntmps45
  go_upto_region 1 with (fail)
  obtain ⟨W, B, hW__, hB__, hxW, hbox__⟩ := box_new w #[.int .i64 a.level, .int .i64 a.set] 44
  rw [← hW__, ← hB__]
  have b0 := hbox__ 0 _ rfl
  have b1 := hbox__ 1 _ rfl
  clear hW__ hB__ hbox__
  have HB0 := Lib.hid b0
  have HB1 := Lib.hid b1
  have HW := Lib.hid hxW
  clear b0 b1 hxW
  go_wp2_with fail
  go_loopw [5] (fun i w' => ∃ k : Nat, k ≤ l.length ∧ i = .int .i64 k ∧ (∀ j, j < k → isLab a (nth l j) = false) ∧ Ext W w') (fun i _ => l.length - (intOf i).toNat)
  case atStart => exact ⟨0, by omega, rfl, fun j hj => by omega, Ext.refl _⟩
  case round =>
    obtain ⟨k, hk1, rfl, hall, hx⟩ := hrel
    have HA := Lib.hid hall
    have HX := Lib.hid (HW.out.trans hx)
    have HY := Lib.hid hx
    clear hall
    by_cases hlt : k < l.length
    · obtain ⟨b, q, cs, rfl, _, ⟨rfl, hfit⟩, hc⟩ := HK.out k hlt
      have c0 := Ext.some HX.out (hc 0 _ rfl)
      have c1 := Ext.some HX.out (hc 1 _ rfl)
      have d0 := Ext.some hx HB0.out
      have d1 := Ext.some hx HB1.out
      simp only [ELabel, Nat.add_zero] at c0 c1
      clear hc hfit hx
      by_cases he : nth l k = a
      · have HE : Hid (cleared l a = true) := Lib.hid (List.any_eq_true.2 ⟨nth l k, nth_mem hlt, by simp [he]⟩)
        have g0 : (nth l k).level = a.level := by rw [he]
        have g1 : (nth l k).set = a.set := by rw [he]
        clear he
        go_wp2_with fail
        refine wp_region_ext (by kernel_rfl) (by kernel_rfl) ?_
        repeat (
          (refine wpQuiet_step (fun K hK => ?_)
           go_simp
           first
            | (refine hK _ ?_; clear hK K)
            | (apply Exists.intro
               refine ⟨fun w__ hx__ => ?_, hK _ ?_⟩
               · have c0__ := Ext.some hx__ c0; have c1__ := Ext.some hx__ c1; have d0__ := Ext.some hx__ d0; have d1__ := Ext.some hx__ d1; first | exact rfl | (go_simp; done) | (go_simp; exact rfl)
               clear hK K)))
        refine wpQuiet_nil ?_
        intro w1 hx1
        have HZ := Lib.hid hx1
        clear c0 c1 d0 d1 hx1
        go_wp2_with fail
        go_ret
        exact ⟨ret_bool HE.out.symm, HX.out.trans HZ.out⟩
      · have HE := Lib.hid (all_succ (p := fun j => isLab a (nth l j) = false) HA.out (by simp [isLab, he]))
        rcases label_ne he with g | g
        all_goals
          clear he
          have ite__ := @ite_ok
          go_wp2_with fail
          refine wp_region_ext (by kernel_rfl) (by kernel_rfl) ?_
          repeat (
            (refine wpQuiet_step (fun K hK => ?_)
             go_simp
             first
              | (refine hK _ ?_; clear hK K)
              | (apply Exists.intro
                 refine ⟨fun w__ hx__ => ?_, hK _ ?_⟩
                 · have c0__ := Ext.some hx__ c0; have c1__ := Ext.some hx__ c1; have d0__ := Ext.some hx__ d0; have d1__ := Ext.some hx__ d1; first | exact rfl | (go_simp; done) | (go_simp; exact rfl)
                 clear hK K)))
          refine wpQuiet_nil ?_
          intro w1 hx1
          have HZ := Lib.hid hx1
          clear c0 c1 d0 d1 hx1 ite__
          go_wp2_with fail
          go_roundw
          case rel => exact ⟨k + 1, by omega, by go_num, HE.out, HY.out.trans HZ.out⟩
          case measure => simp [intOf]; omega
    · have HE : Hid (cleared l a = false) := Lib.hid (by
        rw [cleared_any, List.any_eq_false]
        intro x hxm
        obtain ⟨i, hi, rfl⟩ := List.getElem_of_mem hxm
        have := HA.out i (by omega)
        rw [nth_eq hi] at this
        simp [this])
      go_wp2_with fail
      go_ret
      exact ⟨ret_bool HE.out.symm, HX.out⟩
theorem l05Cleared_is {S : Nat → Prop} (l : List Label) (a : Label) (v : Value) (w : World) (h : Rd ELabel S w v l) (r : Bool) (hr : cleared l a = r) :
    Calls Tryd.prog 45 #[v, .agg #[.int .i64 a.level, .int .i64 a.set]] w fun e w' => e = .returned (.bool r) ∧ Ext w w' := by
  subst hr
  exact l05Cleared_any l a v w h
end Go.Proofs.YtjiipmkehdiiiaaDoor

/- The walk of the reference's l09Quotas. Printed by wip/conft.py. -/
import Derived.Test.YtjiipmkehdiiiaaDoorConfS
namespace Go.Proofs.YtjiipmkehdiiiaaDoor
open Go.RowKit
attribute [local irreducible] wpQuiet

set_option maxHeartbeats 8000000 in
set_option maxRecDepth 100000 in
theorem l09Quotas_any {S S' : Nat → Prop} (ls : List Label) (qs : List Quota) (v u : Value) (w : World) (g : Rd ELabel S' w u ls) (h : Rd EQuota S w v qs) (hr : ∀ a ∈ ls, labelRight a = true) :
    Calls Tryd.prog 29 #[u, v] w fun e w' => e = .returned (.bool (quotasOk ls qs)) ∧ Ext w w' := by
  obtain ⟨A, c, rfl, h1, h2, hk⟩ := h.open_
  unfold maxLen at h2
  obtain ⟨AL, cL, rfl, -⟩ := g.form
  have HK := Lib.hid hk
  have HL := Lib.hid g
  have HRt := Lib.hid hr
  clear hk h g hr
  by_cases h8 : 8 < qs.length
  · have HN : Hid (quotasOk ls qs = false) := Lib.hid (by unfold quotasOk; rw [decide_eq_false (by omega)]; rfl)
    go_enter Tryd.func29, Tryd.ntmps29
    go_wp2_with fail
    go_ret
    exact ⟨ret_bool HN.out.symm, Ext.refl _⟩
  have h8' : qs.length ≤ 8 := by omega
  clear h8
  go_enter Tryd.func29, Tryd.ntmps29
  go_wp2_with fail
  go_loopw [5] (fun i w' => ∃ k : Nat, k ≤ qs.length ∧ i = .int .i64 k ∧ (∀ j, j < k → quotaAtB ls qs j = true) ∧ Ext w w') (fun i _ => qs.length - (intOf i).toNat)
  case atStart => exact ⟨0, by omega, rfl, fun j hj => by omega, Ext.refl _⟩
  case round =>
    obtain ⟨k, hk1, rfl, hall, hx⟩ := hrel
    have HA := Lib.hid hall
    have HX := Lib.hid hx
    clear hall
    by_cases hlt : k < qs.length
    · obtain ⟨b, o, cs, rfl, _, ⟨rfl, hfit⟩, hc⟩ := HK.out k hlt
      have c0 := Ext.some hx (hc 0 _ rfl)
      have c1 := Ext.some hx (hc 1 _ rfl)
      have c2 := Ext.some hx (hc 2 _ rfl)
      simp only [EQuota, Nat.add_zero] at c0 c1 c2
      clear hc hfit
      obtain ⟨t1, ht1⟩ : ∃ t, cleared ls (nth qs k).label = t := ⟨_, rfl⟩
      obtain ⟨t2, ht2⟩ : ∃ t, isB (nth qs k).most 1 9 = t := ⟨_, rfl⟩
      have T1 := Lib.hid ht1
      have T2 := Lib.hid ht2
      clear ht1 ht2
      cases t1 with
      | false =>
        clear hx
        have HF : Hid (quotasOk ls qs = false) := Lib.hid (quotasOk_bad hlt (by simp [quotaAtB, T1.out]))
        go_wp2_with fail
        refine wp_region_ext (by kernel_rfl) (by kernel_rfl) ?_
        repeat (
          (refine wpQuiet_step (fun K hK => ?_)
           go_simp
           first
            | (refine hK _ ?_; clear hK K)
            | (apply Exists.intro
               refine ⟨fun w__ hx__ => ?_, hK _ ?_⟩
               · have c0__ := Ext.some hx__ c0; have c1__ := Ext.some hx__ c1; have c2__ := Ext.some hx__ c2; first | exact rfl | (go_simp; done) | (go_simp; exact rfl) | (go_at_call 45; exact ext_of hx__ (l05Cleared_is (S := S') ls (nth qs k).label _ _ (HL.out.ext (HX.out.trans hx__)) _ T1.out)) | (go_at_call 26; exact ext_of_same hx__ (l02Is_as _ _ _ _ _ T2.out))
               clear hK K)))
        refine wpQuiet_nil ?_
        intro w1 hx1
        have HE := Lib.hid hx1
        clear c0 c1 c2 hx1
        go_wp2_with fail
        go_ret
        exact ⟨ret_bool HF.out.symm, HX.out.trans HE.out⟩
      | true =>
        cases t2 with
        | false =>
          clear hx
          have HF : Hid (quotasOk ls qs = false) := Lib.hid (quotasOk_bad hlt (by simp [quotaAtB, T2.out]))
          go_wp2_with fail
          refine wp_region_ext (by kernel_rfl) (by kernel_rfl) ?_
          repeat (
            (refine wpQuiet_step (fun K hK => ?_)
             go_simp
             first
              | (refine hK _ ?_; clear hK K)
              | (apply Exists.intro
                 refine ⟨fun w__ hx__ => ?_, hK _ ?_⟩
                 · have c0__ := Ext.some hx__ c0; have c1__ := Ext.some hx__ c1; have c2__ := Ext.some hx__ c2; first | exact rfl | (go_simp; done) | (go_simp; exact rfl) | (go_at_call 45; exact ext_of hx__ (l05Cleared_is (S := S') ls (nth qs k).label _ _ (HL.out.ext (HX.out.trans hx__)) _ T1.out)) | (go_at_call 26; exact ext_of_same hx__ (l02Is_as _ _ _ _ _ T2.out))
                 clear hK K)))
          refine wpQuiet_nil ?_
          intro w1 hx1
          have HE := Lib.hid hx1
          clear c0 c1 c2 hx1
          go_wp2_with fail
          go_ret
          exact ⟨ret_bool HF.out.symm, HX.out.trans HE.out⟩
        | true =>
          by_cases hk0 : 0 < k
          · obtain ⟨m, rfl⟩ : ∃ m, k = m + 1 := ⟨k - 1, by omega⟩
            obtain ⟨b', o', ds, hA', _, ⟨rfl, hfm⟩, hd⟩ := HK.out m (by omega)
            injection hA' with hA'
            injection hA' with g1 g2
            subst g1
            subst g2
            have d0 := Ext.some hx (hd 0 _ rfl)
            have d1 := Ext.some hx (hd 1 _ rfl)
            have d2 := Ext.some hx (hd 2 _ rfl)
            simp only [EQuota, Nat.add_zero] at d0 d1 d2
            clear hd hfm hx d2
            have i0 : (0 : Int) ≤ (m : Int) + 1 := by omega
            have i1 : (m : Int) + 1 < (qs.length : Int) := by omega
            have i2 : ((m : Int) + 1).toNat = m + 1 := by omega
            have i3 : IntKind.i64.wrap (m : Int) = (m : Int) := IntWalk.i64_in _ (by omega)
            have i4 : m < qs.length := by omega
            have RA : Hid (isB (nth qs m).label.level 0 3 = true ∧ isB (nth qs m).label.set 0 7 = true) := Lib.hid (by have := HRt.out _ (quota_label (HA.out m (by omega))); simpa [labelRight] using this)
            have RB : Hid (isB (nth qs (m + 1)).label.level 0 3 = true ∧ isB (nth qs (m + 1)).label.set 0 7 = true) := Lib.hid (by have := HRt.out _ (cleared_mem.1 T1.out); simpa [labelRight] using this)
            by_cases hz0 : 8 * (nth qs (m + 1)).label.level + (nth qs (m + 1)).label.set ≤ 8 * (nth qs m).label.level + (nth qs m).label.set
            · have HF : Hid (quotasOk ls qs = false) := Lib.hid (quotasOk_bad hlt (by have : ¬ (keyOf (nth qs m).label < keyOf (nth qs (m + 1)).label) := (by unfold keyOf; omega); simp [quotaAtB, T1.out, T2.out, this]))
              go_wp2_with fail
              refine wp_region_ext (by kernel_rfl) (by kernel_rfl) ?_
              repeat (
                (refine wpQuiet_step (fun K hK => ?_)
                 go_simp
                 first
                  | (refine hK _ ?_; clear hK K)
                  | (apply Exists.intro
                     refine ⟨fun w__ hx__ => ?_, hK _ ?_⟩
                     · have c0__ := Ext.some hx__ c0; have c1__ := Ext.some hx__ c1; have c2__ := Ext.some hx__ c2; have d0__ := Ext.some hx__ d0; have d1__ := Ext.some hx__ d1; first | exact rfl | (go_simp; done) | (go_simp; exact rfl) | (go_at_call 45; exact ext_of hx__ (l05Cleared_is (S := S') ls (nth qs (m + 1)).label _ _ (HL.out.ext (HX.out.trans hx__)) _ T1.out)) | (go_at_call 26; exact ext_of_same hx__ (l02Is_as _ _ _ _ _ T2.out)) | (go_at_call 47; exact ext_of hx__ (l09Ord_any (nth qs m).label.level (nth qs m).label.set _ RA.out.1 RA.out.2)) | (go_at_call 47; exact ext_of hx__ (l09Ord_any (nth qs (m + 1)).label.level (nth qs (m + 1)).label.set _ RB.out.1 RB.out.2))
                     clear hK K)))
              refine wpQuiet_nil ?_
              intro w1 hx1
              have HE := Lib.hid hx1
              clear c0 c1 c2 d0 d1 hx1
              go_wp2_with fail
              go_ret
              exact ⟨ret_bool HF.out.symm, HX.out.trans HE.out⟩
            · have HZ := Lib.hid hz0
              have HG := Lib.hid (all_succ (p := fun j => quotaAtB ls qs j = true) HA.out (by have : keyOf (nth qs m).label < keyOf (nth qs (m + 1)).label := (by have h0 := HZ.out; unfold keyOf; omega); simp [quotaAtB, T1.out, T2.out, this]))
              go_wp2_with fail
              refine wp_region_ext (by kernel_rfl) (by kernel_rfl) ?_
              repeat (
                (refine wpQuiet_step (fun K hK => ?_)
                 go_simp
                 first
                  | (refine hK _ ?_; clear hK K)
                  | (apply Exists.intro
                     refine ⟨fun w__ hx__ => ?_, hK _ ?_⟩
                     · have c0__ := Ext.some hx__ c0; have c1__ := Ext.some hx__ c1; have c2__ := Ext.some hx__ c2; have d0__ := Ext.some hx__ d0; have d1__ := Ext.some hx__ d1; first | exact rfl | (go_simp; done) | (go_simp; exact rfl) | (go_at_call 45; exact ext_of hx__ (l05Cleared_is (S := S') ls (nth qs (m + 1)).label _ _ (HL.out.ext (HX.out.trans hx__)) _ T1.out)) | (go_at_call 26; exact ext_of_same hx__ (l02Is_as _ _ _ _ _ T2.out)) | (go_at_call 47; exact ext_of hx__ (l09Ord_any (nth qs m).label.level (nth qs m).label.set _ RA.out.1 RA.out.2)) | (go_at_call 47; exact ext_of hx__ (l09Ord_any (nth qs (m + 1)).label.level (nth qs (m + 1)).label.set _ RB.out.1 RB.out.2))
                     clear hK K)))
              refine wpQuiet_nil ?_
              intro w1 hx1
              have HE := Lib.hid hx1
              clear c0 c1 c2 d0 d1 hx1
              go_wp2_with fail
              go_roundw
              case rel => exact ⟨m + 1 + 1, by omega, by go_num, HG.out, HX.out.trans HE.out⟩
              case measure => simp [intOf]; omega
          · obtain rfl : k = 0 := by omega
            clear hx
            simp only [Nat.zero_mul, Nat.add_zero] at c0 c1 c2
            have HG := Lib.hid (all_succ (p := fun j => quotaAtB ls qs j = true) HA.out (by simp [quotaAtB, T1.out, T2.out]))
            go_wp2_with fail
            refine wp_region_ext (by kernel_rfl) (by kernel_rfl) ?_
            repeat (
              (refine wpQuiet_step (fun K hK => ?_)
               go_simp
               first
                | (refine hK _ ?_; clear hK K)
                | (apply Exists.intro
                   refine ⟨fun w__ hx__ => ?_, hK _ ?_⟩
                   · have c0__ := Ext.some hx__ c0; have c1__ := Ext.some hx__ c1; have c2__ := Ext.some hx__ c2; first | exact rfl | (go_simp; done) | (go_simp; exact rfl) | (go_at_call 45; exact ext_of hx__ (l05Cleared_is (S := S') ls (nth qs 0).label _ _ (HL.out.ext (HX.out.trans hx__)) _ T1.out)) | (go_at_call 26; exact ext_of_same hx__ (l02Is_as _ _ _ _ _ T2.out))
                   clear hK K)))
            refine wpQuiet_nil ?_
            intro w1 hx1
            have HE := Lib.hid hx1
            clear c0 c1 c2 hx1
            go_wp2_with fail
            go_roundw
            case rel => exact ⟨1, by omega, by go_num, HG.out, HX.out.trans HE.out⟩
            case measure => simp [intOf]; omega
    · have HF : Hid (quotasOk ls qs = true) := Lib.hid (by
        unfold quotasOk
        rw [decide_eq_true h8', Bool.true_and, List.all_eq_true]
        exact fun j hj => HA.out j (by have := List.mem_range.1 hj; omega))
      clear hx
      go_wp2_with fail
      go_ret
      exact ⟨ret_bool HF.out.symm, HX.out⟩
end Go.Proofs.YtjiipmkehdiiiaaDoor

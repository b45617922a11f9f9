/- The walk of spec.UsesRight. -/
import Derived.Test.YtbdicafambkhdaaUsesC
namespace Go.Proofs.Ytbdicafambkhdaa
open Go.RowKit
attribute [local irreducible] wpQuiet

/-- How many elements up to here have the last one's label. -/
def sameAt (l : List Use) : Nat → Nat
  | 0 => 0
  | m + 1 => ownersOf (l.take (m + 1)) (nth l m).label
theorem same_more {l : List Use} {m : Nat} (hm : m + 1 < l.length) (he : (nth l m).label = (nth l (m + 1)).label) : sameAt l (m + 2) = sameAt l (m + 1) + 1 := by
  show ownersOf (l.take (m + 1 + 1)) (nth l (m + 1)).label = ownersOf (l.take (m + 1)) (nth l m).label + 1
  rw [ownersOf_succ hm, if_pos rfl, he]
theorem same_new {l : List Use} {m : Nat} (hm : m + 1 < l.length) (h0 : ownersOf (l.take (m + 1)) (nth l (m + 1)).label = 0) : sameAt l (m + 2) = 1 := by
  show ownersOf (l.take (m + 1 + 1)) (nth l (m + 1)).label = 1
  rw [ownersOf_succ hm, if_pos rfl, h0]
theorem same_one {l : List Use} (hm : 0 < l.length) : sameAt l 1 = 1 := by
  show ownersOf (l.take (0 + 1)) (nth l 0).label = 1
  rw [ownersOf_succ hm, if_pos rfl]
  simp [ownersOf]

set_option maxHeartbeats 8000000 in
set_option maxRecDepth 50000 in
theorem specUsesRight_any {S : Nat → Prop} (l : List Use) (v : Value) (w : World) (h : Rd EUse S w v l) :
    Calls Try.prog 43 #[v] w fun e w' => e = .returned (.bool (usesRight l)) ∧ Ext w w' := by
  obtain ⟨A, c, rfl, h1, h2, hk⟩ := h.open_
  unfold maxLen at h2
  have HK := Lib.hid hk
  clear hk h
  by_cases h48 : 48 < l.length
  · have HN : Hid (usesRight l = false) := Lib.hid (by unfold usesRight; rw [decide_eq_false (by omega)]; rfl)
    go_enter Try.func43, Try.ntmps43
    go_wp2_with fail
    go_ret
    exact ⟨ret_bool HN.out.symm, Ext.refl _⟩
  have h48' : l.length ≤ 48 := by omega
  clear h48
  go_enter Try.func43, Try.ntmps43
  go_wp2_with fail
  go_loopw [3, 4] (fun n i w' => ∃ k : Nat, k ≤ l.length ∧ i = .int .i64 k ∧ n = .int .i64 (sameAt l k) ∧ sameAt l k ≤ 6 ∧ (∀ j, j < k → useAt l j = true) ∧ Ext w w') (fun _ i _ => l.length - (intOf i).toNat)
  case atStart => exact ⟨0, by omega, rfl, rfl, Nat.zero_le _, fun j hj => by omega, Ext.refl _⟩
  case round =>
    obtain ⟨k, hk1, rfl, rfl, hs6, hall, hx⟩ := hrel
    have HA := Lib.hid hall
    have HX := Lib.hid hx
    clear hall
    by_cases hlt : k < l.length
    · obtain ⟨b, o, cs, rfl, _, ⟨rfl, hfit⟩, hc⟩ := HK.out k hlt
      have HL : Hid (FitLabel (nth l k).label) := Lib.hid ⟨hfit.1, hfit.2.1⟩
      have HS : Hid (Str (nth l k).owner) := Lib.hid hfit.2.2.1
      have HF0 := Lib.hid hfit
      have c0 := Ext.some hx (hc 0 _ rfl)
      have c1 := Ext.some hx (hc 1 _ rfl)
      have c2 := Ext.some hx (hc 2 _ rfl)
      have c3 := Ext.some hx (hc 3 _ rfl)
      simp only [EUse, Nat.add_zero] at c0 c1 c2 c3
      clear hc hfit
      by_cases hl : labelRight (nth l k).label = true
      · have HLK := Lib.hid hl
        by_cases hm : nameRight (nth l k).owner = true
        · by_cases hu : isB (nth l k).used 1 100000 = true
          · by_cases h0 : 0 < k
            · obtain ⟨m, rfl⟩ : ∃ m, k = m + 1 := ⟨k - 1, by omega⟩
              obtain ⟨b', o', cs', hbo, _, ⟨rfl, hfit1⟩, hd⟩ := HK.out m (by omega)
              cases hbo
              have HF1 := Lib.hid hfit1
              have HLM := Lib.hid (useAt_label (HA.out m (by omega)))
              have d0 := Ext.some hx (hd 0 _ rfl)
              have d1 := Ext.some hx (hd 1 _ rfl)
              have d2 := Ext.some hx (hd 2 _ rfl)
              have d3 := Ext.some hx (hd 3 _ rfl)
              simp only [EUse, Nat.add_zero] at d0 d1 d2 d3
              clear hd hfit1
              have i0 : (0 : Int) ≤ (m : Int) + 1 := by omega
              have i1 : (m : Int) + 1 < (l.length : Int) := by omega
              have i2 : ((m : Int) + 1).toNat = m + 1 := by omega
              have i3 : IntKind.i64.wrap (m : Int) = (m : Int) := IntWalk.i64_in _ (by omega)
              have i4 : m < l.length := by omega
              by_cases hle : cmpUses (nth l m) (nth l (m + 1)) < 0
              · have HC := Lib.hid hle
                have HU : ∀ hn : ownersOf (l.take (m + 1)) (nth l (m + 1)).label ≠ 6, Hid (useAt l (m + 1) = true) := fun hn => Lib.hid (useAt_all hl hm hu (by rw [useAfter_succ]; exact decide_eq_true hle) hn)
                by_cases he : (nth l m).label = (nth l (m + 1)).label
                · have hmore := same_more hlt he
                  have HM := Lib.hid hmore
                  have hval : sameAt l (m + 1) = ownersOf (l.take (m + 1)) (nth l (m + 1)).label := by rw [← he]; rfl
                  have E0 : Hid ((nth l m).label.level = (nth l (m + 1)).label.level) := Lib.hid (by rw [he])
                  have E1 : Hid ((nth l m).label.set = (nth l (m + 1)).label.set) := Lib.hid (by rw [he])
                  by_cases hn : sameAt l (m + 1) = 6
                  · have HF : Hid (usesRight l = false) := Lib.hid (usesRight_false hlt (useAt_many (by rw [← hval]; exact hn)))
                    clear hmore hval he HU
                    go_wp2_with fail
                    refine wp_region_ext (by kernel_rfl) (by kernel_rfl) ?_
                    repeat (
                      (refine wpQuiet_step (fun K hK => ?_)
                       go_simp
                       first
                        | (refine hK _ ?_; clear hK K)
                        | (apply Exists.intro
                           refine ⟨fun w__ hx__ => ?_, hK _ ?_⟩
                           · have c0__ := Ext.some hx__ c0; have c1__ := Ext.some hx__ c1; have c2__ := Ext.some hx__ c2; have c3__ := Ext.some hx__ c3; have d0__ := Ext.some hx__ d0; have d1__ := Ext.some hx__ d1; have d2__ := Ext.some hx__ d2; have d3__ := Ext.some hx__ d3; first | exact rfl | (go_simp; done) | (go_simp; exact rfl) | (go_at_call 48; exact ext_of hx__ (specLabelRight_any (S := S) (nth l (m + 1)).label _ _ (rel_Label HL.out))) | (go_at_call 49; exact ext_of_same hx__ (specNameRight_any _ _ HS.out)) | (go_at_call 89; exact ext_of_same hx__ (l02Is_any _ _ _ _)) | (go_at_call 124; exact ext_of hx__ (l11Less_any (S := S) (S' := S) (nth l m) (nth l (m + 1)) _ _ _ (rel_Use HF1.out) (rel_Use HF0.out) HLM.out HLK.out))
                           clear hK K)))
                    refine wpQuiet_nil ?_
                    intro w1 hx1
                    go_wp2_with fail
                    have X1 := Lib.hid (HX.out.trans hx1)
                    have c0' := Ext.some hx1 c0
                    have c1' := Ext.some hx1 c1
                    have d0' := Ext.some hx1 d0
                    have d1' := Ext.some hx1 d1
                    clear hx1 c0 c1 c2 c3 d0 d1 d2 d3
                    rename World => V
                    have e0 := E0.out
                    have e1 := E1.out
                    refine wp_region_ext (by kernel_rfl) (by kernel_rfl) ?_
                    repeat (
                      (refine wpQuiet_step (fun K hK => ?_)
                       go_simp
                       first
                        | (refine hK _ ?_; clear hK K)
                        | (apply Exists.intro
                           refine ⟨fun w__ hx__ => ?_, hK _ ?_⟩
                           · have c0'__ := Ext.some hx__ c0'; have c1'__ := Ext.some hx__ c1'; have d0'__ := Ext.some hx__ d0'; have d1'__ := Ext.some hx__ d1'; first | exact rfl | (go_simp; done) | (go_simp; exact rfl)
                           clear hK K)))
                    refine wpQuiet_nil ?_
                    intro w1 hx1
                    go_wp2_with fail
                    go_ret
                    exact ⟨ret_bool HF.out.symm, X1.out.trans hx1⟩
                  · have HV := HU (by rw [← hval]; exact hn)
                    have hn' : sameAt l (m + 1) < 6 := by omega
                    clear hmore hval he HU hn hs6
                    generalize hq : sameAt l (m + 1) = q at *
                    have HQ := Lib.hid hq
                    clear hq
                    go_wp2_with fail
                    refine wp_region_ext (by kernel_rfl) (by kernel_rfl) ?_
                    repeat (
                      (refine wpQuiet_step (fun K hK => ?_)
                       go_simp
                       first
                        | (refine hK _ ?_; clear hK K)
                        | (apply Exists.intro
                           refine ⟨fun w__ hx__ => ?_, hK _ ?_⟩
                           · have c0__ := Ext.some hx__ c0; have c1__ := Ext.some hx__ c1; have c2__ := Ext.some hx__ c2; have c3__ := Ext.some hx__ c3; have d0__ := Ext.some hx__ d0; have d1__ := Ext.some hx__ d1; have d2__ := Ext.some hx__ d2; have d3__ := Ext.some hx__ d3; first | exact rfl | (go_simp; done) | (go_simp; exact rfl) | (go_at_call 48; exact ext_of hx__ (specLabelRight_any (S := S) (nth l (m + 1)).label _ _ (rel_Label HL.out))) | (go_at_call 49; exact ext_of_same hx__ (specNameRight_any _ _ HS.out)) | (go_at_call 89; exact ext_of_same hx__ (l02Is_any _ _ _ _)) | (go_at_call 124; exact ext_of hx__ (l11Less_any (S := S) (S' := S) (nth l m) (nth l (m + 1)) _ _ _ (rel_Use HF1.out) (rel_Use HF0.out) HLM.out HLK.out))
                           clear hK K)))
                    refine wpQuiet_nil ?_
                    intro w1 hx1
                    go_wp2_with fail
                    have X1 := Lib.hid (HX.out.trans hx1)
                    have c0' := Ext.some hx1 c0
                    have c1' := Ext.some hx1 c1
                    have d0' := Ext.some hx1 d0
                    have d1' := Ext.some hx1 d1
                    clear hx1 c0 c1 c2 c3 d0 d1 d2 d3
                    rename World => V
                    have e0 := E0.out
                    have e1 := E1.out
                    refine wp_region_ext (by kernel_rfl) (by kernel_rfl) ?_
                    repeat (
                      (refine wpQuiet_step (fun K hK => ?_)
                       go_simp
                       first
                        | (refine hK _ ?_; clear hK K)
                        | (apply Exists.intro
                           refine ⟨fun w__ hx__ => ?_, hK _ ?_⟩
                           · have c0'__ := Ext.some hx__ c0'; have c1'__ := Ext.some hx__ c1'; have d0'__ := Ext.some hx__ d0'; have d1'__ := Ext.some hx__ d1'; first | exact rfl | (go_simp; done) | (go_simp; exact rfl)
                           clear hK K)))
                    refine wpQuiet_nil ?_
                    intro w1 hx1
                    go_wp2_with fail
                    go_roundw
                    case rel => exact ⟨m + 2, by omega, by go_num, by rw [HM.out]; go_num, by rw [HM.out]; omega, all_succ HA.out HV.out, X1.out.trans hx1⟩
                    case measure => simp only [intOf]; (try simp); (try omega)
                · have hz := ownersOf_new hlt HA.out hl hle he
                  have HV := HU (by rw [hz]; decide)
                  have HM := Lib.hid (same_new hlt hz)
                  clear hz HU
                  by_cases e0 : (nth l m).label.level = (nth l (m + 1)).label.level
                  · have E1 : Hid (¬ (nth l m).label.set = (nth l (m + 1)).label.set) := Lib.hid fun e => he (Label.ext e0 e)
                    have E0 := Lib.hid e0
                    clear he e0
                    go_wp2_with fail
                    refine wp_region_ext (by kernel_rfl) (by kernel_rfl) ?_
                    repeat (
                      (refine wpQuiet_step (fun K hK => ?_)
                       go_simp
                       first
                        | (refine hK _ ?_; clear hK K)
                        | (apply Exists.intro
                           refine ⟨fun w__ hx__ => ?_, hK _ ?_⟩
                           · have c0__ := Ext.some hx__ c0; have c1__ := Ext.some hx__ c1; have c2__ := Ext.some hx__ c2; have c3__ := Ext.some hx__ c3; have d0__ := Ext.some hx__ d0; have d1__ := Ext.some hx__ d1; have d2__ := Ext.some hx__ d2; have d3__ := Ext.some hx__ d3; first | exact rfl | (go_simp; done) | (go_simp; exact rfl) | (go_at_call 48; exact ext_of hx__ (specLabelRight_any (S := S) (nth l (m + 1)).label _ _ (rel_Label HL.out))) | (go_at_call 49; exact ext_of_same hx__ (specNameRight_any _ _ HS.out)) | (go_at_call 89; exact ext_of_same hx__ (l02Is_any _ _ _ _)) | (go_at_call 124; exact ext_of hx__ (l11Less_any (S := S) (S' := S) (nth l m) (nth l (m + 1)) _ _ _ (rel_Use HF1.out) (rel_Use HF0.out) HLM.out HLK.out))
                           clear hK K)))
                    refine wpQuiet_nil ?_
                    intro w1 hx1
                    go_wp2_with fail
                    have X1 := Lib.hid (HX.out.trans hx1)
                    have c0' := Ext.some hx1 c0
                    have c1' := Ext.some hx1 c1
                    have d0' := Ext.some hx1 d0
                    have d1' := Ext.some hx1 d1
                    clear hx1 c0 c1 c2 c3 d0 d1 d2 d3
                    rename World => V
                    have e0 := E0.out
                    have e1 := E1.out
                    refine wp_region_ext (by kernel_rfl) (by kernel_rfl) ?_
                    repeat (
                      (refine wpQuiet_step (fun K hK => ?_)
                       go_simp
                       first
                        | (refine hK _ ?_; clear hK K)
                        | (apply Exists.intro
                           refine ⟨fun w__ hx__ => ?_, hK _ ?_⟩
                           · have c0'__ := Ext.some hx__ c0'; have c1'__ := Ext.some hx__ c1'; have d0'__ := Ext.some hx__ d0'; have d1'__ := Ext.some hx__ d1'; first | exact rfl | (go_simp; done) | (go_simp; exact rfl)
                           clear hK K)))
                    refine wpQuiet_nil ?_
                    intro w1 hx1
                    go_wp2_with fail
                    go_roundw
                    case rel => exact ⟨m + 2, by omega, by go_num, by rw [HM.out]; rfl, by rw [HM.out]; decide, all_succ HA.out HV.out, X1.out.trans hx1⟩
                    case measure => simp only [intOf]; (try simp); (try omega)
                  · have E0 := Lib.hid e0
                    have E1 := Lib.hid trivial
                    clear he e0
                    go_wp2_with fail
                    refine wp_region_ext (by kernel_rfl) (by kernel_rfl) ?_
                    repeat (
                      (refine wpQuiet_step (fun K hK => ?_)
                       go_simp
                       first
                        | (refine hK _ ?_; clear hK K)
                        | (apply Exists.intro
                           refine ⟨fun w__ hx__ => ?_, hK _ ?_⟩
                           · have c0__ := Ext.some hx__ c0; have c1__ := Ext.some hx__ c1; have c2__ := Ext.some hx__ c2; have c3__ := Ext.some hx__ c3; have d0__ := Ext.some hx__ d0; have d1__ := Ext.some hx__ d1; have d2__ := Ext.some hx__ d2; have d3__ := Ext.some hx__ d3; first | exact rfl | (go_simp; done) | (go_simp; exact rfl) | (go_at_call 48; exact ext_of hx__ (specLabelRight_any (S := S) (nth l (m + 1)).label _ _ (rel_Label HL.out))) | (go_at_call 49; exact ext_of_same hx__ (specNameRight_any _ _ HS.out)) | (go_at_call 89; exact ext_of_same hx__ (l02Is_any _ _ _ _)) | (go_at_call 124; exact ext_of hx__ (l11Less_any (S := S) (S' := S) (nth l m) (nth l (m + 1)) _ _ _ (rel_Use HF1.out) (rel_Use HF0.out) HLM.out HLK.out))
                           clear hK K)))
                    refine wpQuiet_nil ?_
                    intro w1 hx1
                    go_wp2_with fail
                    have X1 := Lib.hid (HX.out.trans hx1)
                    have c0' := Ext.some hx1 c0
                    have c1' := Ext.some hx1 c1
                    have d0' := Ext.some hx1 d0
                    have d1' := Ext.some hx1 d1
                    clear hx1 c0 c1 c2 c3 d0 d1 d2 d3
                    rename World => V
                    have e0 := E0.out
                    have e1 := E1.out
                    refine wp_region_ext (by kernel_rfl) (by kernel_rfl) ?_
                    repeat (
                      (refine wpQuiet_step (fun K hK => ?_)
                       go_simp
                       first
                        | (refine hK _ ?_; clear hK K)
                        | (apply Exists.intro
                           refine ⟨fun w__ hx__ => ?_, hK _ ?_⟩
                           · have c0'__ := Ext.some hx__ c0'; have c1'__ := Ext.some hx__ c1'; have d0'__ := Ext.some hx__ d0'; have d1'__ := Ext.some hx__ d1'; first | exact rfl | (go_simp; done) | (go_simp; exact rfl)
                           clear hK K)))
                    refine wpQuiet_nil ?_
                    intro w1 hx1
                    go_wp2_with fail
                    go_roundw
                    case rel => exact ⟨m + 2, by omega, by go_num, by rw [HM.out]; rfl, by rw [HM.out]; decide, all_succ HA.out HV.out, X1.out.trans hx1⟩
                    case measure => simp only [intOf]; (try simp); (try omega)
              · have HF : Hid (usesRight l = false) := Lib.hid (usesRight_false hlt (useAt_after (by rw [useAfter_succ]; exact decide_eq_false hle)))
                have e9 : decide (cmpUses (nth l m) (nth l (m + 1)) < 0) = false := decide_eq_false hle
                clear hle
                go_wp2_with fail
                refine wp_region_ext (by kernel_rfl) (by kernel_rfl) ?_
                repeat (
                  (refine wpQuiet_step (fun K hK => ?_)
                   go_simp
                   first
                    | (refine hK _ ?_; clear hK K)
                    | (apply Exists.intro
                       refine ⟨fun w__ hx__ => ?_, hK _ ?_⟩
                       · have c0__ := Ext.some hx__ c0; have c1__ := Ext.some hx__ c1; have c2__ := Ext.some hx__ c2; have c3__ := Ext.some hx__ c3; have d0__ := Ext.some hx__ d0; have d1__ := Ext.some hx__ d1; have d2__ := Ext.some hx__ d2; have d3__ := Ext.some hx__ d3; first | exact rfl | (go_simp; done) | (go_simp; exact rfl) | (go_at_call 48; exact ext_of hx__ (specLabelRight_any (S := S) (nth l (m + 1)).label _ _ (rel_Label HL.out))) | (go_at_call 49; exact ext_of_same hx__ (specNameRight_any _ _ HS.out)) | (go_at_call 89; exact ext_of_same hx__ (l02Is_any _ _ _ _)) | (go_at_call 124; exact ext_of hx__ (l11Less_any (S := S) (S' := S) (nth l m) (nth l (m + 1)) _ _ _ (rel_Use HF1.out) (rel_Use HF0.out) HLM.out HLK.out))
                       clear hK K)))
                refine wpQuiet_nil ?_
                intro w1 hx1
                go_wp2_with fail
                go_ret
                exact ⟨ret_bool HF.out.symm, HX.out.trans hx1⟩
            · obtain rfl : k = 0 := by omega
              have HV : Hid (useAt l 0 = true) := Lib.hid (useAt_all hl hm hu (useAfter_zero l) (by simp [ownersOf]))
              have HM := Lib.hid (same_one hlt)
              simp only [Nat.zero_mul, Nat.add_zero] at c0 c1 c2 c3
              go_wp2_with fail
              refine wp_region_ext (by kernel_rfl) (by kernel_rfl) ?_
              repeat (
                (refine wpQuiet_step (fun K hK => ?_)
                 go_simp
                 first
                  | (refine hK _ ?_; clear hK K)
                  | (apply Exists.intro
                     refine ⟨fun w__ hx__ => ?_, hK _ ?_⟩
                     · have c0__ := Ext.some hx__ c0; have c1__ := Ext.some hx__ c1; have c2__ := Ext.some hx__ c2; have c3__ := Ext.some hx__ c3; first | exact rfl | (go_simp; done) | (go_simp; exact rfl) | (go_at_call 48; exact ext_of hx__ (specLabelRight_any (S := S) (nth l 0).label _ _ (rel_Label HL.out))) | (go_at_call 49; exact ext_of_same hx__ (specNameRight_any _ _ HS.out)) | (go_at_call 89; exact ext_of_same hx__ (l02Is_any _ _ _ _))
                     clear hK K)))
              refine wpQuiet_nil ?_
              intro w1 hx1
              go_wp2_with fail
              have X1 := Lib.hid (HX.out.trans hx1)
              have c0' := Ext.some hx1 c0
              have c1' := Ext.some hx1 c1
              clear hx1 c0 c1 c2 c3 
              rename World => V
              refine wp_region_ext (by kernel_rfl) (by kernel_rfl) ?_
              repeat (
                (refine wpQuiet_step (fun K hK => ?_)
                 go_simp
                 first
                  | (refine hK _ ?_; clear hK K)
                  | (apply Exists.intro
                     refine ⟨fun w__ hx__ => ?_, hK _ ?_⟩
                     · have c0'__ := Ext.some hx__ c0'; have c1'__ := Ext.some hx__ c1'; first | exact rfl | (go_simp; done) | (go_simp; exact rfl)
                     clear hK K)))
              refine wpQuiet_nil ?_
              intro w1 hx1
              go_wp2_with fail
              go_roundw
              case rel => exact ⟨1, by omega, by go_num, by rw [HM.out]; rfl, by rw [HM.out]; decide, all_succ HA.out HV.out, X1.out.trans hx1⟩
              case measure => simp only [intOf]; (try simp); (try omega)
          · have HF : Hid (usesRight l = false) := Lib.hid (usesRight_false hlt (useAt_bad (by simp [useOk, hu])))
            simp only [Bool.not_eq_true] at hu
            go_wp2_with fail
            refine wp_region_ext (by kernel_rfl) (by kernel_rfl) ?_
            repeat (
              (refine wpQuiet_step (fun K hK => ?_)
               go_simp
               first
                | (refine hK _ ?_; clear hK K)
                | (apply Exists.intro
                   refine ⟨fun w__ hx__ => ?_, hK _ ?_⟩
                   · have c0__ := Ext.some hx__ c0; have c1__ := Ext.some hx__ c1; have c2__ := Ext.some hx__ c2; have c3__ := Ext.some hx__ c3; first | exact rfl | (go_simp; done) | (go_simp; exact rfl) | (go_at_call 48; exact ext_of hx__ (specLabelRight_any (S := S) (nth l k).label _ _ (rel_Label HL.out))) | (go_at_call 49; exact ext_of_same hx__ (specNameRight_any _ _ HS.out)) | (go_at_call 89; exact ext_of_same hx__ (l02Is_any _ _ _ _))
                   clear hK K)))
            refine wpQuiet_nil ?_
            intro w1 hx1
            go_wp2_with fail
            go_ret
            exact ⟨ret_bool HF.out.symm, HX.out.trans hx1⟩
        · have HF : Hid (usesRight l = false) := Lib.hid (usesRight_false hlt (useAt_bad (by simp [useOk, hm])))
          simp only [Bool.not_eq_true] at hm
          go_wp2_with fail
          refine wp_region_ext (by kernel_rfl) (by kernel_rfl) ?_
          repeat (
            (refine wpQuiet_step (fun K hK => ?_)
             go_simp
             first
              | (refine hK _ ?_; clear hK K)
              | (apply Exists.intro
                 refine ⟨fun w__ hx__ => ?_, hK _ ?_⟩
                 · have c0__ := Ext.some hx__ c0; have c1__ := Ext.some hx__ c1; have c2__ := Ext.some hx__ c2; have c3__ := Ext.some hx__ c3; first | exact rfl | (go_simp; done) | (go_simp; exact rfl) | (go_at_call 48; exact ext_of hx__ (specLabelRight_any (S := S) (nth l k).label _ _ (rel_Label HL.out))) | (go_at_call 49; exact ext_of_same hx__ (specNameRight_any _ _ HS.out)) | (go_at_call 89; exact ext_of_same hx__ (l02Is_any _ _ _ _))
                 clear hK K)))
          refine wpQuiet_nil ?_
          intro w1 hx1
          go_wp2_with fail
          go_ret
          exact ⟨ret_bool HF.out.symm, HX.out.trans hx1⟩
      · have HF : Hid (usesRight l = false) := Lib.hid (usesRight_false hlt (useAt_bad (by simp [useOk, hl])))
        simp only [Bool.not_eq_true] at hl
        go_wp2_with fail
        refine wp_region_ext (by kernel_rfl) (by kernel_rfl) ?_
        repeat (
          (refine wpQuiet_step (fun K hK => ?_)
           go_simp
           first
            | (refine hK _ ?_; clear hK K)
            | (apply Exists.intro
               refine ⟨fun w__ hx__ => ?_, hK _ ?_⟩
               · have c0__ := Ext.some hx__ c0; have c1__ := Ext.some hx__ c1; have c2__ := Ext.some hx__ c2; have c3__ := Ext.some hx__ c3; first | exact rfl | (go_simp; done) | (go_simp; exact rfl) | (go_at_call 48; exact ext_of hx__ (specLabelRight_any (S := S) (nth l k).label _ _ (rel_Label HL.out))) | (go_at_call 49; exact ext_of_same hx__ (specNameRight_any _ _ HS.out)) | (go_at_call 89; exact ext_of_same hx__ (l02Is_any _ _ _ _))
               clear hK K)))
        refine wpQuiet_nil ?_
        intro w1 hx1
        go_wp2_with fail
        go_ret
        exact ⟨ret_bool HF.out.symm, HX.out.trans hx1⟩
    · have HF : Hid (usesRight l = true) := Lib.hid (by rw [usesRight_of fun i hi => HA.out i (by omega)]; exact decide_eq_true h48')
      go_wp2_with fail
      go_ret
      exact ⟨ret_bool HF.out.symm, HX.out⟩
end Go.Proofs.Ytbdicafambkhdaa

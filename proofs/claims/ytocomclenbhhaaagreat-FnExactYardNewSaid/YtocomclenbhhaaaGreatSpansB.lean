/- The walk of impl.SpansRight. -/
import Derived.Test.YtocomclenbhhaaaGreatSpansA
namespace Go.Proofs.YtocomclenbhhaaaGreat
open Go.RowKit
attribute [local irreducible] wpQuiet

set_option maxHeartbeats 4000000 in
theorem spansRight_any {S : Nat → Prop} (l : List Span) (v : Value) (w : World) (h : Rd ESpan S w v l) :
    Calls Tryz.prog 133 #[v] w fun e w' => e = .returned (.bool (spansRight l)) ∧ Ext w w' := by
  obtain ⟨A, c, rfl, h1, h2, hk⟩ := h.span
  unfold maxLen at h2
  have HK := Lib.hid hk
  clear hk h
  go_enter Tryz.func133, Tryz.ntmps133
  go_wp2_with fail
  go_loopw [7] (fun i w' => ∃ k : Nat, k ≤ l.length ∧ i = .int .i64 k ∧ (∀ j, j < k → spanAt l j = true) ∧ Ext w w') (fun i _ => l.length - (intOf i).toNat)
  case atStart => exact ⟨0, by omega, rfl, fun j hj => by omega, Ext.refl _⟩
  case round =>
    obtain ⟨k, hk1, rfl, hall, hx⟩ := hrel
    have HA := Lib.hid hall
    clear hall
    by_cases hlt : k < l.length
    · obtain ⟨b, o, rfl, hb, c0, c1⟩ := HK.out k hlt
      have c0' := Ext.some hx c0
      have c1' := Ext.some hx c1
      clear c0 c1
      by_cases hs : spanRight (nth l k) = true
      · by_cases h0 : 0 < k
        · obtain ⟨m, rfl⟩ : ∃ m, k = m + 1 := ⟨k - 1, by omega⟩
          obtain ⟨b', o', hbo, hb', d0, d1⟩ := HK.out m (by omega)
          cases hbo
          have d1' := Ext.some hx d1
          clear d0 d1 hb'
          have i0 : (0 : Int) ≤ (m : Int) + 1 := by omega
          have i1 : (m : Int) + 1 < (l.length : Int) := by omega
          have i2 : ((m : Int) + 1).toNat = m + 1 := by omega
          have i3 : IntKind.i64.wrap (m : Int) = (m : Int) := IntWalk.i64_in _ (by omega)
          have i4 : m < l.length := by omega
          by_cases hle : (nth l m).to_ ≤ (nth l (m + 1)).from_
          · go_wp2_with fail
            obtain ⟨W, B, hW__, hB__, hxW, hbox__⟩ := box_new wr #[.int .i64 (nth l (m + 1)).from_, .int .i64 (nth l (m + 1)).to_] 117
            rw [← hW__, ← hB__]
            have e0 := hbox__ 0 _ rfl
            have e1 := hbox__ 1 _ rfl
            clear hW__ hB__ hbox__
            have d1'' := Ext.some hxW d1'
            refine wp_region_ext (by kernel_rfl) (by kernel_rfl) ?_
            repeat (
              (refine wpQuiet_step (fun K hK => ?_)
               go_simp
               first
                | (refine hK _ ?_; clear hK K)
                | (apply Exists.intro
                   refine ⟨fun w__ hx__ => ?_, hK _ ?_⟩
                   · have e0__ := Ext.some hx__ e0; have e1__ := Ext.some hx__ e1; have d1''__ := Ext.some hx__ d1''; first | exact rfl | (go_simp; done) | (go_simp; exact rfl) | (go_at_call 184; exact ext_of hx__ (spanRight_any _ _))
                   clear hK K)))
            refine wpQuiet_nil ?_
            intro w1 hx1
            go_wp2_with fail
            go_roundw
            case rel => exact ⟨m + 2, by omega, by go_num, all_succ HA.out (by rw [spanAt_succ, hs]; simpa using hle), hx.trans (hxW.trans hx1)⟩
            case measure => simp [intOf]; omega
          · have hgt : (nth l (m + 1)).from_ < (nth l m).to_ := by omega
            clear hle
            have HF : Hid (spansRight l = false) := Lib.hid (spansRight_false hlt (by rw [spanAt_succ, hs]; simpa using hgt))
            go_wp2_with fail
            obtain ⟨W, B, hW__, hB__, hxW, hbox__⟩ := box_new wr #[.int .i64 (nth l (m + 1)).from_, .int .i64 (nth l (m + 1)).to_] 117
            rw [← hW__, ← hB__]
            have e0 := hbox__ 0 _ rfl
            have e1 := hbox__ 1 _ rfl
            clear hW__ hB__ hbox__
            have d1'' := Ext.some hxW d1'
            refine wp_region_ext (by kernel_rfl) (by kernel_rfl) ?_
            repeat (
              (refine wpQuiet_step (fun K hK => ?_)
               go_simp
               first
                | (refine hK _ ?_; clear hK K)
                | (apply Exists.intro
                   refine ⟨fun w__ hx__ => ?_, hK _ ?_⟩
                   · have e0__ := Ext.some hx__ e0; have e1__ := Ext.some hx__ e1; have d1''__ := Ext.some hx__ d1''; first | exact rfl | (go_simp; done) | (go_simp; exact rfl) | (go_at_call 184; exact ext_of hx__ (spanRight_any _ _))
                   clear hK K)))
            refine wpQuiet_nil ?_
            intro w1 hx1
            go_wp2_with fail
            go_ret
            exact ⟨ret_bool HF.out.symm, hx.trans (hxW.trans hx1)⟩
        · obtain rfl : k = 0 := by omega
          simp only [Nat.zero_mul, Nat.add_zero] at c0' c1'
          go_wp2_with fail
          obtain ⟨W, B, hW__, hB__, hxW, hbox__⟩ := box_new wr #[.int .i64 (nth l 0).from_, .int .i64 (nth l 0).to_] 117
          rw [← hW__, ← hB__]
          have e0 := hbox__ 0 _ rfl
          have e1 := hbox__ 1 _ rfl
          clear hW__ hB__ hbox__
          refine wp_region_ext (by kernel_rfl) (by kernel_rfl) ?_
          repeat (
            (refine wpQuiet_step (fun K hK => ?_)
             go_simp
             first
              | (refine hK _ ?_; clear hK K)
              | (apply Exists.intro
                 refine ⟨fun w__ hx__ => ?_, hK _ ?_⟩
                 · have e0__ := Ext.some hx__ e0; have e1__ := Ext.some hx__ e1; first | exact rfl | (go_simp; done) | (go_simp; exact rfl) | (go_at_call 184; exact ext_of hx__ (spanRight_any _ _))
                 clear hK K)))
          refine wpQuiet_nil ?_
          intro w1 hx1
          go_wp2_with fail
          go_roundw
          case rel => exact ⟨1, by omega, by go_num, all_succ HA.out (by rw [spanAt_zero, hs]), hx.trans (hxW.trans hx1)⟩
          case measure => simp [intOf]; omega
      · have HF : Hid (spansRight l = false) := Lib.hid (spansRight_false hlt (spanAt_bad (by simpa using hs)))
        simp only [Bool.not_eq_true] at hs
        go_wp2_with fail
        obtain ⟨W, B, hW__, hB__, hxW, hbox__⟩ := box_new wr #[.int .i64 (nth l k).from_, .int .i64 (nth l k).to_] 117
        rw [← hW__, ← hB__]
        have e0 := hbox__ 0 _ rfl
        have e1 := hbox__ 1 _ rfl
        clear hW__ hB__ hbox__
        refine wp_region_ext (by kernel_rfl) (by kernel_rfl) ?_
        repeat (
          (refine wpQuiet_step (fun K hK => ?_)
           go_simp
           first
            | (refine hK _ ?_; clear hK K)
            | (apply Exists.intro
               refine ⟨fun w__ hx__ => ?_, hK _ ?_⟩
               · have e0__ := Ext.some hx__ e0; have e1__ := Ext.some hx__ e1; first | exact rfl | (go_simp; done) | (go_simp; exact rfl) | (go_at_call 184; exact ext_of hx__ (spanRight_any _ _))
               clear hK K)))
        refine wpQuiet_nil ?_
        intro w1 hx1
        go_wp2_with fail
        go_ret
        exact ⟨ret_bool HF.out.symm, hx.trans (hxW.trans hx1)⟩
    · have HF : Hid (spansRight l = decide (l.length ≤ 20)) := Lib.hid (spansRight_of fun i hi => HA.out i (by omega))
      go_wp2_with fail
      go_ret
      exact ⟨ret_bool (by rw [HF.out]; simp; omega), hx⟩
end Go.Proofs.YtocomclenbhhaaaGreat

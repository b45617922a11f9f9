/- The walks of the functions on spans. -/
import Derived.Test.YtocomclenbhhaaaGreatSmall
namespace Go.Proofs.YtocomclenbhhaaaGreat
open Go.RowKit
attribute [local irreducible] wpQuiet

theorem l03Span_any (x : Span) (w : World) :
    Calls Tryz.prog 177 #[.agg #[.int .i64 x.from_, .int .i64 x.to_]] w fun e w' => e = .returned (.bool (spanRight x)) ∧ Ext w w' := by
  go_enter Tryz.func177, Tryz.ntmps177
  go_wp2_with (go_at_call 179; refine (l02Time_any _ _).mono ?_; rintro e w' ⟨rfl, rfl⟩)
  all_goals (go_ret; exact ⟨ret_bool (by simp_all [spanRight, timeOk, isB]; try omega), (Ext.refl _).alloc _⟩)
theorem spanRight_any (x : Span) (w : World) :
    Calls Tryz.prog 184 #[.agg #[.int .i64 x.from_, .int .i64 x.to_]] w fun e w' => e = .returned (.bool (spanRight x)) ∧ Ext w w' := by
  go_enter Tryz.func184, Tryz.ntmps184
  go_wp2_with (go_at_call 187; refine (isTime_any _ _).mono ?_; rintro e w' ⟨rfl, rfl⟩)
  all_goals (go_ret; exact ⟨ret_bool (by simp_all [spanRight, timeOk, isB]; try omega), (Ext.refl _).alloc _⟩)

theorem Rd.span {S : Nat → Prop} {w : World} {v : Value} {l : List Span} (h : Rd ESpan S w v l) :
    ∃ A c, v = .slice A l.length c ∧ l.length ≤ c ∧ c ≤ maxLen ∧
      ∀ k, k < l.length → ∃ b o, A = some ⟨b, o, none⟩ ∧ b < w.heap.size ∧ w.cell? ⟨b, o + k * 2, none⟩ = some (.int .i64 (nth l k).from_) ∧ w.cell? ⟨b, o + k * 2 + 1, none⟩ = some (.int .i64 (nth l k).to_) := by
  obtain ⟨A, c, hv, h1, h2, hk⟩ := h.open_
  refine ⟨A, c, hv, h1, h2, fun k hlt => ?_⟩
  obtain ⟨b, o, cs, hA, _, ⟨rfl, _⟩, hc⟩ := hk k hlt
  have h0 := hc 0 _ rfl
  exact ⟨b, o, hA, World.block_lt_of_cell? w ⟨b, o + k * 2, none⟩ h0, h0, hc 1 _ rfl⟩

set_option maxHeartbeats 800000 in
theorem specSpansRight_any {S : Nat → Prop} (l : List Span) (v : Value) (w : World) (h : Rd ESpan S w v l) :
    Calls Tryz.prog 117 #[v] w fun e w' => e = .returned (.bool (spansRight l)) ∧ Ext w w' := by
  obtain ⟨A, c, rfl, h1, h2, hk⟩ := h.span
  unfold maxLen at h2
  have HK := Lib.hid hk
  clear hk
  clear h
  go_enter Tryz.func117, Tryz.ntmps117
  go_wp2_with fail
  go_loopw [3] (fun i w' => ∃ k : Nat, k ≤ l.length ∧ k ≤ 21 ∧ i = .int .i64 k ∧ (∀ j, j < k → spanAt l j = true) ∧ Ext w w') (fun i _ => 22 - (intOf i).toNat)
  case atStart => exact ⟨0, by omega, by omega, rfl, fun j hj => by omega, Ext.refl _⟩
  case round =>
    obtain ⟨k, hk1, hk2, rfl, hall, hx⟩ := hrel
    have HA := Lib.hid hall
    clear hall
    by_cases hlt : k < l.length
    · by_cases h20 : k ≤ 20
      · obtain ⟨b, o, rfl, hb, c0, c1⟩ := HK.out k hlt
        have c0' := Ext.some hx c0
        have c1' := Ext.some hx c1
        clear c0 c1
        by_cases hs : spanRight (nth l k) = true
        · by_cases h0 : 0 < k
          · obtain ⟨m, rfl⟩ : ∃ m, k = m + 1 := ⟨k - 1, by omega⟩
            obtain ⟨b', o', hbo, hb', d0, d1⟩ := HK.out m (by omega)
            cases hbo
            have d1' := Ext.some hx d1
            clear d0 d1 hb'
            have i0 : (0 : Int) ≤ (m : Int) + 1 := by omega
            have i1 : (m : Int) + 1 < (l.length : Int) := by omega
            have i2 : ((m : Int) + 1).toNat = m + 1 := by omega
            have i3 : IntKind.i64.wrap (m : Int) = (m : Int) := IntWalk.i64_in _ (by omega)
            have i4 : m < l.length := by omega
            by_cases hle : (nth l m).to_ ≤ (nth l (m + 1)).from_
            · go_wp2_with fail
              refine wp_region_ext (by kernel_rfl) (by kernel_rfl) ?_
              repeat (
                (refine wpQuiet_step (fun K hK => ?_)
                 go_simp
                 first
                  | (refine hK _ ?_; clear hK K)
                  | (apply Exists.intro
                     refine ⟨fun w__ hx__ => ?_, hK _ ?_⟩
                     · have c0'__ := Ext.some hx__ c0'; have c1'__ := Ext.some hx__ c1'; have d1'__ := Ext.some hx__ d1'; first | exact rfl | (go_simp; done) | (go_simp; exact rfl) | (go_at_call 177; exact ext_of hx__ (l03Span_any _ _))
                     clear hK K)))
              refine wpQuiet_nil ?_
              intro w1 hx1
              go_wp2_with fail
              go_roundw
              case rel => exact ⟨m + 2, by omega, by omega, by go_num, all_succ HA.out (by rw [spanAt_succ, hs]; simpa using hle), hx.trans hx1⟩
              case measure => simp [intOf]; omega
            · have hgt : (nth l (m + 1)).from_ < (nth l m).to_ := by omega
              clear hle
              have HF : Hid (spansRight l = false) := Lib.hid (spansRight_false hlt (by rw [spanAt_succ, hs]; simpa using hgt))
              go_wp2_with fail
              refine wp_region_ext (by kernel_rfl) (by kernel_rfl) ?_
              repeat (
                (refine wpQuiet_step (fun K hK => ?_)
                 go_simp
                 first
                  | (refine hK _ ?_; clear hK K)
                  | (apply Exists.intro
                     refine ⟨fun w__ hx__ => ?_, hK _ ?_⟩
                     · have c0'__ := Ext.some hx__ c0'; have c1'__ := Ext.some hx__ c1'; have d1'__ := Ext.some hx__ d1'; first | exact rfl | (go_simp; done) | (go_simp; exact rfl) | (go_at_call 177; exact ext_of hx__ (l03Span_any _ _))
                     clear hK K)))
              refine wpQuiet_nil ?_
              intro w1 hx1
              go_wp2_with fail
              go_ret
              exact ⟨ret_bool HF.out.symm, hx.trans hx1⟩
          · obtain rfl : k = 0 := by omega
            simp only [Nat.zero_mul, Nat.add_zero] at c0' c1'
            go_wp2_with fail
            refine wp_region_ext (by kernel_rfl) (by kernel_rfl) ?_
            repeat (
              (refine wpQuiet_step (fun K hK => ?_)
               go_simp
               first
                | (refine hK _ ?_; clear hK K)
                | (apply Exists.intro
                   refine ⟨fun w__ hx__ => ?_, hK _ ?_⟩
                   · have c0'__ := Ext.some hx__ c0'; have c1'__ := Ext.some hx__ c1'; first | exact rfl | (go_simp; done) | (go_simp; exact rfl) | (go_at_call 177; exact ext_of hx__ (l03Span_any _ _))
                   clear hK K)))
            refine wpQuiet_nil ?_
            intro w1 hx1
            go_wp2_with fail
            go_roundw
            case rel => exact ⟨1, by omega, by omega, by go_num, all_succ HA.out (by rw [spanAt_zero, hs]), hx.trans hx1⟩
            case measure => simp [intOf]
        · have HF : Hid (spansRight l = false) := Lib.hid (spansRight_false hlt (spanAt_bad (by simpa using hs)))
          simp only [Bool.not_eq_true] at hs
          go_wp2_with fail
          refine wp_region_ext (by kernel_rfl) (by kernel_rfl) ?_
          repeat (
            (refine wpQuiet_step (fun K hK => ?_)
             go_simp
             first
              | (refine hK _ ?_; clear hK K)
              | (apply Exists.intro
                 refine ⟨fun w__ hx__ => ?_, hK _ ?_⟩
                 · have c0'__ := Ext.some hx__ c0'; have c1'__ := Ext.some hx__ c1'; first | exact rfl | (go_simp; done) | (go_simp; exact rfl) | (go_at_call 177; exact ext_of hx__ (l03Span_any _ _))
                 clear hK K)))
          refine wpQuiet_nil ?_
          intro w1 hx1
          go_wp2_with fail
          go_ret
          exact ⟨ret_bool HF.out.symm, hx.trans hx1⟩
      · have HF : Hid (spansRight l = false) := Lib.hid (by unfold spansRight; rw [decide_eq_false (by omega)]; rfl)
        go_wp2_with fail
        go_ret
        exact ⟨ret_bool (by rw [HF.out]; simp; omega), hx⟩
    · have HF : Hid (spansRight l = decide (l.length ≤ 20)) := Lib.hid (spansRight_of fun i hi => HA.out i (by omega))
      go_wp2_with fail
      go_ret
      exact ⟨ret_bool (by rw [HF.out]; simp; omega), hx⟩
end Go.Proofs.YtocomclenbhhaaaGreat

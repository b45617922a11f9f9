/- Whether two data are equal: eq... Printed by wip/gen.py. -/
import Derived.Test.YtdhcbbbmajjehaaGreatRows
import Derived.Test.YtdhcbbbmajjehaaGreatGElems
import Derived.Test.YtdhcbbbmajjehaaGreatGSmall
namespace Go.Proofs.YtdhcbbbmajjehaaGreat
open Go.RowKit
attribute [local irreducible] wpQuiet

set_option maxHeartbeats 4000000 in
theorem eqLabel_any {S S' : Nat → Prop} (x y : Label) (cs ds : List Value) (w : World) (h : ELabel.rel S w cs x) (g : ELabel.rel S' w ds y) :
    Calls Tryz.prog 64 #[.agg cs.toArray, .agg ds.toArray] w fun e w' => e = .returned (.bool (decide (x = y))) ∧ Ext w w' := by
  obtain ⟨rfl, hi⟩ := h
  obtain ⟨rfl, gi⟩ := g
  have HI := Lib.hid hi
  have GI := Lib.hid gi
  clear hi gi
  simp only [cellsLabel]
  go_enter Tryz.func64, Tryz.ntmps64
  go_upto_region 1 with (fail)
  obtain ⟨W, B, hW, hB, hx0, a0, b0⟩ := boxes2 w #[.int .i64 x.level, .int .i64 x.set] #[.int .i64 y.level, .int .i64 y.set] 45 45
  rw [← hW, ← hB]
  clear hW hB
  have X0 := Lib.hid hx0
  have A0 := Lib.hid a0
  have B0 := Lib.hid b0
  clear hx0 a0 b0
  have ac := A0.out.cell
  have bc := B0.out.cell
  go_wp2_with fail
  all_goals (go_ret; exact ⟨ret_bool (by go_light; clear ac bc; simp_all [Label.ext_iff]), by first | exact X0.out⟩)

set_option maxHeartbeats 4000000 in
theorem eqInt64S_any {S S' : Nat → Prop} (l m : List Int) (v u : Value) (w : World) (h : Rd EInt S w v l) (g : Rd EInt S' w u m) :
    Calls Tryz.prog 65 #[v, u] w fun e w' => e = .returned (.bool (decide (l = m))) ∧ Ext w w' := by
  obtain ⟨A, c, rfl, h1, h2, hk⟩ := h.open_
  obtain ⟨A', c', rfl, g1, g2, gk⟩ := g.open_
  unfold maxLen at h2 g2
  have HK := Lib.hid hk
  have GK := Lib.hid gk
  clear hk gk h g
  by_cases hl : l.length = m.length
  · generalize hn : m.length = n at *
    have HN := Lib.hid hn
    subst hl
    clear hn
    go_enter Tryz.func65, Tryz.ntmps65
    go_wp2_with fail
    go_loopw [5] (fun i w' => ∃ k : Nat, k ≤ l.length ∧ i = .int .i64 k ∧ (∀ j, j < k → nth l j = nth m j) ∧ Ext w w') (fun i _ => l.length - (intOf i).toNat)
    case atStart => exact ⟨0, by omega, rfl, fun j hj => by omega, Ext.refl _⟩
    case round =>
      obtain ⟨k, hk1, rfl, hall, hx⟩ := hrel
      have HA := Lib.hid hall
      have HX := Lib.hid hx
      clear hall
      by_cases hlt : k < l.length
      · obtain ⟨b, o, cs, rfl, hb, hr, hc⟩ := HK.out k hlt
        obtain ⟨b', o', ds, rfl, gb, gr, gc⟩ := GK.out k hlt
        obtain ⟨rfl, _⟩ := hr
        obtain ⟨rfl, _⟩ := gr
        have c0 := Ext.some hx (hc 0 _ rfl)
        have d0 := Ext.some hx (gc 0 _ rfl)
        simp only [EInt, Nat.mul_one, Nat.add_zero] at c0 d0
        clear hc gc hx
        by_cases he : nth l k = nth m k
        · have HE := Lib.hid he
          have e1 : (nth l k != nth m k) = false := by simp [he]
          clear he
          go_wp2_with fail
          refine wp_region_ext (by kernel_rfl) (by kernel_rfl) ?_
          repeat (
            (refine wpQuiet_step (fun K hK => ?_)
             go_simp
             first
              | (refine hK _ ?_; clear hK K)
              | (apply Exists.intro
                 refine ⟨fun w__ hx__ => ?_, hK _ ?_⟩
                 · have c0__ := Ext.some hx__ c0; have d0__ := Ext.some hx__ d0; first | exact rfl | (go_simp; done) | (go_simp; exact rfl)
                 clear hK K)))
          refine wpQuiet_nil ?_
          intro w1 hx1
          go_wp2_with fail
          go_roundw
          case rel => exact ⟨k + 1, by omega, by go_num, all_succ HA.out HE.out, HX.out.trans hx1⟩
          case measure => simp [intOf]; omega
        · have HE := Lib.hid he
          have e1 : (nth l k != nth m k) = true := by simp [he]
          clear he
          go_wp2_with fail
          refine wp_region_ext (by kernel_rfl) (by kernel_rfl) ?_
          repeat (
            (refine wpQuiet_step (fun K hK => ?_)
             go_simp
             first
              | (refine hK _ ?_; clear hK K)
              | (apply Exists.intro
                 refine ⟨fun w__ hx__ => ?_, hK _ ?_⟩
                 · have c0__ := Ext.some hx__ c0; have d0__ := Ext.some hx__ d0; first | exact rfl | (go_simp; done) | (go_simp; exact rfl)
                 clear hK K)))
          refine wpQuiet_nil ?_
          intro w1 hx1
          go_wp2_with fail
          go_ret
          exact ⟨ret_bool (decide_eq_false fun e => HE.out (by rw [e])).symm, HX.out.trans hx1⟩
      · have HF : Hid (decide (l = m) = true) := Lib.hid (decide_eq_true (eq_of_nth HN.out.symm fun j hj => HA.out j (by omega)))
        go_wp2_with fail
        go_ret
        exact ⟨ret_bool HF.out.symm, HX.out⟩
  · have HL := Lib.hid hl
    have e1 : ((l.length : Int) != (m.length : Int)) = true := by simp; omega
    have e2 : (l.length != m.length) = true := by simp; omega
    go_enter Tryz.func65, Tryz.ntmps65
    go_wp2_with fail
    go_ret
    exact ⟨ret_bool (decide_eq_false fun e => HL.out (by rw [e])).symm, Ext.refl _⟩

set_option maxHeartbeats 4000000 in
theorem eqPair_any {S S' : Nat → Prop} (x y : Pair) (cs ds : List Value) (w : World) (h : EPair.rel S w cs x) (g : EPair.rel S' w ds y) :
    Calls Tryz.prog 48 #[.agg cs.toArray, .agg ds.toArray] w fun e w' => e = .returned (.bool (decide (x = y))) ∧ Ext w w' := by
  obtain ⟨rfl, hi⟩ := h
  obtain ⟨rfl, gi⟩ := g
  have HI := Lib.hid hi
  have GI := Lib.hid gi
  clear hi gi
  simp only [cellsPair]
  go_enter Tryz.func48, Tryz.ntmps48
  go_upto_region 1 with (fail)
  obtain ⟨W, B, hW, hB, hx0, a0, b0⟩ := boxes2 w #[.int .i64 x.from_.level, .int .i64 x.from_.set, .int .i64 x.to_.level, .int .i64 x.to_.set, .int .i64 x.rate] #[.int .i64 y.from_.level, .int .i64 y.from_.set, .int .i64 y.to_.level, .int .i64 y.to_.set, .int .i64 y.rate] 58 58
  rw [← hW, ← hB]
  clear hW hB
  have X0 := Lib.hid hx0
  have A0 := Lib.hid a0
  have B0 := Lib.hid b0
  clear hx0 a0 b0
  have ac := A0.out.cell
  have bc := B0.out.cell
  go_wp2_with (first
    | (go_at_call 64; (with_reducible refine (eqLabel_any (S := S) (S' := S') x.from_ y.from_ [.int .i64 x.from_.level, .int .i64 x.from_.set] [.int .i64 y.from_.level, .int .i64 y.from_.set] _ (rel_Label (by have hf := HI.out; simp only [FitPair] at hf; simp only [FitLabel, hf, and_self])) (rel_Label (by have hf := GI.out; simp only [FitPair] at hf; simp only [FitLabel, hf, and_self]))).mono ?_); rintro e w1 ⟨rfl, hx⟩; have X1 := Lib.hid (X0.out.trans hx); have A1 := Lib.hid (A0.out.ext hx); have B1 := Lib.hid (B0.out.ext hx); clear hx X0 A0 B0 ac bc; have ac := A1.out.cell; have bc := B1.out.cell)
    | (go_at_call 64; (with_reducible refine (eqLabel_any (S := S) (S' := S') x.to_ y.to_ [.int .i64 x.to_.level, .int .i64 x.to_.set] [.int .i64 y.to_.level, .int .i64 y.to_.set] _ (rel_Label (by have hf := HI.out; simp only [FitPair] at hf; simp only [FitLabel, hf, and_self])) (rel_Label (by have hf := GI.out; simp only [FitPair] at hf; simp only [FitLabel, hf, and_self]))).mono ?_); rintro e w2 ⟨rfl, hx⟩; have X2 := Lib.hid (X1.out.trans hx); have A2 := Lib.hid (A1.out.ext hx); have B2 := Lib.hid (B1.out.ext hx); clear hx X1 A1 B1 ac bc; have ac := A2.out.cell; have bc := B2.out.cell))
  all_goals (go_ret; exact ⟨ret_bool (by go_light; clear ac bc; simp_all [Pair.ext_iff]), by first | exact X2.out | exact X1.out | exact X0.out⟩)

set_option maxHeartbeats 4000000 in
theorem eqQuota_any {S S' : Nat → Prop} (x y : Quota) (cs ds : List Value) (w : World) (h : EQuota.rel S w cs x) (g : EQuota.rel S' w ds y) :
    Calls Tryz.prog 49 #[.agg cs.toArray, .agg ds.toArray] w fun e w' => e = .returned (.bool (decide (x = y))) ∧ Ext w w' := by
  obtain ⟨rfl, hi⟩ := h
  obtain ⟨rfl, gi⟩ := g
  have HI := Lib.hid hi
  have GI := Lib.hid gi
  clear hi gi
  simp only [cellsQuota]
  go_enter Tryz.func49, Tryz.ntmps49
  go_upto_region 1 with (fail)
  obtain ⟨W, B, hW, hB, hx0, a0, b0⟩ := boxes2 w #[.int .i64 x.label.level, .int .i64 x.label.set, .int .i64 x.most] #[.int .i64 y.label.level, .int .i64 y.label.set, .int .i64 y.most] 93 93
  rw [← hW, ← hB]
  clear hW hB
  have X0 := Lib.hid hx0
  have A0 := Lib.hid a0
  have B0 := Lib.hid b0
  clear hx0 a0 b0
  have ac := A0.out.cell
  have bc := B0.out.cell
  go_wp2_with (first
    | (go_at_call 64; (with_reducible refine (eqLabel_any (S := S) (S' := S') x.label y.label [.int .i64 x.label.level, .int .i64 x.label.set] [.int .i64 y.label.level, .int .i64 y.label.set] _ (rel_Label (by have hf := HI.out; simp only [FitQuota] at hf; simp only [FitLabel, hf, and_self])) (rel_Label (by have hf := GI.out; simp only [FitQuota] at hf; simp only [FitLabel, hf, and_self]))).mono ?_); rintro e w1 ⟨rfl, hx⟩; have X1 := Lib.hid (X0.out.trans hx); have A1 := Lib.hid (A0.out.ext hx); have B1 := Lib.hid (B0.out.ext hx); clear hx X0 A0 B0 ac bc; have ac := A1.out.cell; have bc := B1.out.cell))
  all_goals (go_ret; exact ⟨ret_bool (by go_light; clear ac bc; simp_all [Quota.ext_iff]), by first | exact X1.out | exact X0.out⟩)

set_option maxHeartbeats 4000000 in
theorem eqLabelS_any {S S' : Nat → Prop} (l m : List Label) (v u : Value) (w : World) (h : Rd ELabel S w v l) (g : Rd ELabel S' w u m) :
    Calls Tryz.prog 47 #[v, u] w fun e w' => e = .returned (.bool (decide (l = m))) ∧ Ext w w' := by
  obtain ⟨A, c, rfl, h1, h2, hk⟩ := h.open_
  obtain ⟨A', c', rfl, g1, g2, gk⟩ := g.open_
  unfold maxLen at h2 g2
  have HK := Lib.hid hk
  have GK := Lib.hid gk
  clear hk gk h g
  by_cases hl : l.length = m.length
  · generalize hn : m.length = n at *
    have HN := Lib.hid hn
    subst hl
    clear hn
    go_enter Tryz.func47, Tryz.ntmps47
    go_wp2_with fail
    go_loopw [5] (fun i w' => ∃ k : Nat, k ≤ l.length ∧ i = .int .i64 k ∧ (∀ j, j < k → nth l j = nth m j) ∧ Ext w w') (fun i _ => l.length - (intOf i).toNat)
    case atStart => exact ⟨0, by omega, rfl, fun j hj => by omega, Ext.refl _⟩
    case round =>
      obtain ⟨k, hk1, rfl, hall, hx⟩ := hrel
      have HA := Lib.hid hall
      have HX := Lib.hid hx
      clear hall
      by_cases hlt : k < l.length
      · obtain ⟨b, o, cs, rfl, hb, hr, hc⟩ := HK.out k hlt
        obtain ⟨b', o', ds, rfl, gb, gr, gc⟩ := GK.out k hlt
        have HR := Lib.hid (ELabel.keep (hx.same S) hr)
        have GR := Lib.hid (ELabel.keep (hx.same S') gr)
        have HC := Lib.hid (hx.range hc)
        have GC := Lib.hid (hx.range gc)
        have HI : Hid ((Tryz.prog.info? 45).map (·.size) = some cs.length) := Lib.hid (by rw [ELabel.len hr]; kernel_rfl)
        have GI : Hid ((Tryz.prog.info? 45).map (·.size) = some ds.length) := Lib.hid (by rw [ELabel.len gr]; kernel_rfl)
        clear hr gr hc gc hx
        by_cases he : nth l k = nth m k
        · have HE := Lib.hid he
          have e1 : decide (nth l k = nth m k) = true := by simp [he]
          clear he
          go_wp2_with fail
          refine wp_region_ext (by kernel_rfl) (by kernel_rfl) ?_
          repeat (
            first
            | (refine wpQuiet_load (by rfl) 45 _ rfl b (o + k * 2) rfl cs _ (fun w__ hx__ => hx__.range HC.out) Tryz.underlying45 rfl HI.out ?_; simp only [Act.put, List.setIfInBounds_toArray, List.set_cons_zero, List.set_cons_succ])
            | (refine wpQuiet_load (by rfl) 45 _ rfl b' (o' + k * 2) rfl ds _ (fun w__ hx__ => hx__.range GC.out) Tryz.underlying45 rfl GI.out ?_; simp only [Act.put, List.setIfInBounds_toArray, List.set_cons_zero, List.set_cons_succ])
            | (refine wpQuiet_step (fun K hK => ?_)
               go_simp
               first
                | (refine hK _ ?_; clear hK K)
                | (apply Exists.intro
                   refine ⟨fun w__ hx__ => ?_, hK _ ?_⟩
                   · first | exact rfl | (go_simp; done) | (go_simp; exact rfl) | (go_at_call 64; exact ext_of hx__ (eqLabel_any (nth l k) (nth m k) cs ds _ (ELabel.keep (hx__.same S) HR.out) (ELabel.keep (hx__.same S') GR.out)))
                   clear hK K)))
          refine wpQuiet_nil ?_
          intro w1 hx1
          go_wp2_with fail
          go_roundw
          case rel => exact ⟨k + 1, by omega, by go_num, all_succ HA.out HE.out, HX.out.trans hx1⟩
          case measure => simp [intOf]; omega
        · have HE := Lib.hid he
          have e1 : decide (nth l k = nth m k) = false := by simp [he]
          clear he
          go_wp2_with fail
          refine wp_region_ext (by kernel_rfl) (by kernel_rfl) ?_
          repeat (
            first
            | (refine wpQuiet_load (by rfl) 45 _ rfl b (o + k * 2) rfl cs _ (fun w__ hx__ => hx__.range HC.out) Tryz.underlying45 rfl HI.out ?_; simp only [Act.put, List.setIfInBounds_toArray, List.set_cons_zero, List.set_cons_succ])
            | (refine wpQuiet_load (by rfl) 45 _ rfl b' (o' + k * 2) rfl ds _ (fun w__ hx__ => hx__.range GC.out) Tryz.underlying45 rfl GI.out ?_; simp only [Act.put, List.setIfInBounds_toArray, List.set_cons_zero, List.set_cons_succ])
            | (refine wpQuiet_step (fun K hK => ?_)
               go_simp
               first
                | (refine hK _ ?_; clear hK K)
                | (apply Exists.intro
                   refine ⟨fun w__ hx__ => ?_, hK _ ?_⟩
                   · first | exact rfl | (go_simp; done) | (go_simp; exact rfl) | (go_at_call 64; exact ext_of hx__ (eqLabel_any (nth l k) (nth m k) cs ds _ (ELabel.keep (hx__.same S) HR.out) (ELabel.keep (hx__.same S') GR.out)))
                   clear hK K)))
          refine wpQuiet_nil ?_
          intro w1 hx1
          go_wp2_with fail
          go_ret
          exact ⟨ret_bool (decide_eq_false fun e => HE.out (by rw [e])).symm, HX.out.trans hx1⟩
      · have HF : Hid (decide (l = m) = true) := Lib.hid (decide_eq_true (eq_of_nth HN.out.symm fun j hj => HA.out j (by omega)))
        go_wp2_with fail
        go_ret
        exact ⟨ret_bool HF.out.symm, HX.out⟩
  · have HL := Lib.hid hl
    have e1 : ((l.length : Int) != (m.length : Int)) = true := by simp; omega
    have e2 : (l.length != m.length) = true := by simp; omega
    go_enter Tryz.func47, Tryz.ntmps47
    go_wp2_with fail
    go_ret
    exact ⟨ret_bool (decide_eq_false fun e => HL.out (by rw [e])).symm, Ext.refl _⟩

set_option maxHeartbeats 4000000 in
theorem eqLabelSS_any {S S' : Nat → Prop} (l m : List (List Label)) (v u : Value) (w : World) (h : Rd (ERow ELabel) S w v l) (g : Rd (ERow ELabel) S' w u m) :
    Calls Tryz.prog 29 #[v, u] w fun e w' => e = .returned (.bool (decide (l = m))) ∧ Ext w w' := by
  obtain ⟨A, c, rfl, h1, h2, hk⟩ := h.open_
  obtain ⟨A', c', rfl, g1, g2, gk⟩ := g.open_
  unfold maxLen at h2 g2
  have HK := Lib.hid hk
  have GK := Lib.hid gk
  clear hk gk h g
  by_cases hl : l.length = m.length
  · generalize hn : m.length = n at *
    have HN := Lib.hid hn
    subst hl
    clear hn
    go_enter Tryz.func29, Tryz.ntmps29
    go_wp2_with fail
    go_loopw [5] (fun i w' => ∃ k : Nat, k ≤ l.length ∧ i = .int .i64 k ∧ (∀ j, j < k → nth l j = nth m j) ∧ Ext w w') (fun i _ => l.length - (intOf i).toNat)
    case atStart => exact ⟨0, by omega, rfl, fun j hj => by omega, Ext.refl _⟩
    case round =>
      obtain ⟨k, hk1, rfl, hall, hx⟩ := hrel
      have HA := Lib.hid hall
      have HX := Lib.hid hx
      clear hall
      by_cases hlt : k < l.length
      · obtain ⟨b, o, cs, rfl, hb, hr, hc⟩ := HK.out k hlt
        obtain ⟨b', o', ds, rfl, gb, gr, gc⟩ := GK.out k hlt
        obtain ⟨v, rfl, hr⟩ := hr
        obtain ⟨u, rfl, gr⟩ := gr
        have c0 := Ext.some hx (hc 0 _ rfl)
        have d0 := Ext.some hx (gc 0 _ rfl)
        have HR := Lib.hid (hr.ext hx)
        have GR := Lib.hid (gr.ext hx)
        simp only [ERow, Nat.mul_one, Nat.add_zero] at c0 d0
        clear hc gc hr gr hx
        by_cases he : nth l k = nth m k
        · have HE := Lib.hid he
          have e1 : decide (nth l k = nth m k) = true := by simp [he]
          clear he
          go_wp2_with fail
          refine wp_region_ext (by kernel_rfl) (by kernel_rfl) ?_
          repeat (
            (refine wpQuiet_step (fun K hK => ?_)
             go_simp
             first
              | (refine hK _ ?_; clear hK K)
              | (apply Exists.intro
                 refine ⟨fun w__ hx__ => ?_, hK _ ?_⟩
                 · have c0__ := Ext.some hx__ c0; have d0__ := Ext.some hx__ d0; first | exact rfl | (go_simp; done) | (go_simp; exact rfl) | (go_at_call 47; exact ext_of hx__ (eqLabelS_any (nth l k) (nth m k) v u _ (HR.out.ext hx__) (GR.out.ext hx__)))
                 clear hK K)))
          refine wpQuiet_nil ?_
          intro w1 hx1
          go_wp2_with fail
          go_roundw
          case rel => exact ⟨k + 1, by omega, by go_num, all_succ HA.out HE.out, HX.out.trans hx1⟩
          case measure => simp [intOf]; omega
        · have HE := Lib.hid he
          have e1 : decide (nth l k = nth m k) = false := by simp [he]
          clear he
          go_wp2_with fail
          refine wp_region_ext (by kernel_rfl) (by kernel_rfl) ?_
          repeat (
            (refine wpQuiet_step (fun K hK => ?_)
             go_simp
             first
              | (refine hK _ ?_; clear hK K)
              | (apply Exists.intro
                 refine ⟨fun w__ hx__ => ?_, hK _ ?_⟩
                 · have c0__ := Ext.some hx__ c0; have d0__ := Ext.some hx__ d0; first | exact rfl | (go_simp; done) | (go_simp; exact rfl) | (go_at_call 47; exact ext_of hx__ (eqLabelS_any (nth l k) (nth m k) v u _ (HR.out.ext hx__) (GR.out.ext hx__)))
                 clear hK K)))
          refine wpQuiet_nil ?_
          intro w1 hx1
          go_wp2_with fail
          go_ret
          exact ⟨ret_bool (decide_eq_false fun e => HE.out (by rw [e])).symm, HX.out.trans hx1⟩
      · have HF : Hid (decide (l = m) = true) := Lib.hid (decide_eq_true (eq_of_nth HN.out.symm fun j hj => HA.out j (by omega)))
        go_wp2_with fail
        go_ret
        exact ⟨ret_bool HF.out.symm, HX.out⟩
  · have HL := Lib.hid hl
    have e1 : ((l.length : Int) != (m.length : Int)) = true := by simp; omega
    have e2 : (l.length != m.length) = true := by simp; omega
    go_enter Tryz.func29, Tryz.ntmps29
    go_wp2_with fail
    go_ret
    exact ⟨ret_bool (decide_eq_false fun e => HL.out (by rw [e])).symm, Ext.refl _⟩

set_option maxHeartbeats 4000000 in
theorem eqPairS_any {S S' : Nat → Prop} (l m : List Pair) (v u : Value) (w : World) (h : Rd EPair S w v l) (g : Rd EPair S' w u m) :
    Calls Tryz.prog 30 #[v, u] w fun e w' => e = .returned (.bool (decide (l = m))) ∧ Ext w w' := by
  obtain ⟨A, c, rfl, h1, h2, hk⟩ := h.open_
  obtain ⟨A', c', rfl, g1, g2, gk⟩ := g.open_
  unfold maxLen at h2 g2
  have HK := Lib.hid hk
  have GK := Lib.hid gk
  clear hk gk h g
  by_cases hl : l.length = m.length
  · generalize hn : m.length = n at *
    have HN := Lib.hid hn
    subst hl
    clear hn
    go_enter Tryz.func30, Tryz.ntmps30
    go_wp2_with fail
    go_loopw [5] (fun i w' => ∃ k : Nat, k ≤ l.length ∧ i = .int .i64 k ∧ (∀ j, j < k → nth l j = nth m j) ∧ Ext w w') (fun i _ => l.length - (intOf i).toNat)
    case atStart => exact ⟨0, by omega, rfl, fun j hj => by omega, Ext.refl _⟩
    case round =>
      obtain ⟨k, hk1, rfl, hall, hx⟩ := hrel
      have HA := Lib.hid hall
      have HX := Lib.hid hx
      clear hall
      by_cases hlt : k < l.length
      · obtain ⟨b, o, cs, rfl, hb, hr, hc⟩ := HK.out k hlt
        obtain ⟨b', o', ds, rfl, gb, gr, gc⟩ := GK.out k hlt
        have HR := Lib.hid (EPair.keep (hx.same S) hr)
        have GR := Lib.hid (EPair.keep (hx.same S') gr)
        have HC := Lib.hid (hx.range hc)
        have GC := Lib.hid (hx.range gc)
        have HI : Hid ((Tryz.prog.info? 58).map (·.size) = some cs.length) := Lib.hid (by rw [EPair.len hr]; kernel_rfl)
        have GI : Hid ((Tryz.prog.info? 58).map (·.size) = some ds.length) := Lib.hid (by rw [EPair.len gr]; kernel_rfl)
        clear hr gr hc gc hx
        by_cases he : nth l k = nth m k
        · have HE := Lib.hid he
          have e1 : decide (nth l k = nth m k) = true := by simp [he]
          clear he
          go_wp2_with fail
          refine wp_region_ext (by kernel_rfl) (by kernel_rfl) ?_
          repeat (
            first
            | (refine wpQuiet_load (by rfl) 58 _ rfl b (o + k * 5) rfl cs _ (fun w__ hx__ => hx__.range HC.out) Tryz.underlying58 rfl HI.out ?_; simp only [Act.put, List.setIfInBounds_toArray, List.set_cons_zero, List.set_cons_succ])
            | (refine wpQuiet_load (by rfl) 58 _ rfl b' (o' + k * 5) rfl ds _ (fun w__ hx__ => hx__.range GC.out) Tryz.underlying58 rfl GI.out ?_; simp only [Act.put, List.setIfInBounds_toArray, List.set_cons_zero, List.set_cons_succ])
            | (refine wpQuiet_step (fun K hK => ?_)
               go_simp
               first
                | (refine hK _ ?_; clear hK K)
                | (apply Exists.intro
                   refine ⟨fun w__ hx__ => ?_, hK _ ?_⟩
                   · first | exact rfl | (go_simp; done) | (go_simp; exact rfl) | (go_at_call 48; exact ext_of hx__ (eqPair_any (nth l k) (nth m k) cs ds _ (EPair.keep (hx__.same S) HR.out) (EPair.keep (hx__.same S') GR.out)))
                   clear hK K)))
          refine wpQuiet_nil ?_
          intro w1 hx1
          go_wp2_with fail
          go_roundw
          case rel => exact ⟨k + 1, by omega, by go_num, all_succ HA.out HE.out, HX.out.trans hx1⟩
          case measure => simp [intOf]; omega
        · have HE := Lib.hid he
          have e1 : decide (nth l k = nth m k) = false := by simp [he]
          clear he
          go_wp2_with fail
          refine wp_region_ext (by kernel_rfl) (by kernel_rfl) ?_
          repeat (
            first
            | (refine wpQuiet_load (by rfl) 58 _ rfl b (o + k * 5) rfl cs _ (fun w__ hx__ => hx__.range HC.out) Tryz.underlying58 rfl HI.out ?_; simp only [Act.put, List.setIfInBounds_toArray, List.set_cons_zero, List.set_cons_succ])
            | (refine wpQuiet_load (by rfl) 58 _ rfl b' (o' + k * 5) rfl ds _ (fun w__ hx__ => hx__.range GC.out) Tryz.underlying58 rfl GI.out ?_; simp only [Act.put, List.setIfInBounds_toArray, List.set_cons_zero, List.set_cons_succ])
            | (refine wpQuiet_step (fun K hK => ?_)
               go_simp
               first
                | (refine hK _ ?_; clear hK K)
                | (apply Exists.intro
                   refine ⟨fun w__ hx__ => ?_, hK _ ?_⟩
                   · first | exact rfl | (go_simp; done) | (go_simp; exact rfl) | (go_at_call 48; exact ext_of hx__ (eqPair_any (nth l k) (nth m k) cs ds _ (EPair.keep (hx__.same S) HR.out) (EPair.keep (hx__.same S') GR.out)))
                   clear hK K)))
          refine wpQuiet_nil ?_
          intro w1 hx1
          go_wp2_with fail
          go_ret
          exact ⟨ret_bool (decide_eq_false fun e => HE.out (by rw [e])).symm, HX.out.trans hx1⟩
      · have HF : Hid (decide (l = m) = true) := Lib.hid (decide_eq_true (eq_of_nth HN.out.symm fun j hj => HA.out j (by omega)))
        go_wp2_with fail
        go_ret
        exact ⟨ret_bool HF.out.symm, HX.out⟩
  · have HL := Lib.hid hl
    have e1 : ((l.length : Int) != (m.length : Int)) = true := by simp; omega
    have e2 : (l.length != m.length) = true := by simp; omega
    go_enter Tryz.func30, Tryz.ntmps30
    go_wp2_with fail
    go_ret
    exact ⟨ret_bool (decide_eq_false fun e => HL.out (by rw [e])).symm, Ext.refl _⟩

set_option maxHeartbeats 4000000 in
theorem eqQuotaS_any {S S' : Nat → Prop} (l m : List Quota) (v u : Value) (w : World) (h : Rd EQuota S w v l) (g : Rd EQuota S' w u m) :
    Calls Tryz.prog 31 #[v, u] w fun e w' => e = .returned (.bool (decide (l = m))) ∧ Ext w w' := by
  obtain ⟨A, c, rfl, h1, h2, hk⟩ := h.open_
  obtain ⟨A', c', rfl, g1, g2, gk⟩ := g.open_
  unfold maxLen at h2 g2
  have HK := Lib.hid hk
  have GK := Lib.hid gk
  clear hk gk h g
  by_cases hl : l.length = m.length
  · generalize hn : m.length = n at *
    have HN := Lib.hid hn
    subst hl
    clear hn
    go_enter Tryz.func31, Tryz.ntmps31
    go_wp2_with fail
    go_loopw [5] (fun i w' => ∃ k : Nat, k ≤ l.length ∧ i = .int .i64 k ∧ (∀ j, j < k → nth l j = nth m j) ∧ Ext w w') (fun i _ => l.length - (intOf i).toNat)
    case atStart => exact ⟨0, by omega, rfl, fun j hj => by omega, Ext.refl _⟩
    case round =>
      obtain ⟨k, hk1, rfl, hall, hx⟩ := hrel
      have HA := Lib.hid hall
      have HX := Lib.hid hx
      clear hall
      by_cases hlt : k < l.length
      · obtain ⟨b, o, cs, rfl, hb, hr, hc⟩ := HK.out k hlt
        obtain ⟨b', o', ds, rfl, gb, gr, gc⟩ := GK.out k hlt
        have HR := Lib.hid (EQuota.keep (hx.same S) hr)
        have GR := Lib.hid (EQuota.keep (hx.same S') gr)
        have HC := Lib.hid (hx.range hc)
        have GC := Lib.hid (hx.range gc)
        have HI : Hid ((Tryz.prog.info? 93).map (·.size) = some cs.length) := Lib.hid (by rw [EQuota.len hr]; kernel_rfl)
        have GI : Hid ((Tryz.prog.info? 93).map (·.size) = some ds.length) := Lib.hid (by rw [EQuota.len gr]; kernel_rfl)
        clear hr gr hc gc hx
        by_cases he : nth l k = nth m k
        · have HE := Lib.hid he
          have e1 : decide (nth l k = nth m k) = true := by simp [he]
          clear he
          go_wp2_with fail
          refine wp_region_ext (by kernel_rfl) (by kernel_rfl) ?_
          repeat (
            first
            | (refine wpQuiet_load (by rfl) 93 _ rfl b (o + k * 3) rfl cs _ (fun w__ hx__ => hx__.range HC.out) Tryz.underlying93 rfl HI.out ?_; simp only [Act.put, List.setIfInBounds_toArray, List.set_cons_zero, List.set_cons_succ])
            | (refine wpQuiet_load (by rfl) 93 _ rfl b' (o' + k * 3) rfl ds _ (fun w__ hx__ => hx__.range GC.out) Tryz.underlying93 rfl GI.out ?_; simp only [Act.put, List.setIfInBounds_toArray, List.set_cons_zero, List.set_cons_succ])
            | (refine wpQuiet_step (fun K hK => ?_)
               go_simp
               first
                | (refine hK _ ?_; clear hK K)
                | (apply Exists.intro
                   refine ⟨fun w__ hx__ => ?_, hK _ ?_⟩
                   · first | exact rfl | (go_simp; done) | (go_simp; exact rfl) | (go_at_call 49; exact ext_of hx__ (eqQuota_any (nth l k) (nth m k) cs ds _ (EQuota.keep (hx__.same S) HR.out) (EQuota.keep (hx__.same S') GR.out)))
                   clear hK K)))
          refine wpQuiet_nil ?_
          intro w1 hx1
          go_wp2_with fail
          go_roundw
          case rel => exact ⟨k + 1, by omega, by go_num, all_succ HA.out HE.out, HX.out.trans hx1⟩
          case measure => simp [intOf]; omega
        · have HE := Lib.hid he
          have e1 : decide (nth l k = nth m k) = false := by simp [he]
          clear he
          go_wp2_with fail
          refine wp_region_ext (by kernel_rfl) (by kernel_rfl) ?_
          repeat (
            first
            | (refine wpQuiet_load (by rfl) 93 _ rfl b (o + k * 3) rfl cs _ (fun w__ hx__ => hx__.range HC.out) Tryz.underlying93 rfl HI.out ?_; simp only [Act.put, List.setIfInBounds_toArray, List.set_cons_zero, List.set_cons_succ])
            | (refine wpQuiet_load (by rfl) 93 _ rfl b' (o' + k * 3) rfl ds _ (fun w__ hx__ => hx__.range GC.out) Tryz.underlying93 rfl GI.out ?_; simp only [Act.put, List.setIfInBounds_toArray, List.set_cons_zero, List.set_cons_succ])
            | (refine wpQuiet_step (fun K hK => ?_)
               go_simp
               first
                | (refine hK _ ?_; clear hK K)
                | (apply Exists.intro
                   refine ⟨fun w__ hx__ => ?_, hK _ ?_⟩
                   · first | exact rfl | (go_simp; done) | (go_simp; exact rfl) | (go_at_call 49; exact ext_of hx__ (eqQuota_any (nth l k) (nth m k) cs ds _ (EQuota.keep (hx__.same S) HR.out) (EQuota.keep (hx__.same S') GR.out)))
                   clear hK K)))
          refine wpQuiet_nil ?_
          intro w1 hx1
          go_wp2_with fail
          go_ret
          exact ⟨ret_bool (decide_eq_false fun e => HE.out (by rw [e])).symm, HX.out.trans hx1⟩
      · have HF : Hid (decide (l = m) = true) := Lib.hid (decide_eq_true (eq_of_nth HN.out.symm fun j hj => HA.out j (by omega)))
        go_wp2_with fail
        go_ret
        exact ⟨ret_bool HF.out.symm, HX.out⟩
  · have HL := Lib.hid hl
    have e1 : ((l.length : Int) != (m.length : Int)) = true := by simp; omega
    have e2 : (l.length != m.length) = true := by simp; omega
    go_enter Tryz.func31, Tryz.ntmps31
    go_wp2_with fail
    go_ret
    exact ⟨ret_bool (decide_eq_false fun e => HL.out (by rw [e])).symm, Ext.refl _⟩

set_option maxHeartbeats 4000000 in
theorem eqConfig_any {S S' : Nat → Prop} (x y : Config) (cs ds : List Value) (w : World) (h : EConfig.rel S w cs x) (g : EConfig.rel S' w ds y) :
    Calls Tryz.prog 11 #[.agg cs.toArray, .agg ds.toArray] w fun e w' => e = .returned (.bool (decide (x = y))) ∧ Ext w w' := by
  obtain ⟨v1, v2, v3, rfl, hi, h1, h2, h3⟩ := h
  obtain ⟨u1, u2, u3, rfl, gi, g1, g2, g3⟩ := g
  have H1 := Lib.hid h1
  have G1 := Lib.hid g1
  have H2 := Lib.hid h2
  have G2 := Lib.hid g2
  have H3 := Lib.hid h3
  have G3 := Lib.hid g3
  clear h1 g1 h2 g2 h3 g3
  have HI := Lib.hid hi
  have GI := Lib.hid gi
  clear hi gi
  simp only [cellsConfig]
  go_enter Tryz.func11, Tryz.ntmps11
  go_upto_region 1 with (fail)
  obtain ⟨W, B, hW, hB, hx0, a0, b0⟩ := boxes2 w #[v1, v2, v3, .int .i64 x.half] #[u1, u2, u3, .int .i64 y.half] 39 39
  rw [← hW, ← hB]
  clear hW hB
  have X0 := Lib.hid hx0
  have A0 := Lib.hid a0
  have B0 := Lib.hid b0
  clear hx0 a0 b0
  have ac := A0.out.cell
  have bc := B0.out.cell
  go_wp2_with (first
    | (go_at_call 29; (with_reducible refine (eqLabelSS_any x.nodes y.nodes v1 u1 _ (H1.out.ext X0.out) (G1.out.ext X0.out)).mono ?_); rintro e w1 ⟨rfl, hx⟩; have X1 := Lib.hid (X0.out.trans hx); have A1 := Lib.hid (A0.out.ext hx); have B1 := Lib.hid (B0.out.ext hx); clear hx X0 A0 B0 ac bc; have ac := A1.out.cell; have bc := B1.out.cell)
    | (go_at_call 30; (with_reducible refine (eqPairS_any x.pairs y.pairs v2 u2 _ (H2.out.ext X1.out) (G2.out.ext X1.out)).mono ?_); rintro e w2 ⟨rfl, hx⟩; have X2 := Lib.hid (X1.out.trans hx); have A2 := Lib.hid (A1.out.ext hx); have B2 := Lib.hid (B1.out.ext hx); clear hx X1 A1 B1 ac bc; have ac := A2.out.cell; have bc := B2.out.cell)
    | (go_at_call 31; (with_reducible refine (eqQuotaS_any x.quotas y.quotas v3 u3 _ (H3.out.ext X2.out) (G3.out.ext X2.out)).mono ?_); rintro e w3 ⟨rfl, hx⟩; have X3 := Lib.hid (X2.out.trans hx); have A3 := Lib.hid (A2.out.ext hx); have B3 := Lib.hid (B2.out.ext hx); clear hx X2 A2 B2 ac bc; have ac := A3.out.cell; have bc := B3.out.cell))
  all_goals (go_ret; exact ⟨ret_bool (by go_light; clear ac bc; simp_all [Config.ext_iff]), by first | exact X3.out | exact X2.out | exact X1.out | exact X0.out⟩)

set_option maxHeartbeats 4000000 in
theorem eqNote_any {S S' : Nat → Prop} (x y : Note) (cs ds : List Value) (w : World) (h : ENote.rel S w cs x) (g : ENote.rel S' w ds y) :
    Calls Tryz.prog 81 #[.agg cs.toArray, .agg ds.toArray] w fun e w' => e = .returned (.bool (decide (x = y))) ∧ Ext w w' := by
  obtain ⟨rfl, hi⟩ := h
  obtain ⟨rfl, gi⟩ := g
  have HI := Lib.hid hi
  have GI := Lib.hid gi
  clear hi gi
  simp only [cellsNote]
  go_enter Tryz.func81, Tryz.ntmps81
  go_upto_region 1 with (fail)
  obtain ⟨W, B, hW, hB, hx0, a0, b0⟩ := boxes2 w #[.int .i64 x.at_, .int .i64 x.word] #[.int .i64 y.at_, .int .i64 y.word] 82 82
  rw [← hW, ← hB]
  clear hW hB
  have X0 := Lib.hid hx0
  have A0 := Lib.hid a0
  have B0 := Lib.hid b0
  clear hx0 a0 b0
  have ac := A0.out.cell
  have bc := B0.out.cell
  go_wp2_with fail
  all_goals (go_ret; exact ⟨ret_bool (by go_light; clear ac bc; simp_all [Note.ext_iff]), by first | exact X0.out⟩)

set_option maxHeartbeats 4000000 in
theorem eqNoteS_any {S S' : Nat → Prop} (l m : List Note) (v u : Value) (w : World) (h : Rd ENote S w v l) (g : Rd ENote S' w u m) :
    Calls Tryz.prog 66 #[v, u] w fun e w' => e = .returned (.bool (decide (l = m))) ∧ Ext w w' := by
  obtain ⟨A, c, rfl, h1, h2, hk⟩ := h.open_
  obtain ⟨A', c', rfl, g1, g2, gk⟩ := g.open_
  unfold maxLen at h2 g2
  have HK := Lib.hid hk
  have GK := Lib.hid gk
  clear hk gk h g
  by_cases hl : l.length = m.length
  · generalize hn : m.length = n at *
    have HN := Lib.hid hn
    subst hl
    clear hn
    go_enter Tryz.func66, Tryz.ntmps66
    go_wp2_with fail
    go_loopw [5] (fun i w' => ∃ k : Nat, k ≤ l.length ∧ i = .int .i64 k ∧ (∀ j, j < k → nth l j = nth m j) ∧ Ext w w') (fun i _ => l.length - (intOf i).toNat)
    case atStart => exact ⟨0, by omega, rfl, fun j hj => by omega, Ext.refl _⟩
    case round =>
      obtain ⟨k, hk1, rfl, hall, hx⟩ := hrel
      have HA := Lib.hid hall
      have HX := Lib.hid hx
      clear hall
      by_cases hlt : k < l.length
      · obtain ⟨b, o, cs, rfl, hb, hr, hc⟩ := HK.out k hlt
        obtain ⟨b', o', ds, rfl, gb, gr, gc⟩ := GK.out k hlt
        have HR := Lib.hid (ENote.keep (hx.same S) hr)
        have GR := Lib.hid (ENote.keep (hx.same S') gr)
        have HC := Lib.hid (hx.range hc)
        have GC := Lib.hid (hx.range gc)
        have HI : Hid ((Tryz.prog.info? 82).map (·.size) = some cs.length) := Lib.hid (by rw [ENote.len hr]; kernel_rfl)
        have GI : Hid ((Tryz.prog.info? 82).map (·.size) = some ds.length) := Lib.hid (by rw [ENote.len gr]; kernel_rfl)
        clear hr gr hc gc hx
        by_cases he : nth l k = nth m k
        · have HE := Lib.hid he
          have e1 : decide (nth l k = nth m k) = true := by simp [he]
          clear he
          go_wp2_with fail
          refine wp_region_ext (by kernel_rfl) (by kernel_rfl) ?_
          repeat (
            first
            | (refine wpQuiet_load (by rfl) 82 _ rfl b (o + k * 2) rfl cs _ (fun w__ hx__ => hx__.range HC.out) Tryz.underlying82 rfl HI.out ?_; simp only [Act.put, List.setIfInBounds_toArray, List.set_cons_zero, List.set_cons_succ])
            | (refine wpQuiet_load (by rfl) 82 _ rfl b' (o' + k * 2) rfl ds _ (fun w__ hx__ => hx__.range GC.out) Tryz.underlying82 rfl GI.out ?_; simp only [Act.put, List.setIfInBounds_toArray, List.set_cons_zero, List.set_cons_succ])
            | (refine wpQuiet_step (fun K hK => ?_)
               go_simp
               first
                | (refine hK _ ?_; clear hK K)
                | (apply Exists.intro
                   refine ⟨fun w__ hx__ => ?_, hK _ ?_⟩
                   · first | exact rfl | (go_simp; done) | (go_simp; exact rfl) | (go_at_call 81; exact ext_of hx__ (eqNote_any (nth l k) (nth m k) cs ds _ (ENote.keep (hx__.same S) HR.out) (ENote.keep (hx__.same S') GR.out)))
                   clear hK K)))
          refine wpQuiet_nil ?_
          intro w1 hx1
          go_wp2_with fail
          go_roundw
          case rel => exact ⟨k + 1, by omega, by go_num, all_succ HA.out HE.out, HX.out.trans hx1⟩
          case measure => simp [intOf]; omega
        · have HE := Lib.hid he
          have e1 : decide (nth l k = nth m k) = false := by simp [he]
          clear he
          go_wp2_with fail
          refine wp_region_ext (by kernel_rfl) (by kernel_rfl) ?_
          repeat (
            first
            | (refine wpQuiet_load (by rfl) 82 _ rfl b (o + k * 2) rfl cs _ (fun w__ hx__ => hx__.range HC.out) Tryz.underlying82 rfl HI.out ?_; simp only [Act.put, List.setIfInBounds_toArray, List.set_cons_zero, List.set_cons_succ])
            | (refine wpQuiet_load (by rfl) 82 _ rfl b' (o' + k * 2) rfl ds _ (fun w__ hx__ => hx__.range GC.out) Tryz.underlying82 rfl GI.out ?_; simp only [Act.put, List.setIfInBounds_toArray, List.set_cons_zero, List.set_cons_succ])
            | (refine wpQuiet_step (fun K hK => ?_)
               go_simp
               first
                | (refine hK _ ?_; clear hK K)
                | (apply Exists.intro
                   refine ⟨fun w__ hx__ => ?_, hK _ ?_⟩
                   · first | exact rfl | (go_simp; done) | (go_simp; exact rfl) | (go_at_call 81; exact ext_of hx__ (eqNote_any (nth l k) (nth m k) cs ds _ (ENote.keep (hx__.same S) HR.out) (ENote.keep (hx__.same S') GR.out)))
                   clear hK K)))
          refine wpQuiet_nil ?_
          intro w1 hx1
          go_wp2_with fail
          go_ret
          exact ⟨ret_bool (decide_eq_false fun e => HE.out (by rw [e])).symm, HX.out.trans hx1⟩
      · have HF : Hid (decide (l = m) = true) := Lib.hid (decide_eq_true (eq_of_nth HN.out.symm fun j hj => HA.out j (by omega)))
        go_wp2_with fail
        go_ret
        exact ⟨ret_bool HF.out.symm, HX.out⟩
  · have HL := Lib.hid hl
    have e1 : ((l.length : Int) != (m.length : Int)) = true := by simp; omega
    have e2 : (l.length != m.length) = true := by simp; omega
    go_enter Tryz.func66, Tryz.ntmps66
    go_wp2_with fail
    go_ret
    exact ⟨ret_bool (decide_eq_false fun e => HL.out (by rw [e])).symm, Ext.refl _⟩

set_option maxHeartbeats 4000000 in
theorem eqBox_any {S S' : Nat → Prop} (x y : Box) (cs ds : List Value) (w : World) (h : EBox.rel S w cs x) (g : EBox.rel S' w ds y) :
    Calls Tryz.prog 50 #[.agg cs.toArray, .agg ds.toArray] w fun e w' => e = .returned (.bool (decide (x = y))) ∧ Ext w w' := by
  obtain ⟨v1, v2, v3, rfl, hi, h1, h2, h3⟩ := h
  obtain ⟨u1, u2, u3, rfl, gi, g1, g2, g3⟩ := g
  have H1 := Lib.hid h1
  have G1 := Lib.hid g1
  have H2 := Lib.hid h2
  have G2 := Lib.hid g2
  have H3 := Lib.hid h3
  have G3 := Lib.hid g3
  clear h1 g1 h2 g2 h3 g3
  have HI := Lib.hid hi
  have GI := Lib.hid gi
  clear hi gi
  simp only [cellsBox]
  go_enter Tryz.func50, Tryz.ntmps50
  go_upto_region 1 with (fail)
  obtain ⟨W, B, hW, hB, hx0, a0, b0⟩ := boxes2 w #[v1, v2, v3] #[u1, u2, u3] 63 63
  rw [← hW, ← hB]
  clear hW hB
  have X0 := Lib.hid hx0
  have A0 := Lib.hid a0
  have B0 := Lib.hid b0
  clear hx0 a0 b0
  have ac := A0.out.cell
  have bc := B0.out.cell
  go_wp2_with (first
    | (go_at_call 65; (with_reducible refine (eqInt64S_any x.next y.next v1 u1 _ (H1.out.ext X0.out) (G1.out.ext X0.out)).mono ?_); rintro e w1 ⟨rfl, hx⟩; have X1 := Lib.hid (X0.out.trans hx); have A1 := Lib.hid (A0.out.ext hx); have B1 := Lib.hid (B0.out.ext hx); clear hx X0 A0 B0 ac bc; have ac := A1.out.cell; have bc := B1.out.cell)
    | (go_at_call 65; (with_reducible refine (eqInt64S_any x.here y.here v2 u2 _ (H2.out.ext X1.out) (G2.out.ext X1.out)).mono ?_); rintro e w2 ⟨rfl, hx⟩; have X2 := Lib.hid (X1.out.trans hx); have A2 := Lib.hid (A1.out.ext hx); have B2 := Lib.hid (B1.out.ext hx); clear hx X1 A1 B1 ac bc; have ac := A2.out.cell; have bc := B2.out.cell)
    | (go_at_call 66; (with_reducible refine (eqNoteS_any x.log y.log v3 u3 _ (H3.out.ext X2.out) (G3.out.ext X2.out)).mono ?_); rintro e w3 ⟨rfl, hx⟩; have X3 := Lib.hid (X2.out.trans hx); have A3 := Lib.hid (A2.out.ext hx); have B3 := Lib.hid (B2.out.ext hx); clear hx X2 A2 B2 ac bc; have ac := A3.out.cell; have bc := B3.out.cell))
  all_goals (go_ret; exact ⟨ret_bool (by go_light; clear ac bc; simp_all [Box.ext_iff]), by first | exact X3.out | exact X2.out | exact X1.out | exact X0.out⟩)

set_option maxHeartbeats 4000000 in
theorem eqBoxS_any {S S' : Nat → Prop} (l m : List Box) (v u : Value) (w : World) (h : Rd EBox S w v l) (g : Rd EBox S' w u m) :
    Calls Tryz.prog 32 #[v, u] w fun e w' => e = .returned (.bool (decide (l = m))) ∧ Ext w w' := by
  obtain ⟨A, c, rfl, h1, h2, hk⟩ := h.open_
  obtain ⟨A', c', rfl, g1, g2, gk⟩ := g.open_
  unfold maxLen at h2 g2
  have HK := Lib.hid hk
  have GK := Lib.hid gk
  clear hk gk h g
  by_cases hl : l.length = m.length
  · generalize hn : m.length = n at *
    have HN := Lib.hid hn
    subst hl
    clear hn
    go_enter Tryz.func32, Tryz.ntmps32
    go_wp2_with fail
    go_loopw [5] (fun i w' => ∃ k : Nat, k ≤ l.length ∧ i = .int .i64 k ∧ (∀ j, j < k → nth l j = nth m j) ∧ Ext w w') (fun i _ => l.length - (intOf i).toNat)
    case atStart => exact ⟨0, by omega, rfl, fun j hj => by omega, Ext.refl _⟩
    case round =>
      obtain ⟨k, hk1, rfl, hall, hx⟩ := hrel
      have HA := Lib.hid hall
      have HX := Lib.hid hx
      clear hall
      by_cases hlt : k < l.length
      · obtain ⟨b, o, cs, rfl, hb, hr, hc⟩ := HK.out k hlt
        obtain ⟨b', o', ds, rfl, gb, gr, gc⟩ := GK.out k hlt
        have HR := Lib.hid (EBox.keep (hx.same S) hr)
        have GR := Lib.hid (EBox.keep (hx.same S') gr)
        have HC := Lib.hid (hx.range hc)
        have GC := Lib.hid (hx.range gc)
        have HI : Hid ((Tryz.prog.info? 63).map (·.size) = some cs.length) := Lib.hid (by rw [EBox.len hr]; kernel_rfl)
        have GI : Hid ((Tryz.prog.info? 63).map (·.size) = some ds.length) := Lib.hid (by rw [EBox.len gr]; kernel_rfl)
        clear hr gr hc gc hx
        by_cases he : nth l k = nth m k
        · have HE := Lib.hid he
          have e1 : decide (nth l k = nth m k) = true := by simp [he]
          clear he
          go_wp2_with fail
          refine wp_region_ext (by kernel_rfl) (by kernel_rfl) ?_
          repeat (
            first
            | (refine wpQuiet_load (by rfl) 63 _ rfl b (o + k * 3) rfl cs _ (fun w__ hx__ => hx__.range HC.out) Tryz.underlying63 rfl HI.out ?_; simp only [Act.put, List.setIfInBounds_toArray, List.set_cons_zero, List.set_cons_succ])
            | (refine wpQuiet_load (by rfl) 63 _ rfl b' (o' + k * 3) rfl ds _ (fun w__ hx__ => hx__.range GC.out) Tryz.underlying63 rfl GI.out ?_; simp only [Act.put, List.setIfInBounds_toArray, List.set_cons_zero, List.set_cons_succ])
            | (refine wpQuiet_step (fun K hK => ?_)
               go_simp
               first
                | (refine hK _ ?_; clear hK K)
                | (apply Exists.intro
                   refine ⟨fun w__ hx__ => ?_, hK _ ?_⟩
                   · first | exact rfl | (go_simp; done) | (go_simp; exact rfl) | (go_at_call 50; exact ext_of hx__ (eqBox_any (nth l k) (nth m k) cs ds _ (EBox.keep (hx__.same S) HR.out) (EBox.keep (hx__.same S') GR.out)))
                   clear hK K)))
          refine wpQuiet_nil ?_
          intro w1 hx1
          go_wp2_with fail
          go_roundw
          case rel => exact ⟨k + 1, by omega, by go_num, all_succ HA.out HE.out, HX.out.trans hx1⟩
          case measure => simp [intOf]; omega
        · have HE := Lib.hid he
          have e1 : decide (nth l k = nth m k) = false := by simp [he]
          clear he
          go_wp2_with fail
          refine wp_region_ext (by kernel_rfl) (by kernel_rfl) ?_
          repeat (
            first
            | (refine wpQuiet_load (by rfl) 63 _ rfl b (o + k * 3) rfl cs _ (fun w__ hx__ => hx__.range HC.out) Tryz.underlying63 rfl HI.out ?_; simp only [Act.put, List.setIfInBounds_toArray, List.set_cons_zero, List.set_cons_succ])
            | (refine wpQuiet_load (by rfl) 63 _ rfl b' (o' + k * 3) rfl ds _ (fun w__ hx__ => hx__.range GC.out) Tryz.underlying63 rfl GI.out ?_; simp only [Act.put, List.setIfInBounds_toArray, List.set_cons_zero, List.set_cons_succ])
            | (refine wpQuiet_step (fun K hK => ?_)
               go_simp
               first
                | (refine hK _ ?_; clear hK K)
                | (apply Exists.intro
                   refine ⟨fun w__ hx__ => ?_, hK _ ?_⟩
                   · first | exact rfl | (go_simp; done) | (go_simp; exact rfl) | (go_at_call 50; exact ext_of hx__ (eqBox_any (nth l k) (nth m k) cs ds _ (EBox.keep (hx__.same S) HR.out) (EBox.keep (hx__.same S') GR.out)))
                   clear hK K)))
          refine wpQuiet_nil ?_
          intro w1 hx1
          go_wp2_with fail
          go_ret
          exact ⟨ret_bool (decide_eq_false fun e => HE.out (by rw [e])).symm, HX.out.trans hx1⟩
      · have HF : Hid (decide (l = m) = true) := Lib.hid (decide_eq_true (eq_of_nth HN.out.symm fun j hj => HA.out j (by omega)))
        go_wp2_with fail
        go_ret
        exact ⟨ret_bool HF.out.symm, HX.out⟩
  · have HL := Lib.hid hl
    have e1 : ((l.length : Int) != (m.length : Int)) = true := by simp; omega
    have e2 : (l.length != m.length) = true := by simp; omega
    go_enter Tryz.func32, Tryz.ntmps32
    go_wp2_with fail
    go_ret
    exact ⟨ret_bool (decide_eq_false fun e => HL.out (by rw [e])).symm, Ext.refl _⟩

set_option maxHeartbeats 4000000 in
theorem eqMail_any {S S' : Nat → Prop} (x y : Mail) (cs ds : List Value) (w : World) (h : EMail.rel S w cs x) (g : EMail.rel S' w ds y) :
    Calls Tryz.prog 12 #[.agg cs.toArray, .agg ds.toArray] w fun e w' => e = .returned (.bool (decide (x = y))) ∧ Ext w w' := by
  obtain ⟨v1, rfl, hi, h1⟩ := h
  obtain ⟨u1, rfl, gi, g1⟩ := g
  have H1 := Lib.hid h1
  have G1 := Lib.hid g1
  clear h1 g1
  have HI := Lib.hid hi
  have GI := Lib.hid gi
  clear hi gi
  simp only [cellsMail]
  go_enter Tryz.func12, Tryz.ntmps12
  go_upto_region 1 with (fail)
  obtain ⟨W, B, hW, hB, hx0, a0, b0⟩ := boxes2 w #[v1] #[u1] 43 43
  rw [← hW, ← hB]
  clear hW hB
  have X0 := Lib.hid hx0
  have A0 := Lib.hid a0
  have B0 := Lib.hid b0
  clear hx0 a0 b0
  have ac := A0.out.cell
  have bc := B0.out.cell
  go_wp2_with (first
    | (go_at_call 32; (with_reducible refine (eqBoxS_any x.boxes y.boxes v1 u1 _ (H1.out.ext X0.out) (G1.out.ext X0.out)).mono ?_); rintro e w1 ⟨rfl, hx⟩; have X1 := Lib.hid (X0.out.trans hx); have A1 := Lib.hid (A0.out.ext hx); have B1 := Lib.hid (B0.out.ext hx); clear hx X0 A0 B0 ac bc; have ac := A1.out.cell; have bc := B1.out.cell))
  all_goals (go_ret; exact ⟨ret_bool (by go_light; clear ac bc; simp_all [Mail.ext_iff]), by first | exact X1.out | exact X0.out⟩)

end Go.Proofs.YtdhcbbbmajjehaaGreat

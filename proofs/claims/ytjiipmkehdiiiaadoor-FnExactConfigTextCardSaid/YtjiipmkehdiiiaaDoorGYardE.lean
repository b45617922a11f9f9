/- Whether two data are equal: eq... Printed by wip/gen.py. How the laws count the size of their data. What the sizes count. Printed by wip/gen.py. How large data are: sz... Printed by wip/gen.py. What turns a walk of a law into the row that says it: the arguments' readings opened, and the row's last step. No program in sight. The laws' arguments, opened to plain data. Printed by wip/gen.py. The generated words of types that are new with this seat. Printed by wip/genx.py. -/
import Derived.Test.YtjiipmkehdiiiaaDoorRows
import Derived.Test.YtjiipmkehdiiiaaDoorGElems
import Derived.Test.YtjiipmkehdiiiaaDoorGSmall
import Derived.Test.YtjiipmkehdiiiaaDoorLib
import Derived.ProofKit
import Derived.Deep.Slices
namespace Go.Proofs.YtjiipmkehdiiiaaDoor
open Go.RowKit
attribute [local irreducible] wpQuiet

set_option maxHeartbeats 4000000 in
theorem eqLabel_any {S S' : Nat → Prop} (x y : Label) (cs ds : List Value) (w : World) (h : ELabel.rel S w cs x) (g : ELabel.rel S' w ds y) :
    Calls Tryd.prog 61 #[.agg cs.toArray, .agg ds.toArray] w fun e w' => e = .returned (.bool (decide (x = y))) ∧ Ext w w' := by
  obtain ⟨rfl, hi⟩ := h
  obtain ⟨rfl, gi⟩ := g
  have HI := Lib.hid hi
  have GI := Lib.hid gi
  clear hi gi
  simp only [cellsLabel]
  go_enter Tryd.func61, Tryd.ntmps61
  go_upto_region 1 with (fail)
  obtain ⟨W, B, hW, hB, hx0, a0, b0⟩ := boxes2 w #[.int .i64 x.level, .int .i64 x.set] #[.int .i64 y.level, .int .i64 y.set] 44 44
  rw [← hW, ← hB]
  clear hW hB
  have X0 := Lib.hid hx0
  have A0 := Lib.hid a0
  have B0 := Lib.hid b0
  clear hx0 a0 b0
  have ac := A0.out.cell
  have bc := B0.out.cell
  go_wp2_with fail
  all_goals (go_ret; exact ⟨ret_bool (by go_light; clear ac bc; simp_all [Label.ext_iff]), by first | exact X0.out⟩)

set_option maxHeartbeats 4000000 in
theorem eqPair_any {S S' : Nat → Prop} (x y : Pair) (cs ds : List Value) (w : World) (h : EPair.rel S w cs x) (g : EPair.rel S' w ds y) :
    Calls Tryd.prog 42 #[.agg cs.toArray, .agg ds.toArray] w fun e w' => e = .returned (.bool (decide (x = y))) ∧ Ext w w' := by
  obtain ⟨rfl, hi⟩ := h
  obtain ⟨rfl, gi⟩ := g
  have HI := Lib.hid hi
  have GI := Lib.hid gi
  clear hi gi
  simp only [cellsPair]
  go_enter Tryd.func42, Tryd.ntmps42
  go_upto_region 1 with (fail)
  obtain ⟨W, B, hW, hB, hx0, a0, b0⟩ := boxes2 w #[.int .i64 x.from_.level, .int .i64 x.from_.set, .int .i64 x.to_.level, .int .i64 x.to_.set, .int .i64 x.rate] #[.int .i64 y.from_.level, .int .i64 y.from_.set, .int .i64 y.to_.level, .int .i64 y.to_.set, .int .i64 y.rate] 46 46
  rw [← hW, ← hB]
  clear hW hB
  have X0 := Lib.hid hx0
  have A0 := Lib.hid a0
  have B0 := Lib.hid b0
  clear hx0 a0 b0
  have ac := A0.out.cell
  have bc := B0.out.cell
  go_wp2_with (first
    | (go_at_call 61; (with_reducible refine (eqLabel_any (S := S) (S' := S') x.from_ y.from_ [.int .i64 x.from_.level, .int .i64 x.from_.set] [.int .i64 y.from_.level, .int .i64 y.from_.set] _ (rel_Label (by have hf := HI.out; simp only [FitPair] at hf; simp only [FitLabel, hf, and_self])) (rel_Label (by have hf := GI.out; simp only [FitPair] at hf; simp only [FitLabel, hf, and_self]))).mono ?_); rintro e w1 ⟨rfl, hx⟩; have X1 := Lib.hid (X0.out.trans hx); have A1 := Lib.hid (A0.out.ext hx); have B1 := Lib.hid (B0.out.ext hx); clear hx X0 A0 B0 ac bc; have ac := A1.out.cell; have bc := B1.out.cell)
    | (go_at_call 61; (with_reducible refine (eqLabel_any (S := S) (S' := S') x.to_ y.to_ [.int .i64 x.to_.level, .int .i64 x.to_.set] [.int .i64 y.to_.level, .int .i64 y.to_.set] _ (rel_Label (by have hf := HI.out; simp only [FitPair] at hf; simp only [FitLabel, hf, and_self])) (rel_Label (by have hf := GI.out; simp only [FitPair] at hf; simp only [FitLabel, hf, and_self]))).mono ?_); rintro e w2 ⟨rfl, hx⟩; have X2 := Lib.hid (X1.out.trans hx); have A2 := Lib.hid (A1.out.ext hx); have B2 := Lib.hid (B1.out.ext hx); clear hx X1 A1 B1 ac bc; have ac := A2.out.cell; have bc := B2.out.cell))
  all_goals (go_ret; exact ⟨ret_bool (by go_light; clear ac bc; simp_all [Pair.ext_iff]), by first | exact X2.out | exact X1.out | exact X0.out⟩)

set_option maxHeartbeats 4000000 in
theorem eqQuota_any {S S' : Nat → Prop} (x y : Quota) (cs ds : List Value) (w : World) (h : EQuota.rel S w cs x) (g : EQuota.rel S' w ds y) :
    Calls Tryd.prog 43 #[.agg cs.toArray, .agg ds.toArray] w fun e w' => e = .returned (.bool (decide (x = y))) ∧ Ext w w' := by
  obtain ⟨rfl, hi⟩ := h
  obtain ⟨rfl, gi⟩ := g
  have HI := Lib.hid hi
  have GI := Lib.hid gi
  clear hi gi
  simp only [cellsQuota]
  go_enter Tryd.func43, Tryd.ntmps43
  go_upto_region 1 with (fail)
  obtain ⟨W, B, hW, hB, hx0, a0, b0⟩ := boxes2 w #[.int .i64 x.label.level, .int .i64 x.label.set, .int .i64 x.most] #[.int .i64 y.label.level, .int .i64 y.label.set, .int .i64 y.most] 49 49
  rw [← hW, ← hB]
  clear hW hB
  have X0 := Lib.hid hx0
  have A0 := Lib.hid a0
  have B0 := Lib.hid b0
  clear hx0 a0 b0
  have ac := A0.out.cell
  have bc := B0.out.cell
  go_wp2_with (first
    | (go_at_call 61; (with_reducible refine (eqLabel_any (S := S) (S' := S') x.label y.label [.int .i64 x.label.level, .int .i64 x.label.set] [.int .i64 y.label.level, .int .i64 y.label.set] _ (rel_Label (by have hf := HI.out; simp only [FitQuota] at hf; simp only [FitLabel, hf, and_self])) (rel_Label (by have hf := GI.out; simp only [FitQuota] at hf; simp only [FitLabel, hf, and_self]))).mono ?_); rintro e w1 ⟨rfl, hx⟩; have X1 := Lib.hid (X0.out.trans hx); have A1 := Lib.hid (A0.out.ext hx); have B1 := Lib.hid (B0.out.ext hx); clear hx X0 A0 B0 ac bc; have ac := A1.out.cell; have bc := B1.out.cell))
  all_goals (go_ret; exact ⟨ret_bool (by go_light; clear ac bc; simp_all [Quota.ext_iff]), by first | exact X1.out | exact X0.out⟩)

set_option maxHeartbeats 4000000 in
theorem eqLabelS_any {S S' : Nat → Prop} (l m : List Label) (v u : Value) (w : World) (h : Rd ELabel S w v l) (g : Rd ELabel S' w u m) :
    Calls Tryd.prog 41 #[v, u] w fun e w' => e = .returned (.bool (decide (l = m))) ∧ Ext w w' := by
  obtain ⟨A, c, rfl, h1, h2, hk⟩ := h.open_
  obtain ⟨A', c', rfl, g1, g2, gk⟩ := g.open_
  unfold maxLen at h2 g2
  have HK := Lib.hid hk
  have GK := Lib.hid gk
  clear hk gk h g
  by_cases hl : l.length = m.length
  · generalize hn : m.length = n at *
    have HN := Lib.hid hn
    subst hl
    clear hn
    go_enter Tryd.func41, Tryd.ntmps41
    go_wp2_with fail
    go_loopw [5] (fun i w' => ∃ k : Nat, k ≤ l.length ∧ i = .int .i64 k ∧ (∀ j, j < k → nth l j = nth m j) ∧ Ext w w') (fun i _ => l.length - (intOf i).toNat)
    case atStart => exact ⟨0, by omega, rfl, fun j hj => by omega, Ext.refl _⟩
    case round =>
      obtain ⟨k, hk1, rfl, hall, hx⟩ := hrel
      have HA := Lib.hid hall
      have HX := Lib.hid hx
      clear hall
      by_cases hlt : k < l.length
      · obtain ⟨b, o, cs, rfl, hb, hr, hc⟩ := HK.out k hlt
        obtain ⟨b', o', ds, rfl, gb, gr, gc⟩ := GK.out k hlt
        have HR := Lib.hid (ELabel.keep (hx.same S) hr)
        have GR := Lib.hid (ELabel.keep (hx.same S') gr)
        have HC := Lib.hid (hx.range hc)
        have GC := Lib.hid (hx.range gc)
        have HI : Hid ((Tryd.prog.info? 44).map (·.size) = some cs.length) := Lib.hid (by rw [ELabel.len hr]; kernel_rfl)
        have GI : Hid ((Tryd.prog.info? 44).map (·.size) = some ds.length) := Lib.hid (by rw [ELabel.len gr]; kernel_rfl)
        clear hr gr hc gc hx
        by_cases he : nth l k = nth m k
        · have HE := Lib.hid he
          have e1 : decide (nth l k = nth m k) = true := by simp [he]
          clear he
          go_wp2_with fail
          refine wp_region_ext (by kernel_rfl) (by kernel_rfl) ?_
          repeat (
            first
            | (refine wpQuiet_load (by rfl) 44 _ rfl b (o + k * 2) rfl cs _ (fun w__ hx__ => hx__.range HC.out) Tryd.underlying44 rfl HI.out ?_; simp only [Act.put, List.setIfInBounds_toArray, List.set_cons_zero, List.set_cons_succ])
            | (refine wpQuiet_load (by rfl) 44 _ rfl b' (o' + k * 2) rfl ds _ (fun w__ hx__ => hx__.range GC.out) Tryd.underlying44 rfl GI.out ?_; simp only [Act.put, List.setIfInBounds_toArray, List.set_cons_zero, List.set_cons_succ])
            | (refine wpQuiet_step (fun K hK => ?_)
               go_simp
               first
                | (refine hK _ ?_; clear hK K)
                | (apply Exists.intro
                   refine ⟨fun w__ hx__ => ?_, hK _ ?_⟩
                   · first | exact rfl | (go_simp; done) | (go_simp; exact rfl) | (go_at_call 61; exact ext_of hx__ (eqLabel_any (nth l k) (nth m k) cs ds _ (ELabel.keep (hx__.same S) HR.out) (ELabel.keep (hx__.same S') GR.out)))
                   clear hK K)))
          refine wpQuiet_nil ?_
          intro w1 hx1
          go_wp2_with fail
          go_roundw
          case rel => exact ⟨k + 1, by omega, by go_num, all_succ HA.out HE.out, HX.out.trans hx1⟩
          case measure => simp [intOf]; omega
        · have HE := Lib.hid he
          have e1 : decide (nth l k = nth m k) = false := by simp [he]
          clear he
          go_wp2_with fail
          refine wp_region_ext (by kernel_rfl) (by kernel_rfl) ?_
          repeat (
            first
            | (refine wpQuiet_load (by rfl) 44 _ rfl b (o + k * 2) rfl cs _ (fun w__ hx__ => hx__.range HC.out) Tryd.underlying44 rfl HI.out ?_; simp only [Act.put, List.setIfInBounds_toArray, List.set_cons_zero, List.set_cons_succ])
            | (refine wpQuiet_load (by rfl) 44 _ rfl b' (o' + k * 2) rfl ds _ (fun w__ hx__ => hx__.range GC.out) Tryd.underlying44 rfl GI.out ?_; simp only [Act.put, List.setIfInBounds_toArray, List.set_cons_zero, List.set_cons_succ])
            | (refine wpQuiet_step (fun K hK => ?_)
               go_simp
               first
                | (refine hK _ ?_; clear hK K)
                | (apply Exists.intro
                   refine ⟨fun w__ hx__ => ?_, hK _ ?_⟩
                   · first | exact rfl | (go_simp; done) | (go_simp; exact rfl) | (go_at_call 61; exact ext_of hx__ (eqLabel_any (nth l k) (nth m k) cs ds _ (ELabel.keep (hx__.same S) HR.out) (ELabel.keep (hx__.same S') GR.out)))
                   clear hK K)))
          refine wpQuiet_nil ?_
          intro w1 hx1
          go_wp2_with fail
          go_ret
          exact ⟨ret_bool (decide_eq_false fun e => HE.out (by rw [e])).symm, HX.out.trans hx1⟩
      · have HF : Hid (decide (l = m) = true) := Lib.hid (decide_eq_true (eq_of_nth HN.out.symm fun j hj => HA.out j (by omega)))
        go_wp2_with fail
        go_ret
        exact ⟨ret_bool HF.out.symm, HX.out⟩
  · have HL := Lib.hid hl
    have e1 : ((l.length : Int) != (m.length : Int)) = true := by simp; omega
    have e2 : (l.length != m.length) = true := by simp; omega
    go_enter Tryd.func41, Tryd.ntmps41
    go_wp2_with fail
    go_ret
    exact ⟨ret_bool (decide_eq_false fun e => HL.out (by rw [e])).symm, Ext.refl _⟩

set_option maxHeartbeats 4000000 in
theorem eqLabelSS_any {S S' : Nat → Prop} (l m : List (List Label)) (v u : Value) (w : World) (h : Rd (ERow ELabel) S w v l) (g : Rd (ERow ELabel) S' w u m) :
    Calls Tryd.prog 21 #[v, u] w fun e w' => e = .returned (.bool (decide (l = m))) ∧ Ext w w' := by
  obtain ⟨A, c, rfl, h1, h2, hk⟩ := h.open_
  obtain ⟨A', c', rfl, g1, g2, gk⟩ := g.open_
  unfold maxLen at h2 g2
  have HK := Lib.hid hk
  have GK := Lib.hid gk
  clear hk gk h g
  by_cases hl : l.length = m.length
  · generalize hn : m.length = n at *
    have HN := Lib.hid hn
    subst hl
    clear hn
    go_enter Tryd.func21, Tryd.ntmps21
    go_wp2_with fail
    go_loopw [5] (fun i w' => ∃ k : Nat, k ≤ l.length ∧ i = .int .i64 k ∧ (∀ j, j < k → nth l j = nth m j) ∧ Ext w w') (fun i _ => l.length - (intOf i).toNat)
    case atStart => exact ⟨0, by omega, rfl, fun j hj => by omega, Ext.refl _⟩
    case round =>
      obtain ⟨k, hk1, rfl, hall, hx⟩ := hrel
      have HA := Lib.hid hall
      have HX := Lib.hid hx
      clear hall
      by_cases hlt : k < l.length
      · obtain ⟨b, o, cs, rfl, hb, hr, hc⟩ := HK.out k hlt
        obtain ⟨b', o', ds, rfl, gb, gr, gc⟩ := GK.out k hlt
        obtain ⟨v, rfl, hr⟩ := hr
        obtain ⟨u, rfl, gr⟩ := gr
        have c0 := Ext.some hx (hc 0 _ rfl)
        have d0 := Ext.some hx (gc 0 _ rfl)
        have HR := Lib.hid (hr.ext hx)
        have GR := Lib.hid (gr.ext hx)
        simp only [ERow, Nat.mul_one, Nat.add_zero] at c0 d0
        clear hc gc hr gr hx
        by_cases he : nth l k = nth m k
        · have HE := Lib.hid he
          have e1 : decide (nth l k = nth m k) = true := by simp [he]
          clear he
          go_wp2_with fail
          refine wp_region_ext (by kernel_rfl) (by kernel_rfl) ?_
          repeat (
            (refine wpQuiet_step (fun K hK => ?_)
             go_simp
             first
              | (refine hK _ ?_; clear hK K)
              | (apply Exists.intro
                 refine ⟨fun w__ hx__ => ?_, hK _ ?_⟩
                 · have c0__ := Ext.some hx__ c0; have d0__ := Ext.some hx__ d0; first | exact rfl | (go_simp; done) | (go_simp; exact rfl) | (go_at_call 41; exact ext_of hx__ (eqLabelS_any (nth l k) (nth m k) v u _ (HR.out.ext hx__) (GR.out.ext hx__)))
                 clear hK K)))
          refine wpQuiet_nil ?_
          intro w1 hx1
          go_wp2_with fail
          go_roundw
          case rel => exact ⟨k + 1, by omega, by go_num, all_succ HA.out HE.out, HX.out.trans hx1⟩
          case measure => simp [intOf]; omega
        · have HE := Lib.hid he
          have e1 : decide (nth l k = nth m k) = false := by simp [he]
          clear he
          go_wp2_with fail
          refine wp_region_ext (by kernel_rfl) (by kernel_rfl) ?_
          repeat (
            (refine wpQuiet_step (fun K hK => ?_)
             go_simp
             first
              | (refine hK _ ?_; clear hK K)
              | (apply Exists.intro
                 refine ⟨fun w__ hx__ => ?_, hK _ ?_⟩
                 · have c0__ := Ext.some hx__ c0; have d0__ := Ext.some hx__ d0; first | exact rfl | (go_simp; done) | (go_simp; exact rfl) | (go_at_call 41; exact ext_of hx__ (eqLabelS_any (nth l k) (nth m k) v u _ (HR.out.ext hx__) (GR.out.ext hx__)))
                 clear hK K)))
          refine wpQuiet_nil ?_
          intro w1 hx1
          go_wp2_with fail
          go_ret
          exact ⟨ret_bool (decide_eq_false fun e => HE.out (by rw [e])).symm, HX.out.trans hx1⟩
      · have HF : Hid (decide (l = m) = true) := Lib.hid (decide_eq_true (eq_of_nth HN.out.symm fun j hj => HA.out j (by omega)))
        go_wp2_with fail
        go_ret
        exact ⟨ret_bool HF.out.symm, HX.out⟩
  · have HL := Lib.hid hl
    have e1 : ((l.length : Int) != (m.length : Int)) = true := by simp; omega
    have e2 : (l.length != m.length) = true := by simp; omega
    go_enter Tryd.func21, Tryd.ntmps21
    go_wp2_with fail
    go_ret
    exact ⟨ret_bool (decide_eq_false fun e => HL.out (by rw [e])).symm, Ext.refl _⟩

set_option maxHeartbeats 4000000 in
theorem eqPairS_any {S S' : Nat → Prop} (l m : List Pair) (v u : Value) (w : World) (h : Rd EPair S w v l) (g : Rd EPair S' w u m) :
    Calls Tryd.prog 22 #[v, u] w fun e w' => e = .returned (.bool (decide (l = m))) ∧ Ext w w' := by
  obtain ⟨A, c, rfl, h1, h2, hk⟩ := h.open_
  obtain ⟨A', c', rfl, g1, g2, gk⟩ := g.open_
  unfold maxLen at h2 g2
  have HK := Lib.hid hk
  have GK := Lib.hid gk
  clear hk gk h g
  by_cases hl : l.length = m.length
  · generalize hn : m.length = n at *
    have HN := Lib.hid hn
    subst hl
    clear hn
    go_enter Tryd.func22, Tryd.ntmps22
    go_wp2_with fail
    go_loopw [5] (fun i w' => ∃ k : Nat, k ≤ l.length ∧ i = .int .i64 k ∧ (∀ j, j < k → nth l j = nth m j) ∧ Ext w w') (fun i _ => l.length - (intOf i).toNat)
    case atStart => exact ⟨0, by omega, rfl, fun j hj => by omega, Ext.refl _⟩
    case round =>
      obtain ⟨k, hk1, rfl, hall, hx⟩ := hrel
      have HA := Lib.hid hall
      have HX := Lib.hid hx
      clear hall
      by_cases hlt : k < l.length
      · obtain ⟨b, o, cs, rfl, hb, hr, hc⟩ := HK.out k hlt
        obtain ⟨b', o', ds, rfl, gb, gr, gc⟩ := GK.out k hlt
        have HR := Lib.hid (EPair.keep (hx.same S) hr)
        have GR := Lib.hid (EPair.keep (hx.same S') gr)
        have HC := Lib.hid (hx.range hc)
        have GC := Lib.hid (hx.range gc)
        have HI : Hid ((Tryd.prog.info? 46).map (·.size) = some cs.length) := Lib.hid (by rw [EPair.len hr]; kernel_rfl)
        have GI : Hid ((Tryd.prog.info? 46).map (·.size) = some ds.length) := Lib.hid (by rw [EPair.len gr]; kernel_rfl)
        clear hr gr hc gc hx
        by_cases he : nth l k = nth m k
        · have HE := Lib.hid he
          have e1 : decide (nth l k = nth m k) = true := by simp [he]
          clear he
          go_wp2_with fail
          refine wp_region_ext (by kernel_rfl) (by kernel_rfl) ?_
          repeat (
            first
            | (refine wpQuiet_load (by rfl) 46 _ rfl b (o + k * 5) rfl cs _ (fun w__ hx__ => hx__.range HC.out) Tryd.underlying46 rfl HI.out ?_; simp only [Act.put, List.setIfInBounds_toArray, List.set_cons_zero, List.set_cons_succ])
            | (refine wpQuiet_load (by rfl) 46 _ rfl b' (o' + k * 5) rfl ds _ (fun w__ hx__ => hx__.range GC.out) Tryd.underlying46 rfl GI.out ?_; simp only [Act.put, List.setIfInBounds_toArray, List.set_cons_zero, List.set_cons_succ])
            | (refine wpQuiet_step (fun K hK => ?_)
               go_simp
               first
                | (refine hK _ ?_; clear hK K)
                | (apply Exists.intro
                   refine ⟨fun w__ hx__ => ?_, hK _ ?_⟩
                   · first | exact rfl | (go_simp; done) | (go_simp; exact rfl) | (go_at_call 42; exact ext_of hx__ (eqPair_any (nth l k) (nth m k) cs ds _ (EPair.keep (hx__.same S) HR.out) (EPair.keep (hx__.same S') GR.out)))
                   clear hK K)))
          refine wpQuiet_nil ?_
          intro w1 hx1
          go_wp2_with fail
          go_roundw
          case rel => exact ⟨k + 1, by omega, by go_num, all_succ HA.out HE.out, HX.out.trans hx1⟩
          case measure => simp [intOf]; omega
        · have HE := Lib.hid he
          have e1 : decide (nth l k = nth m k) = false := by simp [he]
          clear he
          go_wp2_with fail
          refine wp_region_ext (by kernel_rfl) (by kernel_rfl) ?_
          repeat (
            first
            | (refine wpQuiet_load (by rfl) 46 _ rfl b (o + k * 5) rfl cs _ (fun w__ hx__ => hx__.range HC.out) Tryd.underlying46 rfl HI.out ?_; simp only [Act.put, List.setIfInBounds_toArray, List.set_cons_zero, List.set_cons_succ])
            | (refine wpQuiet_load (by rfl) 46 _ rfl b' (o' + k * 5) rfl ds _ (fun w__ hx__ => hx__.range GC.out) Tryd.underlying46 rfl GI.out ?_; simp only [Act.put, List.setIfInBounds_toArray, List.set_cons_zero, List.set_cons_succ])
            | (refine wpQuiet_step (fun K hK => ?_)
               go_simp
               first
                | (refine hK _ ?_; clear hK K)
                | (apply Exists.intro
                   refine ⟨fun w__ hx__ => ?_, hK _ ?_⟩
                   · first | exact rfl | (go_simp; done) | (go_simp; exact rfl) | (go_at_call 42; exact ext_of hx__ (eqPair_any (nth l k) (nth m k) cs ds _ (EPair.keep (hx__.same S) HR.out) (EPair.keep (hx__.same S') GR.out)))
                   clear hK K)))
          refine wpQuiet_nil ?_
          intro w1 hx1
          go_wp2_with fail
          go_ret
          exact ⟨ret_bool (decide_eq_false fun e => HE.out (by rw [e])).symm, HX.out.trans hx1⟩
      · have HF : Hid (decide (l = m) = true) := Lib.hid (decide_eq_true (eq_of_nth HN.out.symm fun j hj => HA.out j (by omega)))
        go_wp2_with fail
        go_ret
        exact ⟨ret_bool HF.out.symm, HX.out⟩
  · have HL := Lib.hid hl
    have e1 : ((l.length : Int) != (m.length : Int)) = true := by simp; omega
    have e2 : (l.length != m.length) = true := by simp; omega
    go_enter Tryd.func22, Tryd.ntmps22
    go_wp2_with fail
    go_ret
    exact ⟨ret_bool (decide_eq_false fun e => HL.out (by rw [e])).symm, Ext.refl _⟩

set_option maxHeartbeats 4000000 in
theorem eqQuotaS_any {S S' : Nat → Prop} (l m : List Quota) (v u : Value) (w : World) (h : Rd EQuota S w v l) (g : Rd EQuota S' w u m) :
    Calls Tryd.prog 23 #[v, u] w fun e w' => e = .returned (.bool (decide (l = m))) ∧ Ext w w' := by
  obtain ⟨A, c, rfl, h1, h2, hk⟩ := h.open_
  obtain ⟨A', c', rfl, g1, g2, gk⟩ := g.open_
  unfold maxLen at h2 g2
  have HK := Lib.hid hk
  have GK := Lib.hid gk
  clear hk gk h g
  by_cases hl : l.length = m.length
  · generalize hn : m.length = n at *
    have HN := Lib.hid hn
    subst hl
    clear hn
    go_enter Tryd.func23, Tryd.ntmps23
    go_wp2_with fail
    go_loopw [5] (fun i w' => ∃ k : Nat, k ≤ l.length ∧ i = .int .i64 k ∧ (∀ j, j < k → nth l j = nth m j) ∧ Ext w w') (fun i _ => l.length - (intOf i).toNat)
    case atStart => exact ⟨0, by omega, rfl, fun j hj => by omega, Ext.refl _⟩
    case round =>
      obtain ⟨k, hk1, rfl, hall, hx⟩ := hrel
      have HA := Lib.hid hall
      have HX := Lib.hid hx
      clear hall
      by_cases hlt : k < l.length
      · obtain ⟨b, o, cs, rfl, hb, hr, hc⟩ := HK.out k hlt
        obtain ⟨b', o', ds, rfl, gb, gr, gc⟩ := GK.out k hlt
        have HR := Lib.hid (EQuota.keep (hx.same S) hr)
        have GR := Lib.hid (EQuota.keep (hx.same S') gr)
        have HC := Lib.hid (hx.range hc)
        have GC := Lib.hid (hx.range gc)
        have HI : Hid ((Tryd.prog.info? 49).map (·.size) = some cs.length) := Lib.hid (by rw [EQuota.len hr]; kernel_rfl)
        have GI : Hid ((Tryd.prog.info? 49).map (·.size) = some ds.length) := Lib.hid (by rw [EQuota.len gr]; kernel_rfl)
        clear hr gr hc gc hx
        by_cases he : nth l k = nth m k
        · have HE := Lib.hid he
          have e1 : decide (nth l k = nth m k) = true := by simp [he]
          clear he
          go_wp2_with fail
          refine wp_region_ext (by kernel_rfl) (by kernel_rfl) ?_
          repeat (
            first
            | (refine wpQuiet_load (by rfl) 49 _ rfl b (o + k * 3) rfl cs _ (fun w__ hx__ => hx__.range HC.out) Tryd.underlying49 rfl HI.out ?_; simp only [Act.put, List.setIfInBounds_toArray, List.set_cons_zero, List.set_cons_succ])
            | (refine wpQuiet_load (by rfl) 49 _ rfl b' (o' + k * 3) rfl ds _ (fun w__ hx__ => hx__.range GC.out) Tryd.underlying49 rfl GI.out ?_; simp only [Act.put, List.setIfInBounds_toArray, List.set_cons_zero, List.set_cons_succ])
            | (refine wpQuiet_step (fun K hK => ?_)
               go_simp
               first
                | (refine hK _ ?_; clear hK K)
                | (apply Exists.intro
                   refine ⟨fun w__ hx__ => ?_, hK _ ?_⟩
                   · first | exact rfl | (go_simp; done) | (go_simp; exact rfl) | (go_at_call 43; exact ext_of hx__ (eqQuota_any (nth l k) (nth m k) cs ds _ (EQuota.keep (hx__.same S) HR.out) (EQuota.keep (hx__.same S') GR.out)))
                   clear hK K)))
          refine wpQuiet_nil ?_
          intro w1 hx1
          go_wp2_with fail
          go_roundw
          case rel => exact ⟨k + 1, by omega, by go_num, all_succ HA.out HE.out, HX.out.trans hx1⟩
          case measure => simp [intOf]; omega
        · have HE := Lib.hid he
          have e1 : decide (nth l k = nth m k) = false := by simp [he]
          clear he
          go_wp2_with fail
          refine wp_region_ext (by kernel_rfl) (by kernel_rfl) ?_
          repeat (
            first
            | (refine wpQuiet_load (by rfl) 49 _ rfl b (o + k * 3) rfl cs _ (fun w__ hx__ => hx__.range HC.out) Tryd.underlying49 rfl HI.out ?_; simp only [Act.put, List.setIfInBounds_toArray, List.set_cons_zero, List.set_cons_succ])
            | (refine wpQuiet_load (by rfl) 49 _ rfl b' (o' + k * 3) rfl ds _ (fun w__ hx__ => hx__.range GC.out) Tryd.underlying49 rfl GI.out ?_; simp only [Act.put, List.setIfInBounds_toArray, List.set_cons_zero, List.set_cons_succ])
            | (refine wpQuiet_step (fun K hK => ?_)
               go_simp
               first
                | (refine hK _ ?_; clear hK K)
                | (apply Exists.intro
                   refine ⟨fun w__ hx__ => ?_, hK _ ?_⟩
                   · first | exact rfl | (go_simp; done) | (go_simp; exact rfl) | (go_at_call 43; exact ext_of hx__ (eqQuota_any (nth l k) (nth m k) cs ds _ (EQuota.keep (hx__.same S) HR.out) (EQuota.keep (hx__.same S') GR.out)))
                   clear hK K)))
          refine wpQuiet_nil ?_
          intro w1 hx1
          go_wp2_with fail
          go_ret
          exact ⟨ret_bool (decide_eq_false fun e => HE.out (by rw [e])).symm, HX.out.trans hx1⟩
      · have HF : Hid (decide (l = m) = true) := Lib.hid (decide_eq_true (eq_of_nth HN.out.symm fun j hj => HA.out j (by omega)))
        go_wp2_with fail
        go_ret
        exact ⟨ret_bool HF.out.symm, HX.out⟩
  · have HL := Lib.hid hl
    have e1 : ((l.length : Int) != (m.length : Int)) = true := by simp; omega
    have e2 : (l.length != m.length) = true := by simp; omega
    go_enter Tryd.func23, Tryd.ntmps23
    go_wp2_with fail
    go_ret
    exact ⟨ret_bool (decide_eq_false fun e => HL.out (by rw [e])).symm, Ext.refl _⟩

set_option maxHeartbeats 4000000 in
theorem eqConfig_any {S S' : Nat → Prop} (x y : Config) (cs ds : List Value) (w : World) (h : EConfig.rel S w cs x) (g : EConfig.rel S' w ds y) :
    Calls Tryd.prog 8 #[.agg cs.toArray, .agg ds.toArray] w fun e w' => e = .returned (.bool (decide (x = y))) ∧ Ext w w' := by
  obtain ⟨v1, v2, v3, rfl, hi, h1, h2, h3⟩ := h
  obtain ⟨u1, u2, u3, rfl, gi, g1, g2, g3⟩ := g
  have H1 := Lib.hid h1
  have G1 := Lib.hid g1
  have H2 := Lib.hid h2
  have G2 := Lib.hid g2
  have H3 := Lib.hid h3
  have G3 := Lib.hid g3
  clear h1 g1 h2 g2 h3 g3
  have HI := Lib.hid hi
  have GI := Lib.hid gi
  clear hi gi
  simp only [cellsConfig]
  go_enter Tryd.func8, Tryd.ntmps8
  go_upto_region 1 with (fail)
  obtain ⟨W, B, hW, hB, hx0, a0, b0⟩ := boxes2 w #[v1, v2, v3, .int .i64 x.half] #[u1, u2, u3, .int .i64 y.half] 33 33
  rw [← hW, ← hB]
  clear hW hB
  have X0 := Lib.hid hx0
  have A0 := Lib.hid a0
  have B0 := Lib.hid b0
  clear hx0 a0 b0
  have ac := A0.out.cell
  have bc := B0.out.cell
  go_wp2_with (first
    | (go_at_call 21; (with_reducible refine (eqLabelSS_any x.nodes y.nodes v1 u1 _ (H1.out.ext X0.out) (G1.out.ext X0.out)).mono ?_); rintro e w1 ⟨rfl, hx⟩; have X1 := Lib.hid (X0.out.trans hx); have A1 := Lib.hid (A0.out.ext hx); have B1 := Lib.hid (B0.out.ext hx); clear hx X0 A0 B0 ac bc; have ac := A1.out.cell; have bc := B1.out.cell)
    | (go_at_call 22; (with_reducible refine (eqPairS_any x.pairs y.pairs v2 u2 _ (H2.out.ext X1.out) (G2.out.ext X1.out)).mono ?_); rintro e w2 ⟨rfl, hx⟩; have X2 := Lib.hid (X1.out.trans hx); have A2 := Lib.hid (A1.out.ext hx); have B2 := Lib.hid (B1.out.ext hx); clear hx X1 A1 B1 ac bc; have ac := A2.out.cell; have bc := B2.out.cell)
    | (go_at_call 23; (with_reducible refine (eqQuotaS_any x.quotas y.quotas v3 u3 _ (H3.out.ext X2.out) (G3.out.ext X2.out)).mono ?_); rintro e w3 ⟨rfl, hx⟩; have X3 := Lib.hid (X2.out.trans hx); have A3 := Lib.hid (A2.out.ext hx); have B3 := Lib.hid (B2.out.ext hx); clear hx X2 A2 B2 ac bc; have ac := A3.out.cell; have bc := B3.out.cell))
  all_goals (go_ret; exact ⟨ret_bool (by go_light; clear ac bc; simp_all [Config.ext_iff]), by first | exact X3.out | exact X2.out | exact X1.out | exact X0.out⟩)

end Go.Proofs.YtjiipmkehdiiiaaDoor

namespace Go.Proofs.YtjiipmkehdiiiaaDoor

/-- What is left of a purse once n has been paid; -1: it did not suffice. -/
def pay (n : Nat) (left : Int) : Int := if left - n < 0 then -1 else left - n
/-- One payment behind another. -/
def payThen (f : Int → Int) (left : Int) : Int := if left < 0 then -1 else f left
def payList {α : Type} (f : α → Int → Int) : List α → Int → Int
  | [], left => left
  | x :: l, left => if f x left < 0 then -1 else payList f l (f x left)
/-- A payment is one that says -1, or something from 0 to what there was. -/
def Pays (f : Int → Int) : Prop := ∀ left, 0 ≤ left → f left = -1 ∨ (0 ≤ f left ∧ f left ≤ left)
theorem pays_pay (n : Nat) : Pays (pay n) := fun left h => by unfold pay; split <;> omega
theorem pays_then {f g : Int → Int} (hf : Pays f) (hg : Pays g) : Pays (fun left => payThen g (f left)) := fun left h => by
  show payThen g (f left) = -1 ∨ 0 ≤ payThen g (f left) ∧ payThen g (f left) ≤ left
  unfold payThen
  rcases hf left h with h1 | ⟨h1, h2⟩
  · simp [h1]
  · rw [if_neg (by omega)]
    rcases hg _ h1 with h3 | ⟨h3, h4⟩
    · exact .inl h3
    · exact .inr ⟨h3, by omega⟩
theorem pays_list {α : Type} {f : α → Int → Int} : ∀ (l : List α), (∀ x ∈ l, Pays (f x)) → Pays (payList f l)
  | [], _ => fun left h => .inr ⟨h, Int.le_refl _⟩
  | x :: l, hf => fun left h => by
    unfold payList
    rcases hf x (List.mem_cons_self ..) left h with h1 | ⟨h1, h2⟩
    · simp [h1]
    · rw [if_neg (by omega)]
      rcases pays_list l (fun y hy => hf y (List.mem_cons_of_mem _ hy)) _ h1 with h3 | ⟨h3, h4⟩
      · exact .inl h3
      · exact .inr ⟨h3, by omega⟩
theorem pay_neg {n : Nat} {left : Int} (h : left - n < 0) : pay n left = -1 := by unfold pay; rw [if_pos h]
theorem pay_pos {n : Nat} {left : Int} (h : 0 ≤ left - n) : pay n left = left - n := by unfold pay; rw [if_neg (by omega)]
theorem then_neg {f : Int → Int} : payThen f (-1) = -1 := rfl
theorem then_pos {f : Int → Int} {left : Int} (h : 0 ≤ left) : payThen f left = f left := by unfold payThen; rw [if_neg (by omega)]
/-- Behind k payments q is left, and all goes on as if it had begun here. -/
def PaidTo {α : Type} (f : α → Int → Int) (l : List α) (top q : Int) (k : Nat) : Prop := payList f (l.drop k) q = payList f l top
/-- Where all was paid, each part was. -/
theorem pay_ok {n : Nat} {left : Int} (h : 0 ≤ pay n left) : (n : Int) ≤ left ∧ pay n left = left - n := by
  unfold pay at h ⊢
  split at h <;> rename_i h' <;> simp [h'] at h ⊢
  omega
theorem then_ok {f : Int → Int} {left : Int} (h : 0 ≤ payThen f left) : 0 ≤ left ∧ 0 ≤ f left := by
  unfold payThen at h
  split at h
  · omega
  · exact ⟨by omega, h⟩
theorem list_ok {α : Type} {f : α → Int → Int} {P : α → Prop} {top : Int} : ∀ (l : List α), (∀ x ∈ l, Pays (f x)) → (∀ x left, left ≤ top → 0 ≤ left → 0 ≤ f x left → P x) → ∀ left, 0 ≤ left → left ≤ top → 0 ≤ payList f l left → ∀ x ∈ l, P x
  | [], _, _ => fun _ _ _ _ x hx => by cases hx
  | x :: l, hf, hP => fun left h0 h1 h2 y hy => by
    unfold payList at h2
    split at h2
    · omega
    · rename_i h3
      rcases hf x (List.mem_cons_self ..) left h0 with h4 | ⟨h4, h5⟩
      · omega
      · rcases List.mem_cons.1 hy with rfl | hy
        · exact hP _ left h1 h0 h4
        · exact list_ok l (fun y hy => hf y (List.mem_cons_of_mem _ hy)) hP _ h4 (by omega) h2 y hy

end Go.Proofs.YtjiipmkehdiiiaaDoor

namespace Go.Proofs.YtjiipmkehdiiiaaDoor

def szSpanS (l : List Span) (left : Int) : Int := pay l.length left
theorem pays_szSpanS (l : List Span) : Pays (szSpanS l) := pays_pay _
theorem small_szSpanS {l : List Span} {left : Int} (_h0 : 0 ≤ left) (h1 : left ≤ 1048576) (h : 0 ≤ szSpanS l left) : SmSpanS l := ⟨by have := (pay_ok h).1; omega, fun _ _ => trivial⟩

def szNode (x : Node) (left : Int) : Int := szSpanS x.books left
theorem pays_szNode (x : Node) : Pays (szNode x) := pays_szSpanS _
theorem small_szNode {x : Node} {left : Int} (h0 : 0 ≤ left) (h1 : left ≤ 1048576) (h : 0 ≤ szNode x left) : SmNode x := by
  unfold szNode at h
  have e0 := h
  have s0 := small_szSpanS h0 h1 e0
  exact s0

def szUse (x : Use) (left : Int) : Int := pay x.owner.size left
theorem pays_szUse (x : Use) : Pays (szUse x) := pays_pay _
theorem small_szUse {x : Use} {left : Int} (_h0 : 0 ≤ left) (_h1 : left ≤ 1048576) (_h : 0 ≤ szUse x left) : SmUse x := trivial

def szInt64S (l : List Int) (left : Int) : Int := pay l.length left
theorem pays_szInt64S (l : List Int) : Pays (szInt64S l) := pays_pay _
theorem small_szInt64S {l : List Int} {left : Int} (_h0 : 0 ≤ left) (h1 : left ≤ 1048576) (h : 0 ≤ szInt64S l left) : SmInt64S l := ⟨by have := (pay_ok h).1; omega, fun _ _ => trivial⟩

def szTask (x : Task) (left : Int) : Int := payThen (szInt64S x.nodes) (pay x.owner.size left)
theorem pays_szTask (x : Task) : Pays (szTask x) := pays_then (pays_pay _) (pays_szInt64S _)
theorem small_szTask {x : Task} {left : Int} (h0 : 0 ≤ left) (h1 : left ≤ 1048576) (h : 0 ≤ szTask x left) : SmTask x := by
  unfold szTask at h
  have e1 := h
  obtain ⟨e0, g1⟩ := then_ok e1
  have p0 : pay x.owner.size left = -1 ∨ (0 ≤ pay x.owner.size left ∧ pay x.owner.size left ≤ left) := (pays_pay x.owner.size) left h0
  have s1 := small_szInt64S e0 (by omega) g1
  exact ⟨trivial, trivial, s1⟩

def szWish (x : Wish) (left : Int) : Int := pay x.owner.size left
theorem pays_szWish (x : Wish) : Pays (szWish x) := pays_pay _
theorem small_szWish {x : Wish} {left : Int} (_h0 : 0 ≤ left) (_h1 : left ≤ 1048576) (_h : 0 ≤ szWish x left) : SmWish x := trivial

def szLabelS (l : List Label) (left : Int) : Int := pay l.length left
theorem pays_szLabelS (l : List Label) : Pays (szLabelS l) := pays_pay _
theorem small_szLabelS {l : List Label} {left : Int} (_h0 : 0 ≤ left) (h1 : left ≤ 1048576) (h : 0 ≤ szLabelS l left) : SmLabelS l := ⟨by have := (pay_ok h).1; omega, fun _ _ => trivial⟩

def szLabelSS (l : List (List Label)) (left : Int) : Int := payThen (payList szLabelS l) (pay l.length left)
theorem pays_szLabelSS (l : List (List Label)) : Pays (szLabelSS l) := pays_then (pays_pay _) (pays_list l fun x _ => pays_szLabelS x)
theorem small_szLabelSS {l : List (List Label)} {left : Int} (h0 : 0 ≤ left) (h1 : left ≤ 1048576) (h : 0 ≤ szLabelSS l left) : SmLabelSS l := by
  obtain ⟨h2, h3⟩ := then_ok h
  obtain ⟨h4, h5⟩ := pay_ok h2
  rw [h5] at h2 h3
  exact ⟨by omega, list_ok l (fun x _ => pays_szLabelS x) (fun x left h6 h7 h8 => small_szLabelS h7 h6 h8) _ h2 (by omega) h3⟩

def szPairS (l : List Pair) (left : Int) : Int := pay l.length left
theorem pays_szPairS (l : List Pair) : Pays (szPairS l) := pays_pay _
theorem small_szPairS {l : List Pair} {left : Int} (_h0 : 0 ≤ left) (h1 : left ≤ 1048576) (h : 0 ≤ szPairS l left) : SmPairS l := ⟨by have := (pay_ok h).1; omega, fun _ _ => ⟨trivial, trivial⟩⟩

def szQuotaS (l : List Quota) (left : Int) : Int := pay l.length left
theorem pays_szQuotaS (l : List Quota) : Pays (szQuotaS l) := pays_pay _
theorem small_szQuotaS {l : List Quota} {left : Int} (_h0 : 0 ≤ left) (h1 : left ≤ 1048576) (h : 0 ≤ szQuotaS l left) : SmQuotaS l := ⟨by have := (pay_ok h).1; omega, fun _ _ => trivial⟩

def szConfig (x : Config) (left : Int) : Int := payThen (szQuotaS x.quotas) (payThen (szPairS x.pairs) (szLabelSS x.nodes left))
theorem pays_szConfig (x : Config) : Pays (szConfig x) := pays_then (pays_then (pays_szLabelSS _) (pays_szPairS _)) (pays_szQuotaS _)
theorem small_szConfig {x : Config} {left : Int} (h0 : 0 ≤ left) (h1 : left ≤ 1048576) (h : 0 ≤ szConfig x left) : SmConfig x := by
  unfold szConfig at h
  have e2 := h
  obtain ⟨e1, g2⟩ := then_ok e2
  obtain ⟨e0, g1⟩ := then_ok e1
  have p0 : szLabelSS x.nodes left = -1 ∨ (0 ≤ szLabelSS x.nodes left ∧ szLabelSS x.nodes left ≤ left) := (pays_szLabelSS x.nodes) left h0
  have p1 : payThen (szPairS x.pairs) (szLabelSS x.nodes left) = -1 ∨ (0 ≤ payThen (szPairS x.pairs) (szLabelSS x.nodes left) ∧ payThen (szPairS x.pairs) (szLabelSS x.nodes left) ≤ left) := (pays_then (pays_szLabelSS x.nodes) (pays_szPairS x.pairs)) left h0
  have s0 := small_szLabelSS h0 h1 e0
  have s1 := small_szPairS e0 (by omega) g1
  have s2 := small_szQuotaS e1 (by omega) g2
  exact ⟨s0, s1, s2⟩

def szNodeS (l : List Node) (left : Int) : Int := payThen (payList szNode l) (pay l.length left)
theorem pays_szNodeS (l : List Node) : Pays (szNodeS l) := pays_then (pays_pay _) (pays_list l fun x _ => pays_szNode x)
theorem small_szNodeS {l : List Node} {left : Int} (h0 : 0 ≤ left) (h1 : left ≤ 1048576) (h : 0 ≤ szNodeS l left) : SmNodeS l := by
  obtain ⟨h2, h3⟩ := then_ok h
  obtain ⟨h4, h5⟩ := pay_ok h2
  rw [h5] at h2 h3
  exact ⟨by omega, list_ok l (fun x _ => pays_szNode x) (fun x left h6 h7 h8 => small_szNode h7 h6 h8) _ h2 (by omega) h3⟩

def szTaskS (l : List Task) (left : Int) : Int := payThen (payList szTask l) (pay l.length left)
theorem pays_szTaskS (l : List Task) : Pays (szTaskS l) := pays_then (pays_pay _) (pays_list l fun x _ => pays_szTask x)
theorem small_szTaskS {l : List Task} {left : Int} (h0 : 0 ≤ left) (h1 : left ≤ 1048576) (h : 0 ≤ szTaskS l left) : SmTaskS l := by
  obtain ⟨h2, h3⟩ := then_ok h
  obtain ⟨h4, h5⟩ := pay_ok h2
  rw [h5] at h2 h3
  exact ⟨by omega, list_ok l (fun x _ => pays_szTask x) (fun x left h6 h7 h8 => small_szTask h7 h6 h8) _ h2 (by omega) h3⟩

def szUseS (l : List Use) (left : Int) : Int := payThen (payList szUse l) (pay l.length left)
theorem pays_szUseS (l : List Use) : Pays (szUseS l) := pays_then (pays_pay _) (pays_list l fun x _ => pays_szUse x)
theorem small_szUseS {l : List Use} {left : Int} (h0 : 0 ≤ left) (h1 : left ≤ 1048576) (h : 0 ≤ szUseS l left) : SmUseS l := by
  obtain ⟨h2, h3⟩ := then_ok h
  obtain ⟨h4, h5⟩ := pay_ok h2
  rw [h5] at h2 h3
  exact ⟨by omega, list_ok l (fun x _ => pays_szUse x) (fun x left h6 h7 h8 => small_szUse h7 h6 h8) _ h2 (by omega) h3⟩

def szYard (x : Yard) (left : Int) : Int := payThen (szUseS x.uses) (payThen (szTaskS x.tasks) (payThen (szNodeS x.nodes) (szConfig x.config left)))
theorem pays_szYard (x : Yard) : Pays (szYard x) := pays_then (pays_then (pays_then (pays_szConfig _) (pays_szNodeS _)) (pays_szTaskS _)) (pays_szUseS _)
theorem small_szYard {x : Yard} {left : Int} (h0 : 0 ≤ left) (h1 : left ≤ 1048576) (h : 0 ≤ szYard x left) : SmYard x := by
  unfold szYard at h
  have e3 := h
  obtain ⟨e2, g3⟩ := then_ok e3
  obtain ⟨e1, g2⟩ := then_ok e2
  obtain ⟨e0, g1⟩ := then_ok e1
  have p0 : szConfig x.config left = -1 ∨ (0 ≤ szConfig x.config left ∧ szConfig x.config left ≤ left) := (pays_szConfig x.config) left h0
  have p1 : payThen (szNodeS x.nodes) (szConfig x.config left) = -1 ∨ (0 ≤ payThen (szNodeS x.nodes) (szConfig x.config left) ∧ payThen (szNodeS x.nodes) (szConfig x.config left) ≤ left) := (pays_then (pays_szConfig x.config) (pays_szNodeS x.nodes)) left h0
  have p2 : payThen (szTaskS x.tasks) (payThen (szNodeS x.nodes) (szConfig x.config left)) = -1 ∨ (0 ≤ payThen (szTaskS x.tasks) (payThen (szNodeS x.nodes) (szConfig x.config left)) ∧ payThen (szTaskS x.tasks) (payThen (szNodeS x.nodes) (szConfig x.config left)) ≤ left) := (pays_then (pays_then (pays_szConfig x.config) (pays_szNodeS x.nodes)) (pays_szTaskS x.tasks)) left h0
  have s0 := small_szConfig h0 h1 e0
  have s1 := small_szNodeS e0 (by omega) g1
  have s2 := small_szTaskS e1 (by omega) g2
  have s3 := small_szUseS e2 (by omega) g3
  exact ⟨s0, s1, s2, s3⟩

def szNoteS (l : List Note) (left : Int) : Int := pay l.length left
theorem pays_szNoteS (l : List Note) : Pays (szNoteS l) := pays_pay _
theorem small_szNoteS {l : List Note} {left : Int} (_h0 : 0 ≤ left) (h1 : left ≤ 1048576) (h : 0 ≤ szNoteS l left) : SmNoteS l := ⟨by have := (pay_ok h).1; omega, fun _ _ => trivial⟩

def szBox (x : Box) (left : Int) : Int := payThen (szNoteS x.log) (payThen (szInt64S x.here) (szInt64S x.next left))
theorem pays_szBox (x : Box) : Pays (szBox x) := pays_then (pays_then (pays_szInt64S _) (pays_szInt64S _)) (pays_szNoteS _)
theorem small_szBox {x : Box} {left : Int} (h0 : 0 ≤ left) (h1 : left ≤ 1048576) (h : 0 ≤ szBox x left) : SmBox x := by
  unfold szBox at h
  have e2 := h
  obtain ⟨e1, g2⟩ := then_ok e2
  obtain ⟨e0, g1⟩ := then_ok e1
  have p0 : szInt64S x.next left = -1 ∨ (0 ≤ szInt64S x.next left ∧ szInt64S x.next left ≤ left) := (pays_szInt64S x.next) left h0
  have p1 : payThen (szInt64S x.here) (szInt64S x.next left) = -1 ∨ (0 ≤ payThen (szInt64S x.here) (szInt64S x.next left) ∧ payThen (szInt64S x.here) (szInt64S x.next left) ≤ left) := (pays_then (pays_szInt64S x.next) (pays_szInt64S x.here)) left h0
  have s0 := small_szInt64S h0 h1 e0
  have s1 := small_szInt64S e0 (by omega) g1
  have s2 := small_szNoteS e1 (by omega) g2
  exact ⟨s0, s1, s2⟩

def szBoxS (l : List Box) (left : Int) : Int := payThen (payList szBox l) (pay l.length left)
theorem pays_szBoxS (l : List Box) : Pays (szBoxS l) := pays_then (pays_pay _) (pays_list l fun x _ => pays_szBox x)
theorem small_szBoxS {l : List Box} {left : Int} (h0 : 0 ≤ left) (h1 : left ≤ 1048576) (h : 0 ≤ szBoxS l left) : SmBoxS l := by
  obtain ⟨h2, h3⟩ := then_ok h
  obtain ⟨h4, h5⟩ := pay_ok h2
  rw [h5] at h2 h3
  exact ⟨by omega, list_ok l (fun x _ => pays_szBox x) (fun x left h6 h7 h8 => small_szBox h7 h6 h8) _ h2 (by omega) h3⟩

def szMail (x : Mail) (left : Int) : Int := szBoxS x.boxes left
theorem pays_szMail (x : Mail) : Pays (szMail x) := pays_szBoxS _
theorem small_szMail {x : Mail} {left : Int} (h0 : 0 ≤ left) (h1 : left ≤ 1048576) (h : 0 ≤ szMail x left) : SmMail x := by
  unfold szMail at h
  have e0 := h
  have s0 := small_szBoxS h0 h1 e0
  exact s0

def szPlace (x : Place) (left : Int) : Int := szInt64S x.nodes left
theorem pays_szPlace (x : Place) : Pays (szPlace x) := pays_szInt64S _
theorem small_szPlace {x : Place} {left : Int} (h0 : 0 ≤ left) (h1 : left ≤ 1048576) (h : 0 ≤ szPlace x left) : SmPlace x := by
  unfold szPlace at h
  have e0 := h
  have s0 := small_szInt64S h0 h1 e0
  exact ⟨trivial, s0⟩

def szNodesOut (x : NodesOut) (left : Int) : Int := szNodeS x.nodes left
theorem pays_szNodesOut (x : NodesOut) : Pays (szNodesOut x) := pays_szNodeS _
theorem small_szNodesOut {x : NodesOut} {left : Int} (h0 : 0 ≤ left) (h1 : left ≤ 1048576) (h : 0 ≤ szNodesOut x left) : SmNodesOut x := by
  unfold szNodesOut at h
  have e0 := h
  have s0 := small_szNodeS h0 h1 e0
  exact s0

def szTaskOut (x : TaskOut) (left : Int) : Int := szTask x.task left
theorem pays_szTaskOut (x : TaskOut) : Pays (szTaskOut x) := pays_szTask _
theorem small_szTaskOut {x : TaskOut} {left : Int} (h0 : 0 ≤ left) (h1 : left ≤ 1048576) (h : 0 ≤ szTaskOut x left) : SmTaskOut x := by
  unfold szTaskOut at h
  have e0 := h
  have s0 := small_szTask h0 h1 e0
  exact s0

def szYardOut (x : YardOut) (left : Int) : Int := szYard x.yard left
theorem pays_szYardOut (x : YardOut) : Pays (szYardOut x) := pays_szYard _
theorem small_szYardOut {x : YardOut} {left : Int} (h0 : 0 ≤ left) (h1 : left ≤ 1048576) (h : 0 ≤ szYardOut x left) : SmYardOut x := by
  unfold szYardOut at h
  have e0 := h
  have s0 := small_szYard h0 h1 e0
  exact s0

def szConfigOut (x : ConfigOut) (left : Int) : Int := szConfig x.config left
theorem pays_szConfigOut (x : ConfigOut) : Pays (szConfigOut x) := pays_szConfig _
theorem small_szConfigOut {x : ConfigOut} {left : Int} (h0 : 0 ≤ left) (h1 : left ≤ 1048576) (h : 0 ≤ szConfigOut x left) : SmConfigOut x := by
  unfold szConfigOut at h
  have e0 := h
  have s0 := small_szConfig h0 h1 e0
  exact s0

def szMailOut (x : MailOut) (left : Int) : Int := szMail x.mail left
theorem pays_szMailOut (x : MailOut) : Pays (szMailOut x) := pays_szMail _
theorem small_szMailOut {x : MailOut} {left : Int} (h0 : 0 ≤ left) (h1 : left ≤ 1048576) (h : 0 ≤ szMailOut x left) : SmMailOut x := by
  unfold szMailOut at h
  have e0 := h
  have s0 := small_szMail h0 h1 e0
  exact s0

def szPlaceS (l : List Place) (left : Int) : Int := payThen (payList szPlace l) (pay l.length left)
theorem pays_szPlaceS (l : List Place) : Pays (szPlaceS l) := pays_then (pays_pay _) (pays_list l fun x _ => pays_szPlace x)
theorem small_szPlaceS {l : List Place} {left : Int} (h0 : 0 ≤ left) (h1 : left ≤ 1048576) (h : 0 ≤ szPlaceS l left) : SmPlaceS l := by
  obtain ⟨h2, h3⟩ := then_ok h
  obtain ⟨h4, h5⟩ := pay_ok h2
  rw [h5] at h2 h3
  exact ⟨by omega, list_ok l (fun x _ => pays_szPlace x) (fun x left h6 h7 h8 => small_szPlace h7 h6 h8) _ h2 (by omega) h3⟩

def szSpanSS (l : List (List Span)) (left : Int) : Int := payThen (payList szSpanS l) (pay l.length left)
theorem pays_szSpanSS (l : List (List Span)) : Pays (szSpanSS l) := pays_then (pays_pay _) (pays_list l fun x _ => pays_szSpanS x)
theorem small_szSpanSS {l : List (List Span)} {left : Int} (h0 : 0 ≤ left) (h1 : left ≤ 1048576) (h : 0 ≤ szSpanSS l left) : SmSpanSS l := by
  obtain ⟨h2, h3⟩ := then_ok h
  obtain ⟨h4, h5⟩ := pay_ok h2
  rw [h5] at h2 h3
  exact ⟨by omega, list_ok l (fun x _ => pays_szSpanS x) (fun x left h6 h7 h8 => small_szSpanS h7 h6 h8) _ h2 (by omega) h3⟩

end Go.Proofs.YtjiipmkehdiiiaaDoor

namespace Go.Proofs.YtjiipmkehdiiiaaDoor
open Go.RowKit
attribute [local irreducible] wpQuiet

set_option maxHeartbeats 4000000 in
set_option maxRecDepth 50000 in
theorem szLabelS_any {S : Nat → Prop} (l : List Label) (v : Value) (left : Int) (w : World) (h : Rd ELabel S w v l) (h0 : 0 ≤ left) (h1 : left ≤ 1048576) :
    Calls Tryd.prog 24 #[v, .int .i64 left] w fun e w' => e = .returned (.int .i64 (szLabelS l left)) ∧ Ext w w' := by
  obtain ⟨A, c, rfl, h2, h3, hk⟩ := h.open_
  unfold maxLen at h3
  have HK := Lib.hid hk
  clear hk h
  go_enter Tryd.func24, Tryd.ntmps24
  go_wp2
  all_goals (go_ret; refine ⟨ret_int ?_, Ext.refl _⟩; simp only [szLabelS, pay]; split <;> omega)

set_option maxHeartbeats 4000000 in
set_option maxRecDepth 50000 in
theorem szLabelSS_any {S : Nat → Prop} (l : List (List Label)) (v : Value) (left : Int) (w : World) (h : Rd (ERow ELabel) S w v l) (h0 : 0 ≤ left) (h1 : left ≤ 1048576) :
    Calls Tryd.prog 9 #[v, .int .i64 left] w fun e w' => e = .returned (.int .i64 (szLabelSS l left)) ∧ Ext w w' := by
  obtain ⟨A, c, rfl, h2, h3, hk⟩ := h.open_
  unfold maxLen at h3
  have HK := Lib.hid hk
  clear hk h
  by_cases hp : left - (l.length : Int) < 0
  · go_enter Tryd.func9, Tryd.ntmps9
    go_wp2_with fail
    go_ret
    exact ⟨ret_int (by rw [szLabelSS, pay_neg hp, then_neg]), Ext.refl _⟩
  · have hq : 0 ≤ left - (l.length : Int) := by omega
    clear hp
    have HF : Hid (szLabelSS l left = payList szLabelS l (left - l.length)) := Lib.hid (by rw [szLabelSS, pay_pos hq, then_pos hq])
    go_enter Tryd.func9, Tryd.ntmps9
    go_wp2_with fail
    go_loopw [1, 5] (fun r i w' => ∃ (k : Nat) (q : Int), k ≤ l.length ∧ i = .int .i64 k ∧ r = .int .i64 q ∧ 0 ≤ q ∧ q ≤ 1048576 ∧ PaidTo szLabelS l (left - l.length) q k ∧ Ext w w') (fun _ i _ => l.length - (intOf i).toNat)
    case atStart => exact ⟨0, left - l.length, by omega, rfl, rfl, hq, by omega, by rw [PaidTo, List.drop_zero], Ext.refl _⟩
    case round =>
      obtain ⟨k, q, hk1, rfl, rfl, q0, q1, hd, hx⟩ := hrel
      have HD : Hid (payList szLabelS (l.drop k) q = payList szLabelS l (left - l.length)) := Lib.hid hd
      have HX := Lib.hid hx
      clear hd
      by_cases hlt : k < l.length
      · obtain ⟨b, o, cs, rfl, hb, hr, hc⟩ := HK.out k hlt
        obtain ⟨v, rfl, hr⟩ := hr
        have c0 := Ext.some hx (hc 0 _ rfl)
        have HR := Lib.hid (hr.ext hx)
        simp only [ERow, Nat.mul_one, Nat.add_zero] at c0
        clear hc hr hx
        have HP := Lib.hid (pays_szLabelS (nth l k) q q0)
        by_cases hneg : szLabelS (nth l k) q < 0
        · have HN : Hid (payList szLabelS l (left - l.length) = -1) := Lib.hid (by rw [← HD.out, drop_nth hlt]; simp only [payList]; rw [if_pos hneg])
          go_wp2_with (first | (go_at_call 24; refine (szLabelS_any (nth l k) v q _ HR.out q0 q1).mono ?_; rintro e w1 ⟨rfl, hx1⟩; have HX1 := Lib.hid hx1; clear hx1))
          go_ret
          exact ⟨ret_int (by rw [HF.out, HN.out]), HX.out.trans HX1.out⟩
        · have hpos : 0 ≤ szLabelS (nth l k) q := by omega
          clear hneg
          have HN : Hid (payList szLabelS (l.drop (k + 1)) (szLabelS (nth l k) q) = payList szLabelS l (left - l.length)) := Lib.hid (by rw [← HD.out, drop_nth hlt]; simp only [payList]; rw [if_neg (by omega)])
          go_wp2_with (first | (go_at_call 24; refine (szLabelS_any (nth l k) v q _ HR.out q0 q1).mono ?_; rintro e w1 ⟨rfl, hx1⟩; have HX1 := Lib.hid hx1; clear hx1))
          go_roundw
          case rel => exact ⟨k + 1, _, by omega, by go_num, rfl, hpos, by have := HP.out; omega, HN.out, HX.out.trans HX1.out⟩
          case measure => simp [intOf]; omega
      · obtain rfl : k = l.length := by omega
        have HE : Hid (payList szLabelS l (left - l.length) = q) := Lib.hid (by rw [← HD.out, List.drop_length]; rfl)
        go_wp2_with fail
        go_ret
        exact ⟨ret_int (by rw [HF.out, HE.out]), HX.out⟩

set_option maxHeartbeats 4000000 in
set_option maxRecDepth 50000 in
theorem szPairS_any {S : Nat → Prop} (l : List Pair) (v : Value) (left : Int) (w : World) (h : Rd EPair S w v l) (h0 : 0 ≤ left) (h1 : left ≤ 1048576) :
    Calls Tryd.prog 10 #[v, .int .i64 left] w fun e w' => e = .returned (.int .i64 (szPairS l left)) ∧ Ext w w' := by
  obtain ⟨A, c, rfl, h2, h3, hk⟩ := h.open_
  unfold maxLen at h3
  have HK := Lib.hid hk
  clear hk h
  go_enter Tryd.func10, Tryd.ntmps10
  go_wp2
  all_goals (go_ret; refine ⟨ret_int ?_, Ext.refl _⟩; simp only [szPairS, pay]; split <;> omega)

set_option maxHeartbeats 4000000 in
set_option maxRecDepth 50000 in
theorem szQuotaS_any {S : Nat → Prop} (l : List Quota) (v : Value) (left : Int) (w : World) (h : Rd EQuota S w v l) (h0 : 0 ≤ left) (h1 : left ≤ 1048576) :
    Calls Tryd.prog 11 #[v, .int .i64 left] w fun e w' => e = .returned (.int .i64 (szQuotaS l left)) ∧ Ext w w' := by
  obtain ⟨A, c, rfl, h2, h3, hk⟩ := h.open_
  unfold maxLen at h3
  have HK := Lib.hid hk
  clear hk h
  go_enter Tryd.func11, Tryd.ntmps11
  go_wp2
  all_goals (go_ret; refine ⟨ret_int ?_, Ext.refl _⟩; simp only [szQuotaS, pay]; split <;> omega)

set_option maxHeartbeats 4000000 in
theorem szConfig_any {S : Nat → Prop} (x : Config) (cs : List Value) (left : Int) (w : World) (h : EConfig.rel S w cs x) (h0 : 0 ≤ left) (h1 : left ≤ 1048576) :
    Calls Tryd.prog 4 #[.agg cs.toArray, .int .i64 left] w fun e w' => e = .returned (.int .i64 (szConfig x left)) ∧ Ext w w' := by
  obtain ⟨v1, v2, v3, rfl, hi, h_1, h_2, h_3⟩ := h
  have H1 := Lib.hid h_1
  have H2 := Lib.hid h_2
  have H3 := Lib.hid h_3
  clear h_1 h_2 h_3
  have HI := Lib.hid hi
  clear hi
  simp only [cellsConfig]
  go_enter Tryd.func4, Tryd.ntmps4
  go_upto_region 1 with (fail)
  obtain ⟨W, B, hW, hB, hx0, hbox⟩ := box_new w #[v1, v2, v3, .int .i64 x.half] 26
  rw [← hW, ← hB]
  have A0 : Hid (Blk W B 26 #[v1, v2, v3, .int .i64 x.half]) := Lib.hid (by rw [hW, hB]; exact Blk.new w _ _)
  have X0 := Lib.hid hx0
  clear hW hB hbox hx0
  have ac := A0.out.cell
  go_wp2_with (first
    | (go_at_call 9; (with_reducible refine (szLabelSS_any x.nodes v1 left _ (H1.out.ext X0.out) (by omega) (by omega)).mono ?_); rintro e w1 ⟨rfl, hx⟩; have P1 := Lib.hid (pays_szLabelSS x.nodes left (by omega)); have X1 := Lib.hid (X0.out.trans hx); have A1 := Lib.hid (A0.out.ext hx); clear hx X0 A0 ac; have ac := A1.out.cell)
    | (go_at_call 10; (with_reducible refine (szPairS_any x.pairs v2 (szLabelSS x.nodes left) _ (H2.out.ext X1.out) (by have q1 := P1.out; omega) (by have q1 := P1.out; omega)).mono ?_); rintro e w2 ⟨rfl, hx⟩; have P2 := Lib.hid (pays_szPairS x.pairs (szLabelSS x.nodes left) (by have q1 := P1.out; omega)); have X2 := Lib.hid (X1.out.trans hx); have A2 := Lib.hid (A1.out.ext hx); clear hx X1 A1 ac; have ac := A2.out.cell)
    | (go_at_call 11; (with_reducible refine (szQuotaS_any x.quotas v3 (szPairS x.pairs (szLabelSS x.nodes left)) _ (H3.out.ext X2.out) (by have q1 := P1.out; have q2 := P2.out; omega) (by have q1 := P1.out; have q2 := P2.out; omega)).mono ?_); rintro e w3 ⟨rfl, hx⟩; have P3 := Lib.hid (pays_szQuotaS x.quotas (szPairS x.pairs (szLabelSS x.nodes left)) (by have q1 := P1.out; have q2 := P2.out; omega)); have X3 := Lib.hid (X2.out.trans hx); have A3 := Lib.hid (A2.out.ext hx); clear hx X2 A2 ac; have ac := A3.out.cell))
  all_goals (go_ret; refine ⟨ret_int ?_, by first | exact X3.out | exact X2.out | exact X1.out | exact X0.out⟩; (try have q1 := P1.out); (try have q2 := P2.out); (try have q3 := P3.out); simp only [szConfig, payThen]; all_goals (repeat' split); all_goals omega)

end Go.Proofs.YtjiipmkehdiiiaaDoor

namespace Go.Proofs.YtjiipmkehdiiiaaDoor
open Go.RowKit Go.ChangeShapes Go.WideShapes Go.Deep

/-- Whatever can be read as data of type t reads as an element. -/
def Opens {α : Type} (P : Program) (t : TypeId) (E : Elem α) : Prop :=
  ∀ {H : Type} {enc : TypeId × Value → H} {w : World} {base : Nat} {spare : Nat → Bool} {held : Bool} {fuel : Nat} {cs : List Value} {x : DataW H × List MemPlace},
    DataW.trod enc P w base spare held fuel t cs = .some x → ∃ y, E.rel (fun _ => True) w cs y

def EStr : Elem ByteArray where
  size := 1
  rel := fun _ _ cs x => cs = [.string x] ∧ Str x
  len := by rintro _ _ _ _ ⟨rfl, _⟩; rfl
  keep := fun _ h => h
  sub := fun _ h => h
  one := by rintro _ _ _ _ ⟨rfl, _⟩; simp [Value.oneCell']

theorem len_succ {cs : List Value} {n : Nat} (h : cs.length = n + 1) : ∃ c r, cs = c :: r ∧ r.length = n := by
  cases cs with
  | nil => cases h
  | cons c r => exact ⟨c, r, rfl, by simpa using h⟩
theorem i64_of_wf {n : Int} (h : (Lit.int .i64 n).wf = true) : I64 n := by
  simp [Lit.wf, IntKind.min, IntKind.max, IntKind.signed, IntKind.bits] at h
  exact ⟨by omega, by omega⟩
theorem opens_int64 {P : Program} {t : TypeId} (ht : P.underlying t = .some (.int .i64)) : Opens P t EInt := by
  intro H enc w base spare held fuel cs x h
  obtain ⟨n, rfl, _, hw⟩ := DataW.trod_int ht h
  exact ⟨n, rfl, i64_of_wf hw⟩
theorem opens_str {P : Program} {t : TypeId} (ht : P.underlying t = .some .string) : Opens P t EStr := by
  intro H enc w base spare held fuel cs x h
  obtain ⟨s, rfl, _, hw⟩ := DataW.trod_string ht h
  exact ⟨s, rfl, hw⟩
theorem cells_range {w : World} {base : Nat} {a : Addr} {n : Nat} {cs : List Value} (h : w.cells? base a n = .some cs) : cs.length = n ∧ ∀ j, j < n → w.cell? (a.add j) = cs[j]? := by
  obtain ⟨_, h1, h2⟩ := World.cells?_some h
  exact ⟨h1, h2⟩
theorem opens_row {α : Type} {P : Program} {t e : TypeId} {E : Elem α} (ht : P.underlying t = .some (.slice e)) (hC : P.cellsOf e = E.size) (hz : 0 < E.size) (ho : Opens P e E) : Opens P t (ERow E) := by
  intro H enc w base spare held fuel cs x h
  rcases open_slice ht h with ⟨rfl, _⟩ | ⟨a, len, cap, m, n, D, Pl, rfl, _, hl, hm, hmm, hxx, hi⟩
  · exact ⟨[], _, rfl, none, 0, rfl, Nat.le_refl _, Nat.zero_le _, fun k x hk => by simp at hk⟩
  · have hlm : len ≤ m := by subst hmm; split <;> omega
    have hel : ∀ i, i < len → ∃ y : α, ∃ cs', E.rel (fun _ => True) w cs' y ∧ cs'.length = E.size ∧ ∀ j, j < E.size → w.cell? ((a.add (i * E.size)).add j) = cs'[j]? := fun i hlt => by
      obtain ⟨cs', hc, hd⟩ := hi i (by omega)
      obtain ⟨y, hy⟩ := ho hd
      rw [hC] at hc
      obtain ⟨h1, h2⟩ := cells_range hc
      exact ⟨y, cs', hy, h1, h2⟩
    have hex : ∃ l : List α, l.length = len ∧ ∀ i y, l[i]? = .some y → ∃ cs', E.rel (fun _ => True) w cs' y ∧ cs'.length = E.size ∧ ∀ j, j < E.size → w.cell? ((a.add (i * E.size)).add j) = cs'[j]? := by
      clear hi hl hm hmm hlm h hxx
      induction len with
      | zero => exact ⟨[], rfl, fun i y hy => by simp at hy⟩
      | succ len ih =>
        obtain ⟨l, h1, h2⟩ := ih (fun i hlt => hel i (by omega))
        obtain ⟨y, hy⟩ := hel len (by omega)
        refine ⟨l ++ [y], by simp [h1], fun i z hz => ?_⟩
        by_cases hi : i < l.length
        · rw [List.getElem?_append_left hi] at hz
          exact h2 i z hz
        · rw [List.getElem?_append_right (by omega)] at hz
          obtain ⟨hlt, rfl⟩ : i - l.length = 0 ∧ y = z := by
            rcases Nat.eq_zero_or_pos (i - l.length) with h0 | h0
            · rw [h0] at hz; exact ⟨h0, by simpa using hz⟩
            · rw [List.getElem?_eq_none (by simp; omega)] at hz; cases hz
          obtain rfl : i = len := by omega
          exact hy
    obtain ⟨l, h1, h2⟩ := hex
    subst h1
    refine ⟨l, _, rfl, some a, cap, rfl, hl, hm, fun k y hk => ?_⟩
    obtain ⟨cs', hy, hcl, hc⟩ := h2 k y hk
    have hs : a.spot = none := by
      have hkl : k < l.length := (List.getElem?_eq_some_iff.1 hk).1
      obtain ⟨cs0, _, hcl0, hc0⟩ := h2 0 (l[0]'(by omega)) (List.getElem?_eq_getElem (by omega))
      have h0 := hc0 0 hz
      rw [List.getElem?_eq_getElem (by omega), Nat.zero_mul] at h0
      have := World.cell?_spot h0
      simpa [Addr.add] using this
    obtain ⟨b, o, s⟩ := a
    obtain rfl : s = none := hs
    refine ⟨b, o, cs', rfl, trivial, hy, fun j v hj => ?_⟩
    have hjl : j < cs'.length := (List.getElem?_eq_some_iff.1 hj).1
    have := hc j (by omega)
    rw [hj] at this
    rw [← this, Addr.add_mid, Addr.add_mid]

section
variable {H : Type} {enc : TypeId × Value → H} {P : Program}
/-- Each of some arguments, in memory that has grown. -/
theorem trodAll_stays (hl : laidOutB P = true) {W W' : World} (hb : Ext W W') {sp : Nat → Bool} : ∀ {ts : List TypeId} {vs : List Value} {ds : List (DataW H)} {ps : List MemPlace}, (∀ t ∈ ts, P.readableRec t = true ∧ t < P.types.size) →
    DataW.TrodAll enc P W 0 (fun _ => true) true ts vs ds ps → (∀ p ∈ ps, p.block < W.heap.size) → (∀ p ∈ ps, sp p.block = true) → DataW.TrodAll enc P W' 0 sp true ts vs ds ps
  | [], [], [], _, _, h, _, _ => h
  | _ :: _, _ :: _, _ :: _, _, hT, ⟨p, q, h1, h2, e⟩, hlt, hs => by
    subst e
    refine ⟨p, q, ?_, trodAll_stays hl hb (fun t ht => hT t (List.mem_cons_of_mem _ ht)) h2 (fun x hx => hlt x (List.mem_append_right _ hx)) (fun x hx => hs x (List.mem_append_right _ hx)), rfl⟩
    exact WideElems.Trod_stays hl (hT _ (List.mem_cons_self ..)).1 (hT _ (List.mem_cons_self ..)).2 h1 (fun x hx => Below.same hb (hlt x (List.mem_append_left _ hx))) (fun x hx => hs x (List.mem_append_left _ hx))

/-- The last step of a law's row: it has answered true, and memory has only grown. -/
theorem law_post {f : Func} {s : ChangeSpec} {apart fresh handsOn again : Bool} {W W' : World} {args : Array Value} {ds : List (DataW H)} {before : List MemPlace} {tb : TypeId}
    (hl : laidOutB P = true) (hr : f.resultTypes = #[tb]) (hb : P.underlying tb = .some .bool) (hT : ∀ t ∈ f.params.toList, P.readableRec t = true ∧ t < P.types.size)
    (hsv : s.vars = []) (hfn : s.fn H (ds ++ []) = { results := [.lit (.bool true)], args := ds })
    (hW : DataW.Whole enc P f.params.toList s.vars apart W args.toList ds [] before) (hx : Ext W W') :
    s.post enc P f apart fresh handsOn again W args (.bool true) W' := by
  have hlt : ∀ p ∈ before, p.block < W.heap.size := fun p hp => hW.lt p hp
  have hold : ∀ p ∈ before, (fun b => decide (b < W.heap.size)) p.block = true := fun p hp => by simpa using hlt p hp
  have hW' := hW
  obtain ⟨pa, pv, hA, hV, rfl, hz, hn⟩ := hW
  rw [hsv] at hV
  obtain rfl : pv = [] := hV
  rw [List.append_nil] at hlt hold hz hn hW'
  have hargs : ∀ sp : Nat → Bool, (∀ p ∈ pa, sp p.block = true) → DataW.TrodAll enc P W' 0 sp true f.params.toList args.toList (s.fn H (ds ++ [])).args pa := fun sp hs => by
    rw [hfn]
    exact trodAll_stays hl hx hT hA hlt hs
  have hres : ∀ (b : Nat) (sp : Nat → Bool) (hd : Bool), DataW.TrodAll enc P W' b sp hd f.resultTypes.toList ((Value.bool true).resultList f.resultTypes.size) (s.fn H (ds ++ [])).results [] := fun b sp hd => by
    rw [hfn, hr]
    exact trodAll_mk1 (shut_bool hb true)
  have hvars : ∀ sp : Nat → Bool, DataW.TrodVars enc P W' sp s.vars (s.fn H (ds ++ [])).vars [] := fun sp => by
    rw [hfn, hsv]
    exact rfl
  refine ⟨ds, [], pa, [], pa, [], hW', hres _ _ _, hargs _ hold, hvars _, World.keptBut_mono (fun p hp => ⟨hp, Or.inr (Or.inl hp)⟩) (Below.frame hx (· ∈ pa)), fun _ => ?_⟩
  refine ⟨ok_one hr rfl (okWide_bool_mk hb true), _, _, ([] ++ pa) ++ [], ⟨[] ++ pa, [], trodAll_append (hargs _ (fun _ _ => rfl)) (hres _ _ _), hvars _, rfl, ?_, ?_⟩, ?_⟩
  · intro b off hp
    have hin : MemPlace.cell b off ∈ pa := by simpa using hp
    rw [Below.frozen hx (hlt _ hin)]
    exact hz b off hin
  · intro ha
    simpa using hn ha
  · intro p hp _
    simpa using hp
end
end Go.Proofs.YtjiipmkehdiiiaaDoor

namespace Go.Proofs.YtjiipmkehdiiiaaDoor
open Go.RowKit Go.ChangeShapes Go.WideShapes Go.Deep

theorem opens_int : Opens Tryd.prog 2 EInt := opens_int64 Tryd.underlying2
theorem opens_Label : Opens Tryd.prog 67 ELabel := by
  intro H enc w base spare held fuel cs x h
  obtain ⟨xs, n, _, _, hlen, hxl, hf⟩ := DataW.trod_struct Tryd.underlying67 h
  have hlen2 : cs.length = 2 := hlen.trans (by kernel_rfl)
  clear hlen
  obtain ⟨c0, r0, rfl, k0⟩ := len_succ hlen2
  obtain ⟨c1, r1, rfl, k1⟩ := len_succ k0
  obtain rfl := List.eq_nil_of_length_eq_zero k1
  clear hlen2 k0 k1
  have f0 : DataW.trod enc Tryd.prog w base spare held n 2 (([c0, c1].drop 0).take (Tryd.prog.cellsOf 2)) = xs[0]? := hf 0 _ rfl
  have z0 : Tryd.prog.cellsOf 2 = 1 := by kernel_rfl
  rw [z0, List.getElem?_eq_getElem (show 0 < xs.length from by rw [hxl]; decide)] at f0
  have f1 : DataW.trod enc Tryd.prog w base spare held n 2 (([c0, c1].drop 1).take (Tryd.prog.cellsOf 2)) = xs[1]? := hf 1 _ rfl
  have z1 : Tryd.prog.cellsOf 2 = 1 := by kernel_rfl
  rw [z1, List.getElem?_eq_getElem (show 1 < xs.length from by rw [hxl]; decide)] at f1
  obtain ⟨y0, g0⟩ := opens_int f0
  clear f0
  obtain ⟨e0, i0⟩ := g0
  obtain rfl : c0 = .int .i64 y0 := by simpa using e0
  obtain ⟨y1, g1⟩ := opens_int f1
  clear f1
  obtain ⟨e1, i1⟩ := g1
  obtain rfl : c1 = .int .i64 y1 := by simpa using e1
  refine ⟨⟨y0, y1⟩, rfl, ?_⟩
  simp only [FitLabel] at *
  simp only [i0, i1, and_self]

theorem opens_string : Opens Tryd.prog 9 EStr := opens_str Tryd.underlying9
theorem opens_Pair : Opens Tryd.prog 69 EPair := by
  intro H enc w base spare held fuel cs x h
  obtain ⟨xs, n, _, _, hlen, hxl, hf⟩ := DataW.trod_struct Tryd.underlying69 h
  have hlen2 : cs.length = 5 := hlen.trans (by kernel_rfl)
  clear hlen
  obtain ⟨c0, r0, rfl, k0⟩ := len_succ hlen2
  obtain ⟨c1, r1, rfl, k1⟩ := len_succ k0
  obtain ⟨c2, r2, rfl, k2⟩ := len_succ k1
  obtain ⟨c3, r3, rfl, k3⟩ := len_succ k2
  obtain ⟨c4, r4, rfl, k4⟩ := len_succ k3
  obtain rfl := List.eq_nil_of_length_eq_zero k4
  clear hlen2 k0 k1 k2 k3 k4
  have f0 : DataW.trod enc Tryd.prog w base spare held n 67 (([c0, c1, c2, c3, c4].drop 0).take (Tryd.prog.cellsOf 67)) = xs[0]? := hf 0 _ rfl
  have z0 : Tryd.prog.cellsOf 67 = 2 := by kernel_rfl
  rw [z0, List.getElem?_eq_getElem (show 0 < xs.length from by rw [hxl]; decide)] at f0
  have f1 : DataW.trod enc Tryd.prog w base spare held n 67 (([c0, c1, c2, c3, c4].drop 2).take (Tryd.prog.cellsOf 67)) = xs[1]? := hf 1 _ rfl
  have z1 : Tryd.prog.cellsOf 67 = 2 := by kernel_rfl
  rw [z1, List.getElem?_eq_getElem (show 1 < xs.length from by rw [hxl]; decide)] at f1
  have f2 : DataW.trod enc Tryd.prog w base spare held n 2 (([c0, c1, c2, c3, c4].drop 4).take (Tryd.prog.cellsOf 2)) = xs[2]? := hf 2 _ rfl
  have z2 : Tryd.prog.cellsOf 2 = 1 := by kernel_rfl
  rw [z2, List.getElem?_eq_getElem (show 2 < xs.length from by rw [hxl]; decide)] at f2
  obtain ⟨y0, g0⟩ := opens_Label f0
  clear f0
  obtain ⟨e0, i0⟩ := g0
  simp only [cellsLabel, List.drop_zero, List.take_succ_cons, List.take_zero, List.cons.injEq, and_true] at e0
  obtain ⟨rfl, rfl⟩ := e0
  obtain ⟨y1, g1⟩ := opens_Label f1
  clear f1
  obtain ⟨e1, i1⟩ := g1
  simp only [cellsLabel, List.drop_zero, List.drop_succ_cons, List.take_succ_cons, List.take_zero, List.cons.injEq, and_true] at e1
  obtain ⟨rfl, rfl⟩ := e1
  obtain ⟨y2, g2⟩ := opens_int f2
  clear f2
  obtain ⟨e2, i2⟩ := g2
  obtain rfl : c4 = .int .i64 y2 := by simpa using e2
  refine ⟨⟨y0, y1, y2⟩, rfl, ?_⟩
  simp only [FitPair, FitLabel, FitLabel] at *
  simp only [i0, i1, i2, and_self]

theorem opens_Quota : Opens Tryd.prog 72 EQuota := by
  intro H enc w base spare held fuel cs x h
  obtain ⟨xs, n, _, _, hlen, hxl, hf⟩ := DataW.trod_struct Tryd.underlying72 h
  have hlen2 : cs.length = 3 := hlen.trans (by kernel_rfl)
  clear hlen
  obtain ⟨c0, r0, rfl, k0⟩ := len_succ hlen2
  obtain ⟨c1, r1, rfl, k1⟩ := len_succ k0
  obtain ⟨c2, r2, rfl, k2⟩ := len_succ k1
  obtain rfl := List.eq_nil_of_length_eq_zero k2
  clear hlen2 k0 k1 k2
  have f0 : DataW.trod enc Tryd.prog w base spare held n 67 (([c0, c1, c2].drop 0).take (Tryd.prog.cellsOf 67)) = xs[0]? := hf 0 _ rfl
  have z0 : Tryd.prog.cellsOf 67 = 2 := by kernel_rfl
  rw [z0, List.getElem?_eq_getElem (show 0 < xs.length from by rw [hxl]; decide)] at f0
  have f1 : DataW.trod enc Tryd.prog w base spare held n 2 (([c0, c1, c2].drop 2).take (Tryd.prog.cellsOf 2)) = xs[1]? := hf 1 _ rfl
  have z1 : Tryd.prog.cellsOf 2 = 1 := by kernel_rfl
  rw [z1, List.getElem?_eq_getElem (show 1 < xs.length from by rw [hxl]; decide)] at f1
  obtain ⟨y0, g0⟩ := opens_Label f0
  clear f0
  obtain ⟨e0, i0⟩ := g0
  simp only [cellsLabel, List.drop_zero, List.take_succ_cons, List.take_zero, List.cons.injEq, and_true] at e0
  obtain ⟨rfl, rfl⟩ := e0
  obtain ⟨y1, g1⟩ := opens_int f1
  clear f1
  obtain ⟨e1, i1⟩ := g1
  obtain rfl : c2 = .int .i64 y1 := by simpa using e1
  refine ⟨⟨y0, y1⟩, rfl, ?_⟩
  simp only [FitQuota, FitLabel] at *
  simp only [i0, i1, and_self]

theorem opens_LabelS : Opens Tryd.prog 57 (ERow ELabel) := opens_row Tryd.underlying57 (by kernel_rfl) (by decide) opens_Label
theorem opens_LabelSS : Opens Tryd.prog 22 (ERow (ERow ELabel)) := opens_row Tryd.underlying22 (by kernel_rfl) (by decide) opens_LabelS
theorem opens_PairS : Opens Tryd.prog 23 (ERow EPair) := opens_row Tryd.underlying23 (by kernel_rfl) (by decide) opens_Pair
theorem opens_QuotaS : Opens Tryd.prog 24 (ERow EQuota) := opens_row Tryd.underlying24 (by kernel_rfl) (by decide) opens_Quota
theorem opens_Config : Opens Tryd.prog 26 EConfig := by
  intro H enc w base spare held fuel cs x h
  obtain ⟨xs, n, _, _, hlen, hxl, hf⟩ := DataW.trod_struct Tryd.underlying26 h
  have hlen2 : cs.length = 4 := hlen.trans (by kernel_rfl)
  clear hlen
  obtain ⟨c0, r0, rfl, k0⟩ := len_succ hlen2
  obtain ⟨c1, r1, rfl, k1⟩ := len_succ k0
  obtain ⟨c2, r2, rfl, k2⟩ := len_succ k1
  obtain ⟨c3, r3, rfl, k3⟩ := len_succ k2
  obtain rfl := List.eq_nil_of_length_eq_zero k3
  clear hlen2 k0 k1 k2 k3
  have f0 : DataW.trod enc Tryd.prog w base spare held n 22 (([c0, c1, c2, c3].drop 0).take (Tryd.prog.cellsOf 22)) = xs[0]? := hf 0 _ rfl
  have z0 : Tryd.prog.cellsOf 22 = 1 := by kernel_rfl
  rw [z0, List.getElem?_eq_getElem (show 0 < xs.length from by rw [hxl]; decide)] at f0
  have f1 : DataW.trod enc Tryd.prog w base spare held n 23 (([c0, c1, c2, c3].drop 1).take (Tryd.prog.cellsOf 23)) = xs[1]? := hf 1 _ rfl
  have z1 : Tryd.prog.cellsOf 23 = 1 := by kernel_rfl
  rw [z1, List.getElem?_eq_getElem (show 1 < xs.length from by rw [hxl]; decide)] at f1
  have f2 : DataW.trod enc Tryd.prog w base spare held n 24 (([c0, c1, c2, c3].drop 2).take (Tryd.prog.cellsOf 24)) = xs[2]? := hf 2 _ rfl
  have z2 : Tryd.prog.cellsOf 24 = 1 := by kernel_rfl
  rw [z2, List.getElem?_eq_getElem (show 2 < xs.length from by rw [hxl]; decide)] at f2
  have f3 : DataW.trod enc Tryd.prog w base spare held n 2 (([c0, c1, c2, c3].drop 3).take (Tryd.prog.cellsOf 2)) = xs[3]? := hf 3 _ rfl
  have z3 : Tryd.prog.cellsOf 2 = 1 := by kernel_rfl
  rw [z3, List.getElem?_eq_getElem (show 3 < xs.length from by rw [hxl]; decide)] at f3
  obtain ⟨y0, g0⟩ := opens_LabelSS f0
  clear f0
  obtain ⟨v0, e0, i0⟩ := g0
  obtain rfl : c0 = v0 := by simpa using e0
  obtain ⟨y1, g1⟩ := opens_PairS f1
  clear f1
  obtain ⟨v1, e1, i1⟩ := g1
  obtain rfl : c1 = v1 := by simpa using e1
  obtain ⟨y2, g2⟩ := opens_QuotaS f2
  clear f2
  obtain ⟨v2, e2, i2⟩ := g2
  obtain rfl : c2 = v2 := by simpa using e2
  obtain ⟨y3, g3⟩ := opens_int f3
  clear f3
  obtain ⟨e3, i3⟩ := g3
  obtain rfl : c3 = .int .i64 y3 := by simpa using e3
  refine ⟨⟨y0, y1, y2, y3⟩, _, _, _, rfl, ?_, i0, i1, i2⟩
  simp only [FitConfig] at *
  simp only [i3]

end Go.Proofs.YtjiipmkehdiiiaaDoor

namespace Go.Proofs.YtjiipmkehdiiiaaDoor
open Go.RowKit
attribute [local irreducible] wpQuiet

end Go.Proofs.YtjiipmkehdiiiaaDoor

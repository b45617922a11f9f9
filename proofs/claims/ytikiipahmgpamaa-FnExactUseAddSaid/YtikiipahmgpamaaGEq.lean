/- Whether two data are equal: eq... Printed by wip/gen.py. -/
import Derived.Test.YtikiipahmgpamaaRows
import Derived.Test.YtikiipahmgpamaaGElems
import Derived.Test.YtikiipahmgpamaaGSmall
namespace Go.Proofs.Ytikiipahmgpamaa
open Go.RowKit
attribute [local irreducible] wpQuiet

set_option maxHeartbeats 4000000 in
theorem eqSpan_any {S S' : Nat → Prop} (x y : Span) (cs ds : List Value) (w : World) (h : ESpan.rel S w cs x) (g : ESpan.rel S' w ds y) :
    Calls Try.prog 196 #[.agg cs.toArray, .agg ds.toArray] w fun e w' => e = .returned (.bool (decide (x = y))) ∧ Ext w w' := by
  obtain ⟨rfl, hi⟩ := h
  obtain ⟨rfl, gi⟩ := g
  have HI := Lib.hid hi
  have GI := Lib.hid gi
  clear hi gi
  simp only [cellsSpan]
  go_enter Try.func196, Try.ntmps196
  go_upto_region 1 with (fail)
  obtain ⟨W, B, hW, hB, hx0, a0, b0⟩ := boxes2 w #[.int .i64 x.from_, .int .i64 x.to_] #[.int .i64 y.from_, .int .i64 y.to_] 31 31
  rw [← hW, ← hB]
  clear hW hB
  have X0 := Lib.hid hx0
  have A0 := Lib.hid a0
  have B0 := Lib.hid b0
  clear hx0 a0 b0
  have ac := A0.out.cell
  have bc := B0.out.cell
  go_wp2_with fail
  all_goals (go_ret; exact ⟨ret_bool (by go_light; clear ac bc; simp_all [Span.ext_iff]), by first | exact X0.out⟩)

set_option maxHeartbeats 4000000 in
theorem eqLabel_any {S S' : Nat → Prop} (x y : Label) (cs ds : List Value) (w : World) (h : ELabel.rel S w cs x) (g : ELabel.rel S' w ds y) :
    Calls Try.prog 169 #[.agg cs.toArray, .agg ds.toArray] w fun e w' => e = .returned (.bool (decide (x = y))) ∧ Ext w w' := by
  obtain ⟨rfl, hi⟩ := h
  obtain ⟨rfl, gi⟩ := g
  have HI := Lib.hid hi
  have GI := Lib.hid gi
  clear hi gi
  simp only [cellsLabel]
  go_enter Try.func169, Try.ntmps169
  go_upto_region 1 with (fail)
  obtain ⟨W, B, hW, hB, hx0, a0, b0⟩ := boxes2 w #[.int .i64 x.level, .int .i64 x.set] #[.int .i64 y.level, .int .i64 y.set] 39 39
  rw [← hW, ← hB]
  clear hW hB
  have X0 := Lib.hid hx0
  have A0 := Lib.hid a0
  have B0 := Lib.hid b0
  clear hx0 a0 b0
  have ac := A0.out.cell
  have bc := B0.out.cell
  go_wp2_with fail
  all_goals (go_ret; exact ⟨ret_bool (by go_light; clear ac bc; simp_all [Label.ext_iff]), by first | exact X0.out⟩)

set_option maxHeartbeats 4000000 in
theorem eqSpanS_any {S S' : Nat → Prop} (l m : List Span) (v u : Value) (w : World) (h : Rd ESpan S w v l) (g : Rd ESpan S' w u m) :
    Calls Try.prog 163 #[v, u] w fun e w' => e = .returned (.bool (decide (l = m))) ∧ Ext w w' := by
  obtain ⟨A, c, rfl, h1, h2, hk⟩ := h.open_
  obtain ⟨A', c', rfl, g1, g2, gk⟩ := g.open_
  unfold maxLen at h2 g2
  have HK := Lib.hid hk
  have GK := Lib.hid gk
  clear hk gk h g
  by_cases hl : l.length = m.length
  · generalize hn : m.length = n at *
    have HN := Lib.hid hn
    subst hl
    clear hn
    go_enter Try.func163, Try.ntmps163
    go_wp2_with fail
    go_loopw [5] (fun i w' => ∃ k : Nat, k ≤ l.length ∧ i = .int .i64 k ∧ (∀ j, j < k → nth l j = nth m j) ∧ Ext w w') (fun i _ => l.length - (intOf i).toNat)
    case atStart => exact ⟨0, by omega, rfl, fun j hj => by omega, Ext.refl _⟩
    case round =>
      obtain ⟨k, hk1, rfl, hall, hx⟩ := hrel
      have HA := Lib.hid hall
      have HX := Lib.hid hx
      clear hall
      by_cases hlt : k < l.length
      · obtain ⟨b, o, cs, rfl, hb, hr, hc⟩ := HK.out k hlt
        obtain ⟨b', o', ds, rfl, gb, gr, gc⟩ := GK.out k hlt
        have HR := Lib.hid (ESpan.keep (hx.same S) hr)
        have GR := Lib.hid (ESpan.keep (hx.same S') gr)
        have HC := Lib.hid (hx.range hc)
        have GC := Lib.hid (hx.range gc)
        have HI : Hid ((Try.prog.info? 31).map (·.size) = some cs.length) := Lib.hid (by rw [ESpan.len hr]; kernel_rfl)
        have GI : Hid ((Try.prog.info? 31).map (·.size) = some ds.length) := Lib.hid (by rw [ESpan.len gr]; kernel_rfl)
        clear hr gr hc gc hx
        by_cases he : nth l k = nth m k
        · have HE := Lib.hid he
          have e1 : decide (nth l k = nth m k) = true := by simp [he]
          clear he
          go_wp2_with fail
          refine wp_region_ext (by kernel_rfl) (by kernel_rfl) ?_
          repeat (
            first
            | (refine wpQuiet_load (by rfl) 31 _ rfl b (o + k * 2) rfl cs _ (fun w__ hx__ => hx__.range HC.out) Try.underlying31 rfl HI.out ?_; simp only [Act.put, List.setIfInBounds_toArray, List.set_cons_zero, List.set_cons_succ])
            | (refine wpQuiet_load (by rfl) 31 _ rfl b' (o' + k * 2) rfl ds _ (fun w__ hx__ => hx__.range GC.out) Try.underlying31 rfl GI.out ?_; simp only [Act.put, List.setIfInBounds_toArray, List.set_cons_zero, List.set_cons_succ])
            | (refine wpQuiet_step (fun K hK => ?_)
               go_simp
               first
                | (refine hK _ ?_; clear hK K)
                | (apply Exists.intro
                   refine ⟨fun w__ hx__ => ?_, hK _ ?_⟩
                   · first | exact rfl | (go_simp; done) | (go_simp; exact rfl) | (go_at_call 196; exact ext_of hx__ (eqSpan_any (nth l k) (nth m k) cs ds _ (ESpan.keep (hx__.same S) HR.out) (ESpan.keep (hx__.same S') GR.out)))
                   clear hK K)))
          refine wpQuiet_nil ?_
          intro w1 hx1
          go_wp2_with fail
          go_roundw
          case rel => exact ⟨k + 1, by omega, by go_num, all_succ HA.out HE.out, HX.out.trans hx1⟩
          case measure => simp [intOf]; omega
        · have HE := Lib.hid he
          have e1 : decide (nth l k = nth m k) = false := by simp [he]
          clear he
          go_wp2_with fail
          refine wp_region_ext (by kernel_rfl) (by kernel_rfl) ?_
          repeat (
            first
            | (refine wpQuiet_load (by rfl) 31 _ rfl b (o + k * 2) rfl cs _ (fun w__ hx__ => hx__.range HC.out) Try.underlying31 rfl HI.out ?_; simp only [Act.put, List.setIfInBounds_toArray, List.set_cons_zero, List.set_cons_succ])
            | (refine wpQuiet_load (by rfl) 31 _ rfl b' (o' + k * 2) rfl ds _ (fun w__ hx__ => hx__.range GC.out) Try.underlying31 rfl GI.out ?_; simp only [Act.put, List.setIfInBounds_toArray, List.set_cons_zero, List.set_cons_succ])
            | (refine wpQuiet_step (fun K hK => ?_)
               go_simp
               first
                | (refine hK _ ?_; clear hK K)
                | (apply Exists.intro
                   refine ⟨fun w__ hx__ => ?_, hK _ ?_⟩
                   · first | exact rfl | (go_simp; done) | (go_simp; exact rfl) | (go_at_call 196; exact ext_of hx__ (eqSpan_any (nth l k) (nth m k) cs ds _ (ESpan.keep (hx__.same S) HR.out) (ESpan.keep (hx__.same S') GR.out)))
                   clear hK K)))
          refine wpQuiet_nil ?_
          intro w1 hx1
          go_wp2_with fail
          go_ret
          exact ⟨ret_bool (decide_eq_false fun e => HE.out (by rw [e])).symm, HX.out.trans hx1⟩
      · have HF : Hid (decide (l = m) = true) := Lib.hid (decide_eq_true (eq_of_nth HN.out.symm fun j hj => HA.out j (by omega)))
        go_wp2_with fail
        go_ret
        exact ⟨ret_bool HF.out.symm, HX.out⟩
  · have HL := Lib.hid hl
    have e1 : ((l.length : Int) != (m.length : Int)) = true := by simp; omega
    have e2 : (l.length != m.length) = true := by simp; omega
    go_enter Try.func163, Try.ntmps163
    go_wp2_with fail
    go_ret
    exact ⟨ret_bool (decide_eq_false fun e => HL.out (by rw [e])).symm, Ext.refl _⟩

set_option maxHeartbeats 4000000 in
theorem eqNode_any {S S' : Nat → Prop} (x y : Node) (cs ds : List Value) (w : World) (h : ENode.rel S w cs x) (g : ENode.rel S' w ds y) :
    Calls Try.prog 85 #[.agg cs.toArray, .agg ds.toArray] w fun e w' => e = .returned (.bool (decide (x = y))) ∧ Ext w w' := by
  obtain ⟨v1, rfl, hi, h1⟩ := h
  obtain ⟨u1, rfl, gi, g1⟩ := g
  have H1 := Lib.hid h1
  have G1 := Lib.hid g1
  clear h1 g1
  have HI := Lib.hid hi
  have GI := Lib.hid gi
  clear hi gi
  simp only [cellsNode]
  go_enter Try.func85, Try.ntmps85
  go_upto_region 1 with (fail)
  obtain ⟨W, B, hW, hB, hx0, a0, b0⟩ := boxes2 w #[.int .i64 x.state, v1] #[.int .i64 y.state, u1] 72 72
  rw [← hW, ← hB]
  clear hW hB
  have X0 := Lib.hid hx0
  have A0 := Lib.hid a0
  have B0 := Lib.hid b0
  clear hx0 a0 b0
  have ac := A0.out.cell
  have bc := B0.out.cell
  go_wp2_with (first
    | (go_at_call 163; (with_reducible refine (eqSpanS_any x.books y.books v1 u1 _ (H1.out.ext X0.out) (G1.out.ext X0.out)).mono ?_); rintro e w1 ⟨rfl, hx⟩; have X1 := Lib.hid (X0.out.trans hx); have A1 := Lib.hid (A0.out.ext hx); have B1 := Lib.hid (B0.out.ext hx); clear hx X0 A0 B0 ac bc; have ac := A1.out.cell; have bc := B1.out.cell))
  all_goals (go_ret; exact ⟨ret_bool (by go_light; clear ac bc; simp_all [Node.ext_iff]), by first | exact X1.out | exact X0.out⟩)

set_option maxHeartbeats 4000000 in
theorem eqUse_any {S S' : Nat → Prop} (x y : Use) (cs ds : List Value) (w : World) (h : EUse.rel S w cs x) (g : EUse.rel S' w ds y) :
    Calls Try.prog 108 #[.agg cs.toArray, .agg ds.toArray] w fun e w' => e = .returned (.bool (decide (x = y))) ∧ Ext w w' := by
  obtain ⟨rfl, hi⟩ := h
  obtain ⟨rfl, gi⟩ := g
  have HI := Lib.hid hi
  have GI := Lib.hid gi
  clear hi gi
  simp only [cellsUse]
  go_enter Try.func108, Try.ntmps108
  go_upto_region 1 with (fail)
  obtain ⟨W, B, hW, hB, hx0, a0, b0⟩ := boxes2 w #[.int .i64 x.label.level, .int .i64 x.label.set, .string x.owner, .int .i64 x.used] #[.int .i64 y.label.level, .int .i64 y.label.set, .string y.owner, .int .i64 y.used] 123 123
  rw [← hW, ← hB]
  clear hW hB
  have X0 := Lib.hid hx0
  have A0 := Lib.hid a0
  have B0 := Lib.hid b0
  clear hx0 a0 b0
  have ac := A0.out.cell
  have bc := B0.out.cell
  go_wp2_with (first
    | (go_at_call 169; (with_reducible refine (eqLabel_any (S := S) (S' := S') x.label y.label [.int .i64 x.label.level, .int .i64 x.label.set] [.int .i64 y.label.level, .int .i64 y.label.set] _ (rel_Label (by have hf := HI.out; simp only [FitUse] at hf; simp only [FitLabel, hf, and_self])) (rel_Label (by have hf := GI.out; simp only [FitUse] at hf; simp only [FitLabel, hf, and_self]))).mono ?_); rintro e w1 ⟨rfl, hx⟩; have X1 := Lib.hid (X0.out.trans hx); have A1 := Lib.hid (A0.out.ext hx); have B1 := Lib.hid (B0.out.ext hx); clear hx X0 A0 B0 ac bc; have ac := A1.out.cell; have bc := B1.out.cell))
  all_goals (go_ret; exact ⟨ret_bool (by go_light; clear ac bc; simp_all [Use.ext_iff, bytes_iff]), by first | exact X1.out | exact X0.out⟩)

set_option maxHeartbeats 4000000 in
theorem eqInt64S_any {S S' : Nat → Prop} (l m : List Int) (v u : Value) (w : World) (h : Rd EInt S w v l) (g : Rd EInt S' w u m) :
    Calls Try.prog 170 #[v, u] w fun e w' => e = .returned (.bool (decide (l = m))) ∧ Ext w w' := by
  obtain ⟨A, c, rfl, h1, h2, hk⟩ := h.open_
  obtain ⟨A', c', rfl, g1, g2, gk⟩ := g.open_
  unfold maxLen at h2 g2
  have HK := Lib.hid hk
  have GK := Lib.hid gk
  clear hk gk h g
  by_cases hl : l.length = m.length
  · generalize hn : m.length = n at *
    have HN := Lib.hid hn
    subst hl
    clear hn
    go_enter Try.func170, Try.ntmps170
    go_wp2_with fail
    go_loopw [5] (fun i w' => ∃ k : Nat, k ≤ l.length ∧ i = .int .i64 k ∧ (∀ j, j < k → nth l j = nth m j) ∧ Ext w w') (fun i _ => l.length - (intOf i).toNat)
    case atStart => exact ⟨0, by omega, rfl, fun j hj => by omega, Ext.refl _⟩
    case round =>
      obtain ⟨k, hk1, rfl, hall, hx⟩ := hrel
      have HA := Lib.hid hall
      have HX := Lib.hid hx
      clear hall
      by_cases hlt : k < l.length
      · obtain ⟨b, o, cs, rfl, hb, hr, hc⟩ := HK.out k hlt
        obtain ⟨b', o', ds, rfl, gb, gr, gc⟩ := GK.out k hlt
        obtain ⟨rfl, _⟩ := hr
        obtain ⟨rfl, _⟩ := gr
        have c0 := Ext.some hx (hc 0 _ rfl)
        have d0 := Ext.some hx (gc 0 _ rfl)
        simp only [EInt, Nat.mul_one, Nat.add_zero] at c0 d0
        clear hc gc hx
        by_cases he : nth l k = nth m k
        · have HE := Lib.hid he
          have e1 : (nth l k != nth m k) = false := by simp [he]
          clear he
          go_wp2_with fail
          refine wp_region_ext (by kernel_rfl) (by kernel_rfl) ?_
          repeat (
            (refine wpQuiet_step (fun K hK => ?_)
             go_simp
             first
              | (refine hK _ ?_; clear hK K)
              | (apply Exists.intro
                 refine ⟨fun w__ hx__ => ?_, hK _ ?_⟩
                 · have c0__ := Ext.some hx__ c0; have d0__ := Ext.some hx__ d0; first | exact rfl | (go_simp; done) | (go_simp; exact rfl)
                 clear hK K)))
          refine wpQuiet_nil ?_
          intro w1 hx1
          go_wp2_with fail
          go_roundw
          case rel => exact ⟨k + 1, by omega, by go_num, all_succ HA.out HE.out, HX.out.trans hx1⟩
          case measure => simp [intOf]; omega
        · have HE := Lib.hid he
          have e1 : (nth l k != nth m k) = true := by simp [he]
          clear he
          go_wp2_with fail
          refine wp_region_ext (by kernel_rfl) (by kernel_rfl) ?_
          repeat (
            (refine wpQuiet_step (fun K hK => ?_)
             go_simp
             first
              | (refine hK _ ?_; clear hK K)
              | (apply Exists.intro
                 refine ⟨fun w__ hx__ => ?_, hK _ ?_⟩
                 · have c0__ := Ext.some hx__ c0; have d0__ := Ext.some hx__ d0; first | exact rfl | (go_simp; done) | (go_simp; exact rfl)
                 clear hK K)))
          refine wpQuiet_nil ?_
          intro w1 hx1
          go_wp2_with fail
          go_ret
          exact ⟨ret_bool (decide_eq_false fun e => HE.out (by rw [e])).symm, HX.out.trans hx1⟩
      · have HF : Hid (decide (l = m) = true) := Lib.hid (decide_eq_true (eq_of_nth HN.out.symm fun j hj => HA.out j (by omega)))
        go_wp2_with fail
        go_ret
        exact ⟨ret_bool HF.out.symm, HX.out⟩
  · have HL := Lib.hid hl
    have e1 : ((l.length : Int) != (m.length : Int)) = true := by simp; omega
    have e2 : (l.length != m.length) = true := by simp; omega
    go_enter Try.func170, Try.ntmps170
    go_wp2_with fail
    go_ret
    exact ⟨ret_bool (decide_eq_false fun e => HL.out (by rw [e])).symm, Ext.refl _⟩

set_option maxHeartbeats 4000000 in
theorem eqTask_any {S S' : Nat → Prop} (x y : Task) (cs ds : List Value) (w : World) (h : ETask.rel S w cs x) (g : ETask.rel S' w ds y) :
    Calls Try.prog 92 #[.agg cs.toArray, .agg ds.toArray] w fun e w' => e = .returned (.bool (decide (x = y))) ∧ Ext w w' := by
  obtain ⟨v1, rfl, hi, h1⟩ := h
  obtain ⟨u1, rfl, gi, g1⟩ := g
  have H1 := Lib.hid h1
  have G1 := Lib.hid g1
  clear h1 g1
  have HI := Lib.hid hi
  have GI := Lib.hid gi
  clear hi gi
  simp only [cellsTask]
  go_enter Try.func92, Try.ntmps92
  go_upto_region 1 with (fail)
  obtain ⟨W, B, hW, hB, hx0, a0, b0⟩ := boxes2 w #[.int .i64 x.label.level, .int .i64 x.label.set, .int .i64 x.id, .string x.owner, .int .i64 x.need, .int .i64 x.long, .int .i64 x.prio, .int .i64 x.under.level, .int .i64 x.under.set, .int .i64 x.after, .int .i64 x.born, .int .i64 x.state, .int .i64 x.start, v1] #[.int .i64 y.label.level, .int .i64 y.label.set, .int .i64 y.id, .string y.owner, .int .i64 y.need, .int .i64 y.long, .int .i64 y.prio, .int .i64 y.under.level, .int .i64 y.under.set, .int .i64 y.after, .int .i64 y.born, .int .i64 y.state, .int .i64 y.start, u1] 42 42
  rw [← hW, ← hB]
  clear hW hB
  have X0 := Lib.hid hx0
  have A0 := Lib.hid a0
  have B0 := Lib.hid b0
  clear hx0 a0 b0
  have ac := A0.out.cell
  have bc := B0.out.cell
  go_wp2_with (first
    | (go_at_call 169; (with_reducible refine (eqLabel_any (S := S) (S' := S') x.label y.label [.int .i64 x.label.level, .int .i64 x.label.set] [.int .i64 y.label.level, .int .i64 y.label.set] _ (rel_Label (by have hf := HI.out; simp only [FitTask] at hf; simp only [FitLabel, hf, and_self])) (rel_Label (by have hf := GI.out; simp only [FitTask] at hf; simp only [FitLabel, hf, and_self]))).mono ?_); rintro e w1 ⟨rfl, hx⟩; have X1 := Lib.hid (X0.out.trans hx); have A1 := Lib.hid (A0.out.ext hx); have B1 := Lib.hid (B0.out.ext hx); clear hx X0 A0 B0 ac bc; have ac := A1.out.cell; have bc := B1.out.cell)
    | (go_at_call 169; (with_reducible refine (eqLabel_any (S := S) (S' := S') x.under y.under [.int .i64 x.under.level, .int .i64 x.under.set] [.int .i64 y.under.level, .int .i64 y.under.set] _ (rel_Label (by have hf := HI.out; simp only [FitTask] at hf; simp only [FitLabel, hf, and_self])) (rel_Label (by have hf := GI.out; simp only [FitTask] at hf; simp only [FitLabel, hf, and_self]))).mono ?_); rintro e w2 ⟨rfl, hx⟩; have X2 := Lib.hid (X1.out.trans hx); have A2 := Lib.hid (A1.out.ext hx); have B2 := Lib.hid (B1.out.ext hx); clear hx X1 A1 B1 ac bc; have ac := A2.out.cell; have bc := B2.out.cell)
    | (go_at_call 170; (with_reducible refine (eqInt64S_any x.nodes y.nodes v1 u1 _ (H1.out.ext X2.out) (G1.out.ext X2.out)).mono ?_); rintro e w3 ⟨rfl, hx⟩; have X3 := Lib.hid (X2.out.trans hx); have A3 := Lib.hid (A2.out.ext hx); have B3 := Lib.hid (B2.out.ext hx); clear hx X2 A2 B2 ac bc; have ac := A3.out.cell; have bc := B3.out.cell))
  all_goals (go_ret; exact ⟨ret_bool (by go_light; clear ac bc; simp_all [Task.ext_iff, bytes_iff]), by first | exact X3.out | exact X2.out | exact X1.out | exact X0.out⟩)

set_option maxHeartbeats 4000000 in
theorem eqNodeS_any {S S' : Nat → Prop} (l m : List Node) (v u : Value) (w : World) (h : Rd ENode S w v l) (g : Rd ENode S' w u m) :
    Calls Try.prog 15 #[v, u] w fun e w' => e = .returned (.bool (decide (l = m))) ∧ Ext w w' := by
  obtain ⟨A, c, rfl, h1, h2, hk⟩ := h.open_
  obtain ⟨A', c', rfl, g1, g2, gk⟩ := g.open_
  unfold maxLen at h2 g2
  have HK := Lib.hid hk
  have GK := Lib.hid gk
  clear hk gk h g
  by_cases hl : l.length = m.length
  · generalize hn : m.length = n at *
    have HN := Lib.hid hn
    subst hl
    clear hn
    go_enter Try.func15, Try.ntmps15
    go_wp2_with fail
    go_loopw [5] (fun i w' => ∃ k : Nat, k ≤ l.length ∧ i = .int .i64 k ∧ (∀ j, j < k → nth l j = nth m j) ∧ Ext w w') (fun i _ => l.length - (intOf i).toNat)
    case atStart => exact ⟨0, by omega, rfl, fun j hj => by omega, Ext.refl _⟩
    case round =>
      obtain ⟨k, hk1, rfl, hall, hx⟩ := hrel
      have HA := Lib.hid hall
      have HX := Lib.hid hx
      clear hall
      by_cases hlt : k < l.length
      · obtain ⟨b, o, cs, rfl, hb, hr, hc⟩ := HK.out k hlt
        obtain ⟨b', o', ds, rfl, gb, gr, gc⟩ := GK.out k hlt
        have HR := Lib.hid (ENode.keep (hx.same S) hr)
        have GR := Lib.hid (ENode.keep (hx.same S') gr)
        have HC := Lib.hid (hx.range hc)
        have GC := Lib.hid (hx.range gc)
        have HI : Hid ((Try.prog.info? 72).map (·.size) = some cs.length) := Lib.hid (by rw [ENode.len hr]; kernel_rfl)
        have GI : Hid ((Try.prog.info? 72).map (·.size) = some ds.length) := Lib.hid (by rw [ENode.len gr]; kernel_rfl)
        clear hr gr hc gc hx
        by_cases he : nth l k = nth m k
        · have HE := Lib.hid he
          have e1 : decide (nth l k = nth m k) = true := by simp [he]
          clear he
          go_wp2_with fail
          refine wp_region_ext (by kernel_rfl) (by kernel_rfl) ?_
          repeat (
            first
            | (refine wpQuiet_load (by rfl) 72 _ rfl b (o + k * 2) rfl cs _ (fun w__ hx__ => hx__.range HC.out) Try.underlying72 rfl HI.out ?_; simp only [Act.put, List.setIfInBounds_toArray, List.set_cons_zero, List.set_cons_succ])
            | (refine wpQuiet_load (by rfl) 72 _ rfl b' (o' + k * 2) rfl ds _ (fun w__ hx__ => hx__.range GC.out) Try.underlying72 rfl GI.out ?_; simp only [Act.put, List.setIfInBounds_toArray, List.set_cons_zero, List.set_cons_succ])
            | (refine wpQuiet_step (fun K hK => ?_)
               go_simp
               first
                | (refine hK _ ?_; clear hK K)
                | (apply Exists.intro
                   refine ⟨fun w__ hx__ => ?_, hK _ ?_⟩
                   · first | exact rfl | (go_simp; done) | (go_simp; exact rfl) | (go_at_call 85; exact ext_of hx__ (eqNode_any (nth l k) (nth m k) cs ds _ (ENode.keep (hx__.same S) HR.out) (ENode.keep (hx__.same S') GR.out)))
                   clear hK K)))
          refine wpQuiet_nil ?_
          intro w1 hx1
          go_wp2_with fail
          go_roundw
          case rel => exact ⟨k + 1, by omega, by go_num, all_succ HA.out HE.out, HX.out.trans hx1⟩
          case measure => simp [intOf]; omega
        · have HE := Lib.hid he
          have e1 : decide (nth l k = nth m k) = false := by simp [he]
          clear he
          go_wp2_with fail
          refine wp_region_ext (by kernel_rfl) (by kernel_rfl) ?_
          repeat (
            first
            | (refine wpQuiet_load (by rfl) 72 _ rfl b (o + k * 2) rfl cs _ (fun w__ hx__ => hx__.range HC.out) Try.underlying72 rfl HI.out ?_; simp only [Act.put, List.setIfInBounds_toArray, List.set_cons_zero, List.set_cons_succ])
            | (refine wpQuiet_load (by rfl) 72 _ rfl b' (o' + k * 2) rfl ds _ (fun w__ hx__ => hx__.range GC.out) Try.underlying72 rfl GI.out ?_; simp only [Act.put, List.setIfInBounds_toArray, List.set_cons_zero, List.set_cons_succ])
            | (refine wpQuiet_step (fun K hK => ?_)
               go_simp
               first
                | (refine hK _ ?_; clear hK K)
                | (apply Exists.intro
                   refine ⟨fun w__ hx__ => ?_, hK _ ?_⟩
                   · first | exact rfl | (go_simp; done) | (go_simp; exact rfl) | (go_at_call 85; exact ext_of hx__ (eqNode_any (nth l k) (nth m k) cs ds _ (ENode.keep (hx__.same S) HR.out) (ENode.keep (hx__.same S') GR.out)))
                   clear hK K)))
          refine wpQuiet_nil ?_
          intro w1 hx1
          go_wp2_with fail
          go_ret
          exact ⟨ret_bool (decide_eq_false fun e => HE.out (by rw [e])).symm, HX.out.trans hx1⟩
      · have HF : Hid (decide (l = m) = true) := Lib.hid (decide_eq_true (eq_of_nth HN.out.symm fun j hj => HA.out j (by omega)))
        go_wp2_with fail
        go_ret
        exact ⟨ret_bool HF.out.symm, HX.out⟩
  · have HL := Lib.hid hl
    have e1 : ((l.length : Int) != (m.length : Int)) = true := by simp; omega
    have e2 : (l.length != m.length) = true := by simp; omega
    go_enter Try.func15, Try.ntmps15
    go_wp2_with fail
    go_ret
    exact ⟨ret_bool (decide_eq_false fun e => HL.out (by rw [e])).symm, Ext.refl _⟩

set_option maxHeartbeats 4000000 in
theorem eqUseS_any {S S' : Nat → Prop} (l m : List Use) (v u : Value) (w : World) (h : Rd EUse S w v l) (g : Rd EUse S' w u m) :
    Calls Try.prog 29 #[v, u] w fun e w' => e = .returned (.bool (decide (l = m))) ∧ Ext w w' := by
  obtain ⟨A, c, rfl, h1, h2, hk⟩ := h.open_
  obtain ⟨A', c', rfl, g1, g2, gk⟩ := g.open_
  unfold maxLen at h2 g2
  have HK := Lib.hid hk
  have GK := Lib.hid gk
  clear hk gk h g
  by_cases hl : l.length = m.length
  · generalize hn : m.length = n at *
    have HN := Lib.hid hn
    subst hl
    clear hn
    go_enter Try.func29, Try.ntmps29
    go_wp2_with fail
    go_loopw [5] (fun i w' => ∃ k : Nat, k ≤ l.length ∧ i = .int .i64 k ∧ (∀ j, j < k → nth l j = nth m j) ∧ Ext w w') (fun i _ => l.length - (intOf i).toNat)
    case atStart => exact ⟨0, by omega, rfl, fun j hj => by omega, Ext.refl _⟩
    case round =>
      obtain ⟨k, hk1, rfl, hall, hx⟩ := hrel
      have HA := Lib.hid hall
      have HX := Lib.hid hx
      clear hall
      by_cases hlt : k < l.length
      · obtain ⟨b, o, cs, rfl, hb, hr, hc⟩ := HK.out k hlt
        obtain ⟨b', o', ds, rfl, gb, gr, gc⟩ := GK.out k hlt
        have HR := Lib.hid (EUse.keep (hx.same S) hr)
        have GR := Lib.hid (EUse.keep (hx.same S') gr)
        have HC := Lib.hid (hx.range hc)
        have GC := Lib.hid (hx.range gc)
        have HI : Hid ((Try.prog.info? 123).map (·.size) = some cs.length) := Lib.hid (by rw [EUse.len hr]; kernel_rfl)
        have GI : Hid ((Try.prog.info? 123).map (·.size) = some ds.length) := Lib.hid (by rw [EUse.len gr]; kernel_rfl)
        clear hr gr hc gc hx
        by_cases he : nth l k = nth m k
        · have HE := Lib.hid he
          have e1 : decide (nth l k = nth m k) = true := by simp [he]
          clear he
          go_wp2_with fail
          refine wp_region_ext (by kernel_rfl) (by kernel_rfl) ?_
          repeat (
            first
            | (refine wpQuiet_load (by rfl) 123 _ rfl b (o + k * 4) rfl cs _ (fun w__ hx__ => hx__.range HC.out) Try.underlying123 rfl HI.out ?_; simp only [Act.put, List.setIfInBounds_toArray, List.set_cons_zero, List.set_cons_succ])
            | (refine wpQuiet_load (by rfl) 123 _ rfl b' (o' + k * 4) rfl ds _ (fun w__ hx__ => hx__.range GC.out) Try.underlying123 rfl GI.out ?_; simp only [Act.put, List.setIfInBounds_toArray, List.set_cons_zero, List.set_cons_succ])
            | (refine wpQuiet_step (fun K hK => ?_)
               go_simp
               first
                | (refine hK _ ?_; clear hK K)
                | (apply Exists.intro
                   refine ⟨fun w__ hx__ => ?_, hK _ ?_⟩
                   · first | exact rfl | (go_simp; done) | (go_simp; exact rfl) | (go_at_call 108; exact ext_of hx__ (eqUse_any (nth l k) (nth m k) cs ds _ (EUse.keep (hx__.same S) HR.out) (EUse.keep (hx__.same S') GR.out)))
                   clear hK K)))
          refine wpQuiet_nil ?_
          intro w1 hx1
          go_wp2_with fail
          go_roundw
          case rel => exact ⟨k + 1, by omega, by go_num, all_succ HA.out HE.out, HX.out.trans hx1⟩
          case measure => simp [intOf]; omega
        · have HE := Lib.hid he
          have e1 : decide (nth l k = nth m k) = false := by simp [he]
          clear he
          go_wp2_with fail
          refine wp_region_ext (by kernel_rfl) (by kernel_rfl) ?_
          repeat (
            first
            | (refine wpQuiet_load (by rfl) 123 _ rfl b (o + k * 4) rfl cs _ (fun w__ hx__ => hx__.range HC.out) Try.underlying123 rfl HI.out ?_; simp only [Act.put, List.setIfInBounds_toArray, List.set_cons_zero, List.set_cons_succ])
            | (refine wpQuiet_load (by rfl) 123 _ rfl b' (o' + k * 4) rfl ds _ (fun w__ hx__ => hx__.range GC.out) Try.underlying123 rfl GI.out ?_; simp only [Act.put, List.setIfInBounds_toArray, List.set_cons_zero, List.set_cons_succ])
            | (refine wpQuiet_step (fun K hK => ?_)
               go_simp
               first
                | (refine hK _ ?_; clear hK K)
                | (apply Exists.intro
                   refine ⟨fun w__ hx__ => ?_, hK _ ?_⟩
                   · first | exact rfl | (go_simp; done) | (go_simp; exact rfl) | (go_at_call 108; exact ext_of hx__ (eqUse_any (nth l k) (nth m k) cs ds _ (EUse.keep (hx__.same S) HR.out) (EUse.keep (hx__.same S') GR.out)))
                   clear hK K)))
          refine wpQuiet_nil ?_
          intro w1 hx1
          go_wp2_with fail
          go_ret
          exact ⟨ret_bool (decide_eq_false fun e => HE.out (by rw [e])).symm, HX.out.trans hx1⟩
      · have HF : Hid (decide (l = m) = true) := Lib.hid (decide_eq_true (eq_of_nth HN.out.symm fun j hj => HA.out j (by omega)))
        go_wp2_with fail
        go_ret
        exact ⟨ret_bool HF.out.symm, HX.out⟩
  · have HL := Lib.hid hl
    have e1 : ((l.length : Int) != (m.length : Int)) = true := by simp; omega
    have e2 : (l.length != m.length) = true := by simp; omega
    go_enter Try.func29, Try.ntmps29
    go_wp2_with fail
    go_ret
    exact ⟨ret_bool (decide_eq_false fun e => HL.out (by rw [e])).symm, Ext.refl _⟩

set_option maxHeartbeats 4000000 in
theorem eqNodesOut_any {S S' : Nat → Prop} (x y : NodesOut) (cs ds : List Value) (w : World) (h : ENodesOut.rel S w cs x) (g : ENodesOut.rel S' w ds y) :
    Calls Try.prog 14 #[.agg cs.toArray, .agg ds.toArray] w fun e w' => e = .returned (.bool (decide (x = y))) ∧ Ext w w' := by
  obtain ⟨v1, rfl, hi, h1⟩ := h
  obtain ⟨u1, rfl, gi, g1⟩ := g
  have H1 := Lib.hid h1
  have G1 := Lib.hid g1
  clear h1 g1
  have HI := Lib.hid hi
  have GI := Lib.hid gi
  clear hi gi
  simp only [cellsNodesOut]
  go_enter Try.func14, Try.ntmps14
  go_upto_region 1 with (fail)
  obtain ⟨W, B, hW, hB, hx0, a0, b0⟩ := boxes2 w #[v1, .int .i64 x.code] #[u1, .int .i64 y.code] 28 28
  rw [← hW, ← hB]
  clear hW hB
  have X0 := Lib.hid hx0
  have A0 := Lib.hid a0
  have B0 := Lib.hid b0
  clear hx0 a0 b0
  have ac := A0.out.cell
  have bc := B0.out.cell
  go_wp2_with (first
    | (go_at_call 15; (with_reducible refine (eqNodeS_any x.nodes y.nodes v1 u1 _ (H1.out.ext X0.out) (G1.out.ext X0.out)).mono ?_); rintro e w1 ⟨rfl, hx⟩; have X1 := Lib.hid (X0.out.trans hx); have A1 := Lib.hid (A0.out.ext hx); have B1 := Lib.hid (B0.out.ext hx); clear hx X0 A0 B0 ac bc; have ac := A1.out.cell; have bc := B1.out.cell))
  all_goals (go_ret; exact ⟨ret_bool (by go_light; clear ac bc; simp_all [NodesOut.ext_iff]), by first | exact X1.out | exact X0.out⟩)

set_option maxHeartbeats 4000000 in
theorem eqTaskOut_any {S S' : Nat → Prop} (x y : TaskOut) (cs ds : List Value) (w : World) (h : ETaskOut.rel S w cs x) (g : ETaskOut.rel S' w ds y) :
    Calls Try.prog 21 #[.agg cs.toArray, .agg ds.toArray] w fun e w' => e = .returned (.bool (decide (x = y))) ∧ Ext w w' := by
  obtain ⟨v1, rfl, hi, h1⟩ := h
  obtain ⟨u1, rfl, gi, g1⟩ := g
  have H1 := Lib.hid h1
  have G1 := Lib.hid g1
  clear h1 g1
  have HI := Lib.hid hi
  have GI := Lib.hid gi
  clear hi gi
  simp only [cellsTaskOut]
  go_enter Try.func21, Try.ntmps21
  go_upto_region 1 with (fail)
  obtain ⟨W, B, hW, hB, hx0, a0, b0⟩ := boxes2 w #[.int .i64 x.task.label.level, .int .i64 x.task.label.set, .int .i64 x.task.id, .string x.task.owner, .int .i64 x.task.need, .int .i64 x.task.long, .int .i64 x.task.prio, .int .i64 x.task.under.level, .int .i64 x.task.under.set, .int .i64 x.task.after, .int .i64 x.task.born, .int .i64 x.task.state, .int .i64 x.task.start, v1, .int .i64 x.at_, .int .i64 x.code] #[.int .i64 y.task.label.level, .int .i64 y.task.label.set, .int .i64 y.task.id, .string y.task.owner, .int .i64 y.task.need, .int .i64 y.task.long, .int .i64 y.task.prio, .int .i64 y.task.under.level, .int .i64 y.task.under.set, .int .i64 y.task.after, .int .i64 y.task.born, .int .i64 y.task.state, .int .i64 y.task.start, u1, .int .i64 y.at_, .int .i64 y.code] 44 44
  rw [← hW, ← hB]
  clear hW hB
  have X0 := Lib.hid hx0
  have A0 := Lib.hid a0
  have B0 := Lib.hid b0
  clear hx0 a0 b0
  have ac := A0.out.cell
  have bc := B0.out.cell
  go_wp2_with (first
    | (go_at_call 92; (with_reducible refine (eqTask_any (S := S) (S' := S') x.task y.task [.int .i64 x.task.label.level, .int .i64 x.task.label.set, .int .i64 x.task.id, .string x.task.owner, .int .i64 x.task.need, .int .i64 x.task.long, .int .i64 x.task.prio, .int .i64 x.task.under.level, .int .i64 x.task.under.set, .int .i64 x.task.after, .int .i64 x.task.born, .int .i64 x.task.state, .int .i64 x.task.start, v1] [.int .i64 y.task.label.level, .int .i64 y.task.label.set, .int .i64 y.task.id, .string y.task.owner, .int .i64 y.task.need, .int .i64 y.task.long, .int .i64 y.task.prio, .int .i64 y.task.under.level, .int .i64 y.task.under.set, .int .i64 y.task.after, .int .i64 y.task.born, .int .i64 y.task.state, .int .i64 y.task.start, u1] _ (rel_Task (by have hf := HI.out; simp only [FitTaskOut] at hf; simp only [FitTask, hf, and_self]) (H1.out.ext X0.out)) (rel_Task (by have hf := GI.out; simp only [FitTaskOut] at hf; simp only [FitTask, hf, and_self]) (G1.out.ext X0.out))).mono ?_); rintro e w1 ⟨rfl, hx⟩; have X1 := Lib.hid (X0.out.trans hx); have A1 := Lib.hid (A0.out.ext hx); have B1 := Lib.hid (B0.out.ext hx); clear hx X0 A0 B0 ac bc; have ac := A1.out.cell; have bc := B1.out.cell))
  all_goals (go_ret; exact ⟨ret_bool (by go_light; clear ac bc; simp_all [TaskOut.ext_iff]), by first | exact X1.out | exact X0.out⟩)

end Go.Proofs.Ytikiipahmgpamaa

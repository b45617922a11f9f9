/- The reference's ConfigText. -/
import Derived.Test.YtjiipmkehdiiiaaDoorCtI
import Derived.Test.YtjiipmkehdiiiaaDoorConfW
namespace Go.Proofs.YtjiipmkehdiiiaaDoor
open Go.RowKit
attribute [local irreducible] wpQuiet

set_option maxHeartbeats 8000000 in
set_option maxRecDepth 100000 in
theorem specConfigText_any {S : Nat → Prop} (x : Config) (cs : List Value) (w : World) (h : EConfig.rel S w cs x) :
    Calls Tryd.prog 5 #[.agg cs.toArray] w fun e w' => e = .returned (.string (configText x)) ∧ Ext w w' := by
  have HCR := Lib.hid fun (W : World) (hx : Ext w W) => specConfigRight_any x cs W (EConfig.keep (hx.same S) h)
  obtain ⟨v1, v2, v3, rfl, hf, h1, h2, h3⟩ := h
  obtain ⟨A1, c1, rfl, n1, m1⟩ := h1.form
  obtain ⟨A2, c2, rfl, n2, m2⟩ := h2.form
  obtain ⟨A3, c3, rfl, n3, m3⟩ := h3.form
  unfold maxLen at m1 m2 m3
  have H1 := Lib.hid h1
  have H2 := Lib.hid h2
  have H3 := Lib.hid h3
  clear h1 h2 h3 hf
  simp only [cellsConfig] at HCR ⊢
  go_enter Tryd.func5, Tryd.ntmps5
  go_upto_region 1 with fail
  obtain ⟨W, B, hW, hB, hx0, b0⟩ : ∃ W B, W = w.alloc (.cells #[.slice A1 x.nodes.length c1, .slice A2 x.pairs.length c2, .slice A3 x.quotas.length c3, .int .i64 x.half] 33) ∧ B = w.heap.size ∧ Ext w W ∧ Blk W B 33 #[.slice A1 x.nodes.length c1, .slice A2 x.pairs.length c2, .slice A3 x.quotas.length c3, .int .i64 x.half] := ⟨_, _, rfl, rfl, (Ext.refl w).alloc _, Blk.new _ _ _⟩
  rw [← hW, ← hB]
  have X0 := Lib.hid hx0
  have B0 := Lib.hid b0
  clear hW hB hx0 b0
  have bc := B0.out.cell
  go_upto_if 10 with (go_at_call 12; (with_reducible refine (HCR.out _ X0.out).mono ?_); rintro e w1 ⟨rfl, hx1⟩; have X1 := Lib.hid (X0.out.trans hx1); have B1 := Lib.hid (B0.out.ext hx1); clear hx1 bc)
  have bc := B1.out.cell
  cases hr : configRight x with
  | false =>
    have HE : Hid (configText x = ⟨#[]⟩) := Lib.hid (by unfold configText; rw [hr]; rfl)
    go_wp2_with fail
    go_ret
    exact ⟨by rw [HE.out]; rfl, X1.out⟩
  | true =>
    have HE : Hid (configText x = quotasFrom (pairsFrom (nodesFrom ⟨#[]⟩ x.nodes) x.pairs) x.quotas ++ ⟨#[104, 97, 108, 102, 32]⟩ ++ digit x.half ++ ⟨#[10]⟩) := Lib.hid (by unfold configText; rw [hr]; rfl)
    have FT := Lib.hid (ct_fit hr)
    have hn6 := FT.out.n6
    have hp4 := FT.out.p4
    have hq8 := FT.out.q8
    clear hr HCR
    obtain ⟨T1, hT1⟩ : ∃ T, T = nodesFrom ⟨#[]⟩ x.nodes := ⟨_, rfl⟩
    have z1 : T1.size ≤ 240 := by have := nodes_size ⟨#[]⟩ x.nodes FT.out.l4; rw [← hT1] at this; have e0 : (⟨#[]⟩ : ByteArray).size = 0 := rfl; omega
    have HT1 := Lib.hid hT1
    rw [← hT1] at HE
    obtain ⟨T2, hT2⟩ : ∃ T, T = pairsFrom T1 x.pairs := ⟨_, rfl⟩
    have z2 : T2.size ≤ 340 := by have := pairs_size T1 x.pairs; rw [← hT2] at this; omega
    have HT2 := Lib.hid hT2
    rw [← hT2] at HE
    obtain ⟨T3, hT3⟩ : ∃ T, T = quotasFrom T2 x.quotas := ⟨_, rfl⟩
    have z3 : T3.size ≤ 500 := by have := quotas_size T2 x.quotas; rw [← hT3] at this; omega
    have HT3 := Lib.hid hT3
    rw [← hT3] at HE
    clear hT1 hT2 hT3
    go_wp2_with fail
    clear bc
    go_loopw [3, 4] (fun t i w' => ∃ k : Nat, k ≤ x.nodes.length ∧ i = .int .i64 k ∧ t = .string (nodesFrom ⟨#[]⟩ (x.nodes.take k)) ∧ Ext w1 w') (fun _ i _ => x.nodes.length - (intOf i).toNat)
    case atStart => exact ⟨0, by omega, rfl, rfl, Ext.refl _⟩
    case round =>
      obtain ⟨k, hk, rfl, rfl, hx⟩ := hrel
      have HX := Lib.hid hx
      have BR := Lib.hid (B1.out.ext hx)
      have bc := BR.out.cell
      clear hx
      by_cases hlt : k < x.nodes.length
      · obtain ⟨b, o, A4, c4, rfl, hc, hl⟩ := nodes_at (H1.out.ext (X1.out.trans HX.out)) hlt
        have HLS := Lib.hid hl
        have hl4 := FT.out.l4 (nth x.nodes k) (nth_mem hlt)
        obtain ⟨T, hT⟩ : ∃ T, T = nodesFrom ⟨#[]⟩ (x.nodes.take k) := ⟨_, rfl⟩
        have zT : T.size ≤ 240 := by
          have := nodes_size ⟨#[]⟩ (x.nodes.take k) (fun y hy => FT.out.l4 y (List.mem_of_mem_take hy))
          rw [← hT, List.length_take] at this
          have e0 : (⟨#[]⟩ : ByteArray).size = 0 := rfl
          omega
        have HNS : Hid (nodesFrom ⟨#[]⟩ (x.nodes.take (k + 1)) = labsFrom (T ++ ⟨#[110, 111, 100, 101]⟩) (nth x.nodes k) ++ ⟨#[10]⟩) := Lib.hid (by rw [nodes_succ _ hlt, hT])
        rw [← hT]
        clear hT hl
        generalize nth x.nodes k = ls at *
        have zN : (T ++ ⟨#[110, 111, 100, 101]⟩).size ≤ 244 := by rw [ByteArray.size_append]; have e0 : (⟨#[110, 111, 100, 101]⟩ : ByteArray).size = 4 := rfl; omega
        have HC := Lib.hid hc
        go_wp2_with fail
        clear bc hc
        go_loopw [3, 5] (fun t i w' => ∃ j : Nat, j ≤ ls.length ∧ i = .int .i64 j ∧ t = .string (labsFrom (T ++ ⟨#[110, 111, 100, 101]⟩) (ls.take j)) ∧ Ext wr w') (fun _ i _ => ls.length - (intOf i).toNat)
        case atStart => exact ⟨0, by omega, rfl, rfl, Ext.refl _⟩
        case round =>
          have HXr := Lib.hid HX.out
          clear HX
          obtain ⟨j, hj, rfl, rfl, hx⟩ := hrel
          have HX6 := Lib.hid hx
          have HL6 := Lib.hid (HLS.out.ext hx)
          have HXX1 := Lib.hid (HXr.out.trans hx)
          have bc := (BR.out.ext hx).cell
          have hc := hx.some HC.out
          clear hx HLS
          obtain ⟨T6, hT6⟩ : ∃ t, t = labsFrom (T ++ ⟨#[110, 111, 100, 101]⟩) (ls.take j) := ⟨_, rfl⟩
          have z6 : T6.size ≤ 280 := by
            have := labs_size (T ++ ⟨#[110, 111, 100, 101]⟩) (ls.take j)
            rw [← hT6, List.length_take] at this
            omega
          by_cases hjt : j < ls.length
          · have HLS2 : Hid (labsFrom (T ++ ⟨#[110, 111, 100, 101]⟩) (ls.take (j + 1)) = T6 ++ (⟨#[32]⟩ ++ labText (nth ls j))) := Lib.hid (by rw [labs_succ _ hjt, hT6])
            rw [← hT6]
            clear hT6
            obtain ⟨b2, o2, rfl, d0, d1, fa⟩ := labels_at2 HL6.out hjt
            generalize nth ls j = a at *
            have FA := Lib.hid fa
            have za := lab_size a
            have zs : (⟨#[32]⟩ ++ labText a).size ≤ 6 := by rw [ByteArray.size_append]; have e0 : (⟨#[32]⟩ : ByteArray).size = 1 := rfl; omega
            clear fa
            have zs2 : (T6 ++ ⟨#[32]⟩).size ≤ 281 := by rw [ByteArray.size_append]; have e0 : (⟨#[32]⟩ : ByteArray).size = 1 := rfl; omega
            have k1 : ¬ (9223372036854775807 < T6.size + 1 + (labText a).size) := by omega
            go_wp2_with (go_at_call 13; (with_reducible refine (specLabelText_any a _ FA.out).mono ?_); rintro e w8 ⟨rfl, hx8⟩; have X8 := Lib.hid (HX6.out.trans hx8); clear hx8)
            constructor
            · repeat apply Exists.intro
              exact ⟨⟨j + 1, by omega, by go_num, by rw [HLS2.out, ByteArray.append_assoc], X8.out⟩, rfl⟩
            · simp [intOf]
              omega
          · have hj' : j = ls.length := by omega
            subst hj'
            rw [List.take_length] at hT6
            rw [List.take_length, ← hT6]
            have HT6 := Lib.hid hT6
            clear hT6
            have zT6 : (T6 ++ ⟨#[10]⟩).size ≤ 300 := by rw [ByteArray.size_append]; have e0 : (⟨#[10]⟩ : ByteArray).size = 1 := rfl; omega
            go_wp2_with fail
            exact ⟨⟨k + 1, by omega, by go_num, by rw [HNS.out, ← HT6.out], HXX1.out⟩, by simp [intOf]; omega⟩
      · have hk' : k = x.nodes.length := by omega
        subst hk'
        rw [List.take_length, ← HT1.out]
        have X5 := Lib.hid (X1.out.trans HX.out)
        have B5 := Lib.hid (B1.out.ext HX.out)
        clear HX bc BR
        have bc := B5.out.cell
        go_wp2_with fail
        clear bc
        go_loopw [3, 6] (fun t i w' => ∃ k : Nat, k ≤ x.pairs.length ∧ i = .int .i64 k ∧ t = .string (pairsFrom T1 (x.pairs.take k)) ∧ Ext wr w') (fun _ i _ => x.pairs.length - (intOf i).toNat)
        case atStart => exact ⟨0, by omega, rfl, rfl, Ext.refl _⟩
        case round =>
          obtain ⟨k, hk, rfl, rfl, hx⟩ := hrel
          have HX6 := Lib.hid (hx)
          have XX6 := Lib.hid (X5.out.trans hx)
          have B6 := Lib.hid (B5.out.ext hx)
          have bc := B6.out.cell
          clear hx
          by_cases hlt : k < x.pairs.length
          · obtain ⟨T, hT⟩ : ∃ T, T = pairsFrom T1 (x.pairs.take k) := ⟨_, rfl⟩
            have zT : T.size ≤ 340 := by
              have := pairs_size T1 (x.pairs.take k)
              rw [← hT, List.length_take] at this
              omega
            have HNS : Hid (pairsFrom T1 (x.pairs.take (k + 1)) = T ++ pairText (nth x.pairs k)) := Lib.hid (by rw [pairs_succ _ hlt, hT])
            rw [← hT]
            clear hT
            obtain ⟨b, o, rfl, hc, fa, fb⟩ := pairs_at (H2.out.ext XX6.out) hlt
            have hr := FT.out.pr k hlt
            generalize nth x.pairs k = y at *
            simp only [cellsPair] at hc
            have d0 := hc 0 _ rfl
            have d1 := hc 1 _ rfl
            have d2 := hc 2 _ rfl
            have d3 := hc 3 _ rfl
            have d4 := hc 4 _ rfl
            simp only [Nat.add_zero] at d0
            have FA := Lib.hid fa
            have FB := Lib.hid fb
            obtain ⟨r1, r2⟩ := hr
            clear hc fa fb
            go_upto_region 16 with fail
            have b1 : wr.cell? ⟨B, 1, none⟩ = some (.slice (some ⟨b, o, none⟩) x.pairs.length c2) := B6.out.cell 1
            have la := lab_size y.from_
            have lb := lab_size y.to_
            have ld := digit_size y.rate
            clear bc
            have n0 : ¬ (9223372036854775807 < T.size + 5) := by omega
            have n1 : ¬ (9223372036854775807 < T.size + 5 + (labText y.from_).size) := by omega
            have n2 : ¬ (9223372036854775807 < T.size + 5 + (labText y.from_).size + 1) := by omega
            have n3 : ¬ (9223372036854775807 < T.size + 5 + (labText y.from_).size + 1 + (labText y.to_).size) := by omega
            have n4 : ¬ (9223372036854775807 < T.size + 5 + (labText y.from_).size + 1 + (labText y.to_).size + 1) := by omega
            have n5 : ¬ (9223372036854775807 < T.size + 5 + (labText y.from_).size + 1 + (labText y.to_).size + 1 + 1) := by omega
            have n6 : ¬ (9223372036854775807 < T.size + 5 + (labText y.from_).size + 1 + (labText y.to_).size + 2) := by omega
            have n7 : ¬ (9223372036854775807 < T.size + 5 + (labText y.from_).size + 1 + (labText y.to_).size + 1 + (digit y.rate).size) := by omega
            have n8 : ¬ (9223372036854775807 < T.size + 5 + (labText y.from_).size + 1 + (labText y.to_).size + 3) := by omega
            have n9 : ¬ (9223372036854775807 < T.size + 5 + (labText y.from_).size + 1 + (labText y.to_).size + 1 + 1 + 1) := by omega
            have n10 : ¬ (9223372036854775807 < T.size + 5 + (labText y.from_).size + 1 + (labText y.to_).size + 1 + (digit y.rate).size + 1) := by omega
            refine wp_region_ext (by kernel_rfl) (by kernel_rfl) ?_
            repeat (
              (refine wpQuiet_step (fun K hK => ?_)
               go_simp
               first
                | (refine hK _ ?_; clear hK K)
                | (apply Exists.intro
                   refine ⟨fun w__ hx__ => ?_, hK _ ?_⟩
                   · have b1__ := Ext.some hx__ b1; have d0__ := Ext.some hx__ d0; have d1__ := Ext.some hx__ d1; have d2__ := Ext.some hx__ d2; have d3__ := Ext.some hx__ d3; have d4__ := Ext.some hx__ d4; first | with_reducible exact rfl | (go_simp; done) | (go_simp; with_reducible exact rfl) | (go_at_call 13; (with_reducible show Calls Tryd.prog 13 #[.agg #[.int .i64 y.from_.level, _]] _ _); exact ext_of hx__ (specLabelText_any y.from_ _ FA.out)) | (go_at_call 13; (with_reducible show Calls Tryd.prog 13 #[.agg #[.int .i64 y.to_.level, _]] _ _); exact ext_of hx__ (specLabelText_any y.to_ _ FB.out)) | (go_at_call 14; exact ext_of hx__ (l01Dec_any y.rate _ (by omega) (by omega)))
                   clear hK K)))
            refine wpQuiet_nil ?_
            intro w1 hx1
            have X8 := Lib.hid (HX6.out.trans hx1)
            clear hx1 d0 d1 d2 d3 d4 b1 la lb ld n0 n1 n2 n3 n4 n5 n6 n7 n8 n9 n10
            go_wp2_with fail
            constructor
            · repeat apply Exists.intro
              exact ⟨⟨k + 1, by omega, by go_num, by rw [HNS.out]; unfold pairText; simp only [ByteArray.append_assoc], X8.out⟩, rfl⟩
            · simp [intOf]
              omega
          · have hk' : k = x.pairs.length := by omega
            subst hk'
            rw [List.take_length, ← HT2.out]
            have X9 := Lib.hid XX6.out
            have B9 := Lib.hid B6.out
            clear B6 XX6 HX6
            have bc := B9.out.cell
            go_wp2_with fail
            clear bc
            go_loopw [3, 7] (fun t i w' => ∃ k : Nat, k ≤ x.quotas.length ∧ i = .int .i64 k ∧ t = .string (quotasFrom T2 (x.quotas.take k)) ∧ Ext wr w') (fun _ i _ => x.quotas.length - (intOf i).toNat)
            case atStart => exact ⟨0, by omega, rfl, rfl, Ext.refl _⟩
            case round =>
              obtain ⟨k, hk, rfl, rfl, hx⟩ := hrel
              have HX6 := Lib.hid hx
              have XX6 := Lib.hid (X9.out.trans hx)
              have B6 := Lib.hid (B9.out.ext hx)
              have bc := B6.out.cell
              clear hx
              by_cases hlt : k < x.quotas.length
              · obtain ⟨T, hT⟩ : ∃ T, T = quotasFrom T2 (x.quotas.take k) := ⟨_, rfl⟩
                have zT : T.size ≤ 500 := by
                  have := quotas_size T2 (x.quotas.take k)
                  rw [← hT, List.length_take] at this
                  omega
                have HNS : Hid (quotasFrom T2 (x.quotas.take (k + 1)) = T ++ quotaText (nth x.quotas k)) := Lib.hid (by rw [quotas_succ _ hlt, hT])
                rw [← hT]
                clear hT
                obtain ⟨b, o, rfl, hc, fa⟩ := quotas_at (H3.out.ext XX6.out) hlt
                have hr := FT.out.qr k hlt
                generalize nth x.quotas k = y at *
                simp only [cellsQuota] at hc
                have d0 := hc 0 _ rfl
                have d1 := hc 1 _ rfl
                have d2 := hc 2 _ rfl
                simp only [Nat.add_zero] at d0
                have FA := Lib.hid fa
                obtain ⟨r1, r2⟩ := hr
                clear hc fa
                go_upto_region 20 with fail
                have b1 : wr.cell? ⟨B, 2, none⟩ = some (.slice (some ⟨b, o, none⟩) x.quotas.length c3) := B6.out.cell 2
                have la := lab_size y.label
                have ld := digit_size y.most
                clear bc
                have n0 : ¬ (9223372036854775807 < T.size + 6) := by omega
                have n1 : ¬ (9223372036854775807 < T.size + 6 + (labText y.label).size) := by omega
                have n2 : ¬ (9223372036854775807 < T.size + 6 + (labText y.label).size + 1) := by omega
                have n3 : ¬ (9223372036854775807 < T.size + 6 + (labText y.label).size + 1 + 1) := by omega
                have n4 : ¬ (9223372036854775807 < T.size + 6 + (labText y.label).size + 2) := by omega
                have n5 : ¬ (9223372036854775807 < T.size + 6 + (labText y.label).size + 1 + (digit y.most).size) := by omega
                have n6 : ¬ (9223372036854775807 < T.size + 6 + (labText y.label).size + 3) := by omega
                have n7 : ¬ (9223372036854775807 < T.size + 6 + (labText y.label).size + 1 + 1 + 1) := by omega
                have n8 : ¬ (9223372036854775807 < T.size + 6 + (labText y.label).size + 1 + (digit y.most).size + 1) := by omega
                refine wp_region_ext (by kernel_rfl) (by kernel_rfl) ?_
                repeat (
                  (refine wpQuiet_step (fun K hK => ?_)
                   go_simp
                   first
                    | (refine hK _ ?_; clear hK K)
                    | (apply Exists.intro
                       refine ⟨fun w__ hx__ => ?_, hK _ ?_⟩
                       · have b1__ := Ext.some hx__ b1; have d0__ := Ext.some hx__ d0; have d1__ := Ext.some hx__ d1; have d2__ := Ext.some hx__ d2; first | with_reducible exact rfl | (go_simp; done) | (go_simp; with_reducible exact rfl) | (go_at_call 13; exact ext_of hx__ (specLabelText_any y.label _ FA.out)) | (go_at_call 14; exact ext_of hx__ (l01Dec_any y.most _ (by omega) (by omega)))
                       clear hK K)))
                refine wpQuiet_nil ?_
                intro w1 hx1
                have X8 := Lib.hid (HX6.out.trans hx1)
                clear hx1 d0 d1 d2 b1 la ld n0 n1 n2 n3 n4 n5 n6 n7 n8
                go_wp2_with fail
                constructor
                · repeat apply Exists.intro
                  exact ⟨⟨k + 1, by omega, by go_num, by rw [HNS.out]; unfold quotaText; simp only [ByteArray.append_assoc], X8.out⟩, rfl⟩
                · simp [intOf]
                  omega
              · have hk' : k = x.quotas.length := by omega
                subst hk'
                rw [List.take_length, ← HT3.out]
                have bc := B6.out.cell
                obtain ⟨f1, f2⟩ := FT.out.hf
                have q5 : (⟨#[104, 97, 108, 102, 32]⟩ : ByteArray).size = 5 := rfl
                have q2 : (⟨#[10]⟩ : ByteArray).size = 1 := rfl
                have ld := digit_size x.half
                have p1 : (T3 ++ ⟨#[104, 97, 108, 102, 32]⟩).size ≤ 505 := by simp only [ByteArray.size_append]; omega
                have p2 : (T3 ++ ⟨#[104, 97, 108, 102, 32]⟩ ++ digit x.half).size ≤ 506 := by simp only [ByteArray.size_append]; omega
                clear q5 q2
                go_wp2_with (go_at_call 14; (with_reducible refine (l01Dec_any x.half _ (by omega) (by omega)).mono ?_); rintro e w12 ⟨rfl, hx12⟩; have X12 := Lib.hid (XX6.out.trans hx12); clear hx12)
                go_ret
                exact ⟨by rw [HE.out]; rfl, X12.out⟩
end Go.Proofs.YtjiipmkehdiiiaaDoor

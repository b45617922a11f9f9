/- The walk of the reference's l09Labels. Printed by wip/conft.py. The walk of the reference's l09Pairs. Printed by wip/conft.py. The walks of the reference's ConfigRight and ClearFor. Printed by wip/confw.py. -/
import Derived.Test.YtjiipmkehdiiiaaDoorConfS
import Derived.Test.YtjiipmkehdiiiaaDoorConfV
namespace Go.Proofs.YtjiipmkehdiiiaaDoor
open Go.RowKit
attribute [local irreducible] wpQuiet

theorem lab_div (k : Nat) : labNum k = ⟨(k : Int) / 8, (k : Int) % 8⟩ := by
  unfold labNum
  simp
set_option maxHeartbeats 8000000 in
set_option maxRecDepth 100000 in
theorem l09Labels_any {S : Nat → Prop} (ns : List (List Label)) (v : Value) (w : World) (h : Rd (ERow ELabel) S w v ns) :
    Calls Tryd.prog 27 #[v] w (RetO OLabel 44 (labelsIn ns) w) := by
  obtain ⟨A, c, rfl, h1, h2, hk⟩ := h.open_
  unfold maxLen at h2
  have HK := Lib.hid hk
  clear hk h
  go_enter Tryd.func27, Tryd.ntmps27
  go_upto_region 2 with (fail)
  obtain ⟨W, B, hW, hB, hx0, b0⟩ : ∃ W B, W = w.alloc (.cells #[] 44) ∧ B = w.heap.size ∧ Ext w W ∧ Blk W B 44 #[] := ⟨_, _, rfl, rfl, (Ext.refl w).alloc _, Blk.new _ _ _⟩
  rw [← hW, ← hB]
  have HB : Hid (w.heap.size ≤ B) := Lib.hid (by omega)
  have B0 := Lib.hid b0
  have X0 := Lib.hid hx0
  clear hW hB hx0 b0
  go_wp2_with fail
  go_loopw [3, 4] (fun u i w' => ∃ (k : Nat) (F : List Nat), k ≤ 32 ∧ i = .int .i64 k ∧ OwS OLabel 44 w' u (labelsUpTo ns k) F ∧ (∀ b ∈ F, w.heap.size ≤ b) ∧ Ext w w') (fun _ i _ => 32 - (intOf i).toNat)
  case atStart => exact ⟨0, [B], by omega, rfl, own_new B0.out, fun b hb => by rw [List.mem_singleton.1 hb]; exact HB.out, X0.out⟩
  case round =>
    obtain ⟨k, F, hk1, rfl, ho, hF, hx⟩ := hrel
    obtain ⟨AO, cO, rfl, -⟩ := ho.form
    have HO := Lib.hid ho
    have HFF := Lib.hid hF
    have HX := Lib.hid hx
    clear ho hF hx
    by_cases hlt : k < 32
    · have HE := Lib.hid (upTo_succ ns k)
      have HLe := Lib.hid (upTo_length ns k)
      have HLD := Lib.hid (lab_div k)
      go_upto_region 6 with (fail)
      obtain ⟨W5, B5, hW5, hB5, hx5, b5⟩ : ∃ W5 B5, W5 = wr.alloc (.cells #[.int .i64 ((k : Int) / 8), .int .i64 ((k : Int) % 8)] 44) ∧ B5 = wr.heap.size ∧ Ext wr W5 ∧ Blk W5 B5 44 #[.int .i64 (labNum k).level, .int .i64 (labNum k).set] := ⟨_, _, rfl, rfl, (Ext.refl _).alloc _, by rw [lab_div]; exact Blk.new _ _ _⟩
      rw [← hW5, ← hB5]
      have Q5 := Lib.hid b5
      have X5 := Lib.hid hx5
      clear hW5 hB5 hx5 b5
      go_wp2_with fail
      have hk33 : (k : Int) < 32 := by omega
      simp only [decide_eq_true hk33]
      go_loopw [6, 7] (fun f i w' => ∃ (i' : Nat), i' ≤ ns.length ∧ i = .int .i64 i' ∧ f = .bool ((ns.take i').any (fun l => cleared l (labNum k))) ∧ Ext W5 w') (fun _ i _ => ns.length - (intOf i).toNat)
      case atStart => exact ⟨0, by omega, rfl, rfl, Ext.refl _⟩
      case round =>
        obtain ⟨i, hi1, rfl, rfl, hx2⟩ := hrel
        have HX2 := Lib.hid hx2
        by_cases hlt2 : i < ns.length
        · obtain ⟨b, o, cs, rfl, _, ⟨v1, rfl, hr⟩, hc⟩ := HK.out i hlt2
          obtain ⟨A1, c1, rfl, -⟩ := hr.form
          have hxx := HX.out.trans (X5.out.trans hx2)
          have c0 := Ext.some hxx (hc 0 _ rfl)
          simp only [ERow, Nat.mul_one, Nat.add_zero] at c0
          have HR := Lib.hid (hr.ext hxx)
          have d0 := Ext.some hx2 (Q5.out.cell 0)
          have d1 := Ext.some hx2 (Q5.out.cell 1)
          obtain ⟨t, ht⟩ : ∃ t, cleared (nth ns i) (labNum k) = t := ⟨_, rfl⟩
          have T := Lib.hid ht
          clear hc hr hx2 hxx ht
          generalize hf : (ns.take i).any (fun l => cleared l (labNum k)) = f
          have F := Lib.hid hf
          clear hf
          cases f with
          | false =>
            cases t with
            | false =>
              have HN : Hid ((ns.take (i + 1)).any (fun l => cleared l (labNum k)) = false) := Lib.hid (by rw [take_succ_nth hlt2, List.any_append, F.out]; simp [T.out])
              go_wp2_with fail
              refine wp_region_ext (by kernel_rfl) (by kernel_rfl) ?_
              repeat (
                (refine wpQuiet_step (fun K hK => ?_)
                 go_simp
                 first
                  | (refine hK _ ?_; clear hK K)
                  | (apply Exists.intro
                     refine ⟨fun w__ hx__ => ?_, hK _ ?_⟩
                     · have c0__ := Ext.some hx__ c0; have d0__ := Ext.some hx__ d0; have d1__ := Ext.some hx__ d1; first | exact rfl | (go_simp; done) | (go_simp; exact rfl) | (go_at_call 45; exact ext_of hx__ (l05Cleared_is (S := S) (nth ns i) (labNum k) _ _ (HR.out.ext hx__) _ T.out))
                     clear hK K)))
              refine wpQuiet_nil ?_
              intro w1 hx1
              have HE := Lib.hid hx1
              clear c0 d0 d1 hx1
              go_wp2_with fail
              refine ⟨⟨i + 1, by omega, by go_num, by rw [HN.out], HX2.out.trans HE.out⟩, by simp [intOf]; omega⟩
            | true =>
              have HN : Hid ((ns.take (i + 1)).any (fun l => cleared l (labNum k)) = true) := Lib.hid (by rw [take_succ_nth hlt2, List.any_append, F.out]; simp [T.out])
              go_wp2_with fail
              refine wp_region_ext (by kernel_rfl) (by kernel_rfl) ?_
              repeat (
                (refine wpQuiet_step (fun K hK => ?_)
                 go_simp
                 first
                  | (refine hK _ ?_; clear hK K)
                  | (apply Exists.intro
                     refine ⟨fun w__ hx__ => ?_, hK _ ?_⟩
                     · have c0__ := Ext.some hx__ c0; have d0__ := Ext.some hx__ d0; have d1__ := Ext.some hx__ d1; first | exact rfl | (go_simp; done) | (go_simp; exact rfl) | (go_at_call 45; exact ext_of hx__ (l05Cleared_is (S := S) (nth ns i) (labNum k) _ _ (HR.out.ext hx__) _ T.out))
                     clear hK K)))
              refine wpQuiet_nil ?_
              intro w1 hx1
              have HE := Lib.hid hx1
              clear c0 d0 d1 hx1
              go_wp2_with fail
              refine ⟨⟨i + 1, by omega, by go_num, by rw [HN.out], HX2.out.trans HE.out⟩, by simp [intOf]; omega⟩
          | true =>
            have HN : Hid ((ns.take (i + 1)).any (fun l => cleared l (labNum k)) = true) := Lib.hid (by rw [take_succ_nth hlt2, List.any_append, F.out]; simp [T.out])
            go_wp2_with fail
            refine wp_region_ext (by kernel_rfl) (by kernel_rfl) ?_
            repeat (
              (refine wpQuiet_step (fun K hK => ?_)
               go_simp
               first
                | (refine hK _ ?_; clear hK K)
                | (apply Exists.intro
                   refine ⟨fun w__ hx__ => ?_, hK _ ?_⟩
                   · first | exact rfl | (go_simp; done) | (go_simp; exact rfl)
                   clear hK K)))
            refine wpQuiet_nil ?_
            intro w1 hx1
            have HE := Lib.hid hx1
            clear c0 d0 d1 hx1
            go_wp2_with fail
            refine ⟨⟨i + 1, by omega, by go_num, by rw [HN.out], HX2.out.trans HE.out⟩, by simp [intOf]; omega⟩
        · obtain rfl : i = ns.length := by omega
          have HA : Hid ((ns.take ns.length).any (fun l => cleared l (labNum k)) = anyCleared ns (labNum k)) := Lib.hid (by rw [List.take_length]; rfl)
          have d0 := Ext.some hx2 (Q5.out.cell 0)
          have d1 := Ext.some hx2 (Q5.out.cell 1)
          clear hx2
          rw [HA.out]
          generalize hf : anyCleared ns (labNum k) = f at *
          clear hf
          have X2 := Lib.hid (HX.out.trans (X5.out.trans HX2.out))
          have XW := Lib.hid (X5.out.trans HX2.out)
          cases f with
          | false =>
            go_wp2_with fail
            refine ⟨⟨k + 1, F, by omega, by go_num, by rw [HE.out]; simpa using HO.out.ext XW.out, HFF.out, X2.out⟩, by simp [intOf]; omega⟩
          | true =>
            go_wp2_with (at_builtin; refine wpList_append_one (O := OLabel) (T := 44) (l := labelsUpTo ns k) (F := F) (G := []) (y := labNum k) (cs := [.int .i64 (labNum k).level, .int .i64 (labNum k).set]) rfl _ _ 41 rfl (.agg #[.int .i64 0, .int .i64 0]) 2 16 Tryd.underlying41 (by kernel_rfl) rfl rfl rfl (HO.out.ext (XW.out.alloc _)) _ 0 1 rfl ⟨rel_Label (by rw [HLD.out]; unfold FitLabel I64; simp only; omega), rfl⟩ (Blk.new _ _ _).range (by simpa using HO.out.nodup) (by have := HLe.out; omega) (by decide) ?_; intro v9 w9 F9 o9 k9 f9; have O9 := Lib.hid o9; have K9 := Lib.hid k9; have G9 := Lib.hid f9; clear o9 k9 f9)
            refine ⟨⟨k + 1, F9, by omega, by go_num, by rw [HE.out]; simpa using O9.out, fun b hb => ?_, K9.out.ext (X2.out.alloc _) HFF.out⟩, by simp [intOf]; omega⟩
            rcases G9.out b hb with h | h | h
            · exact HFF.out b h
            · cases h
            · exact Nat.le_trans (X2.out.alloc _).size h
    · obtain rfl : k = 32 := by omega
      go_wp2_with fail
      go_ret
      exact ⟨_, F, rfl, HO.out, HFF.out, HX.out⟩
end Go.Proofs.YtjiipmkehdiiiaaDoor

namespace Go.Proofs.YtjiipmkehdiiiaaDoor
open Go.RowKit
attribute [local irreducible] wpQuiet

theorem nth_tk {α : Type} [Inhabited α] {l : List α} {i j : Nat} (h : j < i) (hi : i ≤ l.length) : nth (l.take i) j = nth l j := by
  rw [nth_eq (by rw [List.length_take]; omega), nth_eq (by omega)]
  simp
set_option maxHeartbeats 8000000 in
set_option maxRecDepth 100000 in
theorem l09Pairs_any {S S' : Nat → Prop} (ls : List Label) (ps : List Pair) (v u : Value) (w : World) (g : Rd ELabel S' w u ls) (h : Rd EPair S w v ps) :
    Calls Tryd.prog 28 #[u, v] w fun e w' => e = .returned (.bool (pairsOk ls ps)) ∧ Ext w w' := by
  obtain ⟨A, c, rfl, h1, h2, hk⟩ := h.open_
  unfold maxLen at h2
  obtain ⟨AL, cL, rfl, -⟩ := g.form
  have HK := Lib.hid hk
  have HL := Lib.hid g
  clear hk h g
  by_cases h4 : 4 < ps.length
  · have HN : Hid (pairsOk ls ps = false) := Lib.hid (by unfold pairsOk; rw [decide_eq_false (by omega)]; rfl)
    go_enter Tryd.func28, Tryd.ntmps28
    go_wp2_with fail
    go_ret
    exact ⟨ret_bool HN.out.symm, Ext.refl _⟩
  have h4' : ps.length ≤ 4 := by omega
  clear h4
  go_enter Tryd.func28, Tryd.ntmps28
  go_wp2_with fail
  go_loopw [5] (fun i w' => ∃ k : Nat, k ≤ ps.length ∧ i = .int .i64 k ∧ (∀ j, j < k → pairAtB ls ps j = true) ∧ Ext w w') (fun i _ => ps.length - (intOf i).toNat)
  case atStart => exact ⟨0, by omega, rfl, fun j hj => by omega, Ext.refl _⟩
  case round =>
    obtain ⟨k, hk1, rfl, hall, hx⟩ := hrel
    have HA := Lib.hid hall
    have HX := Lib.hid hx
    clear hall
    by_cases hlt : k < ps.length
    · obtain ⟨b, o, cs, rfl, _, ⟨rfl, hfit⟩, hc⟩ := HK.out k hlt
      have HFit := Lib.hid hfit
      have c0 := Ext.some hx (hc 0 _ rfl)
      have c1 := Ext.some hx (hc 1 _ rfl)
      have c2 := Ext.some hx (hc 2 _ rfl)
      have c3 := Ext.some hx (hc 3 _ rfl)
      have c4 := Ext.some hx (hc 4 _ rfl)
      simp only [EPair, Nat.add_zero] at c0 c1 c2 c3 c4
      clear hc hfit hx
      go_upto_region 7 with (fail)
      obtain ⟨W5, B5, hW5, hB5, hx5, b5⟩ : ∃ W5 B5, W5 = wr.alloc (.cells #[.int .i64 (nth ps k).from_.level, .int .i64 (nth ps k).from_.set, .int .i64 (nth ps k).to_.level, .int .i64 (nth ps k).to_.set, .int .i64 (nth ps k).rate] 46) ∧ B5 = wr.heap.size ∧ Ext wr W5 ∧ Blk W5 B5 46 (cellsPair (nth ps k)).toArray := ⟨_, _, rfl, rfl, (Ext.refl _).alloc _, Blk.new _ _ _⟩
      rw [← hW5, ← hB5]
      have X6 : Hid (Ext w W5) := Lib.hid (HX.out.trans hx5)
      have Q6 := Lib.hid b5
      clear hW5 hB5 hx5 b5 c0 c1 c2 c3 c4
      have q0 := Q6.out.cell 0
      have q1 := Q6.out.cell 1
      have q2 := Q6.out.cell 2
      have q3 := Q6.out.cell 3
      have q4 := Q6.out.cell 4
      simp only [cellsPair, List.getElem?_toArray, List.getElem?_cons_succ, List.getElem?_cons_zero] at q0 q1 q2 q3 q4
      obtain ⟨t1, ht1⟩ : ∃ t, cleared ls (nth ps k).from_ = t := ⟨_, rfl⟩
      obtain ⟨t2, ht2⟩ : ∃ t, cleared ls (nth ps k).to_ = t := ⟨_, rfl⟩
      obtain ⟨t3, ht3⟩ : ∃ t, belowB (nth ps k).from_ (nth ps k).to_ = t := ⟨_, rfl⟩
      obtain ⟨t4, ht4⟩ : ∃ t, isB (nth ps k).rate 1 3 = t := ⟨_, rfl⟩
      have T1 := Lib.hid ht1
      have T2 := Lib.hid ht2
      have T3 := Lib.hid ht3
      have T4 := Lib.hid ht4
      clear ht1 ht2 ht3 ht4
      cases t1
      case' false =>
        have HF : Hid (pairsOk ls ps = false) := Lib.hid (pairsOk_bad hlt (by simp [pairAtB, pairOk, T1.out]))
      case' true =>
        cases t2
        case' false =>
          have HF : Hid (pairsOk ls ps = false) := Lib.hid (pairsOk_bad hlt (by simp [pairAtB, pairOk, T2.out]))
        case' true =>
          cases t3
          case' true =>
            have HF : Hid (pairsOk ls ps = false) := Lib.hid (pairsOk_bad hlt (by simp [pairAtB, pairOk, T3.out]))
          case' false =>
            cases t4
            case' false =>
              have HF : Hid (pairsOk ls ps = false) := Lib.hid (pairsOk_bad hlt (by simp [pairAtB, pairOk, T4.out]))
            case' true =>
              skip
      all_goals go_wp2_with (first | (go_at_call 45; (with_reducible refine (l05Cleared_is (S := S') ls (nth ps k).from_ _ _ (HL.out.ext X6.out) _ T1.out).mono ?_); rintro e w7 ⟨rfl, hx7⟩; replace X6 := Lib.hid (X6.out.trans hx7); replace Q6 := Lib.hid (Q6.out.ext hx7); clear hx7 q0 q1 q2 q3 q4; have q0 := Q6.out.cell 0; have q1 := Q6.out.cell 1; have q2 := Q6.out.cell 2; have q3 := Q6.out.cell 3; have q4 := Q6.out.cell 4; simp only [cellsPair, List.getElem?_toArray, List.getElem?_cons_succ, List.getElem?_cons_zero] at q0 q1 q2 q3 q4) | (go_at_call 45; (with_reducible refine (l05Cleared_is (S := S') ls (nth ps k).to_ _ _ (HL.out.ext X6.out) _ T2.out).mono ?_); rintro e w7 ⟨rfl, hx7⟩; replace X6 := Lib.hid (X6.out.trans hx7); replace Q6 := Lib.hid (Q6.out.ext hx7); clear hx7 q0 q1 q2 q3 q4; have q0 := Q6.out.cell 0; have q1 := Q6.out.cell 1; have q2 := Q6.out.cell 2; have q3 := Q6.out.cell 3; have q4 := Q6.out.cell 4; simp only [cellsPair, List.getElem?_toArray, List.getElem?_cons_succ, List.getElem?_cons_zero] at q0 q1 q2 q3 q4) | (go_at_call 46; (with_reducible refine (l02Below_as (S := S) (S' := S) (nth ps k).from_ (nth ps k).to_ _ _ _ (rel_Label (fit_from HFit.out)) (rel_Label (fit_to HFit.out)) _ T3.out).mono ?_); rintro e w7 ⟨rfl, hx7⟩; replace X6 := Lib.hid (X6.out.trans hx7); replace Q6 := Lib.hid (Q6.out.ext hx7); clear hx7 q0 q1 q2 q3 q4; have q0 := Q6.out.cell 0; have q1 := Q6.out.cell 1; have q2 := Q6.out.cell 2; have q3 := Q6.out.cell 3; have q4 := Q6.out.cell 4; simp only [cellsPair, List.getElem?_toArray, List.getElem?_cons_succ, List.getElem?_cons_zero] at q0 q1 q2 q3 q4) | (go_at_call 26; (with_reducible refine (l02Is_as _ _ _ _ _ T4.out).mono ?_); rintro e w8 ⟨rfl, rfl⟩))
      all_goals (try (go_ret; exact ⟨ret_bool HF.out.symm, X6.out⟩))
      go_loopw [7] (fun i w' => ∃ j : Nat, j ≤ k ∧ i = .int .i64 j ∧ (∀ i, i < j → samePair (nth ps k) (nth ps i) = false) ∧ Ext w7 w') (fun i _ => k - (intOf i).toNat)
      case atStart => exact ⟨0, by omega, rfl, fun j hj => by omega, Ext.refl _⟩
      case round =>
        obtain ⟨j, hj1, rfl, hall3, hx3⟩ := hrel
        have HA3 := Lib.hid hall3
        have HX3 := Lib.hid hx3
        clear hall3
        have Q7 := Lib.hid (Q6.out.ext hx3)
        clear q0 q1 q2 q3 q4
        by_cases hj2 : j < k
        · obtain ⟨b2, o2, ds, hA2, _, ⟨rfl, hf2'⟩, hd⟩ := HK.out j (by omega)
          injection hA2 with hA2
          injection hA2 with e1 e2
          subst e1
          subst e2
          have hxd := X6.out.trans hx3
          have d0 := Ext.some hxd (hd 0 _ rfl)
          have d1 := Ext.some hxd (hd 1 _ rfl)
          have d2 := Ext.some hxd (hd 2 _ rfl)
          have d3 := Ext.some hxd (hd 3 _ rfl)
          have d4 := Ext.some hxd (hd 4 _ rfl)
          simp only [EPair, Nat.add_zero] at d0 d1 d2 d3 d4
          have q0 := Q7.out.cell 0
          have q1 := Q7.out.cell 1
          have q2 := Q7.out.cell 2
          have q3 := Q7.out.cell 3
          simp only [cellsPair, List.getElem?_toArray, List.getElem?_cons_succ, List.getElem?_cons_zero] at q0 q1 q2 q3
          have j0 : (j : Int) < (ps.length : Int) := by omega
          have j1 : j < ps.length := by omega
          clear hd hf2' hxd hx3 d4
          by_cases hf1 : (nth ps j).from_ = (nth ps k).from_
          · by_cases hf2 : (nth ps j).to_ = (nth ps k).to_
            · have HF : Hid (pairsOk ls ps = false) := Lib.hid (pairsOk_bad hlt (by
                have : (ps.take k).any (samePair (nth ps k)) = true := List.any_eq_true.2 ⟨nth ps j, by rw [← nth_tk hj2 (by omega)]; exact nth_mem (by rw [List.length_take]; omega), by simp [samePair, hf1, hf2]⟩
                simp [pairAtB, this]))
              have g0 : (nth ps j).from_.level = (nth ps k).from_.level := by rw [hf1]
              have g1 : (nth ps j).from_.set = (nth ps k).from_.set := by rw [hf1]
              have g2 : (nth ps j).to_.level = (nth ps k).to_.level := by rw [hf2]
              have g3 : (nth ps j).to_.set = (nth ps k).to_.set := by rw [hf2]
              clear hf1 hf2
              go_wp2_with fail
              refine wp_region_ext (by kernel_rfl) (by kernel_rfl) ?_
              repeat (
                (refine wpQuiet_step (fun K hK => ?_)
                 go_simp
                 first
                  | (refine hK _ ?_; clear hK K)
                  | (apply Exists.intro
                     refine ⟨fun w__ hx__ => ?_, hK _ ?_⟩
                     · have d0__ := Ext.some hx__ d0; have d1__ := Ext.some hx__ d1; have d2__ := Ext.some hx__ d2; have d3__ := Ext.some hx__ d3; have q0__ := Ext.some hx__ q0; have q1__ := Ext.some hx__ q1; have q2__ := Ext.some hx__ q2; have q3__ := Ext.some hx__ q3; first | exact rfl | (go_simp; done) | (go_simp; exact rfl)
                     clear hK K)))
              refine wpQuiet_nil ?_
              intro w1 hx1
              have HE := Lib.hid hx1
              clear d0 d1 d2 d3 q0 q1 q2 q3 hx1
              go_wp2_with fail
              go_ret
              exact ⟨ret_bool HF.out.symm, X6.out.trans (HX3.out.trans HE.out)⟩
            · have HG := Lib.hid (all_succ (p := fun j => samePair (nth ps k) (nth ps j) = false) HA3.out (by simp [samePair, hf2]))
              have g0 : (nth ps j).from_.level = (nth ps k).from_.level := by rw [hf1]
              have g1 : (nth ps j).from_.set = (nth ps k).from_.set := by rw [hf1]
              rcases label_ne hf2 with g | g
              all_goals
                clear hf1 hf2
                have ite__ := @ite_ok
                go_wp2_with fail
                refine wp_region_ext (by kernel_rfl) (by kernel_rfl) ?_
                repeat (
                  (refine wpQuiet_step (fun K hK => ?_)
                   go_simp
                   first
                    | (refine hK _ ?_; clear hK K)
                    | (apply Exists.intro
                       refine ⟨fun w__ hx__ => ?_, hK _ ?_⟩
                       · have d0__ := Ext.some hx__ d0; have d1__ := Ext.some hx__ d1; have d2__ := Ext.some hx__ d2; have d3__ := Ext.some hx__ d3; have q0__ := Ext.some hx__ q0; have q1__ := Ext.some hx__ q1; have q2__ := Ext.some hx__ q2; have q3__ := Ext.some hx__ q3; first | exact rfl | (go_simp; done) | (go_simp; exact rfl)
                       clear hK K)))
                refine wpQuiet_nil ?_
                intro w1 hx1
                have HE := Lib.hid hx1
                clear d0 d1 d2 d3 q0 q1 q2 q3 hx1 ite__
                go_wp2_with fail
                go_roundw
                case rel => exact ⟨j + 1, by omega, by go_num, HG.out, HX3.out.trans HE.out⟩
                case measure => simp [intOf]; omega
          · have HG := Lib.hid (all_succ (p := fun j => samePair (nth ps k) (nth ps j) = false) HA3.out (by simp [samePair, hf1]))
            rcases label_ne hf1 with g | g
            all_goals
              clear hf1
              have ite__ := @ite_ok
              go_wp2_with fail
              refine wp_region_ext (by kernel_rfl) (by kernel_rfl) ?_
              repeat (
                (refine wpQuiet_step (fun K hK => ?_)
                 go_simp
                 first
                  | (refine hK _ ?_; clear hK K)
                  | (apply Exists.intro
                     refine ⟨fun w__ hx__ => ?_, hK _ ?_⟩
                     · have d0__ := Ext.some hx__ d0; have d1__ := Ext.some hx__ d1; have d2__ := Ext.some hx__ d2; have d3__ := Ext.some hx__ d3; have q0__ := Ext.some hx__ q0; have q1__ := Ext.some hx__ q1; have q2__ := Ext.some hx__ q2; have q3__ := Ext.some hx__ q3; first | exact rfl | (go_simp; done) | (go_simp; exact rfl)
                     clear hK K)))
              refine wpQuiet_nil ?_
              intro w1 hx1
              have HE := Lib.hid hx1
              clear d0 d1 d2 d3 q0 q1 q2 q3 hx1 ite__
              go_wp2_with fail
              go_roundw
              case rel => exact ⟨j + 1, by omega, by go_num, HG.out, HX3.out.trans HE.out⟩
              case measure => simp [intOf]; omega
        · have HG := Lib.hid (all_succ (p := fun j => pairAtB ls ps j = true) HA.out (by
            have h0 : (ps.take k).any (samePair (nth ps k)) = false := List.any_eq_false.2 fun y hy => by
              obtain ⟨i, hi, rfl⟩ := List.getElem_of_mem hy
              have hi' : i < k := by rw [List.length_take] at hi; omega
              have := HA3.out i (by omega)
              rw [show nth ps i = ps[i] from nth_eq (by omega)] at this
              simpa using this
            simp [pairAtB, pairOk, T1.out, T2.out, T3.out, T4.out, h0]))
          clear hx3
          go_wp2_with fail
          go_roundw
          case rel => exact ⟨k + 1, by omega, by go_num, HG.out, X6.out.trans HX3.out⟩
          case measure => simp [intOf]; omega
    · have HF : Hid (pairsOk ls ps = true) := Lib.hid (by rw [pairsOk_of fun j hj => HA.out j (by omega), decide_eq_true h4'])
      clear hx
      go_wp2_with fail
      go_ret
      exact ⟨ret_bool HF.out.symm, HX.out⟩
end Go.Proofs.YtjiipmkehdiiiaaDoor

namespace Go.Proofs.YtjiipmkehdiiiaaDoor
open Go.RowKit
attribute [local irreducible] wpQuiet

theorem l05Clear_is {S : Nat → Prop} (ns : List (List Label)) (v : Value) (w : World) (h : Rd (ERow ELabel) S w v ns) (r : Bool) (hr : clearOk ns = r) :
    Calls Tryd.prog 25 #[v] w fun e w' => e = .returned (.bool r) ∧ Ext w w' := by
  subst hr
  exact l05Clear_any ns v w h
theorem l09Pairs_is {S S' : Nat → Prop} (ls : List Label) (ps : List Pair) (v u : Value) (w : World) (g : Rd ELabel S' w u ls) (h : Rd EPair S w v ps) (r : Bool) (hr : pairsOk ls ps = r) :
    Calls Tryd.prog 28 #[u, v] w fun e w' => e = .returned (.bool r) ∧ Ext w w' := by
  subst hr
  exact l09Pairs_any ls ps v u w g h
theorem l09Quotas_is {S S' : Nat → Prop} (ls : List Label) (qs : List Quota) (v u : Value) (w : World) (g : Rd ELabel S' w u ls) (h : Rd EQuota S w v qs) (hr : ∀ a ∈ ls, labelRight a = true) (r : Bool) (hq : quotasOk ls qs = r) :
    Calls Tryd.prog 29 #[u, v] w fun e w' => e = .returned (.bool r) ∧ Ext w w' := by
  subst hq
  exact l09Quotas_any ls qs v u w g h hr

set_option maxHeartbeats 8000000 in
set_option maxRecDepth 100000 in
theorem specConfigRight_any {S : Nat → Prop} (x : Config) (cs : List Value) (w : World) (h : EConfig.rel S w cs x) :
    Calls Tryd.prog 12 #[.agg cs.toArray] w fun e w' => e = .returned (.bool (configRight x)) ∧ Ext w w' := by
  obtain ⟨v1, v2, v3, rfl, hf, h1, h2, h3⟩ := h
  obtain ⟨A1, c1, rfl, -⟩ := h1.form
  obtain ⟨A2, c2, rfl, -⟩ := h2.form
  obtain ⟨A3, c3, rfl, -⟩ := h3.form
  have H1 := Lib.hid h1
  have H2 := Lib.hid h2
  have H3 := Lib.hid h3
  clear hf h1 h2 h3
  simp only [cellsConfig]
  go_enter Tryd.func12, Tryd.ntmps12
  go_upto_region 1 with (fail)
  obtain ⟨W, B, hW, hB, hx0, b0⟩ : ∃ W B, W = w.alloc (.cells #[.slice A1 x.nodes.length c1, .slice A2 x.pairs.length c2, .slice A3 x.quotas.length c3, .int .i64 x.half] 33) ∧ B = w.heap.size ∧ Ext w W ∧ Blk W B 33 #[.slice A1 x.nodes.length c1, .slice A2 x.pairs.length c2, .slice A3 x.quotas.length c3, .int .i64 x.half] := ⟨_, _, rfl, rfl, (Ext.refl _).alloc _, Blk.new _ _ _⟩
  rw [← hW, ← hB]
  have Q := Lib.hid b0
  have X := Lib.hid hx0
  clear hW hB hx0 b0
  have q0 := Q.out.cell 0
  have q1 := Q.out.cell 1
  have q2 := Q.out.cell 2
  have q3 := Q.out.cell 3
  simp only [List.getElem?_toArray, List.getElem?_cons_succ, List.getElem?_cons_zero] at q0 q1 q2 q3
  obtain ⟨t1, ht1⟩ : ∃ t, clearOk x.nodes = t := ⟨_, rfl⟩
  obtain ⟨t2, ht2⟩ : ∃ t, isB x.half 1 9 = t := ⟨_, rfl⟩
  obtain ⟨t3, ht3⟩ : ∃ t, pairsOk (labelsIn x.nodes) x.pairs = t := ⟨_, rfl⟩
  obtain ⟨t4, ht4⟩ : ∃ t, quotasOk (labelsIn x.nodes) x.quotas = t := ⟨_, rfl⟩
  have T1 := Lib.hid ht1
  have T2 := Lib.hid ht2
  have T3 := Lib.hid ht3
  have T4 := Lib.hid ht4
  have LR : Hid (∀ a ∈ labelsIn x.nodes, labelRight a = true) := Lib.hid fun a => labels_right
  clear ht1 ht2 ht3 ht4
  cases t1 with
  | false =>
    have HN : Hid (configRight x = false) := Lib.hid (by simp [configRight, T1.out])
    go_wp2_with (first | (go_at_call 25; (with_reducible refine (l05Clear_is (S := S) x.nodes _ _ (H1.out.ext X.out) _ T1.out).mono ?_); rintro e w7 ⟨rfl, hx7⟩; replace X := Lib.hid (X.out.trans hx7); replace Q := Lib.hid (Q.out.ext hx7); clear hx7 q0 q1 q2 q3; have q0 := Q.out.cell 0; have q1 := Q.out.cell 1; have q2 := Q.out.cell 2; have q3 := Q.out.cell 3; simp only [List.getElem?_toArray, List.getElem?_cons_succ, List.getElem?_cons_zero] at q0 q1 q2 q3) | (go_at_call 26; (with_reducible refine (l02Is_as _ _ _ _ _ T2.out).mono ?_); rintro e w8 ⟨rfl, rfl⟩))
    go_ret
    exact ⟨ret_bool HN.out.symm, X.out⟩
  | true =>
    cases t2 with
    | false =>
      have HN : Hid (configRight x = false) := Lib.hid (by simp [configRight, T1.out, T2.out])
      go_wp2_with (first | (go_at_call 25; (with_reducible refine (l05Clear_is (S := S) x.nodes _ _ (H1.out.ext X.out) _ T1.out).mono ?_); rintro e w7 ⟨rfl, hx7⟩; replace X := Lib.hid (X.out.trans hx7); replace Q := Lib.hid (Q.out.ext hx7); clear hx7 q0 q1 q2 q3; have q0 := Q.out.cell 0; have q1 := Q.out.cell 1; have q2 := Q.out.cell 2; have q3 := Q.out.cell 3; simp only [List.getElem?_toArray, List.getElem?_cons_succ, List.getElem?_cons_zero] at q0 q1 q2 q3) | (go_at_call 26; (with_reducible refine (l02Is_as _ _ _ _ _ T2.out).mono ?_); rintro e w8 ⟨rfl, rfl⟩))
      go_ret
      exact ⟨ret_bool HN.out.symm, X.out⟩
    | true =>
      by_cases h8 : (labelsIn x.nodes).length ≤ 8
      · have H8 := Lib.hid h8
        cases t3 with
        | false =>
          have HN : Hid (configRight x = false) := Lib.hid (by simp [configRight, T1.out, T2.out, T3.out])
          go_wp2_with (first | (go_at_call 25; (with_reducible refine (l05Clear_is (S := S) x.nodes _ _ (H1.out.ext X.out) _ T1.out).mono ?_); rintro e w7 ⟨rfl, hx7⟩; replace X := Lib.hid (X.out.trans hx7); replace Q := Lib.hid (Q.out.ext hx7); clear hx7 q0 q1 q2 q3; have q0 := Q.out.cell 0; have q1 := Q.out.cell 1; have q2 := Q.out.cell 2; have q3 := Q.out.cell 3; simp only [List.getElem?_toArray, List.getElem?_cons_succ, List.getElem?_cons_zero] at q0 q1 q2 q3) | (go_at_call 26; (with_reducible refine (l02Is_as _ _ _ _ _ T2.out).mono ?_); rintro e w8 ⟨rfl, rfl⟩) | (go_at_call 27; (with_reducible refine (l09Labels_any (S := S) x.nodes _ _ (H1.out.ext X.out)).mono ?_); rintro e w7 ⟨vL, FL, rfl, oL, -, hx7⟩; obtain ⟨AL, cL, rfl, -⟩ := oL.form; have OL := Lib.hid oL; clear oL; replace X := Lib.hid (X.out.trans hx7); replace Q := Lib.hid (Q.out.ext hx7); clear hx7 q0 q1 q2 q3; have q0 := Q.out.cell 0; have q1 := Q.out.cell 1; have q2 := Q.out.cell 2; have q3 := Q.out.cell 3; simp only [List.getElem?_toArray, List.getElem?_cons_succ, List.getElem?_cons_zero] at q0 q1 q2 q3) | (go_at_call 28; (with_reducible refine (l09Pairs_is (S := S) (S' := fun b => b ∈ FL) (labelsIn x.nodes) x.pairs _ _ _ OL.out.rd (H2.out.ext X.out) _ T3.out).mono ?_); rintro e w7 ⟨rfl, hx7⟩; replace OL := Lib.hid (OL.out.ext hx7); replace X := Lib.hid (X.out.trans hx7); replace Q := Lib.hid (Q.out.ext hx7); clear hx7 q0 q1 q2 q3; have q0 := Q.out.cell 0; have q1 := Q.out.cell 1; have q2 := Q.out.cell 2; have q3 := Q.out.cell 3; simp only [List.getElem?_toArray, List.getElem?_cons_succ, List.getElem?_cons_zero] at q0 q1 q2 q3) | (go_at_call 29; (with_reducible refine (l09Quotas_is (S := S) (S' := fun b => b ∈ FL) (labelsIn x.nodes) x.quotas _ _ _ OL.out.rd (H3.out.ext X.out) LR.out _ T4.out).mono ?_); rintro e w7 ⟨rfl, hx7⟩; replace OL := Lib.hid (OL.out.ext hx7); replace X := Lib.hid (X.out.trans hx7); replace Q := Lib.hid (Q.out.ext hx7); clear hx7 q0 q1 q2 q3; have q0 := Q.out.cell 0; have q1 := Q.out.cell 1; have q2 := Q.out.cell 2; have q3 := Q.out.cell 3; simp only [List.getElem?_toArray, List.getElem?_cons_succ, List.getElem?_cons_zero] at q0 q1 q2 q3))
          go_ret
          exact ⟨ret_bool HN.out.symm, X.out⟩
        | true =>
          cases t4 with
          | false =>
            have HN : Hid (configRight x = false) := Lib.hid (by simp [configRight, T1.out, T2.out, T3.out, T4.out])
            go_wp2_with (first | (go_at_call 25; (with_reducible refine (l05Clear_is (S := S) x.nodes _ _ (H1.out.ext X.out) _ T1.out).mono ?_); rintro e w7 ⟨rfl, hx7⟩; replace X := Lib.hid (X.out.trans hx7); replace Q := Lib.hid (Q.out.ext hx7); clear hx7 q0 q1 q2 q3; have q0 := Q.out.cell 0; have q1 := Q.out.cell 1; have q2 := Q.out.cell 2; have q3 := Q.out.cell 3; simp only [List.getElem?_toArray, List.getElem?_cons_succ, List.getElem?_cons_zero] at q0 q1 q2 q3) | (go_at_call 26; (with_reducible refine (l02Is_as _ _ _ _ _ T2.out).mono ?_); rintro e w8 ⟨rfl, rfl⟩) | (go_at_call 27; (with_reducible refine (l09Labels_any (S := S) x.nodes _ _ (H1.out.ext X.out)).mono ?_); rintro e w7 ⟨vL, FL, rfl, oL, -, hx7⟩; obtain ⟨AL, cL, rfl, -⟩ := oL.form; have OL := Lib.hid oL; clear oL; replace X := Lib.hid (X.out.trans hx7); replace Q := Lib.hid (Q.out.ext hx7); clear hx7 q0 q1 q2 q3; have q0 := Q.out.cell 0; have q1 := Q.out.cell 1; have q2 := Q.out.cell 2; have q3 := Q.out.cell 3; simp only [List.getElem?_toArray, List.getElem?_cons_succ, List.getElem?_cons_zero] at q0 q1 q2 q3) | (go_at_call 28; (with_reducible refine (l09Pairs_is (S := S) (S' := fun b => b ∈ FL) (labelsIn x.nodes) x.pairs _ _ _ OL.out.rd (H2.out.ext X.out) _ T3.out).mono ?_); rintro e w7 ⟨rfl, hx7⟩; replace OL := Lib.hid (OL.out.ext hx7); replace X := Lib.hid (X.out.trans hx7); replace Q := Lib.hid (Q.out.ext hx7); clear hx7 q0 q1 q2 q3; have q0 := Q.out.cell 0; have q1 := Q.out.cell 1; have q2 := Q.out.cell 2; have q3 := Q.out.cell 3; simp only [List.getElem?_toArray, List.getElem?_cons_succ, List.getElem?_cons_zero] at q0 q1 q2 q3) | (go_at_call 29; (with_reducible refine (l09Quotas_is (S := S) (S' := fun b => b ∈ FL) (labelsIn x.nodes) x.quotas _ _ _ OL.out.rd (H3.out.ext X.out) LR.out _ T4.out).mono ?_); rintro e w7 ⟨rfl, hx7⟩; replace OL := Lib.hid (OL.out.ext hx7); replace X := Lib.hid (X.out.trans hx7); replace Q := Lib.hid (Q.out.ext hx7); clear hx7 q0 q1 q2 q3; have q0 := Q.out.cell 0; have q1 := Q.out.cell 1; have q2 := Q.out.cell 2; have q3 := Q.out.cell 3; simp only [List.getElem?_toArray, List.getElem?_cons_succ, List.getElem?_cons_zero] at q0 q1 q2 q3))
            go_ret
            exact ⟨ret_bool HN.out.symm, X.out⟩
          | true =>
            have HN : Hid (configRight x = true) := Lib.hid (by simp [configRight, T1.out, T2.out, T3.out, T4.out, H8.out])
            go_wp2_with (first | (go_at_call 25; (with_reducible refine (l05Clear_is (S := S) x.nodes _ _ (H1.out.ext X.out) _ T1.out).mono ?_); rintro e w7 ⟨rfl, hx7⟩; replace X := Lib.hid (X.out.trans hx7); replace Q := Lib.hid (Q.out.ext hx7); clear hx7 q0 q1 q2 q3; have q0 := Q.out.cell 0; have q1 := Q.out.cell 1; have q2 := Q.out.cell 2; have q3 := Q.out.cell 3; simp only [List.getElem?_toArray, List.getElem?_cons_succ, List.getElem?_cons_zero] at q0 q1 q2 q3) | (go_at_call 26; (with_reducible refine (l02Is_as _ _ _ _ _ T2.out).mono ?_); rintro e w8 ⟨rfl, rfl⟩) | (go_at_call 27; (with_reducible refine (l09Labels_any (S := S) x.nodes _ _ (H1.out.ext X.out)).mono ?_); rintro e w7 ⟨vL, FL, rfl, oL, -, hx7⟩; obtain ⟨AL, cL, rfl, -⟩ := oL.form; have OL := Lib.hid oL; clear oL; replace X := Lib.hid (X.out.trans hx7); replace Q := Lib.hid (Q.out.ext hx7); clear hx7 q0 q1 q2 q3; have q0 := Q.out.cell 0; have q1 := Q.out.cell 1; have q2 := Q.out.cell 2; have q3 := Q.out.cell 3; simp only [List.getElem?_toArray, List.getElem?_cons_succ, List.getElem?_cons_zero] at q0 q1 q2 q3) | (go_at_call 28; (with_reducible refine (l09Pairs_is (S := S) (S' := fun b => b ∈ FL) (labelsIn x.nodes) x.pairs _ _ _ OL.out.rd (H2.out.ext X.out) _ T3.out).mono ?_); rintro e w7 ⟨rfl, hx7⟩; replace OL := Lib.hid (OL.out.ext hx7); replace X := Lib.hid (X.out.trans hx7); replace Q := Lib.hid (Q.out.ext hx7); clear hx7 q0 q1 q2 q3; have q0 := Q.out.cell 0; have q1 := Q.out.cell 1; have q2 := Q.out.cell 2; have q3 := Q.out.cell 3; simp only [List.getElem?_toArray, List.getElem?_cons_succ, List.getElem?_cons_zero] at q0 q1 q2 q3) | (go_at_call 29; (with_reducible refine (l09Quotas_is (S := S) (S' := fun b => b ∈ FL) (labelsIn x.nodes) x.quotas _ _ _ OL.out.rd (H3.out.ext X.out) LR.out _ T4.out).mono ?_); rintro e w7 ⟨rfl, hx7⟩; replace OL := Lib.hid (OL.out.ext hx7); replace X := Lib.hid (X.out.trans hx7); replace Q := Lib.hid (Q.out.ext hx7); clear hx7 q0 q1 q2 q3; have q0 := Q.out.cell 0; have q1 := Q.out.cell 1; have q2 := Q.out.cell 2; have q3 := Q.out.cell 3; simp only [List.getElem?_toArray, List.getElem?_cons_succ, List.getElem?_cons_zero] at q0 q1 q2 q3))
            go_ret
            exact ⟨ret_bool HN.out.symm, X.out⟩
      · have H8 := Lib.hid h8
        have HN : Hid (configRight x = false) := Lib.hid (by simp [configRight, T1.out, T2.out, H8.out])
        go_wp2_with (first | (go_at_call 25; (with_reducible refine (l05Clear_is (S := S) x.nodes _ _ (H1.out.ext X.out) _ T1.out).mono ?_); rintro e w7 ⟨rfl, hx7⟩; replace X := Lib.hid (X.out.trans hx7); replace Q := Lib.hid (Q.out.ext hx7); clear hx7 q0 q1 q2 q3; have q0 := Q.out.cell 0; have q1 := Q.out.cell 1; have q2 := Q.out.cell 2; have q3 := Q.out.cell 3; simp only [List.getElem?_toArray, List.getElem?_cons_succ, List.getElem?_cons_zero] at q0 q1 q2 q3) | (go_at_call 26; (with_reducible refine (l02Is_as _ _ _ _ _ T2.out).mono ?_); rintro e w8 ⟨rfl, rfl⟩) | (go_at_call 27; (with_reducible refine (l09Labels_any (S := S) x.nodes _ _ (H1.out.ext X.out)).mono ?_); rintro e w7 ⟨vL, FL, rfl, oL, -, hx7⟩; obtain ⟨AL, cL, rfl, -⟩ := oL.form; have OL := Lib.hid oL; clear oL; replace X := Lib.hid (X.out.trans hx7); replace Q := Lib.hid (Q.out.ext hx7); clear hx7 q0 q1 q2 q3; have q0 := Q.out.cell 0; have q1 := Q.out.cell 1; have q2 := Q.out.cell 2; have q3 := Q.out.cell 3; simp only [List.getElem?_toArray, List.getElem?_cons_succ, List.getElem?_cons_zero] at q0 q1 q2 q3))
        go_ret
        exact ⟨ret_bool HN.out.symm, X.out⟩

theorem specConfigRight_is {S : Nat → Prop} (x : Config) (cs : List Value) (w : World) (h : EConfig.rel S w cs x) (r : Bool) (hr : configRight x = r) :
    Calls Tryd.prog 12 #[.agg cs.toArray] w fun e w' => e = .returned (.bool r) ∧ Ext w w' := by
  subst hr
  exact specConfigRight_any x cs w h

end Go.Proofs.YtjiipmkehdiiiaaDoor


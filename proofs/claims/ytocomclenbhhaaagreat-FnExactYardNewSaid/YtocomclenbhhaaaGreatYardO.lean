/- A configuration's copy, with memory of its own: the reference's. -/
import Derived.Test.YtocomclenbhhaaaGreatYardN
import Derived.Deep.RegionLaw
namespace Go.Proofs.YtocomclenbhhaaaGreat
open Go.RowKit
attribute [local irreducible] wpQuiet

set_option maxHeartbeats 8000000 in
set_option maxRecDepth 100000 in
theorem l13CopyConfig_own {S : Nat → Prop} (x : Config) (cs : List Value) (w : World) (h : EConfig.rel S w cs x) (hs : FewC x) :
    Calls Tryz.prog 28 #[.agg cs.toArray] w (RetOS OConfig x w) := by
  obtain ⟨v1, v2, v3, rfl, hf, h1, h2, h3⟩ := h
  obtain ⟨A1, c1, rfl, l1, m1, hk⟩ := h1.open_
  unfold maxLen at m1
  obtain ⟨A2, c2, rfl, -⟩ := h2.form
  obtain ⟨A3, c3, rfl, -⟩ := h3.form
  have HF := Lib.hid hf
  have H2 := Lib.hid h2
  have H3 := Lib.hid h3
  have HK := Lib.hid hk
  obtain ⟨s1, s2, s3, s4⟩ := hs
  have S1 := Lib.hid s1
  have S2 := Lib.hid s2
  have S3 := Lib.hid s3
  have S4 := Lib.hid s4
  clear hf h1 h2 h3 hk s1 s2 s3 s4
  simp only [cellsConfig]
  go_enter Tryz.func28, Tryz.ntmps28
  go_upto_region 2 with (fail)
  obtain ⟨W, B, hW, hB, hx0, a0, r0, o0⟩ := boxes3 w #[.slice A1 x.nodes.length c1, .slice A2 x.pairs.length c2, .slice A3 x.quotas.length c3, .int .i64 x.half] #[.slice none 0 0, .slice none 0 0, .slice none 0 0, .int .i64 0] #[.slice none 0 0, .slice none 0 0, .slice none 0 0, .int .i64 x.half] 32 32 32
  rw [← hW, ← hB]
  have HB : Hid (w.heap.size = B) := Lib.hid hB.symm
  have QA := Lib.hid a0
  have QR := Lib.hid r0
  have QO := Lib.hid o0
  have X := Lib.hid hx0
  clear hW hB hx0 a0 r0 o0
  go_wp2_with fail
  go_loopw [4] (fun i w' => ∃ (k : Nat) (v : Value) (F : List Nat), k ≤ x.nodes.length ∧ i = .int .i64 k ∧ Blk w' (B + 1 + 1) 32 #[v, .slice none 0 0, .slice none 0 0, .int .i64 x.half] ∧ OwS (ORow OLabel 60) 92 w' v (x.nodes.take k) F ∧ (∀ b ∈ F, W.heap.size ≤ b) ∧ Kept [B + 1 + 1] W w') (fun i _ => x.nodes.length - (intOf i).toNat)
  case atStart => exact ⟨0, .slice none 0 0, [], by omega, rfl, QO.out, OwS.nil _, fun b hb => (by cases hb), Kept.refl _ _⟩
  case round =>
    obtain ⟨k, v, F, hk1, rfl, hb3, hown, hF, hkp⟩ := hrel
    have hlen : (x.nodes.take k).length = k := by rw [List.length_take]; omega
    have HL9 : Hid ((x.nodes.take k ++ [nth x.nodes k]).length = k + 1) := Lib.hid (by rw [List.length_append, hlen]; rfl)
    obtain ⟨AV, cV, hv, -⟩ := hown.form
    rw [hlen] at hv
    subst hv
    have HLN := Lib.hid hlen
    clear hlen
    have HO := Lib.hid hown
    have HF' := Lib.hid hF
    have LF := Lib.hid hown.lt
    have QO' := Lib.hid hb3
    have HKp := Lib.hid hkp
    have hne : B ∉ [B + 1 + 1] := by simp; omega
    have QA' : Hid (Blk wr B 32 #[.slice A1 x.nodes.length c1, .slice A2 x.pairs.length c2, .slice A3 x.quotas.length c3, .int .i64 x.half]) := Lib.hid ((hkp.block B QA.out.lt hne).trans QA.out)
    have hB0 : ∀ b, b ∈ [B + 1 + 1] → w.heap.size ≤ b := fun b hb => by rw [List.mem_singleton.1 hb]; have := HB.out; omega
    have XR := Lib.hid (Kept.ext X.out hkp hB0)
    have BF : Hid (B ∉ F) := Lib.hid (fun hb => by have := HF'.out B hb; have := QA.out.lt; omega)
    have OF : Hid (B + 1 + 1 ∉ F) := Lib.hid (fun hb => by have := HF'.out _ hb; have := QO.out.lt; omega)
    clear hown hF hb3 hkp hne hB0
    by_cases hlt : k < x.nodes.length
    · obtain ⟨b, q, cs, rfl, _, ⟨vr, rfl, hr⟩, hc⟩ := HK.out k hlt
      have z0 := Ext.some XR.out (hc 0 _ rfl)
      have hbw : b < w.heap.size := World.block_lt_of_cell? w _ (hc 0 _ rfl)
      simp only [ERow, Nat.mul_one, Nat.add_zero] at z0
      obtain ⟨A9, c9, rfl, -⟩ := hr.form
      have HRD := Lib.hid (hr.ext XR.out)
      have HN := Lib.hid (S2.out k hlt)
      have HT := Lib.hid (take_succ_nth hlt)
      have hbF : b ∉ F ++ [B + 1 + 1] := fun hb => by
        rcases List.mem_append.1 hb with h | h
        · have := HF'.out b h; have := X.out.size; omega
        · have := List.mem_singleton.1 h; have := HB.out; omega
      have hBF : B ∉ F ++ [B + 1 + 1] := fun hb => by
        rcases List.mem_append.1 hb with h | h
        · exact BF.out h
        · have := List.mem_singleton.1 h; omega
      have qa := QA'.out.cell 0
      simp only [List.getElem?_toArray, List.getElem?_cons_zero] at qa
      clear hc hr hbw hbF hBF
      go_wp2_with fail
      have e0 : wr.cell? ⟨B + 1 + 1, 0, none⟩ = some (.slice AV k cV) := QO'.out.cell 0
      have e2 := fun ob : Obj => Ext.some ((Ext.refl wr).alloc ob) e0
      have qa2 := fun ob : Obj => Ext.some ((Ext.refl wr).alloc ob) qa
      have zz2 := fun ob : Obj => Ext.some ((Ext.refl wr).alloc ob) z0
      go_region_law (first
        | (refine step_append_flat (E := ELabel) (T := 60) (hfl := fun h => h) (l := []) (ys := nth x.nodes k) (F := []) (S := S) (by rfl) _ _ 92 (by rfl) (.agg #[.int .i64 0, .int .i64 0]) 2 16 Tryz.underlying92 (by kernel_rfl) rfl rfl (by rfl) (OwS.nil _) (by rfl) (HRD.out.ext (by repeat (first | with_reducible exact (Ext.refl wr) | refine Ext.drew ?_ | refine Ext.alloc ?_ _))) (by have := HN.out; simp only [List.length_nil, maxLen]; omega) (by have := HN.out; simp only [List.length_nil]; omega) ?_; intro u1 w1 G1 q1 hkp1 hf1; have hx1 := hkp1.ext (Ext.refl _) (fun b hb => absurd hb (by simp)); simp only [List.nil_append] at q1; obtain ⟨p1, k1, rfl, -⟩ := OwS.form q1; have X1 : Hid (Ext wr w1) := Lib.hid (Ext.trans (by repeat (first | with_reducible exact (Ext.refl wr) | refine Ext.drew ?_ | refine Ext.alloc ?_ _)) hx1); have Q1 : Hid (OwS OLabel 60 w1 _ (nth x.nodes k) G1) := Lib.hid q1; have Z1 : Hid (∀ b ∈ G1, wr.heap.size ≤ b) := Lib.hid (fun b hb => Or.elim (hf1 b hb) (fun h => absurd h (by simp)) (fun h => Nat.le_trans (Ext.size (by repeat (first | with_reducible exact (Ext.refl wr) | refine Ext.drew ?_ | refine Ext.alloc ?_ _))) h)); have ND : Hid ((F ++ G1).Nodup) := Lib.hid (nodup_two HO.out.nodup (OwS.nodup q1) (fun b h1 h2 => absurd (LF.out b h1) (Nat.not_lt.2 (Z1.out b h2)))); have e3 : w1.cell? ⟨B + 1 + 1, 0, none⟩ = some (.slice AV k cV) := (QO'.out.ext X1.out).cell 0; have e4 := fun ob : Obj => Ext.some ((Ext.refl w1).alloc ob) e3; clear q1 hkp1 hf1 hx1)
        | (refine step_append_one (O := ORow OLabel 60) (T := 92) (l := x.nodes.take k) (F := F) (G := G1) (y := nth x.nodes k) (cs := [.slice p1 (nth x.nodes k).length k1]) (by rfl) _ _ 28 (by rfl) (.slice none 0 0) 1 24 Tryz.underlying28 (by kernel_rfl) rfl rfl (by rfl) (HO.out.ext (by repeat (first | with_reducible exact X1.out | refine Ext.drew ?_ | refine Ext.alloc ?_ _))) _ 0 1 (by rfl) ⟨.slice p1 (nth x.nodes k).length k1, rfl, Q1.out.ext (by repeat (first | with_reducible exact (Ext.refl w1) | refine Ext.drew ?_ | refine Ext.alloc ?_ _))⟩ (Blk.new _ _ _).range ND.out (by rw [HLN.out]; have := S1.out; omega) (by decide) ?_; intro v' w9 F' how hkp hF'; obtain ⟨p9, k9, hv9, -⟩ := OwS.form how; rw [HL9.out] at hv9; subst hv9; have HOW := Lib.hid how; have HKP := Lib.hid hkp; have HFF := Lib.hid hF'; have R9 : Hid (Blk w9 (B + 1 + 1) 32 #[.slice AV k cV, .slice none 0 0, .slice none 0 0, .int .i64 x.half]) := Lib.hid ((hkp.block (B + 1 + 1) (Blk.ext QO'.out (X1.out.alloc _)).lt OF.out).trans (Blk.ext QO'.out (X1.out.alloc _))); have rc := R9.out.cell 0; have rf := R9.out.frozen 0; clear how hkp hF'))
      all_goals
        clear e0 e2 qa qa2 z0 zz2
        go_wp2_with fail
        go_roundw
        case measure => simp [intOf]; omega
        case rel =>
          have hge : ∀ b ∈ F', W.heap.size ≤ b := fun b hb => match HFF.out b hb with | .inl h => HF'.out b h | .inr (.inl h) => Nat.le_trans HKp.out.size (Z1.out b h) | .inr (.inr h) => Nat.le_trans (Nat.le_trans HKp.out.size X1.out.size) (Nat.le_trans ((Ext.refl w1).alloc _).size h)
          refine ⟨k + 1, .slice p9 (k + 1) k9, F', by omega, by go_num, ?_, ?_, hge, ?_⟩
          · have h := R9.out.set_ 0 (.slice p9 (k + 1) k9)
            simpa using h
          · rw [HT.out]
            exact HOW.out.kept (G := [B + 1 + 1]) (Kept.setCell (Kept.refl _ _) (by simp) _) (fun b hb hm => by have := hge b hb; have := QO.out.lt; have := List.mem_singleton.1 hm; omega)
          · refine Kept.sub (F := F ++ [B + 1 + 1]) (((HKp.out.sub (G := F ++ [B + 1 + 1]) (fun b _ hm => List.mem_append_right _ hm)).trans (Kept.of_ext (X1.out.alloc _))).trans (HKP.out.sub (G := F ++ [B + 1 + 1]) (fun b _ hm => List.mem_append_left _ hm)) |>.setCell (by simp) _) (fun b hb hm => ?_)
            rcases List.mem_append.1 hm with h | h
            · have := HF'.out b h; omega
            · exact h
    · obtain rfl : k = x.nodes.length := by omega
      have HOE : Hid (OwS (ORow OLabel 60) 92 wr (.slice AV x.nodes.length cV) x.nodes F) := Lib.hid (by have h := HO.out; rwa [List.take_length] at h)
      have qa1 : wr.cell? ⟨B, 1, none⟩ = some (.slice A2 x.pairs.length c2) := QA'.out.cell 1
      have qa0 : wr.cell? ⟨B, 0, none⟩ = some (.slice A1 x.nodes.length c1) := QA'.out.cell 0
      have e1 : wr.cell? ⟨B + 1 + 1, 1, none⟩ = some (.slice none 0 0) := QO'.out.cell 1
      have HKR := Lib.hid (HKp.out)
      go_upto_region 7 with (at_builtin; go_loud (refine wpList_append_flat (E := EPair) (T := 130) (hfl := fun h => h) (l := []) (ys := x.pairs) (F := []) (S := S) rfl _ _ 29 rfl (.agg #[.int .i64 0, .int .i64 0, .int .i64 0, .int .i64 0, .int .i64 0]) 5 40 Tryz.underlying29 (by kernel_rfl) rfl rfl rfl (OwS.nil _) rfl (H2.out.ext XR.out) (by have := S3.out; simp only [List.length_nil, maxLen]; omega) (by have := S3.out; simp only [List.length_nil]; omega) ?_; intro u2 w2 G2 q2 hkp2 hf2; have hx2 := hkp2.ext (Ext.refl _) (fun b hb => absurd hb (by simp)); simp only [List.nil_append] at q2; obtain ⟨p2, k2, rfl, -⟩ := OwS.form q2; have X2 := Lib.hid hx2; have Q2 : Hid (OwS OPair 130 w2 _ x.pairs G2) := Lib.hid q2; have Z2 : Hid (∀ b ∈ G2, wr.heap.size ≤ b) := Lib.hid (fun b hb => Or.elim (hf2 b hb) (fun h => absurd h (by simp)) (fun h => h)); have R2 := Lib.hid (QO'.out.ext hx2); clear q2 hkp2 hf2 hx2 qa0 qa1 e1; have rc := R2.out.cell 1; have rf := R2.out.frozen 1))
      clear rc rf
      obtain ⟨W2, hW2, r2, k2w⟩ : ∃ V, V = w2.setCell ⟨B + 1 + 1, 1, none⟩ (.slice p2 x.pairs.length k2) ∧ Blk V (B + 1 + 1) 32 #[.slice AV x.nodes.length cV, .slice p2 x.pairs.length k2, .slice none 0 0, .int .i64 x.half] ∧ Kept [B + 1 + 1] w2 V := ⟨_, rfl, by simpa using R2.out.set_ 1 (.slice p2 x.pairs.length k2), (Kept.refl _ _).setCell (by simp) _⟩
      rw [← hW2]
      have RW2 := Lib.hid r2
      have KW2 : Hid (Kept [B + 1 + 1] wr W2) := Lib.hid ((Kept.of_ext X2.out).trans k2w)
      have K22 := Lib.hid k2w
      have QA2 : Hid (Blk W2 B 32 _) := Lib.hid ((KW2.out.block B QA'.out.lt (by simp; omega)).trans QA'.out)
      have hB0 : ∀ b, b ∈ [B + 1 + 1] → w.heap.size ≤ b := fun b hb => by rw [List.mem_singleton.1 hb]; have := HB.out; omega
      have XW2 := Lib.hid (Kept.ext XR.out KW2.out hB0)
      clear hW2 r2 k2w
      have qa2 : W2.cell? ⟨B, 2, none⟩ = some (.slice A3 x.quotas.length c3) := QA2.out.cell 2
      have e2 : W2.cell? ⟨B + 1 + 1, 2, none⟩ = some (.slice none 0 0) := RW2.out.cell 2
      go_upto_region 8 with (at_builtin; go_loud (refine wpList_append_flat (E := EQuota) (T := 135) (hfl := fun h => h) (l := []) (ys := x.quotas) (F := []) (S := S) rfl _ _ 30 rfl (.agg #[.int .i64 0, .int .i64 0, .int .i64 0]) 3 24 Tryz.underlying30 (by kernel_rfl) rfl rfl rfl (OwS.nil _) rfl (H3.out.ext XW2.out) (by have := S4.out; simp only [List.length_nil, maxLen]; omega) (by have := S4.out; simp only [List.length_nil]; omega) ?_; intro u3 w3 G3 q3 hkp3 hf3; have hx3 := hkp3.ext (Ext.refl _) (fun b hb => absurd hb (by simp)); simp only [List.nil_append] at q3; obtain ⟨p3, k3, rfl, -⟩ := OwS.form q3; have X3 := Lib.hid hx3; have Q3 : Hid (OwS OQuota 135 w3 _ x.quotas G3) := Lib.hid q3; have Z3 : Hid (∀ b ∈ G3, W2.heap.size ≤ b) := Lib.hid (fun b hb => Or.elim (hf3 b hb) (fun h => absurd h (by simp)) (fun h => h)); have R3 := Lib.hid (RW2.out.ext hx3); clear q3 hkp3 hf3 hx3 qa2 e2; have rc := R3.out.cell 2; have rf := R3.out.frozen 2))
      clear rc rf
      obtain ⟨W3, hW3, r3, k3w⟩ : ∃ V, V = w3.setCell ⟨B + 1 + 1, 2, none⟩ (.slice p3 x.quotas.length k3) ∧ Blk V (B + 1 + 1) 32 #[.slice AV x.nodes.length cV, .slice p2 x.pairs.length k2, .slice p3 x.quotas.length k3, .int .i64 x.half] ∧ Kept [B + 1 + 1] w3 V := ⟨_, rfl, by simpa using R3.out.set_ 2 (.slice p3 x.quotas.length k3), (Kept.refl _ _).setCell (by simp) _⟩
      rw [← hW3]
      have RW3 := Lib.hid r3
      have K33 := Lib.hid k3w
      have KW3 : Hid (Kept [B + 1 + 1] W W3) := Lib.hid (HKp.out.trans (KW2.out.trans ((Kept.of_ext X3.out).trans k3w)))
      have RR3 : Hid (Blk W3 (B + 1) 32 _) := Lib.hid ((KW3.out.block (B + 1) QR.out.lt (by simp)).trans QR.out)
      clear hW3 r3 k3w
      have rc := RW3.out.cell
      go_wp2_with (refine wpList_store_mid rfl 32 _ _ rfl (B + 1) 0 #[.slice AV x.nodes.length cV, .slice p2 x.pairs.length k2, .slice p3 x.quotas.length k3, .int .i64 x.half] rfl rfl (Blk.there (t := 32) (cs := #[.slice none 0 0, .slice none 0 0, .slice none 0 0, .int .i64 0]) RR3.out) (by kernel_rfl) (all_oneCell_toArray (cs := [.slice AV x.nodes.length cV, .slice p2 x.pairs.length k2, .slice p3 x.quotas.length k3, .int .i64 x.half]) (by simp [Value.oneCell'])) ?_)
      have hF1 : ∀ b ∈ F, b < wr.heap.size := LF.out
      have sz2 := KW2.out.size
      have szW := HKp.out.size
      have szo := QO.out.lt
      exact bodyPost_ret (v := .agg #[.slice AV x.nodes.length cV, .slice p2 x.pairs.length k2, .slice p3 x.quotas.length k3, .int .i64 x.half]) (results_blk Tryz.results28 rfl (Blk.setAll (t := 32) (cs := #[.slice none 0 0, .slice none 0 0, .slice none 0 0, .int .i64 0]) (vs := #[.slice AV x.nodes.length cV, .slice p2 x.pairs.length k2, .slice p3 x.quotas.length k3, .int .i64 x.half]) RR3.out rfl) Tryz.underlying32 rfl (by kernel_rfl)) rfl
        ⟨_, F ++ (G2 ++ G3), rfl, ⟨_, _, _, F, G2, G3, rfl, HF.out,
          (HOE.out.kept (G := [B + 1 + 1]) (KW2.out.trans ((Kept.of_ext X3.out).trans K33.out)) (fun b hb hm => OF.out (by rw [List.mem_singleton.1 hm] at hb; exact hb))).kept (G := [B + 1]) (Kept.setCells (by simp) _ _ _ (Kept.refl _ _)) (fun b hb hm => by have := HF'.out b hb; have := List.mem_singleton.1 hm; omega),
          (Q2.out.kept (G := [B + 1 + 1]) (K22.out.trans ((Kept.of_ext X3.out).trans K33.out)) (fun b hb hm => by have := Z2.out b hb; have := List.mem_singleton.1 hm; omega)).kept (G := [B + 1]) (Kept.setCells (by simp) _ _ _ (Kept.refl _ _)) (fun b hb hm => by have := Z2.out b hb; have := List.mem_singleton.1 hm; omega),
          (Q3.out.kept (G := [B + 1 + 1]) K33.out (fun b hb hm => by have := Z3.out b hb; have := List.mem_singleton.1 hm; omega)).kept (G := [B + 1]) (Kept.setCells (by simp) _ _ _ (Kept.refl _ _)) (fun b hb hm => by have := Z3.out b hb; have := List.mem_singleton.1 hm; omega),
          rfl, nodup3 HOE.out.nodup Q2.out.nodup Q3.out.nodup hF1 Z2.out (fun b hb => Nat.lt_of_lt_of_le (Q2.out.lt b hb) K22.out.size) Z3.out sz2⟩,
          fun b hb => (by
            simp only [List.mem_append] at hb
            have h1 := X.out.size
            rcases hb with hb | hb | hb
            · exact Nat.le_trans h1 (HF'.out b hb)
            · have := Z2.out b hb; omega
            · have := Z3.out b hb; omega),
          setCells_ext (by have := HB.out; omega) _ _ _ (Kept.ext X.out KW3.out hB0)⟩
end Go.Proofs.YtocomclenbhhaaaGreat

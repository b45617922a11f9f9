/- What a new yard is, in plain Lean; the walks of YardNew, the program's and the reference's. Printed by wip/yardn.py. -/
import Derived.Test.YtocomclenbhhaaaGreatYardO
import Derived.Test.YtocomclenbhhaaaGreatConfW
import Derived.Test.YtocomclenbhhaaaGreatNodeNew
namespace Go.Proofs.YtocomclenbhhaaaGreat
open Go.RowKit
attribute [local irreducible] wpQuiet

def zeroConfig : Config := ⟨[], [], [], 0⟩
def zeroYard : Yard := ⟨zeroConfig, [], [], [], 0⟩
def yardNew (c : Config) : YardOut := if configRight c = true then ⟨⟨c, nodesNew (c.nodes.length : Int), [], [], 0⟩, 0, 0⟩ else ⟨zeroYard, 0, 1⟩
theorem few_right {c : Config} (h : configRight c = true) : FewC c := by
  have hc := config_clear h
  have hn := clear_length hc
  have h' := h
  simp only [configRight, pairsOk, quotasOk, Bool.and_eq_true, decide_eq_true_eq] at h'
  refine ⟨by omega, fun k hk => ?_, by have := h'.2.1.2.1; omega, by have := h'.2.2.1; omega⟩
  have := (chain_length (clear_chain hc _ (nth_mem hk))).2
  omega
theorem own_zero (w : World) : OYardOut.own w [.slice none 0 0, .slice none 0 0, .slice none 0 0, .int .i64 0, .slice none 0 0, .slice none 0 0, .slice none 0 0, .int .i64 0, .int .i64 0, .int .i64 1] ⟨zeroYard, 0, 1⟩ [] :=
  ⟨_, _, _, _, _, _, [], [], [], [], [], [], rfl, ⟨by unfold I64; decide, by unfold I64; decide, by unfold I64; decide, by unfold I64; decide⟩, OwS.nil _, OwS.nil _, OwS.nil _, OwS.nil _, OwS.nil _, OwS.nil _, rfl, List.nodup_nil⟩
theorem nodup_four {F1 F2 F3 F4 : List Nat} {a : Nat} (h : (F1 ++ (F2 ++ F3)).Nodup) (h4 : F4.Nodup) (l : ∀ b ∈ F1 ++ (F2 ++ F3), b < a) (g : ∀ b ∈ F4, a ≤ b) : (F1 ++ (F2 ++ (F3 ++ (F4 ++ ([] ++ []))))).Nodup := by
  rw [show F1 ++ (F2 ++ (F3 ++ (F4 ++ ([] ++ [])))) = (F1 ++ (F2 ++ F3)) ++ F4 by simp]
  exact nodup_two h h4 fun b hb hm => by have := l b hb; have := g b hm; omega

set_option maxHeartbeats 4000000 in
theorem l13Ill_any (n : Int) (w : World) :
    Calls Tryz.prog 27 #[.int .i64 n] w fun e w' => e = .returned (.agg #[.slice none 0 0, .slice none 0 0, .slice none 0 0, .int .i64 0, .slice none 0 0, .slice none 0 0, .slice none 0 0, .int .i64 0, .int .i64 0, .int .i64 n]) ∧ Ext w w' := by
  go_enter Tryz.func27, Tryz.ntmps27
  go_upto_region 1 with (fail)
  obtain ⟨W, B, hW, hB, hx0, r0⟩ : ∃ W B, W = w.alloc (.cells #[.slice none 0 0, .slice none 0 0, .slice none 0 0, .int .i64 0, .slice none 0 0, .slice none 0 0, .slice none 0 0, .int .i64 0, .int .i64 0, .int .i64 0] 39) ∧ B = w.heap.size ∧ Ext w W ∧ Blk W B 39 #[.slice none 0 0, .slice none 0 0, .slice none 0 0, .int .i64 0, .slice none 0 0, .slice none 0 0, .slice none 0 0, .int .i64 0, .int .i64 0, .int .i64 0] := ⟨_, _, rfl, rfl, (Ext.refl w).alloc _, Blk.new _ _ _⟩
  rw [← hW, ← hB]
  have HB : Hid (w.heap.size ≤ B) := Lib.hid (by omega)
  have R := Lib.hid r0
  have X := Lib.hid hx0
  clear hW hB hx0 r0
  go_wp2_with (refine wpList_store_mid rfl 39 _ _ rfl B 0 #[.slice none 0 0, .slice none 0 0, .slice none 0 0, .int .i64 0, .slice none 0 0, .slice none 0 0, .slice none 0 0, .int .i64 0, .int .i64 0, .int .i64 n] rfl rfl (Blk.there (t := 39) (cs := #[.slice none 0 0, .slice none 0 0, .slice none 0 0, .int .i64 0, .slice none 0 0, .slice none 0 0, .slice none 0 0, .int .i64 0, .int .i64 0, .int .i64 0]) R.out) (by kernel_rfl) (all_oneCell_toArray (cs := [.slice none 0 0, .slice none 0 0, .slice none 0 0, .int .i64 0, .slice none 0 0, .slice none 0 0, .slice none 0 0, .int .i64 0, .int .i64 0, .int .i64 n]) (by simp [Value.oneCell'])) ?_)
  exact bodyPost_ret (v := .agg #[.slice none 0 0, .slice none 0 0, .slice none 0 0, .int .i64 0, .slice none 0 0, .slice none 0 0, .slice none 0 0, .int .i64 0, .int .i64 0, .int .i64 n]) (results_blk Tryz.results27 rfl (Blk.setAll (t := 39) (cs := #[.slice none 0 0, .slice none 0 0, .slice none 0 0, .int .i64 0, .slice none 0 0, .slice none 0 0, .slice none 0 0, .int .i64 0, .int .i64 0, .int .i64 0]) (vs := #[.slice none 0 0, .slice none 0 0, .slice none 0 0, .int .i64 0, .slice none 0 0, .slice none 0 0, .slice none 0 0, .int .i64 0, .int .i64 0, .int .i64 n]) R.out rfl) Tryz.underlying39 rfl (by kernel_rfl)) rfl ⟨rfl, setCells_ext HB.out _ _ _ X.out⟩

set_option maxHeartbeats 8000000 in
set_option maxRecDepth 100000 in
theorem yardNew_any {S : Nat → Prop} (c : Config) (cs : List Value) (w : World) (h : EConfig.rel S w cs c) :
    Calls Tryz.prog 9 #[.agg cs.toArray] w (RetOS OYardOut (yardNew c) w) := by
  obtain ⟨v1, v2, v3, rfl, hf, h1, h2, h3⟩ := h
  obtain ⟨A1, c1, rfl, -⟩ := h1.form
  obtain ⟨A2, c2, rfl, -⟩ := h2.form
  obtain ⟨A3, c3, rfl, -⟩ := h3.form
  have HF := Lib.hid hf
  have H1 := Lib.hid h1
  have H2 := Lib.hid h2
  have H3 := Lib.hid h3
  clear hf h1 h2 h3
  simp only [cellsConfig]
  obtain ⟨t, ht⟩ : ∃ t, configRight c = t := ⟨_, rfl⟩
  have T := Lib.hid ht
  clear ht
  go_enter Tryz.func9, Tryz.ntmps9
  go_upto_region 1 with (fail)
  obtain ⟨W, B, hW, hB, hx0, a0, r0⟩ := boxes2 w #[.slice A1 c.nodes.length c1, .slice A2 c.pairs.length c2, .slice A3 c.quotas.length c3, .int .i64 c.half] #[.slice none 0 0, .slice none 0 0, .slice none 0 0, .int .i64 0, .slice none 0 0, .slice none 0 0, .slice none 0 0, .int .i64 0, .int .i64 0, .int .i64 0] 32 39
  rw [← hW, ← hB]
  have HB : Hid (w.heap.size ≤ B + 1) := Lib.hid (by omega)
  have QA := Lib.hid a0
  have QR := Lib.hid r0
  have X := Lib.hid hx0
  clear hW hB hx0 a0 r0
  have qa := QA.out.cell
  cases t with
  | false =>
    have HE : Hid (yardNew c = ⟨zeroYard, 0, 1⟩) := Lib.hid (by rw [yardNew, T.out]; rfl)
    go_upto_region 2 with (go_at_call 33; (with_reducible refine (configRight_is (S := S) c [.slice A1 c.nodes.length c1, .slice A2 c.pairs.length c2, .slice A3 c.quotas.length c3, .int .i64 c.half] _ (rel_Config HF.out (H1.out.ext X.out) (H2.out.ext X.out) (H3.out.ext X.out)) _ T.out).mono ?_); rintro e w7 ⟨rfl, hx7⟩; have H7 := Lib.hid hx7; clear hx7 qa)
    have R7 := Lib.hid (QR.out.ext H7.out)
    have Y7 := Lib.hid (X.out.trans H7.out)
    go_wp2_with (refine wpList_store_mid rfl 39 _ _ rfl (B + 1) 0 #[.slice none 0 0, .slice none 0 0, .slice none 0 0, .int .i64 0, .slice none 0 0, .slice none 0 0, .slice none 0 0, .int .i64 0, .int .i64 0, .int .i64 1] rfl rfl (Blk.there (t := 39) (cs := #[.slice none 0 0, .slice none 0 0, .slice none 0 0, .int .i64 0, .slice none 0 0, .slice none 0 0, .slice none 0 0, .int .i64 0, .int .i64 0, .int .i64 0]) R7.out) (by kernel_rfl) (all_oneCell_toArray (cs := [.slice none 0 0, .slice none 0 0, .slice none 0 0, .int .i64 0, .slice none 0 0, .slice none 0 0, .slice none 0 0, .int .i64 0, .int .i64 0, .int .i64 1]) (by simp [Value.oneCell'])) ?_)
    exact bodyPost_ret (v := .agg #[.slice none 0 0, .slice none 0 0, .slice none 0 0, .int .i64 0, .slice none 0 0, .slice none 0 0, .slice none 0 0, .int .i64 0, .int .i64 0, .int .i64 1]) (results_blk Tryz.results9 rfl (Blk.setAll (t := 39) (cs := #[.slice none 0 0, .slice none 0 0, .slice none 0 0, .int .i64 0, .slice none 0 0, .slice none 0 0, .slice none 0 0, .int .i64 0, .int .i64 0, .int .i64 0]) (vs := #[.slice none 0 0, .slice none 0 0, .slice none 0 0, .int .i64 0, .slice none 0 0, .slice none 0 0, .slice none 0 0, .int .i64 0, .int .i64 0, .int .i64 1]) R7.out rfl) Tryz.underlying39 rfl (by kernel_rfl)) rfl ⟨_, [], rfl, by rw [HE.out]; exact own_zero _, fun b hb => absurd hb (by simp), setCells_ext HB.out _ _ _ Y7.out⟩
  | true =>
    have HE : Hid (yardNew c = ⟨⟨c, nodesNew (c.nodes.length : Int), [], [], 0⟩, 0, 0⟩) := Lib.hid (by rw [yardNew, if_pos T.out])
    have HFW := Lib.hid (few_right T.out)
    go_upto_region 3 with (go_at_call 33; (with_reducible refine (configRight_is (S := S) c [.slice A1 c.nodes.length c1, .slice A2 c.pairs.length c2, .slice A3 c.quotas.length c3, .int .i64 c.half] _ (rel_Config HF.out (H1.out.ext X.out) (H2.out.ext X.out) (H3.out.ext X.out)) _ T.out).mono ?_); rintro e w7 ⟨rfl, hx7⟩; have H7 := Lib.hid hx7; clear hx7 qa)
    replace QA := Lib.hid (QA.out.ext H7.out)
    replace QR := Lib.hid (QR.out.ext H7.out)
    replace X := Lib.hid (X.out.trans H7.out)
    have hne : B ∉ [B + 1] := by simp
    have al : ∀ V, Kept [B + 1] w7 V → ∀ i, V.cell? ⟨B, i, none⟩ = _ := fun V hV => Blk.cell (t := 32) (cs := #[.slice A1 c.nodes.length c1, .slice A2 c.pairs.length c2, .slice A3 c.quotas.length c3, .int .i64 c.half]) ((hV.block B QA.out.lt hne).trans QA.out)
    clear hne
    go_region_held3 (fun V => Kept [B + 1] w7 V) (with_reducible (first | exact Kept.refl _ _ | assumption | exact Kept.of_ext X8.out | exact Kept.of_ext X9.out | ((repeat (first | exact Kept.of_ext X9.out | refine Kept.setCell ?_ (by simp) _)); done) | exact Kept.of_ext (Ext.refl _).drew)) (first
      | (go_at_call 34; (with_reducible refine (copyConfig_own (S := S) c [.slice A1 c.nodes.length c1, .slice A2 c.pairs.length c2, .slice A3 c.quotas.length c3, .int .i64 c.half] _ (rel_Config HF.out (H1.out.ext (X.out.trans (by repeat (first | with_reducible exact Ext.refl _ | refine Ext.drew ?_)))) (H2.out.ext (X.out.trans (by repeat (first | with_reducible exact Ext.refl _ | refine Ext.drew ?_)))) (H3.out.ext (X.out.trans (by repeat (first | with_reducible exact Ext.refl _ | refine Ext.drew ?_))))) HFW.out).mono ?_); rintro e w8 ⟨cs8, G8, rfl, ⟨u1, u2, u3, G1, G2, G3, rfl, hf8, o1, o2, o3, hG, hn⟩, g8, hx8⟩; obtain ⟨p1, k1, rfl, -⟩ := OwS.form o1; obtain ⟨p2, k2, rfl, -⟩ := OwS.form o2; obtain ⟨p3, k3, rfl, -⟩ := OwS.form o3; have X8 : Hid (Ext w7 w8) := Lib.hid (Ext.trans (by repeat (first | with_reducible exact Ext.refl _ | refine Ext.drew ?_)) hx8); have O1 := Lib.hid o1; have O2 := Lib.hid o2; have O3 := Lib.hid o3; have HG := Lib.hid hG; have HN := Lib.hid hn; have Z8 : Hid (∀ b ∈ G8, w7.heap.size ≤ b) := Lib.hid (fun b hb => Nat.le_trans (Ext.size (by repeat (first | with_reducible exact Ext.refl _ | refine Ext.drew ?_))) (g8 b hb)); clear hf8 o1 o2 o3 hG hn g8 hx8; simp only [cellsConfig])
      | (go_at_call 35; (with_reducible refine (nodesNew_any _ _).mono ?_); rintro e w9 ⟨u4, G4, rfl, o4, g4, hx9⟩; obtain ⟨p4, k4, rfl, -⟩ := OwS.form o4; have X89 : Hid (Ext w8 w9) := Lib.hid hx9; have X9 : Hid (Ext w7 w9) := Lib.hid (X8.out.trans hx9); have O4 := Lib.hid o4; have Z9 : Hid (∀ b ∈ G4, w8.heap.size ≤ b) := Lib.hid g4; have R9 := Lib.hid (QR.out.ext X9.out); have rc0 := R9.out.cell 0; have rc1 := R9.out.cell 1; have rc2 := R9.out.cell 2; have rc3 := R9.out.cell 3; have rc4 := R9.out.cell 4; have rc5 := R9.out.cell 5; have rc6 := R9.out.cell 6; have rc7 := R9.out.cell 7; have rc8 := R9.out.cell 8; have rc9 := R9.out.cell 9; have rf := R9.out.frozen; clear o4 g4 hx9))
    all_goals
      clear al
      go_wp2_with fail
      have hl : ∀ b ∈ G1 ++ (G2 ++ G3), b < w8.heap.size := fun b hb => (by
        simp only [List.mem_append] at hb
        rcases hb with hb | hb | hb
        · exact O1.out.lt b hb
        · exact O2.out.lt b hb
        · exact O3.out.lt b hb)
      have hz : ∀ b ∈ G1 ++ (G2 ++ G3), w7.heap.size ≤ b := fun b hb => Z8.out b (by rw [HG.out]; exact hb)
      have hr := QR.out.lt
      have h8 := X8.out.size
      exact bodyPost_ret (v := .agg #[.slice p1 c.nodes.length k1, .slice p2 c.pairs.length k2, .slice p3 c.quotas.length k3, .int .i64 c.half, .slice p4 (nodesNew (c.nodes.length : Int)).length k4, .slice none 0 0, .slice none 0 0, .int .i64 0, .int .i64 0, .int .i64 0]) (results_blk Tryz.results9 rfl (show Blk _ (B + 1) 39 #[.slice p1 c.nodes.length k1, .slice p2 c.pairs.length k2, .slice p3 c.quotas.length k3, .int .i64 c.half, .slice p4 (nodesNew (c.nodes.length : Int)).length k4, .slice none 0 0, .slice none 0 0, .int .i64 0, .int .i64 0, .int .i64 0] from by simpa using ((((((((((R9.out.set_ 0 (.slice p1 c.nodes.length k1)).set_ 1 (.slice p2 c.pairs.length k2)).set_ 2 (.slice p3 c.quotas.length k3)).set_ 3 (.int .i64 c.half)).set_ 4 (.slice p4 (nodesNew (c.nodes.length : Int)).length k4)).set_ 5 (.slice none 0 0)).set_ 6 (.slice none 0 0)).set_ 7 (.int .i64 0)).set_ 8 (.int .i64 0)).set_ 9 (.int .i64 0))) Tryz.underlying39 rfl (by kernel_rfl)) rfl
        ⟨_, G1 ++ (G2 ++ (G3 ++ (G4 ++ ([] ++ [])))), rfl, by
          rw [HE.out]
          exact ⟨_, _, _, _, _, _, G1, G2, G3, G4, [], [], rfl, ⟨HF.out, show I64 0 by unfold I64; decide, show I64 0 by unfold I64; decide, show I64 0 by unfold I64; decide⟩,
            (O1.out.ext X89.out).kept (G := [B + 1]) (by repeat (first | with_reducible exact Kept.refl _ _ | refine Kept.setCell ?_ (by simp) _)) (fun b hb hm => by have := hz b (by simp [hb]); have := List.mem_singleton.1 hm; omega),
            (O2.out.ext X89.out).kept (G := [B + 1]) (by repeat (first | with_reducible exact Kept.refl _ _ | refine Kept.setCell ?_ (by simp) _)) (fun b hb hm => by have := hz b (by simp [hb]); have := List.mem_singleton.1 hm; omega),
            (O3.out.ext X89.out).kept (G := [B + 1]) (by repeat (first | with_reducible exact Kept.refl _ _ | refine Kept.setCell ?_ (by simp) _)) (fun b hb hm => by have := hz b (by simp [hb]); have := List.mem_singleton.1 hm; omega),
            O4.out.kept (G := [B + 1]) (by repeat (first | with_reducible exact Kept.refl _ _ | refine Kept.setCell ?_ (by simp) _)) (fun b hb hm => by have := Z9.out b hb; have := List.mem_singleton.1 hm; omega),
            OwS.nil _, OwS.nil _, rfl, nodup_four (by rw [← HG.out]; exact HN.out) O4.out.nodup hl Z9.out⟩,
          fun b hb => (by
            have h1 := X.out.size
            simp at hb
            rcases hb with hb | hb | hb | hb
            · exact Nat.le_trans h1 (hz b (by simp [hb]))
            · exact Nat.le_trans h1 (hz b (by simp [hb]))
            · exact Nat.le_trans h1 (hz b (by simp [hb]))
            · have := Z9.out b hb; omega),
          Kept.ext (X.out.trans X9.out) (F := [B + 1]) (by repeat (first | with_reducible exact Kept.refl _ _ | refine Kept.setCell ?_ (by simp) _)) (fun b hb => by rw [List.mem_singleton.1 hb]; exact HB.out)⟩

set_option maxHeartbeats 8000000 in
set_option maxRecDepth 100000 in
theorem specYardNew_any {S : Nat → Prop} (c : Config) (cs : List Value) (w : World) (h : EConfig.rel S w cs c) :
    Calls Tryz.prog 7 #[.agg cs.toArray] w (RetOS OYardOut (yardNew c) w) := by
  obtain ⟨v1, v2, v3, rfl, hf, h1, h2, h3⟩ := h
  obtain ⟨A1, c1, rfl, -⟩ := h1.form
  obtain ⟨A2, c2, rfl, -⟩ := h2.form
  obtain ⟨A3, c3, rfl, -⟩ := h3.form
  have HF := Lib.hid hf
  have H1 := Lib.hid h1
  have H2 := Lib.hid h2
  have H3 := Lib.hid h3
  clear hf h1 h2 h3
  simp only [cellsConfig]
  obtain ⟨t, ht⟩ : ∃ t, configRight c = t := ⟨_, rfl⟩
  have T := Lib.hid ht
  clear ht
  go_enter Tryz.func7, Tryz.ntmps7
  go_upto_region 1 with (fail)
  obtain ⟨W, B, hW, hB, hx0, a0, r0⟩ := boxes2 w #[.slice A1 c.nodes.length c1, .slice A2 c.pairs.length c2, .slice A3 c.quotas.length c3, .int .i64 c.half] #[.slice none 0 0, .slice none 0 0, .slice none 0 0, .int .i64 0, .slice none 0 0, .slice none 0 0, .slice none 0 0, .int .i64 0, .int .i64 0, .int .i64 0] 32 39
  rw [← hW, ← hB]
  have HB : Hid (w.heap.size ≤ B + 1) := Lib.hid (by omega)
  have QA := Lib.hid a0
  have QR := Lib.hid r0
  have X := Lib.hid hx0
  clear hW hB hx0 a0 r0
  have qa := QA.out.cell
  cases t with
  | false =>
    have HE : Hid (yardNew c = ⟨zeroYard, 0, 1⟩) := Lib.hid (by rw [yardNew, T.out]; rfl)
    go_upto_region 2 with (go_at_call 26; (with_reducible refine (specConfigRight_is (S := S) c [.slice A1 c.nodes.length c1, .slice A2 c.pairs.length c2, .slice A3 c.quotas.length c3, .int .i64 c.half] _ (rel_Config HF.out (H1.out.ext X.out) (H2.out.ext X.out) (H3.out.ext X.out)) _ T.out).mono ?_); rintro e w7 ⟨rfl, hx7⟩; have H7 := Lib.hid hx7; clear hx7 qa)
    have R7 := Lib.hid (QR.out.ext H7.out)
    have Y7 := Lib.hid (X.out.trans H7.out)
    go_wp2_with (first
      | (go_at_call 27; (with_reducible refine (l13Ill_any _ _).mono ?_); rintro e w8 ⟨rfl, hx8⟩; have H8 := Lib.hid hx8; clear hx8)
      | (refine wpList_store_mid rfl 39 _ _ rfl (B + 1) 0 #[.slice none 0 0, .slice none 0 0, .slice none 0 0, .int .i64 0, .slice none 0 0, .slice none 0 0, .slice none 0 0, .int .i64 0, .int .i64 0, .int .i64 1] rfl rfl (Blk.there (t := 39) (cs := #[.slice none 0 0, .slice none 0 0, .slice none 0 0, .int .i64 0, .slice none 0 0, .slice none 0 0, .slice none 0 0, .int .i64 0, .int .i64 0, .int .i64 0]) (R7.out.ext H8.out)) (by kernel_rfl) (all_oneCell_toArray (cs := [.slice none 0 0, .slice none 0 0, .slice none 0 0, .int .i64 0, .slice none 0 0, .slice none 0 0, .slice none 0 0, .int .i64 0, .int .i64 0, .int .i64 1]) (by simp [Value.oneCell'])) ?_))
    exact bodyPost_ret (v := .agg #[.slice none 0 0, .slice none 0 0, .slice none 0 0, .int .i64 0, .slice none 0 0, .slice none 0 0, .slice none 0 0, .int .i64 0, .int .i64 0, .int .i64 1]) (results_blk Tryz.results7 rfl (Blk.setAll (t := 39) (cs := #[.slice none 0 0, .slice none 0 0, .slice none 0 0, .int .i64 0, .slice none 0 0, .slice none 0 0, .slice none 0 0, .int .i64 0, .int .i64 0, .int .i64 0]) (vs := #[.slice none 0 0, .slice none 0 0, .slice none 0 0, .int .i64 0, .slice none 0 0, .slice none 0 0, .slice none 0 0, .int .i64 0, .int .i64 0, .int .i64 1]) (R7.out.ext H8.out) rfl) Tryz.underlying39 rfl (by kernel_rfl)) rfl ⟨_, [], rfl, by rw [HE.out]; exact own_zero _, fun b hb => absurd hb (by simp), setCells_ext HB.out _ _ _ (Y7.out.trans H8.out)⟩
  | true =>
    have HE : Hid (yardNew c = ⟨⟨c, nodesNew (c.nodes.length : Int), [], [], 0⟩, 0, 0⟩) := Lib.hid (by rw [yardNew, if_pos T.out])
    have HFW := Lib.hid (few_right T.out)
    go_upto_region 3 with (go_at_call 26; (with_reducible refine (specConfigRight_is (S := S) c [.slice A1 c.nodes.length c1, .slice A2 c.pairs.length c2, .slice A3 c.quotas.length c3, .int .i64 c.half] _ (rel_Config HF.out (H1.out.ext X.out) (H2.out.ext X.out) (H3.out.ext X.out)) _ T.out).mono ?_); rintro e w7 ⟨rfl, hx7⟩; have H7 := Lib.hid hx7; clear hx7 qa)
    replace QA := Lib.hid (QA.out.ext H7.out)
    replace QR := Lib.hid (QR.out.ext H7.out)
    replace X := Lib.hid (X.out.trans H7.out)
    have hne : B ∉ [B + 1] := by simp
    have al : ∀ V, Kept [B + 1] w7 V → ∀ i, V.cell? ⟨B, i, none⟩ = _ := fun V hV => Blk.cell (t := 32) (cs := #[.slice A1 c.nodes.length c1, .slice A2 c.pairs.length c2, .slice A3 c.quotas.length c3, .int .i64 c.half]) ((hV.block B QA.out.lt hne).trans QA.out)
    clear hne
    go_region_held3 (fun V => Kept [B + 1] w7 V) (with_reducible (first | exact Kept.refl _ _ | assumption | exact Kept.of_ext X8.out | exact Kept.of_ext X9.out | ((repeat (first | exact Kept.of_ext X9.out | refine Kept.setCell ?_ (by simp) _)); done) | exact Kept.of_ext (Ext.refl _).drew)) (first
      | (go_at_call 28; (with_reducible refine (l13CopyConfig_own (S := S) c [.slice A1 c.nodes.length c1, .slice A2 c.pairs.length c2, .slice A3 c.quotas.length c3, .int .i64 c.half] _ (rel_Config HF.out (H1.out.ext (X.out.trans (by repeat (first | with_reducible exact Ext.refl _ | refine Ext.drew ?_)))) (H2.out.ext (X.out.trans (by repeat (first | with_reducible exact Ext.refl _ | refine Ext.drew ?_)))) (H3.out.ext (X.out.trans (by repeat (first | with_reducible exact Ext.refl _ | refine Ext.drew ?_))))) HFW.out).mono ?_); rintro e w8 ⟨cs8, G8, rfl, ⟨u1, u2, u3, G1, G2, G3, rfl, hf8, o1, o2, o3, hG, hn⟩, g8, hx8⟩; obtain ⟨p1, k1, rfl, -⟩ := OwS.form o1; obtain ⟨p2, k2, rfl, -⟩ := OwS.form o2; obtain ⟨p3, k3, rfl, -⟩ := OwS.form o3; have X8 : Hid (Ext w7 w8) := Lib.hid (Ext.trans (by repeat (first | with_reducible exact Ext.refl _ | refine Ext.drew ?_)) hx8); have O1 := Lib.hid o1; have O2 := Lib.hid o2; have O3 := Lib.hid o3; have HG := Lib.hid hG; have HN := Lib.hid hn; have Z8 : Hid (∀ b ∈ G8, w7.heap.size ≤ b) := Lib.hid (fun b hb => Nat.le_trans (Ext.size (by repeat (first | with_reducible exact Ext.refl _ | refine Ext.drew ?_))) (g8 b hb)); clear hf8 o1 o2 o3 hG hn g8 hx8; simp only [cellsConfig])
      | (go_at_call 29; (with_reducible refine (specNodesNew_any _ _).mono ?_); rintro e w9 ⟨u4, G4, rfl, o4, g4, hx9⟩; obtain ⟨p4, k4, rfl, -⟩ := OwS.form o4; have X89 : Hid (Ext w8 w9) := Lib.hid hx9; have X9 : Hid (Ext w7 w9) := Lib.hid (X8.out.trans hx9); have O4 := Lib.hid o4; have Z9 : Hid (∀ b ∈ G4, w8.heap.size ≤ b) := Lib.hid g4; have R9 := Lib.hid (QR.out.ext X9.out); have rc0 := R9.out.cell 0; have rc1 := R9.out.cell 1; have rc2 := R9.out.cell 2; have rc3 := R9.out.cell 3; have rc4 := R9.out.cell 4; have rc5 := R9.out.cell 5; have rc6 := R9.out.cell 6; have rc7 := R9.out.cell 7; have rc8 := R9.out.cell 8; have rc9 := R9.out.cell 9; have rf := R9.out.frozen; clear o4 g4 hx9))
    all_goals
      clear al
      go_wp2_with fail
      have hl : ∀ b ∈ G1 ++ (G2 ++ G3), b < w8.heap.size := fun b hb => (by
        simp only [List.mem_append] at hb
        rcases hb with hb | hb | hb
        · exact O1.out.lt b hb
        · exact O2.out.lt b hb
        · exact O3.out.lt b hb)
      have hz : ∀ b ∈ G1 ++ (G2 ++ G3), w7.heap.size ≤ b := fun b hb => Z8.out b (by rw [HG.out]; exact hb)
      have hr := QR.out.lt
      have h8 := X8.out.size
      exact bodyPost_ret (v := .agg #[.slice p1 c.nodes.length k1, .slice p2 c.pairs.length k2, .slice p3 c.quotas.length k3, .int .i64 c.half, .slice p4 (nodesNew (c.nodes.length : Int)).length k4, .slice none 0 0, .slice none 0 0, .int .i64 0, .int .i64 0, .int .i64 0]) (results_blk Tryz.results7 rfl (show Blk _ (B + 1) 39 #[.slice p1 c.nodes.length k1, .slice p2 c.pairs.length k2, .slice p3 c.quotas.length k3, .int .i64 c.half, .slice p4 (nodesNew (c.nodes.length : Int)).length k4, .slice none 0 0, .slice none 0 0, .int .i64 0, .int .i64 0, .int .i64 0] from by simpa using ((((((((((R9.out.set_ 0 (.slice p1 c.nodes.length k1)).set_ 1 (.slice p2 c.pairs.length k2)).set_ 2 (.slice p3 c.quotas.length k3)).set_ 3 (.int .i64 c.half)).set_ 4 (.slice p4 (nodesNew (c.nodes.length : Int)).length k4)).set_ 5 (.slice none 0 0)).set_ 6 (.slice none 0 0)).set_ 7 (.int .i64 0)).set_ 8 (.int .i64 0)).set_ 9 (.int .i64 0))) Tryz.underlying39 rfl (by kernel_rfl)) rfl
        ⟨_, G1 ++ (G2 ++ (G3 ++ (G4 ++ ([] ++ [])))), rfl, by
          rw [HE.out]
          exact ⟨_, _, _, _, _, _, G1, G2, G3, G4, [], [], rfl, ⟨HF.out, show I64 0 by unfold I64; decide, show I64 0 by unfold I64; decide, show I64 0 by unfold I64; decide⟩,
            (O1.out.ext X89.out).kept (G := [B + 1]) (by repeat (first | with_reducible exact Kept.refl _ _ | refine Kept.setCell ?_ (by simp) _)) (fun b hb hm => by have := hz b (by simp [hb]); have := List.mem_singleton.1 hm; omega),
            (O2.out.ext X89.out).kept (G := [B + 1]) (by repeat (first | with_reducible exact Kept.refl _ _ | refine Kept.setCell ?_ (by simp) _)) (fun b hb hm => by have := hz b (by simp [hb]); have := List.mem_singleton.1 hm; omega),
            (O3.out.ext X89.out).kept (G := [B + 1]) (by repeat (first | with_reducible exact Kept.refl _ _ | refine Kept.setCell ?_ (by simp) _)) (fun b hb hm => by have := hz b (by simp [hb]); have := List.mem_singleton.1 hm; omega),
            O4.out.kept (G := [B + 1]) (by repeat (first | with_reducible exact Kept.refl _ _ | refine Kept.setCell ?_ (by simp) _)) (fun b hb hm => by have := Z9.out b hb; have := List.mem_singleton.1 hm; omega),
            OwS.nil _, OwS.nil _, rfl, nodup_four (by rw [← HG.out]; exact HN.out) O4.out.nodup hl Z9.out⟩,
          fun b hb => (by
            have h1 := X.out.size
            simp at hb
            rcases hb with hb | hb | hb | hb
            · exact Nat.le_trans h1 (hz b (by simp [hb]))
            · exact Nat.le_trans h1 (hz b (by simp [hb]))
            · exact Nat.le_trans h1 (hz b (by simp [hb]))
            · have := Z9.out b hb; omega),
          Kept.ext (X.out.trans X9.out) (F := [B + 1]) (by repeat (first | with_reducible exact Kept.refl _ _ | refine Kept.setCell ?_ (by simp) _)) (fun b hb => by rw [List.mem_singleton.1 hb]; exact HB.out)⟩
end Go.Proofs.YtocomclenbhhaaaGreat

/- A configuration's copy, with memory of its own: the program's. -/
import Derived.Test.YtocomclenbhhaaaGreatClones
import Derived.Test.YtocomclenbhhaaaGreatOwn2
import Derived.Test.YtocomclenbhhaaaGreatConf1
import Derived.Test.YtocomclenbhhaaaGreatGYardT
import Derived.Deep.RegionHeld3
namespace Go.Proofs.YtocomclenbhhaaaGreat
open Go.RowKit
attribute [local irreducible] wpQuiet

set_option maxHeartbeats 1000000 in
set_option maxRecDepth 100000 in
theorem cloneLabel_any {S : Nat → Prop} (l : List Label) (v : Value) (w : World) (h : Rd ELabel S w v l) (hl : l.length ≤ 1000000000) :
    Calls Tryz.prog 164 #[v] w (RetO OLabel 60 l w) := by
  have HR := Lib.hid h
  obtain ⟨A, c, rfl, h1, h2, hk⟩ := h.open_
  unfold maxLen at h2
  have HK := Lib.hid hk
  have HL := Lib.hid hl
  clear hk h hl
  have hnil := fun (W : World) (a : Option Addr) (n c : Nat) => Go.Lib.run_eql_slice_nil (P := Tryz.prog) W 92 60 a n c 0 0 Tryz.underlying92
  cases A with
  | none =>
    obtain rfl : l = [] := by
      rcases Nat.eq_zero_or_pos l.length with h0 | h0
      · exact List.eq_nil_of_length_eq_zero h0
      · obtain ⟨_, _, _, h', _⟩ := HK.out 0 h0
        cases h'
    go_enter Tryz.func164, Tryz.ntmps164
    go_wp2_with fail
    go_ret
    exact ⟨_, [], rfl, OwS.nil _, fun b hb => (by cases hb), Ext.refl _⟩
  | some a =>
    obtain ⟨B, o, sp⟩ := a
    go_enter Tryz.func164, Tryz.ntmps164
    go_wp2_with (at_builtin; refine wpList_append_flat (E := ELabel) (T := 60) (hfl := fun h => h) (l := []) (ys := l) (F := []) (S := S) rfl _ _ 92 rfl (.agg #[.int .i64 0, .int .i64 0]) 2 16 Tryz.underlying92 (by kernel_rfl) rfl rfl rfl ?ow rfl ?rd ?b1 ?b2 ?_; rotate_right; intro v' w1 F' how hkp hF'; have HOW := Lib.hid how; have HKP := Lib.hid hkp; have HFF := Lib.hid hF'; clear how hkp hF')
    case ow => exact OwS.nil _
    case rd => exact HR.out.ext ((Ext.refl _).alloc _)
    case b1 => have := HL.out; simp only [List.length_nil, maxLen]; omega
    case b2 => have := HL.out; simp only [List.length_nil]; omega
    go_ret
    exact ⟨_, F', rfl, HOW.out, fun b hb => (by rcases HFF.out b hb with h | h; cases h; exact Nat.le_trans ((Ext.refl w).alloc _).size h), HKP.out.ext ((Ext.refl _).alloc _) (fun b hb => by cases hb)⟩

set_option maxHeartbeats 1000000 in
set_option maxRecDepth 100000 in
theorem clonePair_any {S : Nat → Prop} (l : List Pair) (v : Value) (w : World) (h : Rd EPair S w v l) (hl : l.length ≤ 1000000000) :
    Calls Tryz.prog 99 #[v] w (RetO OPair 130 l w) := by
  have HR := Lib.hid h
  obtain ⟨A, c, rfl, h1, h2, hk⟩ := h.open_
  unfold maxLen at h2
  have HK := Lib.hid hk
  have HL := Lib.hid hl
  clear hk h hl
  have hnil := fun (W : World) (a : Option Addr) (n c : Nat) => Go.Lib.run_eql_slice_nil (P := Tryz.prog) W 29 130 a n c 0 0 Tryz.underlying29
  cases A with
  | none =>
    obtain rfl : l = [] := by
      rcases Nat.eq_zero_or_pos l.length with h0 | h0
      · exact List.eq_nil_of_length_eq_zero h0
      · obtain ⟨_, _, _, h', _⟩ := HK.out 0 h0
        cases h'
    go_enter Tryz.func99, Tryz.ntmps99
    go_wp2_with fail
    go_ret
    exact ⟨_, [], rfl, OwS.nil _, fun b hb => (by cases hb), Ext.refl _⟩
  | some a =>
    obtain ⟨B, o, sp⟩ := a
    go_enter Tryz.func99, Tryz.ntmps99
    go_wp2_with (at_builtin; refine wpList_append_flat (E := EPair) (T := 130) (hfl := fun h => h) (l := []) (ys := l) (F := []) (S := S) rfl _ _ 29 rfl (.agg #[.int .i64 0, .int .i64 0, .int .i64 0, .int .i64 0, .int .i64 0]) 5 40 Tryz.underlying29 (by kernel_rfl) rfl rfl rfl ?ow rfl ?rd ?b1 ?b2 ?_; rotate_right; intro v' w1 F' how hkp hF'; have HOW := Lib.hid how; have HKP := Lib.hid hkp; have HFF := Lib.hid hF'; clear how hkp hF')
    case ow => exact OwS.nil _
    case rd => exact HR.out.ext ((Ext.refl _).alloc _)
    case b1 => have := HL.out; simp only [List.length_nil, maxLen]; omega
    case b2 => have := HL.out; simp only [List.length_nil]; omega
    go_ret
    exact ⟨_, F', rfl, HOW.out, fun b hb => (by rcases HFF.out b hb with h | h; cases h; exact Nat.le_trans ((Ext.refl w).alloc _).size h), HKP.out.ext ((Ext.refl _).alloc _) (fun b hb => by cases hb)⟩

set_option maxHeartbeats 1000000 in
set_option maxRecDepth 100000 in
theorem cloneQuota_any {S : Nat → Prop} (l : List Quota) (v : Value) (w : World) (h : Rd EQuota S w v l) (hl : l.length ≤ 1000000000) :
    Calls Tryz.prog 100 #[v] w (RetO OQuota 135 l w) := by
  have HR := Lib.hid h
  obtain ⟨A, c, rfl, h1, h2, hk⟩ := h.open_
  unfold maxLen at h2
  have HK := Lib.hid hk
  have HL := Lib.hid hl
  clear hk h hl
  have hnil := fun (W : World) (a : Option Addr) (n c : Nat) => Go.Lib.run_eql_slice_nil (P := Tryz.prog) W 30 135 a n c 0 0 Tryz.underlying30
  cases A with
  | none =>
    obtain rfl : l = [] := by
      rcases Nat.eq_zero_or_pos l.length with h0 | h0
      · exact List.eq_nil_of_length_eq_zero h0
      · obtain ⟨_, _, _, h', _⟩ := HK.out 0 h0
        cases h'
    go_enter Tryz.func100, Tryz.ntmps100
    go_wp2_with fail
    go_ret
    exact ⟨_, [], rfl, OwS.nil _, fun b hb => (by cases hb), Ext.refl _⟩
  | some a =>
    obtain ⟨B, o, sp⟩ := a
    go_enter Tryz.func100, Tryz.ntmps100
    go_wp2_with (at_builtin; refine wpList_append_flat (E := EQuota) (T := 135) (hfl := fun h => h) (l := []) (ys := l) (F := []) (S := S) rfl _ _ 30 rfl (.agg #[.int .i64 0, .int .i64 0, .int .i64 0]) 3 24 Tryz.underlying30 (by kernel_rfl) rfl rfl rfl ?ow rfl ?rd ?b1 ?b2 ?_; rotate_right; intro v' w1 F' how hkp hF'; have HOW := Lib.hid how; have HKP := Lib.hid hkp; have HFF := Lib.hid hF'; clear how hkp hF')
    case ow => exact OwS.nil _
    case rd => exact HR.out.ext ((Ext.refl _).alloc _)
    case b1 => have := HL.out; simp only [List.length_nil, maxLen]; omega
    case b2 => have := HL.out; simp only [List.length_nil]; omega
    go_ret
    exact ⟨_, F', rfl, HOW.out, fun b hb => (by rcases HFF.out b hb with h | h; cases h; exact Nat.le_trans ((Ext.refl w).alloc _).size h), HKP.out.ext ((Ext.refl _).alloc _) (fun b hb => by cases hb)⟩

set_option maxHeartbeats 4000000 in
set_option maxRecDepth 100000 in
theorem copyClear_any {S : Nat → Prop} (ns : List (List Label)) (v : Value) (w : World) (h : Rd (ERow ELabel) S w v ns) (hl : ns.length ≤ 1000000) (hs : ∀ k, k < ns.length → (nth ns k).length ≤ 1000000000) :
    Calls Tryz.prog 98 #[v] w (RetO (ORow OLabel 60) 92 ns w) := by
  obtain ⟨A, c, rfl, h1, h2, hk⟩ := h.open_
  unfold maxLen at h2
  have HK := Lib.hid hk
  have HS := Lib.hid hs
  clear hk h hs
  go_enter Tryz.func98, Tryz.ntmps98
  go_wp2_with fail
  obtain ⟨W, B, hW, hB, hx0, b0⟩ : ∃ W B, W = w.alloc (.cells #[] 92) ∧ B = w.heap.size ∧ Ext w W ∧ Blk W B 92 #[] := ⟨_, _, rfl, rfl, (Ext.refl w).alloc _, Blk.new _ _ _⟩
  rw [← hW, ← hB]
  have HB : Hid (w.heap.size ≤ B) := Lib.hid (by omega)
  have B0 := Lib.hid b0
  have X0 := Lib.hid hx0
  clear hW hB hx0 b0
  go_loopw [3, 9] (fun v i w' => ∃ (k : Nat) (F : List Nat), k ≤ ns.length ∧ i = .int .i64 k ∧ OwS (ORow OLabel 60) 92 w' v (ns.take k) F ∧ (∀ b ∈ F, w.heap.size ≤ b) ∧ Ext w w') (fun _ i _ => ns.length - (intOf i).toNat)
  case atStart => exact ⟨0, [B], by omega, rfl, .inr ⟨B, 0, #[], [], rfl, B0.out, Nat.le_refl _, Nat.zero_le _, rfl, rfl, rfl, by simp, fun k hk => absurd hk (Nat.not_lt_zero _)⟩, fun b hb => by rw [List.mem_singleton.1 hb]; exact HB.out, X0.out⟩
  case round =>
    obtain ⟨k, F, hk1, rfl, hown, hF, hx⟩ := hrel
    have HO := Lib.hid hown
    have HF := Lib.hid hF
    have HX := Lib.hid hx
    have LF := Lib.hid hown.lt
    clear hown hF
    by_cases hlt : k < ns.length
    · obtain ⟨b, q, cs, rfl, _, ⟨vr, rfl, hr⟩, hc⟩ := HK.out k hlt
      have z0 := Ext.some hx (hc 0 _ rfl)
      simp only [ERow, Nat.mul_one, Nat.add_zero] at z0
      obtain ⟨A1, c1, rfl, -⟩ := hr.form
      have HRD := Lib.hid (hr.ext hx)
      have HN := Lib.hid (HS.out k hlt)
      have HT := Lib.hid (take_succ_nth hlt)
      clear hc hr hx
      go_wp2_with (first
        | (go_at_call 164; go_loud ((with_reducible refine (cloneLabel_any (S := S) (nth ns k) _ _ HRD.out HN.out).mono ?_); rintro e w1 ⟨u1, G1, rfl, q1, g1, hx1⟩; obtain ⟨p1, k1, rfl, -⟩ := q1.form; have Q1 := Lib.hid q1; have X1 := Lib.hid hx1; have Z1 := Lib.hid g1; clear q1 g1 hx1))
        | (at_builtin; refine wpList_append_one (O := ORow OLabel 60) (T := 92) (l := ns.take k) (F := F) (G := G1) (y := nth ns k) (cs := [.slice p1 (nth ns k).length k1]) rfl _ _ 28 rfl (.slice none 0 0) 1 24 Tryz.underlying28 (by kernel_rfl) rfl rfl rfl ?ow _ 0 1 rfl ?own ?rng ?nd ?len (by decide) ?_; rotate_right; intro v' w2 F' how hkp hF'; have HOW := Lib.hid how; have HKP := Lib.hid hkp; have HFF := Lib.hid hF'; clear how hkp hF'))
      case ow => exact HO.out.ext (X1.out.alloc _)
      case own => exact ⟨_, rfl, Q1.out.ext ((Ext.refl _).alloc _)⟩
      case rng => exact (Blk.new w1 92 #[.slice p1 (nth ns k).length k1]).range
      case nd => exact nodup_two HO.out.nodup Q1.out.nodup (fun b h1 h2 => by have a := LF.out b h1; have c := Z1.out b h2; omega)
      case len => rw [List.length_take]; omega
      refine ⟨⟨k + 1, F', by omega, by go_num, by rw [HT.out]; exact HOW.out, fun b hb => ?_, HKP.out.ext ((HX.out.trans X1.out).alloc _) HF.out⟩, by simp [intOf]; omega⟩
      rcases HFF.out b hb with h | h | h
      · exact HF.out b h
      · exact Nat.le_trans HX.out.size (Z1.out b h)
      · exact Nat.le_trans ((HX.out.trans X1.out).alloc _).size h
    · obtain rfl : k = ns.length := by omega
      go_wp2_with fail
      go_ret
      exact ⟨_, F, rfl, by have h := HO.out; rw [List.take_length] at h; exact h, HF.out, HX.out⟩

/-- A configuration that is small enough to be copied. -/
def FewC (c : Config) : Prop := c.nodes.length ≤ 1000000 ∧ (∀ k, k < c.nodes.length → (nth c.nodes k).length ≤ 1000000000) ∧ c.pairs.length ≤ 1000000000 ∧ c.quotas.length ≤ 1000000000
theorem nodup3 {F1 F2 F3 : List Nat} {a b : Nat} (h1 : F1.Nodup) (h2 : F2.Nodup) (h3 : F3.Nodup) (l1 : ∀ x ∈ F1, x < a) (g2 : ∀ x ∈ F2, a ≤ x) (l2 : ∀ x ∈ F2, x < b) (g3 : ∀ x ∈ F3, b ≤ x) (hab : a ≤ b) : (F1 ++ (F2 ++ F3)).Nodup := by
  refine nodup_two h1 (nodup_two h2 h3 fun x hx hy => ?_) fun x hx hy => ?_
  · have := l2 x hx; have := g3 x hy; omega
  · rcases List.mem_append.1 hy with hy | hy
    · have := l1 x hx; have := g2 x hy; omega
    · have := l1 x hx; have := g3 x hy; omega
set_option maxHeartbeats 8000000 in
set_option maxRecDepth 100000 in
theorem copyConfig_own {S : Nat → Prop} (x : Config) (cs : List Value) (w : World) (h : EConfig.rel S w cs x) (hs : FewC x) :
    Calls Tryz.prog 34 #[.agg cs.toArray] w (RetOS OConfig x w) := by
  obtain ⟨v1, v2, v3, rfl, hf, h1, h2, h3⟩ := h
  obtain ⟨A1, c1, rfl, -⟩ := h1.form
  obtain ⟨A2, c2, rfl, -⟩ := h2.form
  obtain ⟨A3, c3, rfl, -⟩ := h3.form
  have HF := Lib.hid hf
  have H1 := Lib.hid h1
  have H2 := Lib.hid h2
  have H3 := Lib.hid h3
  obtain ⟨s1, s2, s3, s4⟩ := hs
  have S1 := Lib.hid s1
  have S2 := Lib.hid s2
  have S3 := Lib.hid s3
  have S4 := Lib.hid s4
  clear hf h1 h2 h3 s1 s2 s3 s4
  simp only [cellsConfig]
  go_enter Tryz.func34, Tryz.ntmps34
  go_upto_region 1 with (fail)
  obtain ⟨W, B, hW, hB, hx0, a0, r0⟩ := boxes2 w #[.slice A1 x.nodes.length c1, .slice A2 x.pairs.length c2, .slice A3 x.quotas.length c3, .int .i64 x.half] #[.slice none 0 0, .slice none 0 0, .slice none 0 0, .int .i64 0] 32 32
  rw [← hW, ← hB]
  have HB : Hid (w.heap.size ≤ B + 1) := Lib.hid (by omega)
  have QA := Lib.hid a0
  have QR := Lib.hid r0
  have X := Lib.hid hx0
  clear hW hB hx0 a0 r0
  have hne : B ∉ [B + 1] := by simp
  have al : ∀ V, Kept [B + 1] W V → ∀ i, V.cell? ⟨B, i, none⟩ = _ := fun V hV => Blk.cell (t := 32) (cs := #[.slice A1 x.nodes.length c1, .slice A2 x.pairs.length c2, .slice A3 x.quotas.length c3, .int .i64 x.half]) ((hV.block B QA.out.lt hne).trans QA.out)
  clear hne
  go_region_held3 (fun V => Kept [B + 1] W V) (first | exact Kept.refl _ _ | exact Kept.of_ext (Ext.refl _).drew | assumption | exact Kept.of_ext X1.out | exact Kept.of_ext X2.out | exact Kept.of_ext X3.out | (repeat (first | with_reducible exact Kept.of_ext X3.out | refine Kept.setCell ?_ (by simp) _))) (first
    | (go_at_call 98; (with_reducible refine (copyClear_any (S := S) x.nodes _ _ (H1.out.ext (X.out.trans (by repeat (first | with_reducible exact Ext.refl _ | refine Ext.drew ?_)))) S1.out S2.out).mono ?_); rintro e w1 ⟨u1, G1, rfl, q1, g1, hx1⟩; obtain ⟨p1, k1, rfl, -⟩ := OwS.form q1; have X1 : Hid (Ext W w1) := Lib.hid (Ext.trans (by repeat (first | with_reducible exact Ext.refl _ | refine Ext.drew ?_)) hx1); have Q1 := Lib.hid q1; have Z1 : Hid (∀ b ∈ G1, W.heap.size ≤ b) := Lib.hid (fun b hb => Nat.le_trans (Ext.size (by repeat (first | with_reducible exact Ext.refl _ | refine Ext.drew ?_))) (g1 b hb)); clear q1 g1 hx1)
    | (go_at_call 99; (with_reducible refine (clonePair_any (S := S) x.pairs _ _ (H2.out.ext (X.out.trans X1.out)) S3.out).mono ?_); rintro e w2 ⟨u2, G2, rfl, q2, g2, hx2⟩; obtain ⟨p2, k2, rfl, -⟩ := OwS.form q2; have X12 : Hid (Ext w1 w2) := Lib.hid hx2; have X2 : Hid (Ext W w2) := Lib.hid (X1.out.trans hx2); have Q2 := Lib.hid q2; have Z2 : Hid (∀ b ∈ G2, w1.heap.size ≤ b) := Lib.hid g2; clear q2 g2 hx2)
    | (go_at_call 100; (with_reducible refine (cloneQuota_any (S := S) x.quotas _ _ (H3.out.ext (X.out.trans X2.out)) S4.out).mono ?_); rintro e w3 ⟨u3, G3, rfl, q3, g3, hx3⟩; obtain ⟨p3, k3, rfl, -⟩ := OwS.form q3; have X23 : Hid (Ext w2 w3) := Lib.hid hx3; have X3 : Hid (Ext W w3) := Lib.hid (X2.out.trans hx3); have Q3 := Lib.hid q3; have Z3 : Hid (∀ b ∈ G3, w2.heap.size ≤ b) := Lib.hid g3; have R3 := Lib.hid (QR.out.ext X3.out); have rc0 := R3.out.cell 0; have rc1 := R3.out.cell 1; have rc2 := R3.out.cell 2; have rc3 := R3.out.cell 3; have rf := R3.out.frozen; clear q3 g3 hx3))
  all_goals
    clear al
    go_wp2_with fail
    exact bodyPost_ret (v := .agg #[.slice p1 x.nodes.length k1, .slice p2 x.pairs.length k2, .slice p3 x.quotas.length k3, .int .i64 x.half]) (results_blk Tryz.results34 rfl (show Blk _ (B + 1) 32 #[.slice p1 x.nodes.length k1, .slice p2 x.pairs.length k2, .slice p3 x.quotas.length k3, .int .i64 x.half] from by simpa using ((((R3.out.set_ 0 (.slice p1 x.nodes.length k1)).set_ 1 (.slice p2 x.pairs.length k2)).set_ 2 (.slice p3 x.quotas.length k3)).set_ 3 (.int .i64 x.half))) Tryz.underlying32 rfl (by kernel_rfl)) rfl
      ⟨_, G1 ++ (G2 ++ G3), rfl, ⟨_, _, _, G1, G2, G3, rfl, HF.out,
        (Q1.out.ext (X12.out.trans X23.out)).kept (G := [B + 1]) (by repeat (first | with_reducible exact Kept.refl _ _ | refine Kept.setCell ?_ (by simp) _)) (fun b hb hm => by have := Z1.out b hb; have := QR.out.lt; simp at hm; omega),
        (Q2.out.ext X23.out).kept (G := [B + 1]) (by repeat (first | with_reducible exact Kept.refl _ _ | refine Kept.setCell ?_ (by simp) _)) (fun b hb hm => by have := Z2.out b hb; have := QR.out.lt; have := X1.out.size; simp at hm; omega),
        Q3.out.kept (G := [B + 1]) (by repeat (first | with_reducible exact Kept.refl _ _ | refine Kept.setCell ?_ (by simp) _)) (fun b hb hm => by have := Z3.out b hb; have := QR.out.lt; have := X2.out.size; simp at hm; omega),
        rfl, nodup3 Q1.out.nodup Q2.out.nodup Q3.out.nodup Q1.out.lt Z2.out Q2.out.lt Z3.out X12.out.size⟩,
        fun b hb => (by
          simp only [List.mem_append] at hb
          have h1 := X.out.size
          have h2 := X1.out.size
          have h3 := X2.out.size
          rcases hb with hb | hb | hb
          · exact Nat.le_trans h1 (Z1.out b hb)
          · exact Nat.le_trans (Nat.le_trans h1 h2) (Z2.out b hb)
          · exact Nat.le_trans (Nat.le_trans h1 h3) (Z3.out b hb)),
        Kept.ext (X.out.trans X3.out) (F := [B + 1]) (by repeat (first | with_reducible exact Kept.refl _ _ | refine Kept.setCell ?_ (by simp) _)) (fun b hb => by rw [List.mem_singleton.1 hb]; exact HB.out)⟩
end Go.Proofs.YtocomclenbhhaaaGreat

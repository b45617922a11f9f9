/- A configuration's copy, with memory of its own: the program's. A configuration's copy, with memory of its own: the reference's. A yard's copy, with memory of its own: the program's and the reference's. -/
import Derived.Test.YtngldifgcgblpaaGreatClones
import Derived.Test.YtngldifgcgblpaaGreatOwn2
import Derived.Test.YtngldifgcgblpaaGreatConf1
import Derived.Test.YtngldifgcgblpaaGreatGYardT
import Derived.Deep.RegionHeld3
import Derived.Deep.RegionLaw
import Derived.Test.YtngldifgcgblpaaGreatNodeC
import Derived.Test.YtngldifgcgblpaaGreatCopies
namespace Go.Proofs.YtngldifgcgblpaaGreat
open Go.RowKit
attribute [local irreducible] wpQuiet
set_option maxHeartbeats 1000000 in
set_option maxRecDepth 100000 in
theorem cloneLabel_any {S : Nat → Prop} (l : List Label) (v : Value) (w : World) (h : Rd ELabel S w v l) (hl : l.length ≤ 1000000000) :
    Calls Tryz.prog 285 #[v] w (RetO OLabel 49 l w) := by
  have HR := Lib.hid h
  obtain ⟨A, c, rfl, h1, h2, hk⟩ := h.open_
  unfold maxLen at h2
  have HK := Lib.hid hk
  have HL := Lib.hid hl
  clear hk h hl
  have hnil := fun (W : World) (a : Option Addr) (n c : Nat) => Go.Lib.run_eql_slice_nil (P := Tryz.prog) W 167 49 a n c 0 0 Tryz.underlying167
  cases A with
  | none =>
    obtain rfl : l = [] := by
      rcases Nat.eq_zero_or_pos l.length with h0 | h0
      · exact List.eq_nil_of_length_eq_zero h0
      · obtain ⟨_, _, _, h', _⟩ := HK.out 0 h0
        cases h'
    go_enter Tryz.func285, Tryz.ntmps285
    go_wp2_with fail
    go_ret
    exact ⟨_, [], rfl, OwS.nil _, fun b hb => (by cases hb), Ext.refl _⟩
  | some a =>
    obtain ⟨B, o, sp⟩ := a
    go_enter Tryz.func285, Tryz.ntmps285
    go_wp2_with (at_builtin; refine wpList_append_flat (E := ELabel) (T := 49) (hfl := fun h => h) (l := []) (ys := l) (F := []) (S := S) rfl _ _ 167 rfl (.agg #[.int .i64 0, .int .i64 0]) 2 16 Tryz.underlying167 (by kernel_rfl) rfl rfl rfl ?ow rfl ?rd ?b1 ?b2 ?_; rotate_right; intro v' w1 F' how hkp hF'; have HOW := Lib.hid how; have HKP := Lib.hid hkp; have HFF := Lib.hid hF'; clear how hkp hF')
    case ow => exact OwS.nil _
    case rd => exact HR.out.ext ((Ext.refl _).alloc _)
    case b1 => have := HL.out; simp only [List.length_nil, maxLen]; omega
    case b2 => have := HL.out; simp only [List.length_nil]; omega
    go_ret
    exact ⟨_, F', rfl, HOW.out, fun b hb => (by rcases HFF.out b hb with h | h; cases h; exact Nat.le_trans ((Ext.refl w).alloc _).size h), HKP.out.ext ((Ext.refl _).alloc _) (fun b hb => by cases hb)⟩
set_option maxHeartbeats 1000000 in
set_option maxRecDepth 100000 in
theorem clonePair_any {S : Nat → Prop} (l : List Pair) (v : Value) (w : World) (h : Rd EPair S w v l) (hl : l.length ≤ 1000000000) :
    Calls Tryz.prog 246 #[v] w (RetO OPair 214 l w) := by
  have HR := Lib.hid h
  obtain ⟨A, c, rfl, h1, h2, hk⟩ := h.open_
  unfold maxLen at h2
  have HK := Lib.hid hk
  have HL := Lib.hid hl
  clear hk h hl
  have hnil := fun (W : World) (a : Option Addr) (n c : Nat) => Go.Lib.run_eql_slice_nil (P := Tryz.prog) W 36 214 a n c 0 0 Tryz.underlying36
  cases A with
  | none =>
    obtain rfl : l = [] := by
      rcases Nat.eq_zero_or_pos l.length with h0 | h0
      · exact List.eq_nil_of_length_eq_zero h0
      · obtain ⟨_, _, _, h', _⟩ := HK.out 0 h0
        cases h'
    go_enter Tryz.func246, Tryz.ntmps246
    go_wp2_with fail
    go_ret
    exact ⟨_, [], rfl, OwS.nil _, fun b hb => (by cases hb), Ext.refl _⟩
  | some a =>
    obtain ⟨B, o, sp⟩ := a
    go_enter Tryz.func246, Tryz.ntmps246
    go_wp2_with (at_builtin; refine wpList_append_flat (E := EPair) (T := 214) (hfl := fun h => h) (l := []) (ys := l) (F := []) (S := S) rfl _ _ 36 rfl (.agg #[.int .i64 0, .int .i64 0, .int .i64 0, .int .i64 0, .int .i64 0]) 5 40 Tryz.underlying36 (by kernel_rfl) rfl rfl rfl ?ow rfl ?rd ?b1 ?b2 ?_; rotate_right; intro v' w1 F' how hkp hF'; have HOW := Lib.hid how; have HKP := Lib.hid hkp; have HFF := Lib.hid hF'; clear how hkp hF')
    case ow => exact OwS.nil _
    case rd => exact HR.out.ext ((Ext.refl _).alloc _)
    case b1 => have := HL.out; simp only [List.length_nil, maxLen]; omega
    case b2 => have := HL.out; simp only [List.length_nil]; omega
    go_ret
    exact ⟨_, F', rfl, HOW.out, fun b hb => (by rcases HFF.out b hb with h | h; cases h; exact Nat.le_trans ((Ext.refl w).alloc _).size h), HKP.out.ext ((Ext.refl _).alloc _) (fun b hb => by cases hb)⟩
set_option maxHeartbeats 1000000 in
set_option maxRecDepth 100000 in
theorem cloneQuota_any {S : Nat → Prop} (l : List Quota) (v : Value) (w : World) (h : Rd EQuota S w v l) (hl : l.length ≤ 1000000000) :
    Calls Tryz.prog 247 #[v] w (RetO OQuota 205 l w) := by
  have HR := Lib.hid h
  obtain ⟨A, c, rfl, h1, h2, hk⟩ := h.open_
  unfold maxLen at h2
  have HK := Lib.hid hk
  have HL := Lib.hid hl
  clear hk h hl
  have hnil := fun (W : World) (a : Option Addr) (n c : Nat) => Go.Lib.run_eql_slice_nil (P := Tryz.prog) W 37 205 a n c 0 0 Tryz.underlying37
  cases A with
  | none =>
    obtain rfl : l = [] := by
      rcases Nat.eq_zero_or_pos l.length with h0 | h0
      · exact List.eq_nil_of_length_eq_zero h0
      · obtain ⟨_, _, _, h', _⟩ := HK.out 0 h0
        cases h'
    go_enter Tryz.func247, Tryz.ntmps247
    go_wp2_with fail
    go_ret
    exact ⟨_, [], rfl, OwS.nil _, fun b hb => (by cases hb), Ext.refl _⟩
  | some a =>
    obtain ⟨B, o, sp⟩ := a
    go_enter Tryz.func247, Tryz.ntmps247
    go_wp2_with (at_builtin; refine wpList_append_flat (E := EQuota) (T := 205) (hfl := fun h => h) (l := []) (ys := l) (F := []) (S := S) rfl _ _ 37 rfl (.agg #[.int .i64 0, .int .i64 0, .int .i64 0]) 3 24 Tryz.underlying37 (by kernel_rfl) rfl rfl rfl ?ow rfl ?rd ?b1 ?b2 ?_; rotate_right; intro v' w1 F' how hkp hF'; have HOW := Lib.hid how; have HKP := Lib.hid hkp; have HFF := Lib.hid hF'; clear how hkp hF')
    case ow => exact OwS.nil _
    case rd => exact HR.out.ext ((Ext.refl _).alloc _)
    case b1 => have := HL.out; simp only [List.length_nil, maxLen]; omega
    case b2 => have := HL.out; simp only [List.length_nil]; omega
    go_ret
    exact ⟨_, F', rfl, HOW.out, fun b hb => (by rcases HFF.out b hb with h | h; cases h; exact Nat.le_trans ((Ext.refl w).alloc _).size h), HKP.out.ext ((Ext.refl _).alloc _) (fun b hb => by cases hb)⟩
set_option maxHeartbeats 4000000 in
set_option maxRecDepth 100000 in
theorem copyClear_any {S : Nat → Prop} (ns : List (List Label)) (v : Value) (w : World) (h : Rd (ERow ELabel) S w v ns) (hl : ns.length ≤ 1000000) (hs : ∀ k, k < ns.length → (nth ns k).length ≤ 1000000000) :
    Calls Tryz.prog 245 #[v] w (RetO (ORow OLabel 49) 167 ns w) := by
  obtain ⟨A, c, rfl, h1, h2, hk⟩ := h.open_
  unfold maxLen at h2
  have HK := Lib.hid hk
  have HS := Lib.hid hs
  clear hk h hs
  go_enter Tryz.func245, Tryz.ntmps245
  go_wp2_with fail
  obtain ⟨W, B, hW, hB, hx0, b0⟩ : ∃ W B, W = w.alloc (.cells #[] 167) ∧ B = w.heap.size ∧ Ext w W ∧ Blk W B 167 #[] := ⟨_, _, rfl, rfl, (Ext.refl w).alloc _, Blk.new _ _ _⟩
  rw [← hW, ← hB]
  have HB : Hid (w.heap.size ≤ B) := Lib.hid (by omega)
  have B0 := Lib.hid b0
  have X0 := Lib.hid hx0
  clear hW hB hx0 b0
  go_loopw [3, 9] (fun v i w' => ∃ (k : Nat) (F : List Nat), k ≤ ns.length ∧ i = .int .i64 k ∧ OwS (ORow OLabel 49) 167 w' v (ns.take k) F ∧ (∀ b ∈ F, w.heap.size ≤ b) ∧ Ext w w') (fun _ i _ => ns.length - (intOf i).toNat)
  case atStart => exact ⟨0, [B], by omega, rfl, .inr ⟨B, 0, #[], [], rfl, B0.out, Nat.le_refl _, Nat.zero_le _, rfl, rfl, rfl, by simp, fun k hk => absurd hk (Nat.not_lt_zero _)⟩, fun b hb => by rw [List.mem_singleton.1 hb]; exact HB.out, X0.out⟩
  case round =>
    obtain ⟨k, F, hk1, rfl, hown, hF, hx⟩ := hrel
    have HO := Lib.hid hown
    have HF := Lib.hid hF
    have HX := Lib.hid hx
    have LF := Lib.hid hown.lt
    clear hown hF
    by_cases hlt : k < ns.length
    · obtain ⟨b, q, cs, rfl, _, ⟨vr, rfl, hr⟩, hc⟩ := HK.out k hlt
      have z0 := Ext.some hx (hc 0 _ rfl)
      simp only [ERow, Nat.mul_one, Nat.add_zero] at z0
      obtain ⟨A1, c1, rfl, -⟩ := hr.form
      have HRD := Lib.hid (hr.ext hx)
      have HN := Lib.hid (HS.out k hlt)
      have HT := Lib.hid (take_succ_nth hlt)
      clear hc hr hx
      go_wp2_with (first
        | (go_at_call 285; go_loud ((with_reducible refine (cloneLabel_any (S := S) (nth ns k) _ _ HRD.out HN.out).mono ?_); rintro e w1 ⟨u1, G1, rfl, q1, g1, hx1⟩; obtain ⟨p1, k1, rfl, -⟩ := q1.form; have Q1 := Lib.hid q1; have X1 := Lib.hid hx1; have Z1 := Lib.hid g1; clear q1 g1 hx1))
        | (at_builtin; refine wpList_append_one (O := ORow OLabel 49) (T := 167) (l := ns.take k) (F := F) (G := G1) (y := nth ns k) (cs := [.slice p1 (nth ns k).length k1]) rfl _ _ 35 rfl (.slice none 0 0) 1 24 Tryz.underlying35 (by kernel_rfl) rfl rfl rfl ?ow _ 0 1 rfl ?own ?rng ?nd ?len (by decide) ?_; rotate_right; intro v' w2 F' how hkp hF'; have HOW := Lib.hid how; have HKP := Lib.hid hkp; have HFF := Lib.hid hF'; clear how hkp hF'))
      case ow => exact HO.out.ext (X1.out.alloc _)
      case own => exact ⟨_, rfl, Q1.out.ext ((Ext.refl _).alloc _)⟩
      case rng => exact (Blk.new w1 167 #[.slice p1 (nth ns k).length k1]).range
      case nd => exact nodup_two HO.out.nodup Q1.out.nodup (fun b h1 h2 => by have a := LF.out b h1; have c := Z1.out b h2; omega)
      case len => rw [List.length_take]; omega
      refine ⟨⟨k + 1, F', by omega, by go_num, by rw [HT.out]; exact HOW.out, fun b hb => ?_, HKP.out.ext ((HX.out.trans X1.out).alloc _) HF.out⟩, by simp [intOf]; omega⟩
      rcases HFF.out b hb with h | h | h
      · exact HF.out b h
      · exact Nat.le_trans HX.out.size (Z1.out b h)
      · exact Nat.le_trans ((HX.out.trans X1.out).alloc _).size h
    · obtain rfl : k = ns.length := by omega
      go_wp2_with fail
      go_ret
      exact ⟨_, F, rfl, by have h := HO.out; rw [List.take_length] at h; exact h, HF.out, HX.out⟩
/-- A configuration that is small enough to be copied. -/
def FewC (c : Config) : Prop := c.nodes.length ≤ 1000000 ∧ (∀ k, k < c.nodes.length → (nth c.nodes k).length ≤ 1000000000) ∧ c.pairs.length ≤ 1000000000 ∧ c.quotas.length ≤ 1000000000
theorem nodup3 {F1 F2 F3 : List Nat} {a b : Nat} (h1 : F1.Nodup) (h2 : F2.Nodup) (h3 : F3.Nodup) (l1 : ∀ x ∈ F1, x < a) (g2 : ∀ x ∈ F2, a ≤ x) (l2 : ∀ x ∈ F2, x < b) (g3 : ∀ x ∈ F3, b ≤ x) (hab : a ≤ b) : (F1 ++ (F2 ++ F3)).Nodup := by
  refine nodup_two h1 (nodup_two h2 h3 fun x hx hy => ?_) fun x hx hy => ?_
  · have := l2 x hx; have := g3 x hy; omega
  · rcases List.mem_append.1 hy with hy | hy
    · have := l1 x hx; have := g2 x hy; omega
    · have := l1 x hx; have := g3 x hy; omega
set_option maxHeartbeats 8000000 in
set_option maxRecDepth 100000 in
theorem copyConfig_own {S : Nat → Prop} (x : Config) (cs : List Value) (w : World) (h : EConfig.rel S w cs x) (hs : FewC x) :
    Calls Tryz.prog 157 #[.agg cs.toArray] w (RetOS OConfig x w) := by
  obtain ⟨v1, v2, v3, rfl, hf, h1, h2, h3⟩ := h
  obtain ⟨A1, c1, rfl, -⟩ := h1.form
  obtain ⟨A2, c2, rfl, -⟩ := h2.form
  obtain ⟨A3, c3, rfl, -⟩ := h3.form
  have HF := Lib.hid hf
  have H1 := Lib.hid h1
  have H2 := Lib.hid h2
  have H3 := Lib.hid h3
  obtain ⟨s1, s2, s3, s4⟩ := hs
  have S1 := Lib.hid s1
  have S2 := Lib.hid s2
  have S3 := Lib.hid s3
  have S4 := Lib.hid s4
  clear hf h1 h2 h3 s1 s2 s3 s4
  simp only [cellsConfig]
  go_enter Tryz.func157, Tryz.ntmps157
  go_upto_region 1 with (fail)
  obtain ⟨W, B, hW, hB, hx0, a0, r0⟩ := boxes2 w #[.slice A1 x.nodes.length c1, .slice A2 x.pairs.length c2, .slice A3 x.quotas.length c3, .int .i64 x.half] #[.slice none 0 0, .slice none 0 0, .slice none 0 0, .int .i64 0] 39 39
  rw [← hW, ← hB]
  have HB : Hid (w.heap.size ≤ B + 1) := Lib.hid (by omega)
  have QA := Lib.hid a0
  have QR := Lib.hid r0
  have X := Lib.hid hx0
  clear hW hB hx0 a0 r0
  have hne : B ∉ [B + 1] := by simp
  have al : ∀ V, Kept [B + 1] W V → ∀ i, V.cell? ⟨B, i, none⟩ = _ := fun V hV => Blk.cell (t := 39) (cs := #[.slice A1 x.nodes.length c1, .slice A2 x.pairs.length c2, .slice A3 x.quotas.length c3, .int .i64 x.half]) ((hV.block B QA.out.lt hne).trans QA.out)
  clear hne
  go_region_held3 (fun V => Kept [B + 1] W V) (first | exact Kept.refl _ _ | exact Kept.of_ext (Ext.refl _).drew | assumption | exact Kept.of_ext X1.out | exact Kept.of_ext X2.out | exact Kept.of_ext X3.out | (repeat (first | with_reducible exact Kept.of_ext X3.out | refine Kept.setCell ?_ (by simp) _))) (first
    | (go_at_call 245; (with_reducible refine (copyClear_any (S := S) x.nodes _ _ (H1.out.ext (X.out.trans (by repeat (first | with_reducible exact Ext.refl _ | refine Ext.drew ?_)))) S1.out S2.out).mono ?_); rintro e w1 ⟨u1, G1, rfl, q1, g1, hx1⟩; obtain ⟨p1, k1, rfl, -⟩ := OwS.form q1; have X1 : Hid (Ext W w1) := Lib.hid (Ext.trans (by repeat (first | with_reducible exact Ext.refl _ | refine Ext.drew ?_)) hx1); have Q1 := Lib.hid q1; have Z1 : Hid (∀ b ∈ G1, W.heap.size ≤ b) := Lib.hid (fun b hb => Nat.le_trans (Ext.size (by repeat (first | with_reducible exact Ext.refl _ | refine Ext.drew ?_))) (g1 b hb)); clear q1 g1 hx1)
    | (go_at_call 246; (with_reducible refine (clonePair_any (S := S) x.pairs _ _ (H2.out.ext (X.out.trans X1.out)) S3.out).mono ?_); rintro e w2 ⟨u2, G2, rfl, q2, g2, hx2⟩; obtain ⟨p2, k2, rfl, -⟩ := OwS.form q2; have X12 : Hid (Ext w1 w2) := Lib.hid hx2; have X2 : Hid (Ext W w2) := Lib.hid (X1.out.trans hx2); have Q2 := Lib.hid q2; have Z2 : Hid (∀ b ∈ G2, w1.heap.size ≤ b) := Lib.hid g2; clear q2 g2 hx2)
    | (go_at_call 247; (with_reducible refine (cloneQuota_any (S := S) x.quotas _ _ (H3.out.ext (X.out.trans X2.out)) S4.out).mono ?_); rintro e w3 ⟨u3, G3, rfl, q3, g3, hx3⟩; obtain ⟨p3, k3, rfl, -⟩ := OwS.form q3; have X23 : Hid (Ext w2 w3) := Lib.hid hx3; have X3 : Hid (Ext W w3) := Lib.hid (X2.out.trans hx3); have Q3 := Lib.hid q3; have Z3 : Hid (∀ b ∈ G3, w2.heap.size ≤ b) := Lib.hid g3; have R3 := Lib.hid (QR.out.ext X3.out); have rc0 := R3.out.cell 0; have rc1 := R3.out.cell 1; have rc2 := R3.out.cell 2; have rc3 := R3.out.cell 3; have rf := R3.out.frozen; clear q3 g3 hx3))
  all_goals
    clear al
    go_wp2_with fail
    exact bodyPost_ret (v := .agg #[.slice p1 x.nodes.length k1, .slice p2 x.pairs.length k2, .slice p3 x.quotas.length k3, .int .i64 x.half]) (results_blk Tryz.results157 rfl (show Blk _ (B + 1) 39 #[.slice p1 x.nodes.length k1, .slice p2 x.pairs.length k2, .slice p3 x.quotas.length k3, .int .i64 x.half] from by simpa using ((((R3.out.set_ 0 (.slice p1 x.nodes.length k1)).set_ 1 (.slice p2 x.pairs.length k2)).set_ 2 (.slice p3 x.quotas.length k3)).set_ 3 (.int .i64 x.half))) Tryz.underlying39 rfl (by kernel_rfl)) rfl
      ⟨_, G1 ++ (G2 ++ G3), rfl, ⟨_, _, _, G1, G2, G3, rfl, HF.out,
        (Q1.out.ext (X12.out.trans X23.out)).kept (G := [B + 1]) (by repeat (first | with_reducible exact Kept.refl _ _ | refine Kept.setCell ?_ (by simp) _)) (fun b hb hm => by have := Z1.out b hb; have := QR.out.lt; simp at hm; omega),
        (Q2.out.ext X23.out).kept (G := [B + 1]) (by repeat (first | with_reducible exact Kept.refl _ _ | refine Kept.setCell ?_ (by simp) _)) (fun b hb hm => by have := Z2.out b hb; have := QR.out.lt; have := X1.out.size; simp at hm; omega),
        Q3.out.kept (G := [B + 1]) (by repeat (first | with_reducible exact Kept.refl _ _ | refine Kept.setCell ?_ (by simp) _)) (fun b hb hm => by have := Z3.out b hb; have := QR.out.lt; have := X2.out.size; simp at hm; omega),
        rfl, nodup3 Q1.out.nodup Q2.out.nodup Q3.out.nodup Q1.out.lt Z2.out Q2.out.lt Z3.out X12.out.size⟩,
        fun b hb => (by
          simp only [List.mem_append] at hb
          have h1 := X.out.size
          have h2 := X1.out.size
          have h3 := X2.out.size
          rcases hb with hb | hb | hb
          · exact Nat.le_trans h1 (Z1.out b hb)
          · exact Nat.le_trans (Nat.le_trans h1 h2) (Z2.out b hb)
          · exact Nat.le_trans (Nat.le_trans h1 h3) (Z3.out b hb)),
        Kept.ext (X.out.trans X3.out) (F := [B + 1]) (by repeat (first | with_reducible exact Kept.refl _ _ | refine Kept.setCell ?_ (by simp) _)) (fun b hb => by rw [List.mem_singleton.1 hb]; exact HB.out)⟩
end Go.Proofs.YtngldifgcgblpaaGreat
namespace Go.Proofs.YtngldifgcgblpaaGreat
open Go.RowKit
attribute [local irreducible] wpQuiet
set_option maxHeartbeats 8000000 in
set_option maxRecDepth 100000 in
theorem l13CopyConfig_own {S : Nat → Prop} (x : Config) (cs : List Value) (w : World) (h : EConfig.rel S w cs x) (hs : FewC x) :
    Calls Tryz.prog 170 #[.agg cs.toArray] w (RetOS OConfig x w) := by
  obtain ⟨v1, v2, v3, rfl, hf, h1, h2, h3⟩ := h
  obtain ⟨A1, c1, rfl, l1, m1, hk⟩ := h1.open_
  unfold maxLen at m1
  obtain ⟨A2, c2, rfl, -⟩ := h2.form
  obtain ⟨A3, c3, rfl, -⟩ := h3.form
  have HF := Lib.hid hf
  have H2 := Lib.hid h2
  have H3 := Lib.hid h3
  have HK := Lib.hid hk
  obtain ⟨s1, s2, s3, s4⟩ := hs
  have S1 := Lib.hid s1
  have S2 := Lib.hid s2
  have S3 := Lib.hid s3
  have S4 := Lib.hid s4
  clear hf h1 h2 h3 hk s1 s2 s3 s4
  simp only [cellsConfig]
  go_enter Tryz.func170, Tryz.ntmps170
  go_upto_region 2 with (fail)
  obtain ⟨W, B, hW, hB, hx0, a0, r0, o0⟩ := boxes3 w #[.slice A1 x.nodes.length c1, .slice A2 x.pairs.length c2, .slice A3 x.quotas.length c3, .int .i64 x.half] #[.slice none 0 0, .slice none 0 0, .slice none 0 0, .int .i64 0] #[.slice none 0 0, .slice none 0 0, .slice none 0 0, .int .i64 x.half] 39 39 39
  rw [← hW, ← hB]
  have HB : Hid (w.heap.size = B) := Lib.hid hB.symm
  have QA := Lib.hid a0
  have QR := Lib.hid r0
  have QO := Lib.hid o0
  have X := Lib.hid hx0
  clear hW hB hx0 a0 r0 o0
  go_wp2_with fail
  go_loopw [4] (fun i w' => ∃ (k : Nat) (v : Value) (F : List Nat), k ≤ x.nodes.length ∧ i = .int .i64 k ∧ Blk w' (B + 1 + 1) 39 #[v, .slice none 0 0, .slice none 0 0, .int .i64 x.half] ∧ OwS (ORow OLabel 49) 167 w' v (x.nodes.take k) F ∧ (∀ b ∈ F, W.heap.size ≤ b) ∧ Kept [B + 1 + 1] W w') (fun i _ => x.nodes.length - (intOf i).toNat)
  case atStart => exact ⟨0, .slice none 0 0, [], by omega, rfl, QO.out, OwS.nil _, fun b hb => (by cases hb), Kept.refl _ _⟩
  case round =>
    obtain ⟨k, v, F, hk1, rfl, hb3, hown, hF, hkp⟩ := hrel
    have hlen : (x.nodes.take k).length = k := by rw [List.length_take]; omega
    have HL9 : Hid ((x.nodes.take k ++ [nth x.nodes k]).length = k + 1) := Lib.hid (by rw [List.length_append, hlen]; rfl)
    obtain ⟨AV, cV, hv, -⟩ := hown.form
    rw [hlen] at hv
    subst hv
    have HLN := Lib.hid hlen
    clear hlen
    have HO := Lib.hid hown
    have HF' := Lib.hid hF
    have LF := Lib.hid hown.lt
    have QO' := Lib.hid hb3
    have HKp := Lib.hid hkp
    have hne : B ∉ [B + 1 + 1] := by simp; omega
    have QA' : Hid (Blk wr B 39 #[.slice A1 x.nodes.length c1, .slice A2 x.pairs.length c2, .slice A3 x.quotas.length c3, .int .i64 x.half]) := Lib.hid ((hkp.block B QA.out.lt hne).trans QA.out)
    have hB0 : ∀ b, b ∈ [B + 1 + 1] → w.heap.size ≤ b := fun b hb => by rw [List.mem_singleton.1 hb]; have := HB.out; omega
    have XR := Lib.hid (Kept.ext X.out hkp hB0)
    have BF : Hid (B ∉ F) := Lib.hid (fun hb => by have := HF'.out B hb; have := QA.out.lt; omega)
    have OF : Hid (B + 1 + 1 ∉ F) := Lib.hid (fun hb => by have := HF'.out _ hb; have := QO.out.lt; omega)
    clear hown hF hb3 hkp hne hB0
    by_cases hlt : k < x.nodes.length
    · obtain ⟨b, q, cs, rfl, _, ⟨vr, rfl, hr⟩, hc⟩ := HK.out k hlt
      have z0 := Ext.some XR.out (hc 0 _ rfl)
      have hbw : b < w.heap.size := World.block_lt_of_cell? w _ (hc 0 _ rfl)
      simp only [ERow, Nat.mul_one, Nat.add_zero] at z0
      obtain ⟨A9, c9, rfl, -⟩ := hr.form
      have HRD := Lib.hid (hr.ext XR.out)
      have HN := Lib.hid (S2.out k hlt)
      have HT := Lib.hid (take_succ_nth hlt)
      have hbF : b ∉ F ++ [B + 1 + 1] := fun hb => by
        rcases List.mem_append.1 hb with h | h
        · have := HF'.out b h; have := X.out.size; omega
        · have := List.mem_singleton.1 h; have := HB.out; omega
      have hBF : B ∉ F ++ [B + 1 + 1] := fun hb => by
        rcases List.mem_append.1 hb with h | h
        · exact BF.out h
        · have := List.mem_singleton.1 h; omega
      have qa := QA'.out.cell 0
      simp only [List.getElem?_toArray, List.getElem?_cons_zero] at qa
      clear hc hr hbw hbF hBF
      go_wp2_with fail
      have e0 : wr.cell? ⟨B + 1 + 1, 0, none⟩ = some (.slice AV k cV) := QO'.out.cell 0
      have e2 := fun ob : Obj => Ext.some ((Ext.refl wr).alloc ob) e0
      have qa2 := fun ob : Obj => Ext.some ((Ext.refl wr).alloc ob) qa
      have zz2 := fun ob : Obj => Ext.some ((Ext.refl wr).alloc ob) z0
      go_region_law (first
        | (refine step_append_flat (E := ELabel) (T := 49) (hfl := fun h => h) (l := []) (ys := nth x.nodes k) (F := []) (S := S) (by rfl) _ _ 167 (by rfl) (.agg #[.int .i64 0, .int .i64 0]) 2 16 Tryz.underlying167 (by kernel_rfl) rfl rfl (by rfl) (OwS.nil _) (by rfl) (HRD.out.ext (by repeat (first | with_reducible exact (Ext.refl wr) | refine Ext.drew ?_ | refine Ext.alloc ?_ _))) (by have := HN.out; simp only [List.length_nil, maxLen]; omega) (by have := HN.out; simp only [List.length_nil]; omega) ?_; intro u1 w1 G1 q1 hkp1 hf1; have hx1 := hkp1.ext (Ext.refl _) (fun b hb => absurd hb (by simp)); simp only [List.nil_append] at q1; obtain ⟨p1, k1, rfl, -⟩ := OwS.form q1; have X1 : Hid (Ext wr w1) := Lib.hid (Ext.trans (by repeat (first | with_reducible exact (Ext.refl wr) | refine Ext.drew ?_ | refine Ext.alloc ?_ _)) hx1); have Q1 : Hid (OwS OLabel 49 w1 _ (nth x.nodes k) G1) := Lib.hid q1; have Z1 : Hid (∀ b ∈ G1, wr.heap.size ≤ b) := Lib.hid (fun b hb => Or.elim (hf1 b hb) (fun h => absurd h (by simp)) (fun h => Nat.le_trans (Ext.size (by repeat (first | with_reducible exact (Ext.refl wr) | refine Ext.drew ?_ | refine Ext.alloc ?_ _))) h)); have ND : Hid ((F ++ G1).Nodup) := Lib.hid (nodup_two HO.out.nodup (OwS.nodup q1) (fun b h1 h2 => absurd (LF.out b h1) (Nat.not_lt.2 (Z1.out b h2)))); have e3 : w1.cell? ⟨B + 1 + 1, 0, none⟩ = some (.slice AV k cV) := (QO'.out.ext X1.out).cell 0; have e4 := fun ob : Obj => Ext.some ((Ext.refl w1).alloc ob) e3; clear q1 hkp1 hf1 hx1)
        | (refine step_append_one (O := ORow OLabel 49) (T := 167) (l := x.nodes.take k) (F := F) (G := G1) (y := nth x.nodes k) (cs := [.slice p1 (nth x.nodes k).length k1]) (by rfl) _ _ 35 (by rfl) (.slice none 0 0) 1 24 Tryz.underlying35 (by kernel_rfl) rfl rfl (by rfl) (HO.out.ext (by repeat (first | with_reducible exact X1.out | refine Ext.drew ?_ | refine Ext.alloc ?_ _))) _ 0 1 (by rfl) ⟨.slice p1 (nth x.nodes k).length k1, rfl, Q1.out.ext (by repeat (first | with_reducible exact (Ext.refl w1) | refine Ext.drew ?_ | refine Ext.alloc ?_ _))⟩ (Blk.new _ _ _).range ND.out (by rw [HLN.out]; have := S1.out; omega) (by decide) ?_; intro v' w9 F' how hkp hF'; obtain ⟨p9, k9, hv9, -⟩ := OwS.form how; rw [HL9.out] at hv9; subst hv9; have HOW := Lib.hid how; have HKP := Lib.hid hkp; have HFF := Lib.hid hF'; have R9 : Hid (Blk w9 (B + 1 + 1) 39 #[.slice AV k cV, .slice none 0 0, .slice none 0 0, .int .i64 x.half]) := Lib.hid ((hkp.block (B + 1 + 1) (Blk.ext QO'.out (X1.out.alloc _)).lt OF.out).trans (Blk.ext QO'.out (X1.out.alloc _))); have rc := R9.out.cell 0; have rf := R9.out.frozen 0; clear how hkp hF'))
      all_goals
        clear e0 e2 qa qa2 z0 zz2
        go_wp2_with fail
        go_roundw
        case measure => simp [intOf]; omega
        case rel =>
          have hge : ∀ b ∈ F', W.heap.size ≤ b := fun b hb => match HFF.out b hb with | .inl h => HF'.out b h | .inr (.inl h) => Nat.le_trans HKp.out.size (Z1.out b h) | .inr (.inr h) => Nat.le_trans (Nat.le_trans HKp.out.size X1.out.size) (Nat.le_trans ((Ext.refl w1).alloc _).size h)
          refine ⟨k + 1, .slice p9 (k + 1) k9, F', by omega, by go_num, ?_, ?_, hge, ?_⟩
          · have h := R9.out.set_ 0 (.slice p9 (k + 1) k9)
            simpa using h
          · rw [HT.out]
            exact HOW.out.kept (G := [B + 1 + 1]) (Kept.setCell (Kept.refl _ _) (by simp) _) (fun b hb hm => by have := hge b hb; have := QO.out.lt; have := List.mem_singleton.1 hm; omega)
          · refine Kept.sub (F := F ++ [B + 1 + 1]) (((HKp.out.sub (G := F ++ [B + 1 + 1]) (fun b _ hm => List.mem_append_right _ hm)).trans (Kept.of_ext (X1.out.alloc _))).trans (HKP.out.sub (G := F ++ [B + 1 + 1]) (fun b _ hm => List.mem_append_left _ hm)) |>.setCell (by simp) _) (fun b hb hm => ?_)
            rcases List.mem_append.1 hm with h | h
            · have := HF'.out b h; omega
            · exact h
    · obtain rfl : k = x.nodes.length := by omega
      have HOE : Hid (OwS (ORow OLabel 49) 167 wr (.slice AV x.nodes.length cV) x.nodes F) := Lib.hid (by have h := HO.out; rwa [List.take_length] at h)
      have qa1 : wr.cell? ⟨B, 1, none⟩ = some (.slice A2 x.pairs.length c2) := QA'.out.cell 1
      have qa0 : wr.cell? ⟨B, 0, none⟩ = some (.slice A1 x.nodes.length c1) := QA'.out.cell 0
      have e1 : wr.cell? ⟨B + 1 + 1, 1, none⟩ = some (.slice none 0 0) := QO'.out.cell 1
      have HKR := Lib.hid (HKp.out)
      go_upto_region 7 with (at_builtin; go_loud (refine wpList_append_flat (E := EPair) (T := 214) (hfl := fun h => h) (l := []) (ys := x.pairs) (F := []) (S := S) rfl _ _ 36 rfl (.agg #[.int .i64 0, .int .i64 0, .int .i64 0, .int .i64 0, .int .i64 0]) 5 40 Tryz.underlying36 (by kernel_rfl) rfl rfl rfl (OwS.nil _) rfl (H2.out.ext XR.out) (by have := S3.out; simp only [List.length_nil, maxLen]; omega) (by have := S3.out; simp only [List.length_nil]; omega) ?_; intro u2 w2 G2 q2 hkp2 hf2; have hx2 := hkp2.ext (Ext.refl _) (fun b hb => absurd hb (by simp)); simp only [List.nil_append] at q2; obtain ⟨p2, k2, rfl, -⟩ := OwS.form q2; have X2 := Lib.hid hx2; have Q2 : Hid (OwS OPair 214 w2 _ x.pairs G2) := Lib.hid q2; have Z2 : Hid (∀ b ∈ G2, wr.heap.size ≤ b) := Lib.hid (fun b hb => Or.elim (hf2 b hb) (fun h => absurd h (by simp)) (fun h => h)); have R2 := Lib.hid (QO'.out.ext hx2); clear q2 hkp2 hf2 hx2 qa0 qa1 e1; have rc := R2.out.cell 1; have rf := R2.out.frozen 1))
      clear rc rf
      obtain ⟨W2, hW2, r2, k2w⟩ : ∃ V, V = w2.setCell ⟨B + 1 + 1, 1, none⟩ (.slice p2 x.pairs.length k2) ∧ Blk V (B + 1 + 1) 39 #[.slice AV x.nodes.length cV, .slice p2 x.pairs.length k2, .slice none 0 0, .int .i64 x.half] ∧ Kept [B + 1 + 1] w2 V := ⟨_, rfl, by simpa using R2.out.set_ 1 (.slice p2 x.pairs.length k2), (Kept.refl _ _).setCell (by simp) _⟩
      rw [← hW2]
      have RW2 := Lib.hid r2
      have KW2 : Hid (Kept [B + 1 + 1] wr W2) := Lib.hid ((Kept.of_ext X2.out).trans k2w)
      have K22 := Lib.hid k2w
      have QA2 : Hid (Blk W2 B 39 _) := Lib.hid ((KW2.out.block B QA'.out.lt (by simp; omega)).trans QA'.out)
      have hB0 : ∀ b, b ∈ [B + 1 + 1] → w.heap.size ≤ b := fun b hb => by rw [List.mem_singleton.1 hb]; have := HB.out; omega
      have XW2 := Lib.hid (Kept.ext XR.out KW2.out hB0)
      clear hW2 r2 k2w
      have qa2 : W2.cell? ⟨B, 2, none⟩ = some (.slice A3 x.quotas.length c3) := QA2.out.cell 2
      have e2 : W2.cell? ⟨B + 1 + 1, 2, none⟩ = some (.slice none 0 0) := RW2.out.cell 2
      go_upto_region 8 with (at_builtin; go_loud (refine wpList_append_flat (E := EQuota) (T := 205) (hfl := fun h => h) (l := []) (ys := x.quotas) (F := []) (S := S) rfl _ _ 37 rfl (.agg #[.int .i64 0, .int .i64 0, .int .i64 0]) 3 24 Tryz.underlying37 (by kernel_rfl) rfl rfl rfl (OwS.nil _) rfl (H3.out.ext XW2.out) (by have := S4.out; simp only [List.length_nil, maxLen]; omega) (by have := S4.out; simp only [List.length_nil]; omega) ?_; intro u3 w3 G3 q3 hkp3 hf3; have hx3 := hkp3.ext (Ext.refl _) (fun b hb => absurd hb (by simp)); simp only [List.nil_append] at q3; obtain ⟨p3, k3, rfl, -⟩ := OwS.form q3; have X3 := Lib.hid hx3; have Q3 : Hid (OwS OQuota 205 w3 _ x.quotas G3) := Lib.hid q3; have Z3 : Hid (∀ b ∈ G3, W2.heap.size ≤ b) := Lib.hid (fun b hb => Or.elim (hf3 b hb) (fun h => absurd h (by simp)) (fun h => h)); have R3 := Lib.hid (RW2.out.ext hx3); clear q3 hkp3 hf3 hx3 qa2 e2; have rc := R3.out.cell 2; have rf := R3.out.frozen 2))
      clear rc rf
      obtain ⟨W3, hW3, r3, k3w⟩ : ∃ V, V = w3.setCell ⟨B + 1 + 1, 2, none⟩ (.slice p3 x.quotas.length k3) ∧ Blk V (B + 1 + 1) 39 #[.slice AV x.nodes.length cV, .slice p2 x.pairs.length k2, .slice p3 x.quotas.length k3, .int .i64 x.half] ∧ Kept [B + 1 + 1] w3 V := ⟨_, rfl, by simpa using R3.out.set_ 2 (.slice p3 x.quotas.length k3), (Kept.refl _ _).setCell (by simp) _⟩
      rw [← hW3]
      have RW3 := Lib.hid r3
      have K33 := Lib.hid k3w
      have KW3 : Hid (Kept [B + 1 + 1] W W3) := Lib.hid (HKp.out.trans (KW2.out.trans ((Kept.of_ext X3.out).trans k3w)))
      have RR3 : Hid (Blk W3 (B + 1) 39 _) := Lib.hid ((KW3.out.block (B + 1) QR.out.lt (by simp)).trans QR.out)
      clear hW3 r3 k3w
      have rc := RW3.out.cell
      go_wp2_with (refine wpList_store_mid rfl 39 _ _ rfl (B + 1) 0 #[.slice AV x.nodes.length cV, .slice p2 x.pairs.length k2, .slice p3 x.quotas.length k3, .int .i64 x.half] rfl rfl (Blk.there (t := 39) (cs := #[.slice none 0 0, .slice none 0 0, .slice none 0 0, .int .i64 0]) RR3.out) (by kernel_rfl) (all_oneCell_toArray (cs := [.slice AV x.nodes.length cV, .slice p2 x.pairs.length k2, .slice p3 x.quotas.length k3, .int .i64 x.half]) (by simp [Value.oneCell'])) ?_)
      have hF1 : ∀ b ∈ F, b < wr.heap.size := LF.out
      have sz2 := KW2.out.size
      have szW := HKp.out.size
      have szo := QO.out.lt
      exact bodyPost_ret (v := .agg #[.slice AV x.nodes.length cV, .slice p2 x.pairs.length k2, .slice p3 x.quotas.length k3, .int .i64 x.half]) (results_blk Tryz.results170 rfl (Blk.setAll (t := 39) (cs := #[.slice none 0 0, .slice none 0 0, .slice none 0 0, .int .i64 0]) (vs := #[.slice AV x.nodes.length cV, .slice p2 x.pairs.length k2, .slice p3 x.quotas.length k3, .int .i64 x.half]) RR3.out rfl) Tryz.underlying39 rfl (by kernel_rfl)) rfl
        ⟨_, F ++ (G2 ++ G3), rfl, ⟨_, _, _, F, G2, G3, rfl, HF.out,
          (HOE.out.kept (G := [B + 1 + 1]) (KW2.out.trans ((Kept.of_ext X3.out).trans K33.out)) (fun b hb hm => OF.out (by rw [List.mem_singleton.1 hm] at hb; exact hb))).kept (G := [B + 1]) (Kept.setCells (by simp) _ _ _ (Kept.refl _ _)) (fun b hb hm => by have := HF'.out b hb; have := List.mem_singleton.1 hm; omega),
          (Q2.out.kept (G := [B + 1 + 1]) (K22.out.trans ((Kept.of_ext X3.out).trans K33.out)) (fun b hb hm => by have := Z2.out b hb; have := List.mem_singleton.1 hm; omega)).kept (G := [B + 1]) (Kept.setCells (by simp) _ _ _ (Kept.refl _ _)) (fun b hb hm => by have := Z2.out b hb; have := List.mem_singleton.1 hm; omega),
          (Q3.out.kept (G := [B + 1 + 1]) K33.out (fun b hb hm => by have := Z3.out b hb; have := List.mem_singleton.1 hm; omega)).kept (G := [B + 1]) (Kept.setCells (by simp) _ _ _ (Kept.refl _ _)) (fun b hb hm => by have := Z3.out b hb; have := List.mem_singleton.1 hm; omega),
          rfl, nodup3 HOE.out.nodup Q2.out.nodup Q3.out.nodup hF1 Z2.out (fun b hb => Nat.lt_of_lt_of_le (Q2.out.lt b hb) K22.out.size) Z3.out sz2⟩,
          fun b hb => (by
            simp only [List.mem_append] at hb
            have h1 := X.out.size
            rcases hb with hb | hb | hb
            · exact Nat.le_trans h1 (HF'.out b hb)
            · have := Z2.out b hb; omega
            · have := Z3.out b hb; omega),
          setCells_ext (by have := HB.out; omega) _ _ _ (Kept.ext X.out KW3.out hB0)⟩
end Go.Proofs.YtngldifgcgblpaaGreat
namespace Go.Proofs.YtngldifgcgblpaaGreat
open Go.RowKit
attribute [local irreducible] wpQuiet
/-- A yard that is small enough to be copied. -/
def FewY (y : Yard) : Prop := FewC y.config ∧ y.nodes.length ≤ 1000000 ∧ (∀ k, k < y.nodes.length → (nth y.nodes k).books.length ≤ 1000000000) ∧ y.tasks.length ≤ 1000000 ∧ (∀ k, k < y.tasks.length → (nth y.tasks k).nodes.length ≤ 1000000000) ∧ y.uses.length ≤ 1000000000
/-- Rows of blocks, each made behind the one before: no block twice. -/
theorem nodup_rows {G F4 F5 F6 : List Nat} {a b c : Nat} (hG : G.Nodup) (h4 : F4.Nodup) (h5 : F5.Nodup) (h6 : F6.Nodup) (lG : ∀ x ∈ G, x < a) (g4 : ∀ x ∈ F4, a ≤ x) (l4 : ∀ x ∈ F4, x < b) (g5 : ∀ x ∈ F5, b ≤ x) (l5 : ∀ x ∈ F5, x < c) (g6 : ∀ x ∈ F6, c ≤ x) (hab : a ≤ b) (hbc : b ≤ c) : (G ++ (F4 ++ (F5 ++ F6))).Nodup := by
  refine nodup_two hG (nodup_two h4 (nodup_two h5 h6 fun x hx hy => ?_) fun x hx hy => ?_) fun x hx hy => ?_
  · have := l5 x hx; have := g6 x hy; omega
  · rcases List.mem_append.1 hy with hy | hy
    · have := l4 x hx; have := g5 x hy; omega
    · have := l4 x hx; have := g6 x hy; omega
  · simp only [List.mem_append] at hy
    have := lG x hx
    rcases hy with hy | hy | hy
    · have := g4 x hy; omega
    · have := g5 x hy; omega
    · have := g6 x hy; omega
set_option maxHeartbeats 4000000 in
set_option maxRecDepth 100000 in
theorem l12Copies_any {S : Nat → Prop} (l : List Task) (v : Value) (w : World) (h : Rd ETask S w v l) (hl : l.length ≤ 1000000) (hs : ∀ k, k < l.length → (nth l k).nodes.length ≤ 1000000000) :
    Calls Tryz.prog 171 #[v] w (RetO OTask 87 l w) := by
  obtain ⟨A, c, rfl, h1, h2, hk⟩ := h.open_
  unfold maxLen at h2
  have HK := Lib.hid hk
  have HS := Lib.hid hs
  clear hk h hs
  go_enter Tryz.func171, Tryz.ntmps171
  go_wp2_with fail
  obtain ⟨W, B, hW, hB, hx0, b0⟩ : ∃ W B, W = w.alloc (.cells #[] 87) ∧ B = w.heap.size ∧ Ext w W ∧ Blk W B 87 #[] := ⟨_, _, rfl, rfl, (Ext.refl w).alloc _, Blk.new _ _ _⟩
  rw [← hW, ← hB]
  have HB : Hid (w.heap.size ≤ B) := Lib.hid (by omega)
  have B0 := Lib.hid b0
  have X0 := Lib.hid hx0
  clear hW hB hx0 b0
  go_loopw [3, 4] (fun v i w' => ∃ (k : Nat) (F : List Nat), k ≤ l.length ∧ i = .int .i64 k ∧ OwS OTask 87 w' v (l.take k) F ∧ (∀ b ∈ F, w.heap.size ≤ b) ∧ Ext w w') (fun _ i _ => l.length - (intOf i).toNat)
  case atStart => exact ⟨0, [B], by omega, rfl, .inr ⟨B, 0, #[], [], rfl, B0.out, Nat.le_refl _, Nat.zero_le _, rfl, rfl, rfl, by simp, fun k hk => absurd hk (Nat.not_lt_zero _)⟩, fun b hb => by rw [List.mem_singleton.1 hb]; exact HB.out, X0.out⟩
  case round =>
    obtain ⟨k, F, hk1, rfl, hown, hF, hx⟩ := hrel
    have HO := Lib.hid hown
    have HF := Lib.hid hF
    have HX := Lib.hid hx
    have LF := Lib.hid hown.lt
    clear hown hF
    by_cases hlt : k < l.length
    · obtain ⟨b, q, cs, rfl, _, ⟨v1, rfl, hfit, hrd⟩, hc⟩ := HK.out k hlt
      obtain ⟨A1, c1, rfl, -⟩ := hrd.form
      have c0 := Ext.some hx (hc 0 _ rfl)
      have c1 := Ext.some hx (hc 1 _ rfl)
      have c2 := Ext.some hx (hc 2 _ rfl)
      have c3 := Ext.some hx (hc 3 _ rfl)
      have c4 := Ext.some hx (hc 4 _ rfl)
      have c5 := Ext.some hx (hc 5 _ rfl)
      have c6 := Ext.some hx (hc 6 _ rfl)
      have c7 := Ext.some hx (hc 7 _ rfl)
      have c8 := Ext.some hx (hc 8 _ rfl)
      have c9 := Ext.some hx (hc 9 _ rfl)
      have c10 := Ext.some hx (hc 10 _ rfl)
      have c11 := Ext.some hx (hc 11 _ rfl)
      have c12 := Ext.some hx (hc 12 _ rfl)
      have c13 := Ext.some hx (hc 13 _ rfl)
      simp only [ETask, Nat.add_zero] at c0 c1 c2 c3 c4 c5 c6 c7 c8 c9 c10 c11 c12 c13
      have HFit := Lib.hid hfit
      have HRD := Lib.hid (hrd.ext hx)
      have HN := Lib.hid (HS.out k hlt)
      have HT := Lib.hid (take_succ_nth hlt)
      clear hc hfit hx hrd
      go_wp2_with (first
        | (go_at_call 123; go_loud ((with_reducible refine (l12Copy_own (S := S) (nth l k) _ _ (rel_Task HFit.out HRD.out) HN.out).mono ?_); rintro e w1 ⟨cs1, G1, rfl, ⟨u1, rfl, f1, q1⟩, g1, hx1⟩; obtain ⟨p1, k1, rfl, -⟩ := q1.form; have Q1 := Lib.hid q1; have X1 := Lib.hid hx1; have Z1 : Hid (∀ b ∈ G1, wr.heap.size ≤ b) := Lib.hid g1; clear f1 q1 g1 hx1; simp only [cellsTask]))
        | (at_builtin; refine wpList_append_one (O := OTask) (T := 87) (l := l.take k) (F := F) (G := G1) (y := nth l k) (cs := cellsTask (nth l k) (.slice p1 (nth l k).nodes.length k1)) rfl _ _ 41 rfl (.agg #[.int .i64 0, .int .i64 0, .int .i64 0, .string ⟨#[]⟩, .int .i64 0, .int .i64 0, .int .i64 0, .int .i64 0, .int .i64 0, .int .i64 0, .int .i64 0, .int .i64 0, .int .i64 0, .slice none 0 0]) 14 136 Tryz.underlying41 (by kernel_rfl) rfl rfl rfl ?ow _ 0 1 rfl ?own ?rng ?nd ?len (by decide) ?_; rotate_right; intro v' w2 F' how hkp hF'; have HOW := Lib.hid how; have HKP := Lib.hid hkp; have HFF := Lib.hid hF'; clear how hkp hF'))
      case ow => exact HO.out.ext (X1.out.alloc _)
      case own => exact ⟨_, rfl, HFit.out, Q1.out.ext ((Ext.refl _).alloc _)⟩
      case rng =>
        have h := (Blk.new w1 87 (cellsTask (nth l k) (.slice p1 (nth l k).nodes.length k1)).toArray).range
        simpa [cellsTask] using h
      case nd => exact nodup_two HO.out.nodup Q1.out.nodup (fun b h1 h2 => by have a := LF.out b h1; have c := Z1.out b h2; omega)
      case len => rw [List.length_take]; omega
      refine ⟨⟨k + 1, F', by omega, by go_num, by rw [HT.out]; exact HOW.out, fun b hb => ?_, HKP.out.ext ((HX.out.trans X1.out).alloc _) HF.out⟩, by simp [intOf]; omega⟩
      rcases HFF.out b hb with h | h | h
      · exact HF.out b h
      · exact Nat.le_trans HX.out.size (Z1.out b h)
      · exact Nat.le_trans ((HX.out.trans X1.out).alloc _).size h
    · obtain rfl : k = l.length := by omega
      go_wp2_with fail
      go_ret
      exact ⟨_, F, rfl, by have h := HO.out; rw [List.take_length] at h; exact h, HF.out, HX.out⟩
-- printed by wip/yardcp.py
set_option maxHeartbeats 16000000 in
set_option maxRecDepth 100000 in
theorem copyYard_own {S : Nat → Prop} (y : Yard) (cs : List Value) (w : World) (h : EYard.rel S w cs y) (hs : FewY y) :
    Calls Tryz.prog 80 #[.agg cs.toArray] w (RetOS OYard y w) := by
  obtain ⟨v1, v2, v3, v4, v5, v6, rfl, hf, h1, h2, h3, h4, h5, h6⟩ := h
  obtain ⟨A1, c1, rfl, -⟩ := h1.form
  obtain ⟨A2, c2, rfl, -⟩ := h2.form
  obtain ⟨A3, c3, rfl, -⟩ := h3.form
  obtain ⟨A4, c4, rfl, -⟩ := h4.form
  obtain ⟨A5, c5, rfl, -⟩ := h5.form
  obtain ⟨A6, c6, rfl, -⟩ := h6.form
  obtain ⟨s0, s1, s2, s3, s4, s5⟩ := hs
  have S0 := Lib.hid s0
  have S1 := Lib.hid s1
  have S2 := Lib.hid s2
  have S3 := Lib.hid s3
  have S4 := Lib.hid s4
  have S5 := Lib.hid s5
  have HF := Lib.hid hf
  have HFC : Hid (FitConfig y.config) := Lib.hid hf.1
  have H1 := Lib.hid h1
  have H2 := Lib.hid h2
  have H3 := Lib.hid h3
  have H4 := Lib.hid h4
  have H5 := Lib.hid h5
  have H6 := Lib.hid h6
  clear hf h1 h2 h3 h4 h5 h6 s0 s1 s2 s3 s4 s5
  simp only [cellsYard]
  go_enter Tryz.func80, Tryz.ntmps80
  go_upto_region 1 with (fail)
  obtain ⟨W, B, hW, hB, hx0, a0, r0⟩ := boxes2 w #[.slice A1 y.config.nodes.length c1, .slice A2 y.config.pairs.length c2, .slice A3 y.config.quotas.length c3, .int .i64 y.config.half, .slice A4 y.nodes.length c4, .slice A5 y.tasks.length c5, .slice A6 y.uses.length c6, .int .i64 y.now] #[.slice none 0 0, .slice none 0 0, .slice none 0 0, .int .i64 0, .slice none 0 0, .slice none 0 0, .slice none 0 0, .int .i64 0] 44 44
  rw [← hW, ← hB]
  have HB : Hid (w.heap.size ≤ B + 1) := Lib.hid (by omega)
  have QA := Lib.hid a0
  have QR := Lib.hid r0
  have X := Lib.hid hx0
  clear hW hB hx0 a0 r0
  have hne : B ∉ [B + 1] := by simp
  have al : ∀ V, Kept [B + 1] W V → ∀ i, V.cell? ⟨B, i, none⟩ = _ := fun V hV => Blk.cell (t := 44) (cs := #[.slice A1 y.config.nodes.length c1, .slice A2 y.config.pairs.length c2, .slice A3 y.config.quotas.length c3, .int .i64 y.config.half, .slice A4 y.nodes.length c4, .slice A5 y.tasks.length c5, .slice A6 y.uses.length c6, .int .i64 y.now]) ((hV.block B QA.out.lt hne).trans QA.out)
  clear hne
  go_region_held3 (fun V => Kept [B + 1] W V) (with_reducible (first | exact Kept.refl _ _ | assumption | exact Kept.of_ext X1.out | exact Kept.of_ext X2.out | exact Kept.of_ext X3.out | exact Kept.of_ext X4.out | ((repeat (first | exact Kept.of_ext X4.out | refine Kept.setCell ?_ (by simp) _)); done) | exact Kept.trans (by assumption) (Kept.of_ext ((Ext.refl _).alloc _)) | exact Kept.of_ext (Ext.refl _).drew)) (first
    | (go_at_call 157; (with_reducible refine (copyConfig_own (S := S) y.config _ _ (rel_Config HFC.out (H1.out.ext (X.out.trans (by repeat (first | with_reducible exact Ext.refl _ | refine Ext.drew ?_ | refine Ext.alloc ?_ _)))) (H2.out.ext (X.out.trans (by repeat (first | with_reducible exact Ext.refl _ | refine Ext.drew ?_ | refine Ext.alloc ?_ _)))) (H3.out.ext (X.out.trans (by repeat (first | with_reducible exact Ext.refl _ | refine Ext.drew ?_ | refine Ext.alloc ?_ _))))) S0.out).mono ?_); rintro e w1 ⟨cs8, G8, rfl, ⟨u1, u2, u3, G1, G2, G3, rfl, hf8, o1, o2, o3, hG, hn⟩, g8, hx1⟩; obtain ⟨p1, k1, rfl, -⟩ := OwS.form o1; obtain ⟨p2, k2, rfl, -⟩ := OwS.form o2; obtain ⟨p3, k3, rfl, -⟩ := OwS.form o3; have X1 : Hid (Ext W w1) := Lib.hid (Ext.trans (by repeat (first | with_reducible exact Ext.refl _ | refine Ext.drew ?_ | refine Ext.alloc ?_ _)) hx1); have O1 := Lib.hid o1; have O2 := Lib.hid o2; have O3 := Lib.hid o3; have HG := Lib.hid hG; have HN := Lib.hid hn; have Z1 : Hid (∀ b ∈ G8, W.heap.size ≤ b) := Lib.hid (fun b hb => Nat.le_trans (Ext.size (by repeat (first | with_reducible exact Ext.refl _ | refine Ext.drew ?_ | refine Ext.alloc ?_ _))) (g8 b hb)); clear hf8 o1 o2 o3 hG hn g8 hx1; simp only [cellsConfig])
    | (go_at_call 158; (with_reducible refine (copyNodes_any (S := S) y.nodes _ _ (H4.out.ext (X.out.trans (by repeat (first | with_reducible exact X1.out | refine Ext.drew ?_ | refine Ext.alloc ?_ _)))) S1.out S2.out).mono ?_); rintro e w2 ⟨u4, G4, rfl, o4, g4, hx2⟩; obtain ⟨p4, k4, rfl, -⟩ := OwS.form o4; have XX2 : Hid (Ext w1 w2) := Lib.hid (Ext.trans (by repeat (first | with_reducible exact Ext.refl _ | refine Ext.drew ?_ | refine Ext.alloc ?_ _)) hx2); have X2 : Hid (Ext W w2) := Lib.hid (Ext.trans X1.out XX2.out); have O4 := Lib.hid o4; have Z4 : Hid (∀ b ∈ G4, w1.heap.size ≤ b) := Lib.hid (fun b hb => Nat.le_trans (Ext.size (by repeat (first | with_reducible exact Ext.refl _ | refine Ext.drew ?_ | refine Ext.alloc ?_ _))) (g4 b hb)); clear o4 g4 hx2)
    | (go_at_call 159; (with_reducible refine (copyTasks_any (S := S) y.tasks _ _ (H5.out.ext (X.out.trans (by repeat (first | with_reducible exact X2.out | refine Ext.drew ?_ | refine Ext.alloc ?_ _)))) S3.out S4.out).mono ?_); rintro e w3 ⟨u5, G5, rfl, o5, g5, hx3⟩; obtain ⟨p5, k5, rfl, -⟩ := OwS.form o5; have XX3 : Hid (Ext w2 w3) := Lib.hid (Ext.trans (by repeat (first | with_reducible exact Ext.refl _ | refine Ext.drew ?_ | refine Ext.alloc ?_ _)) hx3); have X3 : Hid (Ext W w3) := Lib.hid (Ext.trans X2.out XX3.out); have O5 := Lib.hid o5; have Z5 : Hid (∀ b ∈ G5, w2.heap.size ≤ b) := Lib.hid (fun b hb => Nat.le_trans (Ext.size (by repeat (first | with_reducible exact Ext.refl _ | refine Ext.drew ?_ | refine Ext.alloc ?_ _))) (g5 b hb)); clear o5 g5 hx3)
    | (go_at_call 160; (with_reducible refine (cloneUse_any (S := S) y.uses _ _ (H6.out.ext (X.out.trans (by repeat (first | with_reducible exact X3.out | refine Ext.drew ?_ | refine Ext.alloc ?_ _)))) S5.out).mono ?_); rintro e w4 ⟨u6, G6, rfl, o6, g6, hx4⟩; obtain ⟨p6, k6, rfl, -⟩ := OwS.form o6; have XX4 : Hid (Ext w3 w4) := Lib.hid (Ext.trans (by repeat (first | with_reducible exact Ext.refl _ | refine Ext.drew ?_ | refine Ext.alloc ?_ _)) hx4); have X4 : Hid (Ext W w4) := Lib.hid (Ext.trans X3.out XX4.out); have O6 := Lib.hid o6; have Z6 : Hid (∀ b ∈ G6, w3.heap.size ≤ b) := Lib.hid (fun b hb => Nat.le_trans (Ext.size (by repeat (first | with_reducible exact Ext.refl _ | refine Ext.drew ?_ | refine Ext.alloc ?_ _))) (g6 b hb)); clear o6 g6 hx4; have R9 := Lib.hid (QR.out.ext X4.out); have rc0 := R9.out.cell 0; have rc1 := R9.out.cell 1; have rc2 := R9.out.cell 2; have rc3 := R9.out.cell 3; have rc4 := R9.out.cell 4; have rc5 := R9.out.cell 5; have rc6 := R9.out.cell 6; have rc7 := R9.out.cell 7; have rf := R9.out.frozen))
  all_goals
    clear al
    go_wp2_with fail
    have hl : ∀ b ∈ G1 ++ (G2 ++ G3), b < w1.heap.size := fun b hb => (by
      simp only [List.mem_append] at hb
      rcases hb with hb | hb | hb
      · exact O1.out.lt b hb
      · exact O2.out.lt b hb
      · exact O3.out.lt b hb)
    have hz : ∀ b ∈ G1 ++ (G2 ++ G3), W.heap.size ≤ b := fun b hb => Z1.out b (by rw [HG.out]; exact hb)
    have hr := QR.out.lt
    have z1 := X1.out.size
    have z2 := X2.out.size
    have z3 := X3.out.size
    have y2 := XX2.out.size
    have y3 := XX3.out.size
    have hnd := nodup_rows (G := G1 ++ (G2 ++ G3)) (by rw [← HG.out]; exact HN.out) O4.out.nodup O5.out.nodup O6.out.nodup hl Z4.out O4.out.lt Z5.out O5.out.lt Z6.out y2 y3
    simp only [List.append_assoc] at hnd
    exact bodyPost_ret (v := .agg #[.slice p1 y.config.nodes.length k1, .slice p2 y.config.pairs.length k2, .slice p3 y.config.quotas.length k3, .int .i64 y.config.half, .slice p4 y.nodes.length k4, .slice p5 y.tasks.length k5, .slice p6 y.uses.length k6, .int .i64 y.now]) (results_blk Tryz.results80 rfl (show Blk _ (B + 1) 44 #[.slice p1 y.config.nodes.length k1, .slice p2 y.config.pairs.length k2, .slice p3 y.config.quotas.length k3, .int .i64 y.config.half, .slice p4 y.nodes.length k4, .slice p5 y.tasks.length k5, .slice p6 y.uses.length k6, .int .i64 y.now] from by simpa using ((((((((R9.out.set_ 0 (.slice p1 y.config.nodes.length k1)).set_ 1 (.slice p2 y.config.pairs.length k2)).set_ 2 (.slice p3 y.config.quotas.length k3)).set_ 3 (.int .i64 y.config.half)).set_ 4 (.slice p4 y.nodes.length k4)).set_ 5 (.slice p5 y.tasks.length k5)).set_ 6 (.slice p6 y.uses.length k6)).set_ 7 (.int .i64 y.now))) Tryz.underlying44 rfl (by kernel_rfl)) rfl
      ⟨_, G1 ++ (G2 ++ (G3 ++ (G4 ++ (G5 ++ G6)))), rfl, ⟨_, _, _, _, _, _, G1, G2, G3, G4, G5, G6, rfl, HF.out,
          (O1.out.ext (XX2.out.trans (XX3.out.trans XX4.out))).kept (G := [B + 1]) (by repeat (first | with_reducible exact Kept.refl _ _ | refine Kept.setCell ?_ (by simp) _)) (fun b hb hm => by have := hz b (by simp [hb]); have := List.mem_singleton.1 hm; omega),
          (O2.out.ext (XX2.out.trans (XX3.out.trans XX4.out))).kept (G := [B + 1]) (by repeat (first | with_reducible exact Kept.refl _ _ | refine Kept.setCell ?_ (by simp) _)) (fun b hb hm => by have := hz b (by simp [hb]); have := List.mem_singleton.1 hm; omega),
          (O3.out.ext (XX2.out.trans (XX3.out.trans XX4.out))).kept (G := [B + 1]) (by repeat (first | with_reducible exact Kept.refl _ _ | refine Kept.setCell ?_ (by simp) _)) (fun b hb hm => by have := hz b (by simp [hb]); have := List.mem_singleton.1 hm; omega),
          (O4.out.ext (XX3.out.trans XX4.out)).kept (G := [B + 1]) (by repeat (first | with_reducible exact Kept.refl _ _ | refine Kept.setCell ?_ (by simp) _)) (fun b hb hm => by have := Z4.out b hb; have := List.mem_singleton.1 hm; omega),
          (O5.out.ext XX4.out).kept (G := [B + 1]) (by repeat (first | with_reducible exact Kept.refl _ _ | refine Kept.setCell ?_ (by simp) _)) (fun b hb hm => by have := Z5.out b hb; have := List.mem_singleton.1 hm; omega),
          O6.out.kept (G := [B + 1]) (by repeat (first | with_reducible exact Kept.refl _ _ | refine Kept.setCell ?_ (by simp) _)) (fun b hb hm => by have := Z6.out b hb; have := List.mem_singleton.1 hm; omega),
          rfl, hnd⟩,
        fun b hb => (by
          have h1 := X.out.size
          simp only [List.mem_append] at hb
          rcases hb with hb | hb | hb | hb | hb | hb
          · exact Nat.le_trans h1 (hz b (by simp [hb]))
          · exact Nat.le_trans h1 (hz b (by simp [hb]))
          · exact Nat.le_trans h1 (hz b (by simp [hb]))
          · have := Z4.out b hb; omega
          · have := Z5.out b hb; omega
          · have := Z6.out b hb; omega),
        Kept.ext (X.out.trans X4.out) (F := [B + 1]) (by repeat (first | with_reducible exact Kept.refl _ _ | refine Kept.setCell ?_ (by simp) _)) (fun b hb => by rw [List.mem_singleton.1 hb]; exact HB.out)⟩
set_option maxHeartbeats 16000000 in
set_option maxRecDepth 100000 in
theorem l13Copy_own {S : Nat → Prop} (y : Yard) (cs : List Value) (w : World) (h : EYard.rel S w cs y) (hs : FewY y) :
    Calls Tryz.prog 84 #[.agg cs.toArray] w (RetOS OYard y w) := by
  obtain ⟨v1, v2, v3, v4, v5, v6, rfl, hf, h1, h2, h3, h4, h5, h6⟩ := h
  obtain ⟨A1, c1, rfl, -⟩ := h1.form
  obtain ⟨A2, c2, rfl, -⟩ := h2.form
  obtain ⟨A3, c3, rfl, -⟩ := h3.form
  obtain ⟨A4, c4, rfl, -⟩ := h4.form
  obtain ⟨A5, c5, rfl, -⟩ := h5.form
  obtain ⟨A6, c6, rfl, -⟩ := h6.form
  obtain ⟨s0, s1, s2, s3, s4, s5⟩ := hs
  have S0 := Lib.hid s0
  have S1 := Lib.hid s1
  have S2 := Lib.hid s2
  have S3 := Lib.hid s3
  have S4 := Lib.hid s4
  have S5 := Lib.hid s5
  have HF := Lib.hid hf
  have HFC : Hid (FitConfig y.config) := Lib.hid hf.1
  have H1 := Lib.hid h1
  have H2 := Lib.hid h2
  have H3 := Lib.hid h3
  have H4 := Lib.hid h4
  have H5 := Lib.hid h5
  have H6 := Lib.hid h6
  clear hf h1 h2 h3 h4 h5 h6 s0 s1 s2 s3 s4 s5
  simp only [cellsYard]
  go_enter Tryz.func84, Tryz.ntmps84
  go_upto_region 1 with (fail)
  obtain ⟨W, B, hW, hB, hx0, a0, r0⟩ := boxes2 w #[.slice A1 y.config.nodes.length c1, .slice A2 y.config.pairs.length c2, .slice A3 y.config.quotas.length c3, .int .i64 y.config.half, .slice A4 y.nodes.length c4, .slice A5 y.tasks.length c5, .slice A6 y.uses.length c6, .int .i64 y.now] #[.slice none 0 0, .slice none 0 0, .slice none 0 0, .int .i64 0, .slice none 0 0, .slice none 0 0, .slice none 0 0, .int .i64 0] 44 44
  rw [← hW, ← hB]
  have HB : Hid (w.heap.size ≤ B + 1) := Lib.hid (by omega)
  have QA := Lib.hid a0
  have QR := Lib.hid r0
  have X := Lib.hid hx0
  clear hW hB hx0 a0 r0
  have hne : B ∉ [B + 1] := by simp
  have al : ∀ V, Kept [B + 1] W V → ∀ i, V.cell? ⟨B, i, none⟩ = _ := fun V hV => Blk.cell (t := 44) (cs := #[.slice A1 y.config.nodes.length c1, .slice A2 y.config.pairs.length c2, .slice A3 y.config.quotas.length c3, .int .i64 y.config.half, .slice A4 y.nodes.length c4, .slice A5 y.tasks.length c5, .slice A6 y.uses.length c6, .int .i64 y.now]) ((hV.block B QA.out.lt hne).trans QA.out)
  clear hne
  go_region_held3 (fun V => Kept [B + 1] W V) (with_reducible (first | exact Kept.refl _ _ | assumption | exact Kept.of_ext X1.out | exact Kept.of_ext X2.out | exact Kept.of_ext X3.out | exact Kept.of_ext X4.out | ((repeat (first | exact Kept.of_ext X4.out | refine Kept.setCell ?_ (by simp) _)); done) | exact Kept.trans (by assumption) (Kept.of_ext ((Ext.refl _).alloc _)) | exact Kept.of_ext (Ext.refl _).drew)) (first
    | (go_at_call 170; (with_reducible refine (l13CopyConfig_own (S := S) y.config _ _ (rel_Config HFC.out (H1.out.ext (X.out.trans (by repeat (first | with_reducible exact Ext.refl _ | refine Ext.drew ?_ | refine Ext.alloc ?_ _)))) (H2.out.ext (X.out.trans (by repeat (first | with_reducible exact Ext.refl _ | refine Ext.drew ?_ | refine Ext.alloc ?_ _)))) (H3.out.ext (X.out.trans (by repeat (first | with_reducible exact Ext.refl _ | refine Ext.drew ?_ | refine Ext.alloc ?_ _))))) S0.out).mono ?_); rintro e w1 ⟨cs8, G8, rfl, ⟨u1, u2, u3, G1, G2, G3, rfl, hf8, o1, o2, o3, hG, hn⟩, g8, hx1⟩; obtain ⟨p1, k1, rfl, -⟩ := OwS.form o1; obtain ⟨p2, k2, rfl, -⟩ := OwS.form o2; obtain ⟨p3, k3, rfl, -⟩ := OwS.form o3; have X1 : Hid (Ext W w1) := Lib.hid (Ext.trans (by repeat (first | with_reducible exact Ext.refl _ | refine Ext.drew ?_ | refine Ext.alloc ?_ _)) hx1); have O1 := Lib.hid o1; have O2 := Lib.hid o2; have O3 := Lib.hid o3; have HG := Lib.hid hG; have HN := Lib.hid hn; have Z1 : Hid (∀ b ∈ G8, W.heap.size ≤ b) := Lib.hid (fun b hb => Nat.le_trans (Ext.size (by repeat (first | with_reducible exact Ext.refl _ | refine Ext.drew ?_ | refine Ext.alloc ?_ _))) (g8 b hb)); clear hf8 o1 o2 o3 hG hn g8 hx1; simp only [cellsConfig])
    | (go_at_call 169; (with_reducible refine (l10Copy_any (S := S) y.nodes _ _ (H4.out.ext (X.out.trans (by repeat (first | with_reducible exact X1.out | refine Ext.drew ?_ | refine Ext.alloc ?_ _)))) S1.out S2.out).mono ?_); rintro e w2 ⟨u4, G4, rfl, o4, g4, hx2⟩; obtain ⟨p4, k4, rfl, -⟩ := OwS.form o4; have XX2 : Hid (Ext w1 w2) := Lib.hid (Ext.trans (by repeat (first | with_reducible exact Ext.refl _ | refine Ext.drew ?_ | refine Ext.alloc ?_ _)) hx2); have X2 : Hid (Ext W w2) := Lib.hid (Ext.trans X1.out XX2.out); have O4 := Lib.hid o4; have Z4 : Hid (∀ b ∈ G4, w1.heap.size ≤ b) := Lib.hid (fun b hb => Nat.le_trans (Ext.size (by repeat (first | with_reducible exact Ext.refl _ | refine Ext.drew ?_ | refine Ext.alloc ?_ _))) (g4 b hb)); clear o4 g4 hx2)
    | (go_at_call 171; (with_reducible refine (l12Copies_any (S := S) y.tasks _ _ (H5.out.ext (X.out.trans (by repeat (first | with_reducible exact X2.out | refine Ext.drew ?_ | refine Ext.alloc ?_ _)))) S3.out S4.out).mono ?_); rintro e w3 ⟨u5, G5, rfl, o5, g5, hx3⟩; obtain ⟨p5, k5, rfl, -⟩ := OwS.form o5; have XX3 : Hid (Ext w2 w3) := Lib.hid (Ext.trans (by repeat (first | with_reducible exact Ext.refl _ | refine Ext.drew ?_ | refine Ext.alloc ?_ _)) hx3); have X3 : Hid (Ext W w3) := Lib.hid (Ext.trans X2.out XX3.out); have O5 := Lib.hid o5; have Z5 : Hid (∀ b ∈ G5, w2.heap.size ≤ b) := Lib.hid (fun b hb => Nat.le_trans (Ext.size (by repeat (first | with_reducible exact Ext.refl _ | refine Ext.drew ?_ | refine Ext.alloc ?_ _))) (g5 b hb)); clear o5 g5 hx3)
    | (refine step_append_flat (E := EUse) (T := 155) (hfl := fun h => h) (l := []) (ys := y.uses) (F := []) (S := S) (by rfl) _ _ 42 (by rfl) (.agg #[.int .i64 0, .int .i64 0, .string ⟨#[]⟩, .int .i64 0]) 4 40 Tryz.underlying42 (by kernel_rfl) rfl rfl (by rfl) (OwS.nil _) (by rfl) (H6.out.ext (X.out.trans (by repeat (first | with_reducible exact X3.out | refine Ext.drew ?_ | refine Ext.alloc ?_ _)))) (by have := S5.out; simp only [List.length_nil, maxLen]; omega) (by have := S5.out; simp only [List.length_nil]; omega) ?_; intro u6 w4 G6 q6 hkp6 hf6; have hx4 := hkp6.ext (Ext.refl _) (fun b hb => absurd hb (by simp)); simp only [List.nil_append] at q6; obtain ⟨p6, k6, rfl, -⟩ := OwS.form q6; have XX4 : Hid (Ext w3 w4) := Lib.hid (Ext.trans (by repeat (first | with_reducible exact Ext.refl _ | refine Ext.drew ?_ | refine Ext.alloc ?_ _)) hx4); have X4 : Hid (Ext W w4) := Lib.hid (Ext.trans X3.out XX4.out); have O6 : Hid (OwS OUse 155 w4 _ y.uses G6) := Lib.hid q6; have Z6 : Hid (∀ b ∈ G6, w3.heap.size ≤ b) := Lib.hid (fun b hb => Or.elim (hf6 b hb) (fun h => absurd h (by simp)) (fun h => Nat.le_trans (Ext.size (by repeat (first | with_reducible exact Ext.refl _ | refine Ext.drew ?_ | refine Ext.alloc ?_ _))) h)); clear q6 hkp6 hf6 hx4; have R9 := Lib.hid (QR.out.ext X4.out); have rc0 := R9.out.cell 0; have rc1 := R9.out.cell 1; have rc2 := R9.out.cell 2; have rc3 := R9.out.cell 3; have rc4 := R9.out.cell 4; have rc5 := R9.out.cell 5; have rc6 := R9.out.cell 6; have rc7 := R9.out.cell 7; have rf := R9.out.frozen))
  all_goals
    clear al
    go_wp2_with fail
    have hl : ∀ b ∈ G1 ++ (G2 ++ G3), b < w1.heap.size := fun b hb => (by
      simp only [List.mem_append] at hb
      rcases hb with hb | hb | hb
      · exact O1.out.lt b hb
      · exact O2.out.lt b hb
      · exact O3.out.lt b hb)
    have hz : ∀ b ∈ G1 ++ (G2 ++ G3), W.heap.size ≤ b := fun b hb => Z1.out b (by rw [HG.out]; exact hb)
    have hr := QR.out.lt
    have z1 := X1.out.size
    have z2 := X2.out.size
    have z3 := X3.out.size
    have y2 := XX2.out.size
    have y3 := XX3.out.size
    have hnd := nodup_rows (G := G1 ++ (G2 ++ G3)) (by rw [← HG.out]; exact HN.out) O4.out.nodup O5.out.nodup O6.out.nodup hl Z4.out O4.out.lt Z5.out O5.out.lt Z6.out y2 y3
    simp only [List.append_assoc] at hnd
    exact bodyPost_ret (v := .agg #[.slice p1 y.config.nodes.length k1, .slice p2 y.config.pairs.length k2, .slice p3 y.config.quotas.length k3, .int .i64 y.config.half, .slice p4 y.nodes.length k4, .slice p5 y.tasks.length k5, .slice p6 y.uses.length k6, .int .i64 y.now]) (results_blk Tryz.results84 rfl (show Blk _ (B + 1) 44 #[.slice p1 y.config.nodes.length k1, .slice p2 y.config.pairs.length k2, .slice p3 y.config.quotas.length k3, .int .i64 y.config.half, .slice p4 y.nodes.length k4, .slice p5 y.tasks.length k5, .slice p6 y.uses.length k6, .int .i64 y.now] from by simpa using ((((((((R9.out.set_ 0 (.slice p1 y.config.nodes.length k1)).set_ 1 (.slice p2 y.config.pairs.length k2)).set_ 2 (.slice p3 y.config.quotas.length k3)).set_ 3 (.int .i64 y.config.half)).set_ 4 (.slice p4 y.nodes.length k4)).set_ 5 (.slice p5 y.tasks.length k5)).set_ 6 (.slice p6 y.uses.length k6)).set_ 7 (.int .i64 y.now))) Tryz.underlying44 rfl (by kernel_rfl)) rfl
      ⟨_, G1 ++ (G2 ++ (G3 ++ (G4 ++ (G5 ++ G6)))), rfl, ⟨_, _, _, _, _, _, G1, G2, G3, G4, G5, G6, rfl, HF.out,
          (O1.out.ext (XX2.out.trans (XX3.out.trans XX4.out))).kept (G := [B + 1]) (by repeat (first | with_reducible exact Kept.refl _ _ | refine Kept.setCell ?_ (by simp) _)) (fun b hb hm => by have := hz b (by simp [hb]); have := List.mem_singleton.1 hm; omega),
          (O2.out.ext (XX2.out.trans (XX3.out.trans XX4.out))).kept (G := [B + 1]) (by repeat (first | with_reducible exact Kept.refl _ _ | refine Kept.setCell ?_ (by simp) _)) (fun b hb hm => by have := hz b (by simp [hb]); have := List.mem_singleton.1 hm; omega),
          (O3.out.ext (XX2.out.trans (XX3.out.trans XX4.out))).kept (G := [B + 1]) (by repeat (first | with_reducible exact Kept.refl _ _ | refine Kept.setCell ?_ (by simp) _)) (fun b hb hm => by have := hz b (by simp [hb]); have := List.mem_singleton.1 hm; omega),
          (O4.out.ext (XX3.out.trans XX4.out)).kept (G := [B + 1]) (by repeat (first | with_reducible exact Kept.refl _ _ | refine Kept.setCell ?_ (by simp) _)) (fun b hb hm => by have := Z4.out b hb; have := List.mem_singleton.1 hm; omega),
          (O5.out.ext XX4.out).kept (G := [B + 1]) (by repeat (first | with_reducible exact Kept.refl _ _ | refine Kept.setCell ?_ (by simp) _)) (fun b hb hm => by have := Z5.out b hb; have := List.mem_singleton.1 hm; omega),
          O6.out.kept (G := [B + 1]) (by repeat (first | with_reducible exact Kept.refl _ _ | refine Kept.setCell ?_ (by simp) _)) (fun b hb hm => by have := Z6.out b hb; have := List.mem_singleton.1 hm; omega),
          rfl, hnd⟩,
        fun b hb => (by
          have h1 := X.out.size
          simp only [List.mem_append] at hb
          rcases hb with hb | hb | hb | hb | hb | hb
          · exact Nat.le_trans h1 (hz b (by simp [hb]))
          · exact Nat.le_trans h1 (hz b (by simp [hb]))
          · exact Nat.le_trans h1 (hz b (by simp [hb]))
          · have := Z4.out b hb; omega
          · have := Z5.out b hb; omega
          · have := Z6.out b hb; omega),
        Kept.ext (X.out.trans X4.out) (F := [B + 1]) (by repeat (first | with_reducible exact Kept.refl _ _ | refine Kept.setCell ?_ (by simp) _)) (fun b hb => by rw [List.mem_singleton.1 hb]; exact HB.out)⟩
end Go.Proofs.YtngldifgcgblpaaGreat

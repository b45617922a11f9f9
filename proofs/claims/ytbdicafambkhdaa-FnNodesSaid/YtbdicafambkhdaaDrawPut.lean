/- The reference's SpanPut at any list, and the lists of spans that the draws make. -/
import Derived.Test.YtbdicafambkhdaaDrawSp
namespace Go.Proofs.Ytbdicafambkhdaa
open Go.RowKit
attribute [local irreducible] wpQuiet

set_option maxHeartbeats 2000000 in
theorem specIsFree_any {S : Nat → Prop} (l : List Span) (x : Span) (v : Value) (w : World) (h : Rd ESpan S w v l) :
    Calls Try.prog 171 #[v, .agg #[.int .i64 x.from_, .int .i64 x.to_]] w fun e w' => e = .returned (.bool (spansRight l && spanRight x && freeOf l x)) ∧ Ext w w' := by
  have HR := Lib.hid h
  obtain ⟨A, c, rfl, h1, h2⟩ := h.form
  clear h
  go_enter Try.func171, Try.ntmps171
  go_upto_region 1 with (fail)
  obtain ⟨W, B, hW, hB, hBl, hx0, b0⟩ : ∃ W B, W = w.alloc (.cells #[.int .i64 x.from_, .int .i64 x.to_] 25) ∧ B = w.heap.size ∧ w.heap.size ≤ B ∧ Ext w W ∧ Blk W B 25 #[.int .i64 x.from_, .int .i64 x.to_] := ⟨_, _, rfl, rfl, Nat.le_refl _, (Ext.refl w).alloc _, Blk.new _ _ _⟩
  rw [← hW, ← hB]
  have B0 := Lib.hid b0
  have X0 := Lib.hid hx0
  clear hW hB hx0 b0 hBl
  have b0' : W.cell? ⟨B, 0, none⟩ = some (.int .i64 x.from_) := B0.out.cell 0
  have b1' : W.cell? ⟨B, 1, none⟩ = some (.int .i64 x.to_) := B0.out.cell 1
  go_wp2_with (first | (go_at_call 75; (with_reducible refine (specSpansRight_any (S := S) l _ _ (HR.out.ext X0.out)).mono ?_); rintro e w1 ⟨rfl, hx1⟩; have X1 := Lib.hid (X0.out.trans hx1); have B1 := Lib.hid (B0.out.ext hx1); clear hx1 b0' b1'; have b0' : w1.cell? ⟨B, 0, none⟩ = some (.int .i64 x.from_) := B1.out.cell 0; have b1' : w1.cell? ⟨B, 1, none⟩ = some (.int .i64 x.to_) := B1.out.cell 1) | (go_at_call 61; (with_reducible refine (l03Span_any x _).mono ?_); rintro e w2 ⟨rfl, hx2⟩; have X2 := Lib.hid (X1.out.trans hx2); have B2 := Lib.hid (B1.out.ext hx2); clear hx2 b0' b1'; have b0' : w2.cell? ⟨B, 0, none⟩ = some (.int .i64 x.from_) := B2.out.cell 0; have b1' : w2.cell? ⟨B, 1, none⟩ = some (.int .i64 x.to_) := B2.out.cell 1) | (go_at_call 64; (with_reducible refine (l03Free_any (S := S) l x _ _ (HR.out.ext X2.out)).mono ?_); rintro e w3 ⟨rfl, hx3⟩; have X3 := Lib.hid (X2.out.trans hx3); clear hx3))
  all_goals (go_ret; exact ⟨ret_bool (by simp_all), by first | exact X3.out | exact X2.out | exact X1.out⟩)

set_option maxHeartbeats 4000000 in
set_option maxRecDepth 100000 in
theorem specSpanPut_any {S : Nat → Prop} (l : List Span) (x : Span) (v : Value) (w : World) (h : Rd ESpan S w v l) (hl : l.length ≤ 400) (hf : FitSpan x) :
    Calls Try.prog 154 #[v, .agg #[.int .i64 x.from_, .int .i64 x.to_]] w fun e w' => ∃ m : List Span, m.length ≤ l.length + 1 ∧ RetO OSpan 25 m w e w' := by
  have HR := Lib.hid h
  obtain ⟨A, c, rfl, h1, h2⟩ := h.form
  unfold maxLen at h2
  have HF := Lib.hid hf
  clear h hf
  go_enter Try.func154, Try.ntmps154
  go_upto_region 1 with (fail)
  obtain ⟨W, B, hW, hB, hBl, hx0, b0⟩ : ∃ W B, W = w.alloc (.cells #[.int .i64 x.from_, .int .i64 x.to_] 25) ∧ B = w.heap.size ∧ w.heap.size ≤ B ∧ Ext w W ∧ Blk W B 25 #[.int .i64 x.from_, .int .i64 x.to_] := ⟨_, _, rfl, rfl, Nat.le_refl _, (Ext.refl w).alloc _, Blk.new _ _ _⟩
  rw [← hW, ← hB]
  have B0 := Lib.hid b0
  have X0 := Lib.hid hx0
  clear hW hB hx0 b0 hBl
  have b0' : W.cell? ⟨B, 0, none⟩ = some (.int .i64 x.from_) := B0.out.cell 0
  have b1' : W.cell? ⟨B, 1, none⟩ = some (.int .i64 x.to_) := B0.out.cell 1
  cases hq : (spansRight l && spanRight x && freeOf l x) with
  | false =>
    have HQ := Lib.hid hq
    clear hq
    go_wp2_with (first
      | (go_at_call 171; (with_reducible refine (specIsFree_any (S := S) l x _ _ (HR.out.ext X0.out)).mono ?_); rintro e w1 ⟨rfl, hx1⟩; rw [HQ.out]; have X1 := Lib.hid (X0.out.trans hx1); clear hx1 b0' b1')
      | (at_builtin; refine wpList_append_flat (E := ESpan) (T := 25) (hfl := fun h => h) (l := ([] : List Span)) (ys := l) (F := []) (S := S) rfl _ _ 39 rfl (.agg #[.int .i64 0, .int .i64 0]) 2 16 Try.underlying39 (by kernel_rfl) rfl rfl rfl (OwS.nil _) rfl (HR.out.ext (X1.out.alloc _)) (by simp only [List.length_nil]; unfold maxLen; omega) (by simp only [List.length_nil]; omega) ?_; intro v1 w2 F1 o1 k1 f1; have O1 := Lib.hid o1; have F1h : Hid (∀ b ∈ F1, w.heap.size ≤ b) := Lib.hid (fun b hb => by rcases f1 b hb with h | h; cases h; exact Nat.le_trans (X1.out.alloc _).size h); have X2 := Lib.hid (k1.ext (X1.out.alloc _) (fun b hb => by cases hb)); clear o1 k1 f1))
    go_ret
    exact ⟨l, by omega, _, F1, rfl, O1.out, F1h.out, X2.out⟩
  | true =>
    have HQ := Lib.hid hq
    clear hq
    by_cases h20 : (20 : Int) ≤ (l.length : Int)
    · go_wp2_with (first
        | (go_at_call 171; (with_reducible refine (specIsFree_any (S := S) l x _ _ (HR.out.ext X0.out)).mono ?_); rintro e w1 ⟨rfl, hx1⟩; rw [HQ.out]; have X1 := Lib.hid (X0.out.trans hx1); clear hx1 b0' b1')
        | (at_builtin; refine wpList_append_flat (E := ESpan) (T := 25) (hfl := fun h => h) (l := ([] : List Span)) (ys := l) (F := []) (S := S) rfl _ _ 39 rfl (.agg #[.int .i64 0, .int .i64 0]) 2 16 Try.underlying39 (by kernel_rfl) rfl rfl rfl (OwS.nil _) rfl (HR.out.ext (X1.out.alloc _)) (by simp only [List.length_nil]; unfold maxLen; omega) (by simp only [List.length_nil]; omega) ?_; intro v1 w2 F1 o1 k1 f1; have O1 := Lib.hid o1; have F1h : Hid (∀ b ∈ F1, w.heap.size ≤ b) := Lib.hid (fun b hb => by rcases f1 b hb with h | h; cases h; exact Nat.le_trans (X1.out.alloc _).size h); have X2 := Lib.hid (k1.ext (X1.out.alloc _) (fun b hb => by cases hb)); clear o1 k1 f1))
      go_ret
      exact ⟨l, by omega, _, F1, rfl, O1.out, F1h.out, X2.out⟩
    · go_wp2_with (first
        | (go_at_call 171; (with_reducible refine (specIsFree_any (S := S) l x _ _ (HR.out.ext X0.out)).mono ?_); rintro e w1 ⟨rfl, hx1⟩; rw [HQ.out]; have X1 := Lib.hid (X0.out.trans hx1); have B1 := Lib.hid (B0.out.ext hx1); clear hx1 b0' b1'; have b0' : w1.cell? ⟨B, 0, none⟩ = some (.int .i64 x.from_) := B1.out.cell 0; have b1' : w1.cell? ⟨B, 1, none⟩ = some (.int .i64 x.to_) := B1.out.cell 1)
        | (go_at_call 66; (with_reducible refine (l03Put_any (S := S) l x _ _ (HR.out.ext X1.out) (by omega) HF.out).mono ?_); rintro e w2 ⟨v2, F2, rfl, o2, f2, hx2⟩; have O2 := Lib.hid o2; have G2 := Lib.hid f2; have X2 := Lib.hid hx2; clear o2 f2 hx2))
      go_ret
      exact ⟨spanIns l x, by rw [spanIns_length]; omega, _, F2, rfl, O2.out, fun b hb => Nat.le_trans X1.out.size (G2.out b hb), X1.out.trans X2.out⟩

theorem kept_new {B : List Nat} {w a b : World} {F : List Nat} (h : Kept B w a) (k : Kept F a b) (hF : ∀ x ∈ F, w.heap.size ≤ x) : Kept B w b :=
  Kept.sub (F := B ++ F) ((h.sub (G := B ++ F) (fun _ _ hm => List.mem_append_left _ hm)).trans (k.sub (G := B ++ F) (fun _ _ hm => List.mem_append_right _ hm))) (fun b hb hm => by
    rcases List.mem_append.1 hm with h | h
    · exact h
    · have := hF b h; omega)

/-- A list of spans drawn since w, of at most n, in memory of its own. -/
def GotS (lb : List Int) (vb : Value) (w0 w : World) (B : Nat) (n : Nat) (v : Value) (w' : World) : Prop :=
  ∃ (m : List Span) (F : List Nat), m.length ≤ n ∧ OwS OSpan 25 w' v m F ∧ (∀ b ∈ F, w.heap.size ≤ b) ∧ SrcAt lb vb w0 w' B ∧ Kept [B] w w'
theorem GotS.le {lb : List Int} {vb : Value} {w0 w w' : World} {B n n' : Nat} {v : Value} (h : GotS lb vb w0 w B n v w') (hn : n ≤ n') : GotS lb vb w0 w B n' v w' := by
  obtain ⟨m, F, h1, h2⟩ := h
  exact ⟨m, F, Nat.le_trans h1 hn, h2⟩

set_option maxHeartbeats 8000000 in
set_option maxRecDepth 100000 in
theorem srcSpans_any {S : Nat → Prop} (l : List Int) (v : Value) (w0 : World) (h : Rd EByte S w0 v l) (B : Nat) (w : World) (hs : SrcAt l v w0 w B) :
    Calls Try.prog 126 #[.pointer (some ⟨B, 0, none⟩)] w fun e w' => ∃ u, e = .returned u ∧ GotS l v w0 w B 24 u w' := by
  have HN := Lib.hid fun (W : World) (hW : SrcAt l v w0 W B) (most : Int) (h1 : 1 < most) (h2 : most ≤ 1152921504606846976) => srcN_any l v w0 h most h1 h2 B W hW
  have HO := Lib.hid fun (W : World) (hW : SrcAt l v w0 W B) (most : Int) (h1 : 1 < most) (h2 : most ≤ 1152921504606846976) => srcOne_any l v w0 h most h1 h2 B W hW
  have HP := Lib.hid fun (W : World) (hW : SrcAt l v w0 W B) => srcSpan_any l v w0 h B W hW
  have HS := Lib.hid hs
  have HB := Lib.hid hs.lt
  clear h hs
  go_enter Try.func126, Try.ntmps126
  go_upto_region 3 with (go_at_call 51; (with_reducible refine (HN.out _ (HS.out.alloc _) _ (by decide) (by decide)).mono ?_); rintro e w1 ⟨a, rfl, a0, a1, s1, k1⟩; have S1 := Lib.hid s1; have K1 := Lib.hid ((Kept.of_ext ((Ext.refl w).alloc _)).trans k1); clear s1 k1)
  go_loopw [3, 4] (fun u i w' => ∃ (k : Nat) (m : List Span) (F : List Nat), i = .int .i64 k ∧ k + m.length ≤ 5 ∧ OwS OSpan 25 w' u m F ∧ (∀ b ∈ F, w.heap.size ≤ b) ∧ SrcAt l v w0 w' B ∧ Kept [B] w w') (fun _ i _ => (intOf i).toNat)
  case atStart => exact ⟨a.toNat, [], [], by rw [Int.toNat_of_nonneg a0], by simp; omega, OwS.nil _, fun b hb => (by cases hb), S1.out, K1.out⟩
  case round =>
    obtain ⟨k, m, F, rfl, hkm, ho, hF, hs, hk⟩ := hrel
    have HO1 := Lib.hid ho
    have HF1 := Lib.hid hF
    have HS1 := Lib.hid hs
    have HK1 := Lib.hid hk
    clear ho hF hs hk
    have hBF : ∀ G : List Nat, (∀ b ∈ G, w.heap.size ≤ b) → B ∉ G := fun G hG hb => absurd (hG B hb) (by have := HB.out; omega)
    have HBF := Lib.hid hBF
    clear hBF
    by_cases hlt : 0 < k
    · go_wp2_with (first
        | (go_at_call 53; (with_reducible refine (HP.out _ HS1.out).mono ?_); rintro e w2 ⟨x, rfl, fx, x0, x1, s2, k2⟩; have FX := Lib.hid fx; have S2 := Lib.hid s2; have K2 := Lib.hid (HK1.out.trans k2); have O2 := Lib.hid (HO1.out.kept k2 (fun b hb hB => HBF.out F HF1.out (by simp at hB; subst hB; exact hb))); clear fx s2 k2)
        | (go_at_call 154; (with_reducible refine (specSpanPut_any (S := fun b => b ∈ F) m x _ _ O2.out.rd (by omega) FX.out).mono ?_); rintro e w3 ⟨m', hm', u', F', rfl, o3, f3, x3⟩; have O3 := Lib.hid o3; have F3 : Hid (∀ b ∈ F', w.heap.size ≤ b) := Lib.hid (fun b hb => Nat.le_trans K2.out.size (f3 b hb)); have X3 := Lib.hid x3; clear o3 f3 x3))
      refine ⟨⟨k - 1, m', F', by go_num, by omega, O3.out, F3.out, S2.out.ext X3.out, K2.out.trans (Kept.of_ext X3.out)⟩, by simp [intOf]; omega⟩
    · obtain rfl : k = 0 := by omega
      go_upto_if 18 with (go_at_call 67; (with_reducible refine (HO.out _ HS1.out _ (by decide) (by decide)).mono ?_); rintro e w4 ⟨r4, rfl, s4, k4⟩; have S4 := Lib.hid s4; have K4 := Lib.hid (HK1.out.trans k4); have O4 := Lib.hid (HO1.out.kept k4 (fun b hb hB => HBF.out F HF1.out (by simp at hB; subst hB; exact hb))); clear s4 k4)
      go_cut [3] (fun u wx => GotS l v w0 w B 6 u wx)
      case first =>
        go_wp2_with (first
          | (go_at_call 53; (with_reducible refine (HP.out _ S4.out).mono ?_); rintro e w5 ⟨x, rfl, fx, x0, x1, s5, k5⟩; have FX := Lib.hid fx; have S5 := Lib.hid s5; have K5 := Lib.hid (K4.out.trans k5); have O5 := Lib.hid (O4.out.kept k5 (fun b hb hB => HBF.out F HF1.out (by simp at hB; subst hB; exact hb))); clear fx s5 k5)
          | (at_builtin; refine wpList_append_one (O := OSpan) (T := 25) (l := m) (F := F) (G := []) (y := x) (cs := [.int .i64 x.from_, .int .i64 x.to_]) rfl _ _ 39 rfl (.agg #[.int .i64 0, .int .i64 0]) 2 16 Try.underlying39 (by kernel_rfl) rfl rfl rfl (O5.out.ext ((Ext.refl _).alloc _)) _ 0 1 rfl ⟨rel_Span FX.out, rfl⟩ (Blk.new _ _ _).range (by simpa using O5.out.nodup) (by omega) (by decide) ?_; intro u6 w6 F6 o6 k6 f6; have O6 := Lib.hid o6; have K6 := Lib.hid k6; have G6 := Lib.hid f6; clear o6 k6 f6))
        · go_meet
          refine ⟨m ++ [x], F6, by simp; omega, O6.out, fun b hb => ?_, (S5.out.alloc _).kept K6.out (HBF.out F HF1.out) (fun b hb => Nat.le_trans HS.out.old.size (HF1.out b hb)), kept_new (K5.out.trans (Kept.of_ext ((Ext.refl _).alloc _))) K6.out HF1.out⟩
          rcases G6.out b hb with h | h | h
          · exact HF1.out b h
          · cases h
          · exact Nat.le_trans K5.out.size (Nat.le_trans ((Ext.refl _).alloc _).size h)
        · go_meet
          exact ⟨m, F, by omega, O4.out, HF1.out, S4.out, K4.out⟩
      case rest =>
        obtain ⟨m7, F7, hm7, o7, f7, s7, k7⟩ := hcut
        have O7 := Lib.hid o7
        have F7h := Lib.hid f7
        have S7 := Lib.hid s7
        have K7 := Lib.hid k7
        clear o7 f7 s7 k7
        go_upto_if 25 with (go_at_call 67; (with_reducible refine (HO.out _ S7.out _ (by decide) (by decide)).mono ?_); rintro e w8 ⟨r8, rfl, s8, k8⟩; have S8 := Lib.hid s8; have K8 := Lib.hid (K7.out.trans k8); have O8 := Lib.hid (O7.out.kept k8 (fun b hb hB => HBF.out F7 F7h.out (by simp at hB; subst hB; exact hb))); clear s8 k8)
        go_cut [3] (fun u wx => GotS l v w0 w B 24 u wx)
        case first =>
          cases r8 with
          | false =>
            go_wp2_with fail
            go_meet
            exact ⟨m7, F7, by omega, O8.out, F7h.out, S8.out, K8.out⟩
          | true =>
            go_wp2_with fail
            go_loopw [3, 5] (fun u i w' => ∃ (j : Nat) (m : List Span) (F : List Nat), i = .int .i64 j ∧ j ≤ 22 ∧ m.length = j ∧ OwS OSpan 25 w' u m F ∧ (∀ b ∈ F, w.heap.size ≤ b) ∧ SrcAt l v w0 w' B ∧ Kept [B] w w') (fun _ i _ => 22 - (intOf i).toNat)
            case atStart => exact ⟨0, [], [], rfl, by omega, rfl, OwS.nil _, fun b hb => (by cases hb), S8.out, K8.out⟩
            case round =>
              obtain ⟨j, m9, F9, rfl, hj, hm9, o9, f9, s9, k9⟩ := hrel
              have O9 := Lib.hid o9
              have F9h := Lib.hid f9
              have S9 := Lib.hid s9
              have K9 := Lib.hid k9
              clear o9 f9 s9 k9
              go_wp2_with (first
                | (go_at_call 51; (with_reducible refine (HN.out _ S9.out _ (by decide) (by decide)).mono ?_); rintro e w10 ⟨a10, rfl, a0, a1, s10, k10⟩; have S10 := Lib.hid s10; have K10 := Lib.hid (K9.out.trans k10); have O10 := Lib.hid (O9.out.kept k10 (fun b hb hB => HBF.out F9 F9h.out (by simp at hB; subst hB; exact hb))); clear s10 k10)
                | (at_builtin; refine wpList_append_one (O := OSpan) (T := 25) (l := m9) (F := F9) (G := []) (y := ⟨2 * j, 2 * j + 1⟩) (cs := [.int .i64 (2 * j), .int .i64 (2 * j + 1)]) rfl _ _ 39 rfl (.agg #[.int .i64 0, .int .i64 0]) 2 16 Try.underlying39 (by kernel_rfl) rfl rfl rfl (O10.out.ext ((Ext.refl _).alloc _)) _ 0 1 rfl ⟨rel_Span (fit_small (by omega) (by omega) (by omega) (by omega)), rfl⟩ (Blk.new _ _ _).range (by simpa using O10.out.nodup) (by omega) (by decide) ?_; intro u11 w11 F11 o11 k11 f11; have O11 := Lib.hid o11; have K11 := Lib.hid k11; have G11 := Lib.hid f11; clear o11 k11 f11))
              · refine ⟨⟨j + 1, m9 ++ [⟨2 * j, 2 * j + 1⟩], F11, by go_num, by omega, by simp; omega, O11.out, fun b hb => ?_, (S10.out.alloc _).kept K11.out (HBF.out F9 F9h.out) (fun b hb => Nat.le_trans HS.out.old.size (F9h.out b hb)), kept_new (K10.out.trans (Kept.of_ext ((Ext.refl _).alloc _))) K11.out F9h.out⟩, by simp [intOf]; omega⟩
                rcases G11.out b hb with h | h | h
                · exact F9h.out b h
                · cases h
                · exact Nat.le_trans K10.out.size (Nat.le_trans ((Ext.refl _).alloc _).size h)
              · go_meet
                exact ⟨m9, F9, by omega, O10.out, F9h.out, S10.out, K10.out⟩
        case rest =>
          obtain ⟨m7, F7, hm7, o7, f7, s7, k7⟩ := hcut
          have O7 := Lib.hid o7
          have F7h := Lib.hid f7
          have S7 := Lib.hid s7
          have K7 := Lib.hid k7
          clear o7 f7 s7 k7
          go_wp2_with fail
          go_ret
          exact ⟨_, rfl, m7, F7, hm7, O7.out, F7h.out, S7.out, K7.out⟩
end Go.Proofs.Ytbdicafambkhdaa

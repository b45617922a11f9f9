/- Drawing spans out of bytes. -/
import Derived.Test.YtbdicafambkhdaaDraws
import Derived.Test.YtbdicafambkhdaaBookPutB
namespace Go.Proofs.Ytbdicafambkhdaa
open Go.RowKit
attribute [local irreducible] wpQuiet

theorem SrcAt.ext {l : List Int} {v : Value} {w0 w w' : World} {B : Nat} (h : SrcAt l v w0 w B) (hx : Ext w w') : SrcAt l v w0 w' B := by
  obtain ⟨k, m, z, hb, h1, h2, h3, h4, h5⟩ := h
  exact ⟨k, m, z, hb.ext hx, h1, h2, h3, h4.trans hx, h5⟩
theorem SrcAt.kept {l : List Int} {v : Value} {w0 w w' : World} {B : Nat} {F : List Nat} (h : SrcAt l v w0 w B) (hk : Kept F w w') (hB : B ∉ F) (hF : ∀ b ∈ F, w0.heap.size ≤ b) : SrcAt l v w0 w' B := by
  obtain ⟨k, m, z, hb, h1, h2, h3, h4, h5⟩ := h
  exact ⟨k, m, z, (hk.block B hb.lt hB).trans hb, h1, h2, h3, hk.ext h4 hF, h5⟩
theorem SrcAt.old {l : List Int} {v : Value} {w0 w : World} {B : Nat} (h : SrcAt l v w0 w B) : Ext w0 w := by
  obtain ⟨k, m, z, _, _, _, _, hx, _⟩ := h
  exact hx
theorem SrcAt.ge {l : List Int} {v : Value} {w0 w : World} {B : Nat} (h : SrcAt l v w0 w B) : w0.heap.size ≤ B := by
  obtain ⟨k, m, z, _, _, _, _, _, h5⟩ := h
  exact h5
theorem SrcAt.kept_old {l : List Int} {v : Value} {w0 w w' : World} {B : Nat} (h : SrcAt l v w0 w B) (hk : Kept [B] w w') : Ext w0 w' := hk.ext h.old (by simpa using h.ge)

theorem fit_small {a b : Int} (h1 : -1000000000000 ≤ a) (h2 : a ≤ 1000000000000) (h3 : -1000000000000 ≤ b) (h4 : b ≤ 1000000000000) : FitSpan ⟨a, b⟩ := by
  unfold FitSpan I64
  simp only
  omega

theorem src_put {l : List Int} {v : Value} {w0 w : World} {B R o : Nat} {vs : List Value} (h : SrcAt l v w0 w B) (hB : R ≠ B) (hw : w0.heap.size ≤ R) : SrcAt l v w0 (w.setCells R o vs) B :=
  h.kept (F := [R]) (Kept.setCells (by simp) _ _ _ (Kept.refl _ _)) (by simpa using fun e => hB e.symm) (by simpa using hw)
theorem kept_put {B R o : Nat} {w w4 : World} {vs : List Value} (hk : Kept [B] w w4) (hR : w.heap.size ≤ R) : Kept [B] w (w4.setCells R o vs) :=
  Kept.sub (F := [B, R]) ((hk.sub (G := [B, R]) (fun b _ hm => by simp at hm ⊢; exact .inl hm)).trans (Kept.setCells (F := [B, R]) (by simp) vs w4 o (Kept.refl _ _))) (fun b hb hm => by simp at hm ⊢; omega)

set_option maxHeartbeats 4000000 in
set_option maxRecDepth 100000 in
theorem srcSpan_any {S : Nat → Prop} (l : List Int) (v : Value) (w0 : World) (h : Rd EByte S w0 v l) (B : Nat) (w : World) (hs : SrcAt l v w0 w B) :
    Calls Try.prog 53 #[.pointer (some ⟨B, 0, none⟩)] w fun e w' => ∃ x : Span, e = .returned (.agg #[.int .i64 x.from_, .int .i64 x.to_]) ∧ FitSpan x ∧ 0 ≤ x.from_ ∧ x.from_ < 30 ∧ SrcAt l v w0 w' B ∧ Kept [B] w w' := by
  have HN := Lib.hid fun (W : World) (hW : SrcAt l v w0 W B) (most : Int) (h1 : 1 < most) (h2 : most ≤ 1152921504606846976) => srcN_any l v w0 h most h1 h2 B W hW
  have HO := Lib.hid fun (W : World) (hW : SrcAt l v w0 W B) (most : Int) (h1 : 1 < most) (h2 : most ≤ 1152921504606846976) => srcOne_any l v w0 h most h1 h2 B W hW
  have HS := Lib.hid hs
  have hlt := hs.lt
  clear h hs
  go_enter Try.func53, Try.ntmps53
  go_upto_region 1 with (fail)
  obtain ⟨W, R, hW, hR, hx0, r0⟩ : ∃ W R, W = w.alloc (.cells #[.int .i64 0, .int .i64 0] 25) ∧ R = w.heap.size ∧ Ext w W ∧ Blk W R 25 #[.int .i64 0, .int .i64 0] := ⟨_, _, rfl, rfl, (Ext.refl w).alloc _, Blk.new _ _ _⟩
  have hRB : R ∉ [B] := by simp; omega
  rw [← hW, ← hR]
  have R0 := Lib.hid r0
  have S0 := Lib.hid (HS.out.ext hx0)
  have K0 : Hid (Kept [B] w W) := Lib.hid (Kept.of_ext hx0)
  have HRB := Lib.hid hRB
  have HRw : Hid (w.heap.size ≤ R) := Lib.hid (by omega)
  clear hW hR hx0 r0 hRB
  go_upto_region 2 with (go_at_call 51; (with_reducible refine (HN.out _ S0.out _ (by decide) (by decide)).mono ?_); rintro e w1 ⟨a, rfl, a0, a1, s1, k1⟩; have S1 := Lib.hid s1; have K1 := Lib.hid (K0.out.trans k1); have R1 : Hid (Blk w1 R 25 #[.int .i64 0, .int .i64 0]) := Lib.hid ((k1.block R R0.out.lt HRB.out).trans R0.out); clear s1 k1)
  go_upto_region 3 with (go_at_call 51; (with_reducible refine (HN.out _ S1.out _ (by decide) (by decide)).mono ?_); rintro e w2 ⟨c, rfl, c0, c1, s2, k2⟩; have S2 := Lib.hid s2; have K2 := Lib.hid (K1.out.trans k2); have R2 : Hid (Blk w2 R 25 #[.int .i64 0, .int .i64 0]) := Lib.hid ((k2.block R R1.out.lt HRB.out).trans R1.out); clear s2 k2)
  obtain ⟨V, X, hV, hX, hx3, b3⟩ : ∃ V X, V = w2.alloc (.cells #[.int .i64 a, .int .i64 (a + 1 + c)] 25) ∧ X = w2.heap.size ∧ Ext w2 V ∧ Blk V X 25 #[.int .i64 a, .int .i64 (a + 1 + c)] := ⟨_, _, rfl, rfl, (Ext.refl _).alloc _, Blk.new _ _ _⟩
  have hXB : X ∉ [B] := by have := S2.out.lt; simp; omega
  have hXR : R ≠ X := by have := R2.out.lt; omega
  have hXw : w.heap.size ≤ X := by have := K2.out.size; omega
  rw [← hV, ← hX]
  have S3 := Lib.hid (S2.out.ext hx3)
  have K3 : Hid (Kept [B] w V) := Lib.hid (K2.out.trans (Kept.of_ext hx3))
  have R3 := Lib.hid (R2.out.ext hx3)
  have X3 := Lib.hid b3
  have HXB := Lib.hid hXB
  have HXR := Lib.hid hXR
  have HXw := Lib.hid hXw
  clear hV hX hx3 b3 hXB hXR hXw
  go_upto_region 4 with (first | (go_at_call 67; (with_reducible refine (HO.out _ S3.out _ (by decide) (by decide)).mono ?_); rintro e w4 ⟨o, rfl, s4, k4⟩; have S4 := Lib.hid s4; have K4 := Lib.hid (K3.out.trans k4); have R4 : Hid (Blk w4 R 25 #[.int .i64 0, .int .i64 0]) := Lib.hid ((k4.block R R3.out.lt HRB.out).trans R3.out); have X4 : Hid (Blk w4 X 25 #[.int .i64 a, .int .i64 (a + 1 + c)]) := Lib.hid ((k4.block X X3.out.lt HXB.out).trans X3.out); have x0 := X4.out.cell 0; have x1 := X4.out.cell 1; clear s4 k4) | (refine wpList_store_mid rfl 25 _ _ rfl R 0 #[.int .i64 a, .int .i64 (a + 1 + c)] rfl rfl (Blk.there (t := 25) (cs := #[.int .i64 0, .int .i64 0]) R4.out) (by kernel_rfl) (all_oneCell_toArray (cs := [.int .i64 a, .int .i64 (a + 1 + c)]) (by simp [Value.oneCell'])) ?_))
  · clear x0 x1
    go_upto_region 5 with (go_at_call 51; (with_reducible refine (HN.out _ (S4.out.alloc _) _ (by decide) (by decide)).mono ?_); rintro e w5 ⟨r, rfl, r0, r1, s5, k5⟩; have k45 := (Kept.of_ext ((Ext.refl w4).alloc _)).trans k5; obtain ⟨k, rfl⟩ : ∃ k : Nat, r = k := ⟨r.toNat, by omega⟩; obtain ⟨u, hu, iu⟩ := edge_at (k := k) S4.out.lt k5 (by simp only [List.mem_cons, List.not_mem_nil, or_false]; rintro x (rfl | rfl | rfl) <;> exact ⟨_, rfl, by unfold I64; omega⟩) (by simp only [List.length_cons, List.length_nil]; omega); have IU := Lib.hid iu; have S5 := Lib.hid s5; have K5 := Lib.hid (K4.out.trans k45); have R5 : Hid (Blk w5 R 25 #[.int .i64 0, .int .i64 0]) := Lib.hid ((k45.block R R4.out.lt HRB.out).trans R4.out); have X5 : Hid (Blk w5 X 25 #[.int .i64 a, .int .i64 (a + 1 + c)]) := Lib.hid ((k45.block X X4.out.lt HXB.out).trans X4.out); have x0 := X5.out.cell 0; have x1 := X5.out.cell 1; have xf := X5.out.frozen; clear s5 k5 k45 iu)
    clear hu x0 x1 xf
    obtain ⟨V6, hV6, x6, s6, k6, r6⟩ : ∃ V6, V6 = w5.setCell ⟨X, 1, none⟩ (.int .i64 u) ∧ Blk V6 X 25 #[.int .i64 a, .int .i64 u] ∧ SrcAt l v w0 V6 B ∧ Kept [B] w V6 ∧ Blk V6 R 25 #[.int .i64 0, .int .i64 0] := ⟨_, rfl, by simpa using X5.out.set_ 1 (.int .i64 u), src_put (R := X) (o := 1) (vs := [.int .i64 u]) S5.out (fun e => HXB.out (by simp [e])) (by have := HS.out.old.size; have := HXw.out; omega), kept_put (R := X) (o := 1) (vs := [.int .i64 u]) K5.out HXw.out, R5.out.far HXR.out _⟩
    rw [← hV6]
    have X6 := Lib.hid x6
    have S6 := Lib.hid s6
    have K6 := Lib.hid k6
    have R6 := Lib.hid r6
    clear hV6 x6 s6 k6 r6
    have x0 := X6.out.cell 0
    have x1 := X6.out.cell 1
    go_wp2_with (first | (refine wpList_store_mid rfl 25 _ _ rfl R 0 #[.int .i64 a, .int .i64 u] rfl rfl (Blk.there (t := 25) (cs := #[.int .i64 0, .int .i64 0]) R6.out) (by kernel_rfl) (all_oneCell_toArray (cs := [.int .i64 a, .int .i64 u]) (by simp [Value.oneCell'])) ?_))
    exact bodyPost_ret (v := .agg #[.int .i64 a, .int .i64 u]) (results_blk Try.results53 rfl (Blk.setAll (t := 25) (cs := #[.int .i64 0, .int .i64 0]) (vs := #[.int .i64 a, .int .i64 u]) R6.out rfl) Try.underlying25 rfl (by kernel_rfl)) rfl ⟨⟨a, u⟩, rfl, (by have := IU.out; unfold I64 at this; unfold FitSpan I64; simp only; omega), a0, a1, src_put S6.out (fun e => HRB.out (by simp [e])) (by have := S0.out.old.size; have := HRw.out; have := HS.out.old.size; omega), kept_put K6.out HRw.out⟩
  · skip
    exact bodyPost_ret (v := .agg #[.int .i64 a, .int .i64 (a + 1 + c)]) (results_blk Try.results53 rfl (Blk.setAll (t := 25) (cs := #[.int .i64 0, .int .i64 0]) (vs := #[.int .i64 a, .int .i64 (a + 1 + c)]) R4.out rfl) Try.underlying25 rfl (by kernel_rfl)) rfl ⟨⟨a, (a + 1 + c)⟩, rfl, fit_small (by omega) (by omega) (by omega) (by omega), a0, a1, src_put S4.out (fun e => HRB.out (by simp [e])) (by have := S0.out.old.size; have := HRw.out; have := HS.out.old.size; omega), kept_put K4.out HRw.out⟩
end Go.Proofs.Ytbdicafambkhdaa

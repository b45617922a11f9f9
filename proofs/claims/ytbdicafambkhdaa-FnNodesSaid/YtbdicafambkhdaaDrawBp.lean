/- What FnNodes draws: a list of nodes with a booking. -/
import Derived.Test.YtbdicafambkhdaaDrawBk
import Derived.Deep.CutBlock
namespace Go.Proofs.Ytbdicafambkhdaa
open Go.RowKit
attribute [local irreducible] wpQuiet

theorem results_c3 {P : Program} {fn : Func} {i j k p : Tmp} {ty T : TypeId} {d : TypeDesc} {tmps : Array Value} {w : World} {B : Nat} {cs : Array Value} (h : fn.results = #[.tmp i, .tmp j, .cell p ty, .tmp k]) (hp : tmps.getD p undef = .pointer (.some ⟨B, 0, none⟩)) (hb : Blk w B T cs)
    (hu : P.underlying ty = .some d) (hd : d.isRow = true) (hi : (P.info? ty).map (·.size) = .some cs.size) : (results fn tmps).run P w = .ok (.tuple #[tmps.getD i undef, tmps.getD j undef, .agg cs, tmps.getD k undef]) w := by
  have h1 := run_loadVar_mid (P := P) w B 0 ty cs.toList d hb.range hu hd (by rw [hi]; simp)
  simp only [results, h]
  have hp' : tmps[p]?.getD undef = .pointer (.some ⟨B, 0, none⟩) := by rw [← hp]; simp [Array.getD_eq_getD_getElem?]
  simp [hp', asAddr, h1]

set_option maxHeartbeats 8000000 in
set_option maxRecDepth 100000 in
theorem drawBookPut_any {S : Nat → Prop} (l : List Int) (v : Value) (w : World) (h : Rd EByte S w v l) :
    Calls Try.prog 6 #[v] w fun e w' => ∃ (u : Value) (n : Int) (x : Span) (now : Int) (m : List Node) (F : List Nat), e = .returned (.tuple #[u, .int .i64 n, .agg #[.int .i64 x.from_, .int .i64 x.to_], .int .i64 now]) ∧ I64 n ∧ I64 now ∧ FitSpan x ∧ m.length ≤ 7 ∧ OwS ONode 42 w' u m F ∧ (∀ b ∈ F, w.heap.size ≤ b) ∧ Ext w w' := by
  have HS := Lib.hid fun (w0 : World) (hx : Ext w w0) => source_any l v w0 (h.ext hx)
  have HN := Lib.hid fun (w0 : World) (hx : Ext w w0) (B : Nat) (W : World) (hW : SrcAt l v w0 W B) (most : Int) (h1 : 1 < most) (h2 : most ≤ 1152921504606846976) => srcN_any l v w0 (h.ext hx) most h1 h2 B W hW
  have HP := Lib.hid fun (w0 : World) (hx : Ext w w0) (B : Nat) (W : World) (hW : SrcAt l v w0 W B) => srcSpan_any l v w0 (h.ext hx) B W hW
  have HD := Lib.hid fun (w0 : World) (hx : Ext w w0) (B : Nat) (W : World) (hW : SrcAt l v w0 W B) (n now : Int) (hn : 0 ≤ now ∧ now ≤ 100) => srcNodes_any l v w0 (h.ext hx) n now hn B W hW
  clear h
  go_enter Try.func6, Try.ntmps6
  go_upto_region 1 with (fail)
  obtain ⟨W, R, hW, hR, hx0, r0⟩ : ∃ W R, W = w.alloc (.cells #[.int .i64 0, .int .i64 0] 25) ∧ R = w.heap.size ∧ Ext w W ∧ Blk W R 25 #[.int .i64 0, .int .i64 0] := ⟨_, _, rfl, rfl, (Ext.refl w).alloc _, Blk.new _ _ _⟩
  rw [← hW, ← hR]
  have R0 := Lib.hid r0
  have X0 := Lib.hid hx0
  have HR : Hid (w.heap.size ≤ R) := Lib.hid (by omega)
  have HRW : Hid (R < W.heap.size) := Lib.hid r0.lt
  clear hW hR hx0 r0
  go_upto_region 2 with (go_at_call 50; (with_reducible refine (HS.out _ X0.out).mono ?_); rintro e w1 ⟨B, rfl, s1⟩; have S1 := Lib.hid s1; clear s1)
  have HBR : Hid (R ∉ [B]) := Lib.hid (by have := S1.out.ge; have := HRW.out; simp; omega)
  go_upto_region 3 with (go_at_call 51; (with_reducible refine (HN.out _ X0.out _ _ S1.out _ (by decide) (by decide)).mono ?_); rintro e w2 ⟨a, rfl, a0, a1, s2, k2⟩; have S2 := Lib.hid s2; clear s2 k2)
  go_upto_region 4 with (first
    | (go_at_call 51; (with_reducible refine (HN.out _ X0.out _ _ S2.out _ (by decide) (by decide)).mono ?_); rintro e w3 ⟨r3, rfl, b0, b1, s3, k3⟩; have S3 := Lib.hid s3; clear s3 k3)
    | (go_at_call 52; (with_reducible refine (HD.out _ X0.out _ _ S3.out _ a (by omega)).mono ?_); rintro e w4 ⟨u, rfl, m, F, hm, o4, f4, s4, k4⟩; have O4 := Lib.hid o4; have F4 := Lib.hid f4; have S4 := Lib.hid s4; clear o4 f4 s4 k4))
  have HBF : Hid (B ∉ F) := Lib.hid (fun hb => absurd (F4.out B hb) (by have := S3.out.lt; omega))
  have HRF : Hid (R ∉ F) := Lib.hid (fun hb => absurd (F4.out R hb) (by have := S3.out.old.size; have := HRW.out; omega))
  have HFw : Hid (∀ b ∈ F, w.heap.size ≤ b) := Lib.hid (fun b hb => Nat.le_trans (X0.out.trans S3.out.old).size (F4.out b hb))
  have HKF : Hid (∀ (V V' : World), OwS ONode 42 V u m F → Kept [B] V V' → OwS ONode 42 V' u m F) := Lib.hid fun V V' ho hk => ho.kept hk (fun b hb hB => HBF.out (by simp at hB; subst hB; exact hb))
  have R4 : Hid (Blk w4 R 25 #[.int .i64 0, .int .i64 0]) := Lib.hid (R0.out.ext S4.out.old)
  go_upto_region 5 with (go_at_call 51; (with_reducible refine (HN.out _ X0.out _ _ S4.out _ (by decide) (by decide)).mono ?_); rintro e w5 ⟨r5, rfl, c0, c1, s5, k5⟩; have S5 := Lib.hid s5; have O5 := Lib.hid (HKF.out _ _ O4.out k5); have R5 : Hid (Blk w5 R 25 #[.int .i64 0, .int .i64 0]) := Lib.hid (R0.out.ext S5.out.old); clear s5 k5)
  go_upto_region 6 with (go_at_call 51; (with_reducible refine (HN.out _ X0.out _ _ S5.out _ (by decide) (by decide)).mono ?_); rintro e w6 ⟨r6, rfl, d0, d1, s6, k6⟩; have S6 := Lib.hid s6; have O6 := Lib.hid (HKF.out _ _ O5.out k6); clear s6 k6)
  obtain ⟨V, X, hV, hX, hx7, b7⟩ : ∃ V X, V = w6.alloc (.cells #[.int .i64 (a + r5), .int .i64 (a + r5 + 1 + r6)] 25) ∧ X = w6.heap.size ∧ Ext w6 V ∧ Blk V X 25 #[.int .i64 (a + r5), .int .i64 (a + r5 + 1 + r6)] := ⟨_, _, rfl, rfl, (Ext.refl _).alloc _, Blk.new _ _ _⟩
  have hXB : X ∉ [B] := by have := S6.out.lt; simp; omega
  have hXR : R ≠ X := by have := HRW.out; have := S6.out.old.size; omega
  have hXF : X ∉ F := fun hb => absurd (O6.out.lt X hb) (by omega)
  have hXw : W.heap.size ≤ X := by have := S6.out.old.size; omega
  rw [← hV, ← hX]
  have S7 := Lib.hid (S6.out.ext hx7)
  have O7 := Lib.hid (O6.out.ext hx7)
  have X7 := Lib.hid b7
  have HXB := Lib.hid hXB
  have HXR := Lib.hid hXR
  have HXF := Lib.hid hXF
  have HXw := Lib.hid hXw
  have R7 : Hid (Blk V R 25 #[.int .i64 0, .int .i64 0]) := Lib.hid (R0.out.ext S7.out.old)
  clear hV hX hx7 b7 hXB hXR hXF hXw
  go_upto_block 0 with (go_at_call 51; (with_reducible refine (HN.out _ X0.out _ _ S7.out _ (by decide) (by decide)).mono ?_); rintro e w8 ⟨r8, rfl, e0, e1, s8, k8⟩; have S8 := Lib.hid s8; have O8 := Lib.hid (HKF.out _ _ O7.out k8); have X8 : Hid (Blk w8 X 25 #[.int .i64 (a + r5), .int .i64 (a + r5 + 1 + r6)]) := Lib.hid ((k8.block X X7.out.lt HXB.out).trans X7.out); have R8 : Hid (Blk w8 R 25 #[.int .i64 0, .int .i64 0]) := Lib.hid (R0.out.ext S8.out.old); clear s8 k8)
  go_cut [7] (fun p wx => ∃ (a2 : Int) (x2 : Span), p = .int .i64 a2 ∧ I64 a2 ∧ FitSpan x2 ∧ Blk wx X 25 #[.int .i64 x2.from_, .int .i64 x2.to_] ∧ OwS ONode 42 wx u m F ∧ SrcAt l v W wx B)
  case first =>
    by_cases h0 : r8 = 0
    · subst h0
      have x0 := X8.out.cell 0
      have x1 := X8.out.cell 1
      have xf := X8.out.frozen
      go_wp2_with (go_at_call 51; (with_reducible refine (HN.out _ X0.out _ _ S8.out _ (by decide) (by decide)).mono ?_); rintro e w9 ⟨r9, rfl, g0, g1, s9, k9⟩; have S9 := Lib.hid s9; have O9 := Lib.hid (HKF.out _ _ O8.out k9); have X9 : Hid (Blk w9 X 25 #[.int .i64 (a + r5), .int .i64 (a + r5 + 1 + r6)]) := Lib.hid ((k9.block X X8.out.lt HXB.out).trans X8.out); clear x0 x1 xf; have x0 := X9.out.cell 0; have x1 := X9.out.cell 1; have xf := X9.out.frozen; clear s9 k9)
      go_meet
      refine ⟨a, ⟨a + r5, a + 40 + r9⟩, rfl, by unfold I64; omega, fit_small (by omega) (by omega) (by omega) (by omega), by simpa using X9.out.set_ 1 (.int .i64 (a + 40 + r9)), own_put (R := X) (o := 1) (vs := [.int .i64 (a + 40 + r9)]) O9.out HXF.out, src_put (R := X) (o := 1) (vs := [.int .i64 (a + 40 + r9)]) S9.out (fun e => HXB.out (by simp [e])) HXw.out⟩
    by_cases h1 : r8 = 1
    · subst h1
      go_wp2_with (go_at_call 51; (with_reducible refine (HN.out _ X0.out _ _ (S8.out.alloc _) _ (by decide) (by decide)).mono ?_); rintro e w9 ⟨r9, rfl, g0, g1, s9, k9⟩; have k89 := (Kept.of_ext ((Ext.refl w8).alloc _)).trans k9; obtain ⟨k, rfl⟩ : ∃ k : Nat, r9 = k := ⟨r9.toNat, by omega⟩; obtain ⟨t9, ht, i9⟩ := edge_at (k := k) S8.out.lt k9 (by simp only [List.mem_cons, List.not_mem_nil, or_false]; rintro x (rfl | rfl | rfl) <;> exact ⟨_, rfl, by unfold I64; omega⟩) (by simp only [List.length_cons, List.length_nil]; omega); have I9 := Lib.hid i9; have S9 := Lib.hid s9; have O9 := Lib.hid (HKF.out _ _ O8.out k89); have X9 : Hid (Blk w9 X 25 #[.int .i64 (a + r5), .int .i64 (a + r5 + 1 + r6)]) := Lib.hid ((k89.block X X8.out.lt HXB.out).trans X8.out); clear s9 k9 k89 i9)
      go_meet
      exact ⟨t9, ⟨a + r5, a + r5 + 1 + r6⟩, rfl, I9.out, fit_small (by omega) (by omega) (by omega) (by omega), X9.out, O9.out, S9.out⟩
    by_cases h2 : r8 = 2
    · subst h2
      go_wp2_with (first
        | (go_at_call 53; (with_reducible refine (HP.out _ X0.out _ _ S8.out).mono ?_); rintro e w9 ⟨y, rfl, fy, y0, y1, s9, k9⟩; have FY := Lib.hid fy; have S9 := Lib.hid s9; have O9 := Lib.hid (HKF.out _ _ O8.out k9); have X9 : Hid (Blk w9 X 25 #[.int .i64 (a + r5), .int .i64 (a + r5 + 1 + r6)]) := Lib.hid ((k9.block X X8.out.lt HXB.out).trans X8.out); clear s9 k9 fy)
        | (refine wpList_store_mid rfl 25 _ _ rfl X 0 #[.int .i64 y.from_, .int .i64 y.to_] rfl rfl (Blk.there (t := 25) (cs := #[.int .i64 (a + r5), .int .i64 (a + r5 + 1 + r6)]) X9.out) (by kernel_rfl) (all_oneCell_toArray (cs := [.int .i64 y.from_, .int .i64 y.to_]) (by simp [Value.oneCell'])) ?_))
      go_meet
      exact ⟨a, y, rfl, by unfold I64; omega, FY.out, Blk.setAll (t := 25) (cs := #[.int .i64 (a + r5), .int .i64 (a + r5 + 1 + r6)]) (vs := #[.int .i64 y.from_, .int .i64 y.to_]) X9.out rfl, own_put O9.out HXF.out, src_put S9.out (fun e => HXB.out (by simp [e])) HXw.out⟩
    · go_wp2_with fail
      go_meet
      exact ⟨a, ⟨a + r5, a + r5 + 1 + r6⟩, rfl, by unfold I64; omega, fit_small (by omega) (by omega) (by omega) (by omega), X8.out, O8.out, S8.out⟩
  case rest =>
    generalize wc = WC at hcut ⊢
    obtain ⟨a2, x2, rfl, ia2, fx2, x9, o9, s9⟩ := hcut
    have IA := Lib.hid ia2
    have FX := Lib.hid fx2
    have X9 := Lib.hid x9
    have O9 := Lib.hid o9
    have S9 := Lib.hid s9
    have R9 : Hid (Blk WC R 25 #[.int .i64 0, .int .i64 0]) := Lib.hid (R0.out.ext s9.old)
    clear ia2 fx2 x9 o9 s9
    have x0 := X9.out.cell 0
    have x1 := X9.out.cell 1
    have HFr := Lib.hid R9.out.frozen
    go_upto_region 13 with (fail)
    go_region_law (first | (go_simp; go_at_call 51; (with_reducible refine (HN.out _ X0.out _ _ (S9.out.ext (Ext.refl _).drew) _ (by decide) (by decide)).mono ?_); rintro e w10 ⟨r10, rfl, h0, h1, s10, k10⟩; have K10 : Hid (Kept [B] WC w10) := Lib.hid ((Kept.of_ext (Ext.refl _).drew).trans k10); have S10 := Lib.hid s10; have O10 := Lib.hid (HKF.out _ _ O9.out K10.out); have X10 : Hid (Blk w10 X 25 #[.int .i64 x2.from_, .int .i64 x2.to_]) := Lib.hid ((K10.out.block X X9.out.lt HXB.out).trans X9.out); have y0 := X10.out.cell 0; have y1 := X10.out.cell 1; have R10 : Hid (Blk w10 R 25 #[.int .i64 0, .int .i64 0]) := Lib.hid (R0.out.ext S10.out.old); have q0 := R10.out.cell 0; have q1 := R10.out.cell 1; have qf := R10.out.frozen; clear s10 k10))
    all_goals
      clear y0 y1 q0 q1 qf x0 x1
      obtain ⟨V6, hV6, r6, o6, s6⟩ : ∃ V6, V6 = (w10.setCell ⟨R, 0, none⟩ (.int .i64 x2.from_)).setCell ⟨R, 1, none⟩ (.int .i64 x2.to_) ∧ Blk V6 R 25 #[.int .i64 x2.from_, .int .i64 x2.to_] ∧ OwS ONode 42 V6 u m F ∧ Ext w V6 := ⟨_, rfl, by simpa using (R10.out.set_ 0 (.int .i64 x2.from_)).set_ 1 (.int .i64 x2.to_), own_put (R := R) (o := 1) (vs := [.int .i64 x2.to_]) (own_put (R := R) (o := 0) (vs := [.int .i64 x2.from_]) O10.out HRF.out) HRF.out, ((X0.out.trans S10.out.old).setCell (p := ⟨R, 0, none⟩) HR.out _).setCell (p := ⟨R, 1, none⟩) HR.out _⟩
      rw [← hV6]
      have R6 := Lib.hid r6
      have O6' := Lib.hid o6
      have X6 := Lib.hid s6
      clear hV6 r6 o6 s6
      go_wp2_with fail
      exact bodyPost_ret (results_c3 Try.results6 rfl R6.out Try.underlying25 rfl (by kernel_rfl)) rfl ⟨u, r10, x2, a2, m, F, rfl, by unfold I64; omega, IA.out, FX.out, hm, O6'.out, HFw.out, X6.out⟩
end Go.Proofs.Ytbdicafambkhdaa

/- Drawing uses out of bytes. Drawing some uses out of bytes. What FnUses draws: uses, with one more. -/
import Derived.Test.YtbdicafambkhdaaDrawNd
import Derived.Test.YtbdicafambkhdaaDrawLb
import Derived.Test.YtbdicafambkhdaaDrawUl
import Derived.Test.YtbdicafambkhdaaUAddS
import Derived.Test.YtbdicafambkhdaaUAddC
import Derived.Deep.CutBlock
import Derived.Deep.RegionLaw
namespace Go.Proofs.Ytbdicafambkhdaa
open Go.RowKit
attribute [local irreducible] wpQuiet

def GotU (l : List Int) (v : Value) (w0 w : World) (B n : Nat) (u : Value) (wx : World) : Prop :=
  ∃ (m : List Use) (F : List Nat), m.length ≤ n ∧ OwS OUse 124 wx u m F ∧ (∀ b ∈ F, w.heap.size ≤ b) ∧ SrcAt l v w0 wx B ∧ Kept [B] w wx

/-- The labels that are drawn from, as they stand in memory. -/
theorem labels_at {SL : Nat → Prop} {w : World} {vl : Value} {ls : List Label} {B : Nat} (hL : Rd ELabel SL w vl ls) (hSL : ∀ b, SL b → b ≠ B) (h0 : 0 < ls.length) :
    ∃ bL oL cL, vl = .slice (some ⟨bL, oL, none⟩) ls.length cL ∧ ∀ V, Kept [B] w V → ∀ j, j < ls.length → V.cell? ⟨bL, oL + j * 2, none⟩ = some (.int .i64 (nth ls j).level) ∧ V.cell? ⟨bL, oL + j * 2 + 1, none⟩ = some (.int .i64 (nth ls j).set) ∧ FitLabel (nth ls j) := by
  obtain ⟨A, c, rfl, -, -, hk⟩ := hL.open_
  obtain ⟨b, o, cs, rfl, hb, -⟩ := hk 0 h0
  refine ⟨b, o, c, rfl, fun V hV j hj => ?_⟩
  obtain ⟨b', o', cs', e, hb', ⟨rfl, hf⟩, hc⟩ := hk j hj
  cases e
  have hn : b ∉ [B] := by simpa using hSL b hb
  exact ⟨hV.cell hn (hc 0 _ rfl), hV.cell hn (hc 1 _ rfl), hf⟩

/-- The first of some uses may be written. -/
theorem use_put {W : World} {Bm c : Nat} {m : List Use} {F : List Nat} (h : OwS OUse 124 W (.slice (some ⟨Bm, 0, none⟩) m.length c) m F) (h0 : 0 < m.length) :
    W.cell? ⟨Bm, 3, none⟩ = some (.int .i64 (nth m 0).used) ∧ W.frozen? ⟨Bm, 3, none⟩ = false ∧ Bm ∈ F ∧ ∀ u, I64 u → OwS OUse 124 (W.setCell ⟨Bm, 3, none⟩ (.int .i64 u)) (.slice (some ⟨Bm, 0, none⟩) m.length c) (m.set 0 ⟨(nth m 0).label, (nth m 0).owner, u⟩) F := by
  obtain ⟨B2, cc, G, cs, hv, hBF, hBG, hGF, ho2, hc, hfz, hth, hrow, hset⟩ := h.at h0
  injection hv with e1 e2 e3
  injection e1 with e1
  injection e1 with e1 _ _
  subst e1
  obtain ⟨⟨rfl, hfit⟩, rfl⟩ := ho2
  have e3 := hc 3 _ rfl
  have e3' : W.cell? ⟨Bm, 3, none⟩ = some (.int .i64 (nth m 0).used) := by simpa [EUse] using e3
  refine ⟨e3', hfz 3, hBF, fun u hu => ?_⟩
  refine hset _ ⟨(nth m 0).label, (nth m 0).owner, u⟩ [.int .i64 (nth m 0).label.level, .int .i64 (nth m 0).label.set, .string (nth m 0).owner, .int .i64 u] (Kept.setCell (p := ⟨Bm, 3, none⟩) (Kept.refl _ _) (by simp) _) (RowBut.setCell hrow (by simp) (by simp [EUse]) _) ⟨⟨rfl, hfit.1, hfit.2.1, hfit.2.2.1, hu⟩, rfl⟩ ?_
  have hc3 : W.rangeAt Bm 0 ([.int .i64 (nth m 0).label.level, .int .i64 (nth m 0).label.set, .string (nth m 0).owner] ++ [.int .i64 (nth m 0).used]) := by simpa [cellsUse] using hc
  have := range_back (a := [.int .i64 (nth m 0).label.level, .int .i64 (nth m 0).label.set, .string (nth m 0).owner]) (b := [.int .i64 (nth m 0).used]) (b' := [.int .i64 u]) (o := 0) hc3 (fun j hj => ⟨(by obtain rfl : j = 0 := (by simpa using hj); simp [e3']), hrow.frozen _⟩)
  simpa [World.setCells] using this

set_option maxHeartbeats 8000000 in
set_option maxRecDepth 100000 in
theorem l11Uses_any {S SL : Nat → Prop} (l : List Int) (v : Value) (w0 : World) (h : Rd EByte S w0 v l) (B : Nat) (w : World) (hs : SrcAt l v w0 w B) (ls : List Label) (vl : Value) (hL : Rd ELabel SL w vl ls) (hSL : ∀ b, SL b → b ≠ B) (h0 : 0 < ls.length) (h9 : ls.length ≤ 100) :
    Calls Try.prog 148 #[.pointer (some ⟨B, 0, none⟩), vl] w fun e w' => ∃ u, e = .returned u ∧ GotU l v w0 w B 9 u w' := by
  obtain ⟨bL, oL, cL, rfl, hlab⟩ := labels_at hL hSL h0
  have HLB := Lib.hid hlab
  have HN := Lib.hid fun (W : World) (hW : SrcAt l v w0 W B) (most : Int) (h1 : 1 ≤ most) (h2 : most ≤ 1152921504606846976) => srcN_all l v w0 h most h1 h2 B W hW
  have HO := Lib.hid fun (W : World) (hW : SrcAt l v w0 W B) (most : Int) (h1 : 1 < most) (h2 : most ≤ 1152921504606846976) => srcOne_any l v w0 h most h1 h2 B W hW
  have HW := Lib.hid fun (W : World) (hW : SrcAt l v w0 W B) => srcOwner_any l v w0 h B W hW
  have HS := Lib.hid hs
  have HB := Lib.hid hs.lt
  have hBF : ∀ G : List Nat, (∀ b ∈ G, w.heap.size ≤ b) → B ∉ G := fun G hG hb => absurd (hG B hb) (by have := HB.out; omega)
  have HBF := Lib.hid hBF
  have hkO : ∀ (W W2 : World) (u : Value) (m : List Use) (F : List Nat), OwS OUse 124 W u m F → (∀ b ∈ F, w.heap.size ≤ b) → Kept [B] W W2 → OwS OUse 124 W2 u m F := fun W W2 u m F ho hF hk => ho.kept hk (fun b hb hB => HBF.out F hF (by simp at hB; subst hB; exact hb))
  have HKO := Lib.hid hkO
  clear h hs hBF hL hSL hlab hkO
  go_enter Try.func148, Try.ntmps148
  go_wp2_with (go_at_call 51; (with_reducible refine (HN.out _ (HS.out.ext (by repeat (first | exact Ext.refl _ | refine Ext.alloc ?_ _))) _ (by decide) (by decide)).mono ?_); rintro e w2 ⟨a, rfl, a0, a1, s2, k2⟩; have S2 := Lib.hid s2; have K2 : Hid (Kept [B] w w2) := Lib.hid ((Kept.of_ext (by repeat (first | exact Ext.refl _ | refine Ext.alloc ?_ _))).trans k2); clear s2 k2)
  go_loopw [5, 6] (fun u i w' => ∃ (k : Nat) (m : List Use) (F : List Nat), i = .int .i64 k ∧ k + m.length ≤ 7 ∧ OwS OUse 124 w' u m F ∧ (∀ b ∈ F, w.heap.size ≤ b) ∧ SrcAt l v w0 w' B ∧ Kept [B] w w') (fun _ i _ => (intOf i).toNat)
  case atStart => exact ⟨a.toNat, [], [], by rw [Int.toNat_of_nonneg a0], by simp only [List.length_nil]; omega, OwS.nil _, fun b hb => (by cases hb), S2.out, K2.out⟩
  case round =>
    obtain ⟨k, m, F, rfl, hk7, ho, hF, hs, hk⟩ := hrel
    have HO1 := Lib.hid ho
    have HF1 := Lib.hid hF
    have HS1 := Lib.hid hs
    have HK1 := Lib.hid hk
    clear ho hF hs hk
    by_cases hlt : 0 < k
    · go_upto_region 5 with (fail)
      go_region_law (first | (have q5 := S5.out; clear q5; go_simp; go_at_call 41; (with_reducible refine (specUseAdd_any (S := fun b => b ∈ F) m (nth ls kj) tw (1 + r5) _ _ O5.out.rd FJ.out (by unfold Str maxLen; omega) (by unfold I64; omega)).mono ?_); rintro e w6 ⟨v6, F6, rfl, o6, f6, x6⟩; have O6 := Lib.hid o6; have F6h := Lib.hid f6; have X6 := Lib.hid x6; clear o6 f6 x6) | (have q4 := S4.out; clear q4; go_simp; go_at_call 51; (with_reducible refine (HN.out _ (by repeat (first | with_reducible exact S4.out | with_reducible refine SrcAt.ext ?_ (Ext.refl _).drew)) _ (by decide) (by decide)).mono ?_); rintro e w5 ⟨r5, rfl, g0, g1, s5, k5⟩; have K5 : Hid (Kept [B] wr w5) := Lib.hid (Kept.trans (by repeat (first | with_reducible exact K4.out | with_reducible refine Kept.trans ?_ (Kept.of_ext (Ext.refl _).drew))) k5); have S5 := Lib.hid s5; have O5 := Lib.hid (HKO.out _ _ _ _ _ HO1.out HF1.out K5.out); clear s5 k5; have iw : IntKind.i64.wrap (1 + r5) = 1 + r5 := IntWalk.i64_in _ (by omega); obtain ⟨c5a, c5b, -⟩ := HLB.out w5 (HK1.out.trans K5.out) kj (by omega)) | (have q3 := S3.out; clear q3; go_simp; go_at_call 116; (with_reducible refine (HW.out _ (by repeat (first | with_reducible exact S3.out | with_reducible refine SrcAt.ext ?_ (Ext.refl _).drew))).mono ?_); rintro e w4 ⟨tw, rfl, hz, s4, k4, z4⟩; have K4 : Hid (Kept [B] wr w4) := Lib.hid (Kept.trans (by repeat (first | with_reducible exact K3.out | with_reducible refine Kept.trans ?_ (Kept.of_ext (Ext.refl _).drew))) k4); have S4 := Lib.hid s4; clear s4 k4 z4; obtain ⟨c4a, c4b, -⟩ := HLB.out w4 (HK1.out.trans K4.out) kj (by omega)) | (go_simp; go_at_call 51; (with_reducible refine (HN.out _ (by repeat (first | with_reducible exact HS1.out | with_reducible refine SrcAt.ext ?_ (Ext.refl _).drew)) _ (by omega) (by omega)).mono ?_); rintro e w3 ⟨j3, rfl, p0, p1, s3, k3⟩; obtain ⟨kj, rfl⟩ : ∃ k : Nat, j3 = k := ⟨j3.toNat, by omega⟩; have K3 : Hid (Kept [B] wr w3) := Lib.hid (Kept.trans (by first | with_reducible exact Kept.refl _ _ | with_reducible exact Kept.of_ext (Ext.refl _).drew) k3); have S3 := Lib.hid s3; clear s3 k3; obtain ⟨c3a, c3b, f3⟩ := HLB.out w3 (HK1.out.trans K3.out) kj (by omega); have FJ := Lib.hid f3; clear f3))
      all_goals
        go_wp2_with fail
        exact ⟨⟨k - 1, useAdd m (nth ls kj) tw (1 + r5), F6, by go_num, (by have := useAdd_length m (nth ls kj) tw (1 + r5); omega), O6.out, fun b hb => Nat.le_trans (Nat.le_trans HK1.out.size K5.out.size) (F6h.out b hb), S5.out.ext X6.out, (HK1.out.trans K5.out).trans (Kept.of_ext X6.out)⟩, by simp [intOf]; omega⟩
    · obtain rfl : k = 0 := by omega
      go_upto_if 34 with (go_at_call 67; (with_reducible refine (HO.out _ HS1.out _ (by decide) (by decide)).mono ?_); rintro e w3 ⟨r3, rfl, s3, k3⟩; have S3 := Lib.hid s3; have K3 := Lib.hid (HK1.out.trans k3); have O3 := Lib.hid (HKO.out _ _ _ _ _ HO1.out HF1.out k3); clear s3 k3)
      go_cut [5] (fun u wx => GotU l v w0 w B 9 u wx)
      case first =>
        cases r3 with
        | false =>
          go_wp2_with fail
          go_meet
          exact ⟨m, F, by omega, O3.out, HF1.out, S3.out, K3.out⟩
        | true =>
          go_upto_block 2 with (go_at_call 51; (with_reducible refine (HN.out _ S3.out _ (by decide) (by decide)).mono ?_); rintro e w4 ⟨r4, rfl, q0, q1, s4, k4⟩; have S4 := Lib.hid s4; have K4 := Lib.hid (K3.out.trans k4); have O4 := Lib.hid (HKO.out _ _ _ _ _ O3.out HF1.out k4); clear s4 k4)
          by_cases h0 : r4 = 0
          · subst h0
            go_wp2_with (first
              | (go_at_call 116; (with_reducible refine (HW.out _ S4.out).mono ?_); rintro e w5 ⟨t5, rfl, z5, s5, k5, -⟩; have S5 := Lib.hid s5; have K5 := Lib.hid (K4.out.trans k5); have O5 := Lib.hid (HKO.out _ _ _ _ _ O4.out HF1.out k5); clear s5 k5)
              | (go_at_call 51; (with_reducible refine (HN.out _ S5.out _ (by decide) (by decide)).mono ?_); rintro e w7 ⟨r7, rfl, p0, p1, s7, k7⟩; have S7 := Lib.hid s7; have K7 := Lib.hid (K5.out.trans k7); have O7 := Lib.hid (HKO.out _ _ _ _ _ O5.out HF1.out k7); clear s7 k7)
              | (at_builtin; refine wpList_append_one (O := OUse) (T := 124) (l := m) (F := F) (G := []) (y := ⟨⟨0, 0⟩, t5, r7⟩) (cs := [.int .i64 0, .int .i64 0, .string t5, .int .i64 r7]) rfl _ _ 66 rfl (.agg #[.int .i64 0, .int .i64 0, .string ⟨#[]⟩, .int .i64 0]) 4 40 Try.underlying66 (by kernel_rfl) rfl rfl rfl (O7.out.ext ((Ext.refl _).alloc _)) _ 0 1 rfl ⟨⟨rfl, ?fit⟩, rfl⟩ (Blk.new _ _ _).range (by simpa using O7.out.nodup) (by omega) (by decide) ?_; rotate_right; intro u6 w6 F6 o6 k6 f6; have O6 := Lib.hid o6; have K6 := Lib.hid k6; have G6 := Lib.hid f6; clear o6 k6 f6))
            case fit => unfold FitUse I64 Str maxLen; simp only; omega
            go_meet
            refine ⟨m ++ [⟨⟨0, 0⟩, t5, r7⟩], F6, by simp; omega, O6.out, fun b hb => ?_, (S7.out.alloc _).kept K6.out (HBF.out F HF1.out) (fun b hb => Nat.le_trans HS.out.old.size (HF1.out b hb)), kept_new (K7.out.trans (Kept.of_ext ((Ext.refl _).alloc _))) K6.out HF1.out⟩
            rcases G6.out b hb with h | h | h
            · exact HF1.out b h
            · cases h
            · exact Nat.le_trans K7.out.size (Nat.le_trans ((Ext.refl _).alloc _).size h)
          by_cases h1 : r4 = 1
          · subst h1
            by_cases hm0 : 0 < m.length
            · obtain ⟨Bm, cm, G, cs, hv, hBF, hBG, hGF, hown, hc, hfz, hth, hrow, hset⟩ := O4.out.at (k := 0) hm0
              clear hown hc hfz hth hrow hset hBG hGF hBF
              subst hv
              have HM0 := Lib.hid hm0
              go_wp2_with (go_at_call 51; (with_reducible refine (HN.out _ (S4.out.alloc _) _ (by decide) (by decide)).mono ?_); rintro e w9 ⟨r9, rfl, g0, g1, s9, k9⟩; have k49 := (Kept.of_ext ((Ext.refl w4).alloc _)).trans k9; obtain ⟨k, rfl⟩ : ∃ k : Nat, r9 = k := ⟨r9.toNat, by omega⟩; obtain ⟨t9, ht, i9⟩ := edge_at (k := k) S4.out.lt k9 (by simp only [List.mem_cons, List.not_mem_nil, or_false]; rintro x (rfl | rfl | rfl) <;> exact ⟨_, rfl, by unfold I64; omega⟩) (by simp only [List.length_cons, List.length_nil]; omega); have S9 := Lib.hid s9; have O9 := Lib.hid (HKO.out _ _ _ _ _ O4.out HF1.out k49); have K9 := Lib.hid (K4.out.trans k49); have I9 := Lib.hid i9; obtain ⟨cl9, fz9, hBF, hput⟩ := use_put O9.out HM0.out; have HPUT := Lib.hid (hput t9 i9); have HBF9 := Lib.hid (HF1.out _ hBF); have HBB9 := Lib.hid (fun e : Bm = B => HBF.out F HF1.out (e ▸ hBF)); clear s9 k9 k49 i9 hput hBF)
              go_meet
              exact ⟨_, F, by rw [List.length_set]; omega, HPUT.out, HF1.out, src_put (R := Bm) (o := 3) (vs := [.int .i64 t9]) S9.out HBB9.out (Nat.le_trans HS.out.old.size HBF9.out), kept_put (R := Bm) (o := 3) (vs := [.int .i64 t9]) K9.out HBF9.out⟩
            · have e0 : m.length = 0 := by omega
              obtain ⟨A4, c4, rfl, -⟩ := O4.out.form
              go_wp2_with fail
              go_meet
              exact ⟨m, F, by omega, O4.out, HF1.out, S4.out, K4.out⟩
          · go_wp2_with ((at_builtin; refine wpList_append_one (O := OUse) (T := 124) (l := m) (F := F) (G := []) (y := ⟨⟨3, 7⟩, ⟨#[]⟩, 1⟩) (cs := [.int .i64 3, .int .i64 7, .string ⟨#[]⟩, .int .i64 1]) rfl _ _ 66 rfl (.agg #[.int .i64 0, .int .i64 0, .string ⟨#[]⟩, .int .i64 0]) 4 40 Try.underlying66 (by kernel_rfl) rfl rfl rfl (O4.out.ext ((Ext.refl _).alloc _)) _ 0 1 rfl ⟨⟨rfl, ?fit⟩, rfl⟩ (Blk.new _ _ _).range (by simpa using O4.out.nodup) (by omega) (by decide) ?_; rotate_right; intro u6 w6 F6 o6 k6 f6; have O6 := Lib.hid o6; have K6 := Lib.hid k6; have G6 := Lib.hid f6; clear o6 k6 f6))
            case fit => unfold FitUse I64 Str maxLen; simp only; exact ⟨by omega, by omega, by decide, by omega⟩
            go_meet
            refine ⟨m ++ [⟨⟨3, 7⟩, ⟨#[]⟩, 1⟩], F6, by simp; omega, O6.out, fun b hb => ?_, (S4.out.alloc _).kept K6.out (HBF.out F HF1.out) (fun b hb => Nat.le_trans HS.out.old.size (HF1.out b hb)), kept_new (K4.out.trans (Kept.of_ext ((Ext.refl _).alloc _))) K6.out HF1.out⟩
            rcases G6.out b hb with h | h | h
            · exact HF1.out b h
            · cases h
            · exact Nat.le_trans K4.out.size (Nat.le_trans ((Ext.refl _).alloc _).size h)
      case rest =>
        obtain ⟨m7, F7, hm7, o7, f7, s7, k7⟩ := hcut
        have O7 := Lib.hid o7
        have F7h := Lib.hid f7
        have S7 := Lib.hid s7
        have K7 := Lib.hid k7
        clear o7 f7 s7 k7
        go_wp2_with fail
        go_ret
        exact ⟨_, rfl, m7, F7, hm7, O7.out, F7h.out, S7.out, K7.out⟩
end Go.Proofs.Ytbdicafambkhdaa

namespace Go.Proofs.Ytbdicafambkhdaa
open Go.RowKit
attribute [local irreducible] wpQuiet

theorem rd_three {W : World} {N : Nat} {T : TypeId} (a b c : Label) (ha : FitLabel a) (hb : FitLabel b) (hc : FitLabel c) (h : Blk W N T #[.int .i64 a.level, .int .i64 a.set, .int .i64 b.level, .int .i64 b.set, .int .i64 c.level, .int .i64 c.set]) :
    Rd ELabel (fun x => x = N) W (.slice (some ⟨N, 0, none⟩) 3 3) [a, b, c] := by
  have h0 := h.cell 0; have h1 := h.cell 1; have h2 := h.cell 2; have h3 := h.cell 3; have h4 := h.cell 4; have h5 := h.cell 5
  refine ⟨_, _, rfl, Nat.le_refl _, by unfold maxLen; decide, fun k x hk => ?_⟩
  have hlt : k < 3 := by have := (List.getElem?_eq_some_iff.1 hk).1; simpa using this
  rcases (by omega : k = 0 ∨ k = 1 ∨ k = 2) with rfl | rfl | rfl
  · cases hk; exact ⟨N, 0, _, rfl, rfl, ⟨rfl, ha⟩, fun j v hj => by
      have hj2 : j < 2 := by have := (List.getElem?_eq_some_iff.1 hj).1; simpa [cellsLabel] using this
      rcases (by omega : j = 0 ∨ j = 1) with rfl | rfl <;> cases hj <;> assumption⟩
  · cases hk; exact ⟨N, 0, _, rfl, rfl, ⟨rfl, hb⟩, fun j v hj => by
      have hj2 : j < 2 := by have := (List.getElem?_eq_some_iff.1 hj).1; simpa [cellsLabel] using this
      rcases (by omega : j = 0 ∨ j = 1) with rfl | rfl <;> cases hj <;> assumption⟩
  · cases hk; exact ⟨N, 0, _, rfl, rfl, ⟨rfl, hc⟩, fun j v hj => by
      have hj2 : j < 2 := by have := (List.getElem?_eq_some_iff.1 hj).1; simpa [cellsLabel] using this
      rcases (by omega : j = 0 ∨ j = 1) with rfl | rfl <;> cases hj <;> assumption⟩

theorem blk_kept' {w w' : World} {F : List Nat} {R : Nat} {T : TypeId} {C : Array Value} (h : Blk w R T C) (hk : Kept F w w') (hR : R ∉ F) : Blk w' R T C := (hk.block R h.lt hR).trans h

set_option maxHeartbeats 8000000 in
set_option maxRecDepth 100000 in
theorem l11Some_any {S : Nat → Prop} (l : List Int) (v : Value) (w0 : World) (h : Rd EByte S w0 v l) (B : Nat) (w : World) (hs : SrcAt l v w0 w B) :
    Calls Try.prog 112 #[.pointer (some ⟨B, 0, none⟩)] w fun e w' => ∃ u, e = .returned u ∧ GotU l v w0 w B 48 u w' := by
  have HU := Lib.hid fun (W : World) (hW : SrcAt l v w0 W B) (N : Nat) (hN : N ≠ B) (hrd : Rd ELabel (fun x => x = N) W (.slice (some ⟨N, 0, none⟩) 3 3) [⟨0, 0⟩, ⟨1, 0⟩, ⟨1, 2⟩]) => l11Uses_any l v w0 h B W hW [⟨0, 0⟩, ⟨1, 0⟩, ⟨1, 2⟩] _ hrd (fun b e => e ▸ hN) (by decide) (by decide)
  have HN := Lib.hid fun (W : World) (hW : SrcAt l v w0 W B) (most : Int) (h1 : 1 < most) (h2 : most ≤ 1152921504606846976) => srcN_any l v w0 h most h1 h2 B W hW
  have HO := Lib.hid fun (W : World) (hW : SrcAt l v w0 W B) (most : Int) (h1 : 1 < most) (h2 : most ≤ 1152921504606846976) => srcOne_any l v w0 h most h1 h2 B W hW
  have HS := Lib.hid hs
  have HB := Lib.hid hs.lt
  have hBF : ∀ G : List Nat, (∀ b ∈ G, w.heap.size ≤ b) → B ∉ G := fun G hG hb => absurd (hG B hb) (by have := HB.out; omega)
  have HBF := Lib.hid hBF
  have hkO : ∀ (W W2 : World) (u : Value) (m : List Use) (F : List Nat), OwS OUse 124 W u m F → (∀ b ∈ F, w.heap.size ≤ b) → Kept [B] W W2 → OwS OUse 124 W2 u m F := fun W W2 u m F ho hF hk => ho.kept hk (fun b hb hB => HBF.out F hF (by simp at hB; subst hB; exact hb))
  have HKO := Lib.hid hkO
  clear h hs hBF hkO
  go_enter Try.func112, Try.ntmps112
  go_upto_if 8 with (go_at_call 67; (with_reducible refine (HO.out _ HS.out _ (by decide) (by decide)).mono ?_); rintro e w2 ⟨o, rfl, s2, k2⟩; have S2 := Lib.hid s2; have K2 := Lib.hid k2; clear s2 k2)
  cases o with
  | false =>
    go_wp2_with (go_at_call 148; (with_reducible refine (HU.out _ (S2.out.alloc _) _ ?nb ?rd).mono ?_); rotate_right; rintro e w3 ⟨u, rfl, m, F, hm, ho, hF, s3, k3⟩; have O3 := Lib.hid ho; have F3 := Lib.hid hF; have S3 := Lib.hid s3; have K3 := Lib.hid k3; clear ho hF s3 k3)
    case nb => have := S2.out.lt; omega
    case rd => exact rd_three ⟨0, 0⟩ ⟨1, 0⟩ ⟨1, 2⟩ (by unfold FitLabel I64; decide) (by unfold FitLabel I64; decide) (by unfold FitLabel I64; decide) (Blk.new _ _ _)
    go_ret
    exact ⟨_, rfl, m, F, by omega, O3.out, fun b hb => Nat.le_trans (Nat.le_trans K2.out.size ((Ext.refl w2).alloc _).size) (F3.out b hb), S3.out, (K2.out.trans (Kept.of_ext ((Ext.refl w2).alloc _))).trans K3.out⟩
  | true =>
    go_wp2_with fail
    go_loopw [3, 4] (fun u i w' => ∃ (k : Nat) (m : List Use) (F : List Nat), i = .int .i64 k ∧ k ≤ 8 ∧ m.length ≤ 6 * k ∧ OwS OUse 124 w' u m F ∧ (∀ b ∈ F, w.heap.size ≤ b) ∧ SrcAt l v w0 w' B ∧ Kept [B] w w') (fun _ i _ => 8 - (intOf i).toNat)
    case atStart => exact ⟨0, [], [], rfl, by omega, by simp, OwS.nil _, fun b hb => (by cases hb), S2.out.alloc _, K2.out.trans (Kept.of_ext ((Ext.refl w2).alloc _))⟩
    case round =>
      obtain ⟨k, m, F, rfl, hk8, hm, ho, hF, hs, hk⟩ := hrel
      have HO1 := Lib.hid ho
      have HF1 := Lib.hid hF
      have HS1 := Lib.hid hs
      have HK1 := Lib.hid hk
      clear ho hF hs hk
      by_cases hlt : k < 8
      · go_wp2_with fail
        obtain ⟨W, N, hW, hN, hx0, b0⟩ : ∃ W N, W = wr.alloc (.cells #[.string ⟨#[97, 110, 110]⟩, .string ⟨#[98, 111, 98]⟩, .string ⟨#[99, 121]⟩, .string ⟨#[100, 101, 101]⟩, .string ⟨#[101, 118, 101]⟩, .string ⟨#[102, 97, 121]⟩] 9) ∧ N = wr.heap.size ∧ Ext wr W ∧ Blk W N 9 #[.string ⟨#[97, 110, 110]⟩, .string ⟨#[98, 111, 98]⟩, .string ⟨#[99, 121]⟩, .string ⟨#[100, 101, 101]⟩, .string ⟨#[101, 118, 101]⟩, .string ⟨#[102, 97, 121]⟩] := ⟨_, _, rfl, rfl, (Ext.refl wr).alloc _, Blk.new _ _ _⟩
        rw [← hW, ← hN]
        have HNB : Hid (N ≠ B) := Lib.hid (by have := HS1.out.lt; omega)
        have HNw : Hid (w.heap.size ≤ N) := Lib.hid (by have := HK1.out.size; omega)
        have HNF : Hid (N ∉ F) := Lib.hid (fun hb => by have := HO1.out.lt N hb; omega)
        have B0 := Lib.hid b0
        have S0 := Lib.hid (HS1.out.ext hx0)
        have K0 := Lib.hid (HK1.out.trans (Kept.of_ext hx0))
        have O0 := Lib.hid (HO1.out.ext hx0)
        clear hW hN hx0 b0
        have hd : decide ((k : Int) < 8) = true := decide_eq_true (by omega)
        simp only [hd]
        clear hd
        go_loopw [3, 16] (fun u i w' => ∃ (j : Nat) (m2 : List Use) (F2 : List Nat), i = .int .i64 j ∧ j ≤ 6 ∧ m2.length ≤ 6 * k + j ∧ OwS OUse 124 w' u m2 F2 ∧ (∀ b ∈ F2, w.heap.size ≤ b) ∧ N ∉ F2 ∧ Blk w' N 9 #[.string ⟨#[97, 110, 110]⟩, .string ⟨#[98, 111, 98]⟩, .string ⟨#[99, 121]⟩, .string ⟨#[100, 101, 101]⟩, .string ⟨#[101, 118, 101]⟩, .string ⟨#[102, 97, 121]⟩] ∧ SrcAt l v w0 w' B ∧ Kept [B] w w') (fun _ i _ => 6 - (intOf i).toNat)
        case atStart => exact ⟨0, m, F, rfl, by omega, by omega, O0.out, HF1.out, HNF.out, B0.out, S0.out, K0.out⟩
        case round =>
          obtain ⟨j, m2, F2, rfl, hj6, hm2, ho2, hF2, hNF2, hb2, hs2, hk2⟩ := hrel
          have O2 := Lib.hid ho2
          have F2h := Lib.hid hF2
          have NF2 := Lib.hid hNF2
          have B2 := Lib.hid hb2
          have T2 := Lib.hid hs2
          have L2 := Lib.hid hk2
          have HM2 := Lib.hid hm2
          clear ho2 hF2 hNF2 hb2 hs2 hk2 hm2
          by_cases hlj : j < 6
          · obtain ⟨t, ht, hz⟩ := pick_at (w := wr) (w1 := wr) (A := N) (B := B) (k := j) (C := [.string ⟨#[97, 110, 110]⟩, .string ⟨#[98, 111, 98]⟩, .string ⟨#[99, 121]⟩, .string ⟨#[100, 101, 101]⟩, .string ⟨#[101, 118, 101]⟩, .string ⟨#[102, 97, 121]⟩]) B2.out HNB.out (Kept.refl _ _) (by simp only [List.mem_cons, List.not_mem_nil, or_false]; rintro x (rfl | rfl | rfl | rfl | rfl | rfl) <;> exact ⟨_, rfl, by decide⟩) (by simp only [List.length_cons, List.length_nil]; omega)
            go_wp2_with (first
              | (go_at_call 51; (with_reducible refine (HN.out _ T2.out _ (by decide) (by decide)).mono ?_); rintro e w5 ⟨r5, rfl, g0, g1, s5, k5⟩; have S5 := Lib.hid s5; have K5 := Lib.hid (L2.out.trans k5); have O5 := Lib.hid (HKO.out _ _ _ _ _ O2.out F2h.out k5); have B5 := Lib.hid (blk_kept B2.out k5 (by simpa using HNB.out)); have iw : IntKind.i64.wrap (1 + r5) = 1 + r5 := IntWalk.i64_in _ (by omega); clear s5 k5 ht)
              | (at_builtin; refine wpList_append_one (O := OUse) (T := 124) (l := m2) (F := F2) (G := []) (y := ⟨⟨0, k⟩, t, 1 + r5⟩) (cs := [.int .i64 0, .int .i64 k, .string t, .int .i64 (1 + r5)]) rfl _ _ 66 rfl (.agg #[.int .i64 0, .int .i64 0, .string ⟨#[]⟩, .int .i64 0]) 4 40 Try.underlying66 (by kernel_rfl) rfl rfl rfl (O5.out.ext ((Ext.refl _).alloc _)) _ 0 1 rfl ⟨⟨rfl, ?fit⟩, rfl⟩ (Blk.new _ _ _).range (by simpa using O5.out.nodup) (by have := HM2.out; omega) (by decide) ?_; rotate_right; intro u6 w6 F6 o6 k6 f6; have O6 := Lib.hid o6; have K6 := Lib.hid k6; have G6 := Lib.hid f6; clear o6 k6 f6))
            case fit => unfold FitUse I64 Str maxLen; simp only; omega
            have hNs : N < w5.heap.size := B5.out.lt
            refine ⟨⟨j + 1, m2 ++ [⟨⟨0, k⟩, t, 1 + r5⟩], F6, by go_num, by omega, by have := HM2.out; simp only [List.length_append, List.length_cons, List.length_nil]; omega, O6.out, fun b hb => ?_, fun hb => ?_, blk_kept' (B5.out.ext ((Ext.refl _).alloc _)) K6.out NF2.out, (S5.out.alloc _).kept K6.out (HBF.out F2 F2h.out) (fun b hb => Nat.le_trans HS.out.old.size (F2h.out b hb)), kept_new (K5.out.trans (Kept.of_ext ((Ext.refl _).alloc _))) K6.out F2h.out⟩, ?_⟩
            · rcases G6.out b hb with h | h | h
              · exact F2h.out b h
              · cases h
              · exact Nat.le_trans K5.out.size (Nat.le_trans ((Ext.refl _).alloc _).size h)
            · rcases G6.out N hb with h | h | h
              · exact NF2.out h
              · cases h
              · have := ((Ext.refl w5).alloc (.cells #[.int .i64 0, .int .i64 k, .string t, .int .i64 (1 + r5)] 124)).size; omega
            · simp [intOf]; omega
          · obtain rfl : j = 6 := by omega
            go_wp2_with fail
            exact ⟨⟨k + 1, m2, F2, by go_num, by omega, by have := HM2.out; omega, O2.out, F2h.out, T2.out, L2.out⟩, by simp [intOf]; omega⟩
      · go_wp2_with fail
        go_ret
        exact ⟨_, rfl, m, F, by omega, HO1.out, HF1.out, HS1.out, HK1.out⟩
end Go.Proofs.Ytbdicafambkhdaa

namespace Go.Proofs.Ytbdicafambkhdaa
open Go.RowKit
attribute [local irreducible] wpQuiet

theorem results_c2 {P : Program} {fn : Func} {i j k p : Tmp} {ty T : TypeId} {d : TypeDesc} {tmps : Array Value} {w : World} {B : Nat} {cs : Array Value} (h : fn.results = #[.tmp i, .cell p ty, .tmp j, .tmp k]) (hp : tmps.getD p undef = .pointer (.some ⟨B, 0, none⟩)) (hb : Blk w B T cs)
    (hu : P.underlying ty = .some d) (hd : d.isRow = true) (hi : (P.info? ty).map (·.size) = .some cs.size) : (results fn tmps).run P w = .ok (.tuple #[tmps.getD i undef, .agg cs, tmps.getD j undef, tmps.getD k undef]) w := by
  have h1 := run_loadVar_mid (P := P) w B 0 ty cs.toList d hb.range hu hd (by rw [hi]; simp)
  simp only [results, h]
  have hp' : tmps[p]?.getD undef = .pointer (.some ⟨B, 0, none⟩) := by rw [← hp]; simp [Array.getD_eq_getD_getElem?]
  simp [hp', asAddr, h1]

theorem use_leaf {w V : World} {R : Nat} {u : Value} {m : List Use} {F : List Nat} (x y : Int) (hr : Blk V R 46 #[.int .i64 0, .int .i64 0]) (ho : OwS OUse 124 V u m F) (hRF : R ∉ F) (hx : Ext w V) (hR : w.heap.size ≤ R) :
    ∃ V6, V6 = (V.setCell ⟨R, 0, none⟩ (.int .i64 x)).setCell ⟨R, 1, none⟩ (.int .i64 y) ∧ Blk V6 R 46 #[.int .i64 x, .int .i64 y] ∧ OwS OUse 124 V6 u m F ∧ Ext w V6 :=
  ⟨_, rfl, by simpa using (hr.set_ 0 (.int .i64 x)).set_ 1 (.int .i64 y), own_put (R := R) (o := 1) (vs := [.int .i64 y]) (own_put (R := R) (o := 0) (vs := [.int .i64 x]) ho hRF) hRF, (hx.setCell (p := ⟨R, 0, none⟩) hR _).setCell (p := ⟨R, 1, none⟩) hR _⟩

theorem tri_blk {W : World} {N k : Nat} {T : TypeId} {a b c : Int} (h : Blk W N T #[.int .i64 a, .int .i64 b, .int .i64 c]) (hk : k < 3) : W.cell? ⟨N, k, none⟩ = some (.int .i64 (tri a b c k)) := by
  rw [h.cell]
  rcases (by omega : k = 0 ∨ k = 1 ∨ k = 2) with rfl | rfl | rfl <;> rfl

/-- What DrawUseAdd hands back. -/
def GotUA (w : World) (e : Ending) (w' : World) : Prop :=
  ∃ (u : Value) (a : Label) (o : ByteArray) (n : Int) (m : List Use) (F : List Nat), e = .returned (.tuple #[u, .agg #[.int .i64 a.level, .int .i64 a.set], .string o, .int .i64 n]) ∧ FitLabel a ∧ o.size ≤ 100 ∧ I64 n ∧ m.length ≤ 48 ∧ OwS OUse 124 w' u m F ∧ (∀ b ∈ F, w.heap.size ≤ b) ∧ Ext w w'

set_option maxHeartbeats 8000000 in
set_option maxRecDepth 100000 in
theorem drawUseAdd_any {S : Nat → Prop} (l : List Int) (v : Value) (w : World) (h : Rd EByte S w v l) :
    Calls Try.prog 38 #[v] w (GotUA w) := by
  have HS := Lib.hid fun (w0 : World) (hx : Ext w w0) => source_any l v w0 (h.ext hx)
  have HN := Lib.hid fun (w0 : World) (hx : Ext w w0) (B : Nat) (W : World) (hW : SrcAt l v w0 W B) (most : Int) (h1 : 1 < most) (h2 : most ≤ 1152921504606846976) => srcN_thru l v w0 (h.ext hx) most h1 h2 B W hW
  have HL := Lib.hid fun (w0 : World) (hx : Ext w w0) (B : Nat) (W : World) (hW : SrcAt l v w0 W B) => l02Label_any l v w0 (h.ext hx) B W hW
  have HW := Lib.hid fun (w0 : World) (hx : Ext w w0) (B : Nat) (W : World) (hW : SrcAt l v w0 W B) => srcOwner_any l v w0 (h.ext hx) B W hW
  have HM := Lib.hid fun (w0 : World) (hx : Ext w w0) (B : Nat) (W : World) (hW : SrcAt l v w0 W B) => srcName_any l v w0 (h.ext hx) B W hW
  have HE := Lib.hid fun (w0 : World) (hx : Ext w w0) (B : Nat) (W : World) (hW : SrcAt l v w0 W B) => srcEdge_any l v w0 (h.ext hx) B W hW
  have HP := Lib.hid fun (w0 : World) (hx : Ext w w0) (B : Nat) (W : World) (hW : SrcAt l v w0 W B) => srcPick_any l v w0 (h.ext hx) B W hW
  have HU := Lib.hid fun (w0 : World) (hx : Ext w w0) (B : Nat) (W : World) (hW : SrcAt l v w0 W B) => l11Some_any l v w0 (h.ext hx) B W hW
  clear h
  go_enter Try.func38, Try.ntmps38
  go_upto_region 1 with (fail)
  obtain ⟨W, R, hW, hR, hx0, r0⟩ : ∃ W R, W = w.alloc (.cells #[.int .i64 0, .int .i64 0] 46) ∧ R = w.heap.size ∧ Ext w W ∧ Blk W R 46 #[.int .i64 0, .int .i64 0] := ⟨_, _, rfl, rfl, (Ext.refl w).alloc _, Blk.new _ _ _⟩
  rw [← hW, ← hR]
  have R0 := Lib.hid r0
  have X0 := Lib.hid hx0
  have HR : Hid (w.heap.size ≤ R) := Lib.hid (by omega)
  have HRW : Hid (R < W.heap.size) := Lib.hid r0.lt
  clear hW hR hx0 r0
  go_upto_region 2 with (go_at_call 50; (with_reducible refine (HS.out _ X0.out).mono ?_); rintro e w1 ⟨B, rfl, s1⟩; have S1 := Lib.hid s1; clear s1)
  have HBR : Hid (R ∉ [B]) := Lib.hid (by have := S1.out.ge; have := HRW.out; simp; omega)
  go_upto_region 3 with (go_at_call 112; (with_reducible refine (HU.out _ X0.out _ _ S1.out).mono ?_); rintro e w2 ⟨u, rfl, m, F, hm, o2, f2, s2, k2⟩; have O2 := Lib.hid o2; have F2 := Lib.hid f2; have S2 := Lib.hid s2; have HMM := Lib.hid hm; clear o2 f2 s2 k2 hm)
  have HBF : Hid (B ∉ F) := Lib.hid (fun hb => absurd (F2.out B hb) (by have := S1.out.lt; omega))
  have HRF : Hid (R ∉ F) := Lib.hid (fun hb => absurd (F2.out R hb) (by have := S1.out.old.size; have := HRW.out; omega))
  have HFw : Hid (∀ b ∈ F, w.heap.size ≤ b) := Lib.hid (fun b hb => Nat.le_trans (X0.out.trans S1.out.old).size (F2.out b hb))
  have HKF : Hid (∀ (V V' : World), OwS OUse 124 V u m F → Kept [B] V V' → OwS OUse 124 V' u m F) := Lib.hid fun V V' ho hk => ho.kept hk (fun b hb hB => HBF.out (by simp at hB; subst hB; exact hb))
  go_upto_region 4 with (go_at_call 51; (with_reducible refine (HN.out _ X0.out _ _ S2.out _ (by decide) (by decide)).mono ?_); rintro e w3 ⟨r3, rfl, b0, b1, s3, k3⟩; have S3 := Lib.hid s3; have O3 := Lib.hid (HKF.out _ _ O2.out k3.kept); clear s3 k3)
  obtain ⟨V, X, hV, hX, hx4, b4⟩ : ∃ V X, V = w3.alloc (.cells #[.int .i64 r3, .int .i64 0] 46) ∧ X = w3.heap.size ∧ Ext w3 V ∧ Blk V X 46 #[.int .i64 r3, .int .i64 0] := ⟨_, _, rfl, rfl, (Ext.refl _).alloc _, Blk.new _ _ _⟩
  rw [← hV, ← hX]
  have HXB : Hid (X ∉ [B]) := Lib.hid (by have := S3.out.lt; simp; omega)
  have S4 := Lib.hid (S3.out.ext hx4)
  have O4 := Lib.hid (O3.out.ext hx4)
  have X4 := Lib.hid b4
  clear hV hX hx4 b4
  go_upto_block 0 with (go_at_call 51; (with_reducible refine (HN.out _ X0.out _ _ S4.out _ (by decide) (by decide)).mono ?_); rintro e w5 ⟨r5, rfl, c0, c1, s5, k5⟩; have S5 := Lib.hid s5; have O5 := Lib.hid (HKF.out _ _ O4.out k5.kept); have X5 := Lib.hid (blk_kept X4.out k5.kept HXB.out); clear s5 k5)
  by_cases h0 : r5 = 0
  · subst h0
    go_wp2_with (first
      | (go_at_call 113; (with_reducible refine (HL.out _ X0.out _ _ S5.out).mono ?_); rintro e w6 ⟨x6, rfl, fx6, s6, k6⟩; have FX := Lib.hid fx6; have S6 := Lib.hid s6; have O6 := Lib.hid (HKF.out _ _ O5.out k6); clear s6 k6 fx6)
      | (go_at_call 114; (with_reducible refine (HM.out _ X0.out _ _ S6.out).mono ?_); rintro e w7 ⟨t7, rfl, z7, s7, k7⟩; have S7 := Lib.hid s7; have O7 := Lib.hid (HKF.out _ _ O6.out k7); clear s7 k7)
      | (go_at_call 68; (with_reducible refine (HE.out _ X0.out _ _ S7.out).mono ?_); rintro e w8 ⟨n8, rfl, i8, s8, k8⟩; have I8 := Lib.hid i8; have S8 := Lib.hid s8; have O8 := Lib.hid (HKF.out _ _ O7.out k8); have R8 : Hid (Blk w8 R 46 #[.int .i64 0, .int .i64 0]) := Lib.hid (R0.out.ext S8.out.old); clear s8 k8 i8)
      | (refine wpList_store_mid rfl 46 _ _ rfl R 0 #[.int .i64 x6.level, .int .i64 x6.set] rfl rfl (Blk.there (t := 46) (cs := #[.int .i64 0, .int .i64 0]) R8.out) (by kernel_rfl) (all_oneCell_toArray (cs := [.int .i64 x6.level, .int .i64 x6.set]) (by simp [Value.oneCell'])) ?_))
    obtain ⟨V6, hV6, r6, o6, y6⟩ := use_leaf x6.level x6.set R8.out O8.out HRF.out (X0.out.trans S8.out.old) HR.out
    rw [show w8.setCells R 0 [.int .i64 x6.level, .int .i64 x6.set] = V6 from hV6.symm]
    go_wp2_with fail
    exact bodyPost_ret (results_c2 Try.results38 rfl r6 Try.underlying46 rfl (by kernel_rfl)) rfl ⟨u, x6, t7, n8, m, F, rfl, FX.out, z7, I8.out, HMM.out, o6, HFw.out, y6⟩
  by_cases h1 : r5 = 1
  · subst h1
    go_upto_region 8 with (fail)
    have xa50 := fun o => (X5.out.ext ((Ext.refl _).alloc o)).cell 0
    have xa51 := fun o => (X5.out.ext ((Ext.refl _).alloc o)).cell 1
    have NB5 : Hid (w5.heap.size ≠ B) := Lib.hid (by have := S5.out.lt; omega)
    have x50 := X5.out.cell 0
    have x51 := X5.out.cell 1
    go_region_law ((go_simp; go_at_call 115; (with_reducible refine (HP.out _ X0.out _ _ (by repeat (first | with_reducible exact S5.out | with_reducible refine SrcAt.alloc ?_ _ | with_reducible refine SrcAt.ext ?_ (Ext.refl _).drew)) w5.heap.size 9 [.string ⟨#[]⟩, .string ⟨#[65, 110, 110]⟩, .string ⟨#[97, 110, 110, 32, 98]⟩] 3 (by first | exact Blk.new _ _ _ | exact Blk.ext (Blk.new _ _ _) (Ext.refl _).drew) NB5.out (by simp only [List.mem_cons, List.not_mem_nil, or_false]; rintro x (rfl | rfl | rfl) <;> exact ⟨_, rfl, by decide⟩) rfl (by decide) (by decide)).mono ?_); rintro e w7 ⟨t7, rfl, z7, s7, k7⟩; have K7 : Hid (Kept [B] w5 w7) := Lib.hid (Kept.trans (by repeat (first | with_reducible exact Kept.refl _ _ | with_reducible refine Kept.trans ?_ (Kept.of_ext ((Ext.refl _).alloc _)) | with_reducible refine Kept.trans ?_ (Kept.of_ext (Ext.refl _).drew))) k7.kept); have S7 := Lib.hid s7; have O7 := Lib.hid (HKF.out _ _ O5.out K7.out); have X7 := Lib.hid (blk_kept X5.out K7.out HXB.out); have x70 := X7.out.cell 0; have x71 := X7.out.cell 1; have R7 : Hid (Blk w7 R 46 #[.int .i64 0, .int .i64 0]) := Lib.hid (R0.out.ext S7.out.old); have q0 := R7.out.cell 0; have q1 := R7.out.cell 1; have qf := R7.out.frozen; clear s7 k7))
    all_goals
      obtain ⟨V6, hV6, r6, o6, y6⟩ := use_leaf r3 0 R7.out O7.out HRF.out (X0.out.trans S7.out.old) HR.out
      rw [← hV6]
      go_wp2_with fail
      exact bodyPost_ret (results_c2 Try.results38 rfl r6 Try.underlying46 rfl (by kernel_rfl)) rfl ⟨u, ⟨r3, 0⟩, t7, 1, m, F, rfl, (by unfold FitLabel I64; simp only; omega), z7, (by unfold I64; decide), HMM.out, o6, HFw.out, y6⟩
  by_cases h2 : r5 = 2
  · subst h2
    go_upto_region 10 with (fail)
    have xa50 := fun o => (X5.out.ext ((Ext.refl _).alloc o)).cell 0
    have xa51 := fun o => (X5.out.ext ((Ext.refl _).alloc o)).cell 1
    have x50 := X5.out.cell 0
    have x51 := X5.out.cell 1
    obtain ⟨N0, hN⟩ : ∃ N, w5.heap.size = N := ⟨_, rfl⟩
    have HN0 := Lib.hid hN
    have NB0 : Hid (N0 ≠ B) := Lib.hid (by have := S5.out.lt; omega)
    have NB1 : Hid (N0 + 1 ≠ B) := Lib.hid (by have := S5.out.lt; omega)
    have RN0 : ¬ R = N0 := by have := HRW.out; have := S5.out.old.size; omega
    have RN1 : ¬ R = N0 + 1 := by have := HRW.out; have := S5.out.old.size; omega
    have RM0 : ¬ N0 = R := fun e => RN0 e.symm
    have RM1 : ¬ N0 + 1 = R := fun e => RN1 e.symm
    go_region_law (first | (have q6 := BN6.out; clear q6; have q3 := S6.out; clear q3; go_simp; go_at_call 51; (with_reducible refine (HN.out _ X0.out _ _ (by repeat (first | with_reducible exact S6.out | with_reducible refine SrcAt.alloc ?_ _ | with_reducible refine SrcAt.ext ?_ (Ext.refl _).drew)) _ (by decide) (by decide)).mono ?_); rintro e w7 ⟨r7, rfl, d0, d1, s7, k7⟩; have K7 : Hid (Kept [B] w5 w7) := Lib.hid (Kept.trans (by repeat (first | with_reducible exact K6.out | with_reducible refine Kept.trans ?_ (Kept.of_ext ((Ext.refl _).alloc _)) | with_reducible refine Kept.trans ?_ (Kept.of_ext (Ext.refl _).drew))) k7.kept); have S7 := Lib.hid s7; have O7 := Lib.hid (HKF.out _ _ O5.out K7.out); have X7 := Lib.hid (blk_kept X5.out K7.out HXB.out); have x70 := X7.out.cell 0; have x71 := X7.out.cell 1; have R7 : Hid (Blk w7 R 46 #[.int .i64 0, .int .i64 0]) := Lib.hid (R0.out.ext S7.out.old); have q0 := R7.out.cell 0; have q1 := R7.out.cell 1; have qf := R7.out.frozen; have qa0 := fun o => (R7.out.ext ((Ext.refl _).alloc o)).cell 0; have qa1 := fun o => (R7.out.ext ((Ext.refl _).alloc o)).cell 1; have qaf := fun o => (R7.out.ext ((Ext.refl _).alloc o)).frozen; have xa0 := fun o => (X7.out.ext ((Ext.refl _).alloc o)).cell 0; have xa1 := fun o => (X7.out.ext ((Ext.refl _).alloc o)).cell 1; obtain ⟨ky, rfl⟩ : ∃ k : Nat, r7 = k := ⟨r7.toNat, by omega⟩; have tyb := tri_at 0 100000 100001 (k := ky) (by omega); have BN7 := Lib.hid (blk_kept BN6.out k7.kept (by simpa using NB0.out)); have c7 := tri_blk BN7.out (show ky < 3 by omega); clear s7 k7) | (have q3 := S6.out; clear q3; go_simp; go_at_call 51; (with_reducible refine (HN.out _ X0.out _ _ (by repeat (first | with_reducible exact S6.out | with_reducible refine SrcAt.alloc ?_ _ | with_reducible refine SrcAt.ext ?_ (Ext.refl _).drew)) _ (by decide) (by decide)).mono ?_); rintro e w7 ⟨r7, rfl, d0, d1, s7, k7⟩; have K7 : Hid (Kept [B] w5 w7) := Lib.hid (Kept.trans (by repeat (first | with_reducible exact K6.out | with_reducible refine Kept.trans ?_ (Kept.of_ext ((Ext.refl _).alloc _)) | with_reducible refine Kept.trans ?_ (Kept.of_ext (Ext.refl _).drew))) k7.kept); have S7 := Lib.hid s7; have O7 := Lib.hid (HKF.out _ _ O5.out K7.out); have X7 := Lib.hid (blk_kept X5.out K7.out HXB.out); have x70 := X7.out.cell 0; have x71 := X7.out.cell 1; have R7 : Hid (Blk w7 R 46 #[.int .i64 0, .int .i64 0]) := Lib.hid (R0.out.ext S7.out.old); have q0 := R7.out.cell 0; have q1 := R7.out.cell 1; have qf := R7.out.frozen; have qa0 := fun o => (R7.out.ext ((Ext.refl _).alloc o)).cell 0; have qa1 := fun o => (R7.out.ext ((Ext.refl _).alloc o)).cell 1; have qaf := fun o => (R7.out.ext ((Ext.refl _).alloc o)).frozen; have xa0 := fun o => (X7.out.ext ((Ext.refl _).alloc o)).cell 0; have xa1 := fun o => (X7.out.ext ((Ext.refl _).alloc o)).cell 1; obtain ⟨ky, rfl⟩ : ∃ k : Nat, r7 = k := ⟨r7.toNat, by omega⟩; have tyb := tri_at 0 100000 100001 (k := ky) (by omega); have c7 := fun i => k7.cell (b := N0 + 1) NB1.out i; have z7 := k7.size; clear s7 k7) | (go_simp; go_at_call 116; (with_reducible refine (HW.out _ X0.out _ (w5.alloc (.cells #[.int .i64 0, .int .i64 100000, .int .i64 100001] 2)).drew (by repeat (first | with_reducible exact S5.out | with_reducible refine SrcAt.alloc ?_ _ | with_reducible refine SrcAt.ext ?_ (Ext.refl _).drew))).mono ?_); rintro e w6 ⟨t6, rfl, z6, s6, k6, n6⟩; have K6 : Hid (Kept [B] w5 w6) := Lib.hid (Kept.trans (by repeat (first | with_reducible exact Kept.refl _ _ | with_reducible refine Kept.trans ?_ (Kept.of_ext ((Ext.refl _).alloc _)) | with_reducible refine Kept.trans ?_ (Kept.of_ext (Ext.refl _).drew))) k6); have S6 := Lib.hid s6; have O6 := Lib.hid (HKF.out _ _ O5.out K6.out); have X6 := Lib.hid (blk_kept X5.out K6.out HXB.out); have x60 := X6.out.cell 0; have x61 := X6.out.cell 1; have BN6 : Hid (Blk w6 N0 2 #[.int .i64 0, .int .i64 100000, .int .i64 100001]) := Lib.hid (by rw [← HN0.out]; exact blk_kept (Blk.ext (Blk.new w5 2 #[.int .i64 0, .int .i64 100000, .int .i64 100001]) (Ext.refl _).drew) k6 (by rw [HN0.out]; simpa using NB0.out)); clear s6 k6 n6) | (go_simp; go_at_call 116; (with_reducible refine (HW.out _ X0.out _ (w5.drew.alloc (.cells #[.int .i64 0, .int .i64 100000, .int .i64 100001] 2)) (by repeat (first | with_reducible exact S5.out | with_reducible refine SrcAt.alloc ?_ _ | with_reducible refine SrcAt.ext ?_ (Ext.refl _).drew))).mono ?_); rintro e w6 ⟨t6, rfl, z6, s6, k6, n6⟩; have K6 : Hid (Kept [B] w5 w6) := Lib.hid (Kept.trans (by repeat (first | with_reducible exact Kept.refl _ _ | with_reducible refine Kept.trans ?_ (Kept.of_ext ((Ext.refl _).alloc _)) | with_reducible refine Kept.trans ?_ (Kept.of_ext (Ext.refl _).drew))) k6); have S6 := Lib.hid s6; have O6 := Lib.hid (HKF.out _ _ O5.out K6.out); have X6 := Lib.hid (blk_kept X5.out K6.out HXB.out); have x60 := X6.out.cell 0; have x61 := X6.out.cell 1; have BN6 : Hid (Blk w6 N0 2 #[.int .i64 0, .int .i64 100000, .int .i64 100001]) := Lib.hid (by rw [← HN0.out]; exact blk_kept (show Blk (w5.drew.alloc (.cells #[.int .i64 0, .int .i64 100000, .int .i64 100001] 2)) w5.heap.size 2 #[.int .i64 0, .int .i64 100000, .int .i64 100001] from Blk.new w5.drew _ _) k6 (by rw [HN0.out]; simpa using NB0.out)); clear s6 k6 n6) | (go_simp; go_at_call 116; (with_reducible refine (HW.out _ X0.out _ _ (by repeat (first | with_reducible exact S5.out | with_reducible refine SrcAt.alloc ?_ _ | with_reducible refine SrcAt.ext ?_ (Ext.refl _).drew))).mono ?_); rintro e w6 ⟨t6, rfl, z6, s6, k6, n6⟩; have K6 : Hid (Kept [B] w5 w6) := Lib.hid (Kept.trans (by repeat (first | with_reducible exact Kept.refl _ _ | with_reducible refine Kept.trans ?_ (Kept.of_ext ((Ext.refl _).alloc _)) | with_reducible refine Kept.trans ?_ (Kept.of_ext (Ext.refl _).drew))) k6); have S6 := Lib.hid s6; have O6 := Lib.hid (HKF.out _ _ O5.out K6.out); have X6 := Lib.hid (blk_kept X5.out K6.out HXB.out); have x60 := X6.out.cell 0; have x61 := X6.out.cell 1; clear s6 k6; have xa60 := fun o => (X6.out.ext ((Ext.refl _).alloc o)).cell 0; have xa61 := fun o => (X6.out.ext ((Ext.refl _).alloc o)).cell 1))
    all_goals
      first
        | (obtain ⟨V6, hV6, r6, o6, y6⟩ := use_leaf r3 0 R7.out O7.out HRF.out (X0.out.trans S7.out.old) HR.out; rw [← hV6])
        | (obtain ⟨V6, hV6, r6, o6, y6⟩ := use_leaf r3 0 (R7.out.ext ((Ext.refl w7).alloc (.cells #[.int .i64 0, .int .i64 100000, .int .i64 100001] 2))) (O7.out.ext ((Ext.refl w7).alloc (.cells #[.int .i64 0, .int .i64 100000, .int .i64 100001] 2))) HRF.out ((X0.out.trans S7.out.old).trans ((Ext.refl w7).alloc (.cells #[.int .i64 0, .int .i64 100000, .int .i64 100001] 2))) HR.out; rw [← hV6])
      have FY := tri_fit 0 100000 100001 0 100001 (by decide) (by decide) (by decide) ky
      clear hV6
      go_wp2_with fail
      first
        | exact bodyPost_ret (results_c2 Try.results38 rfl r6 Try.underlying46 rfl (by kernel_rfl)) rfl ⟨u, ⟨r3, 0⟩, t6, tri 0 100000 100001 ky, m, F, rfl, (by unfold FitLabel I64; simp only; omega), z6, (by unfold I64; omega), HMM.out, o6, HFw.out, y6⟩
        | exact bodyPost_ret (results_c2 Try.results38 rfl (r6.ext ((Ext.refl V6).alloc (.cells #[.int .i64 0, .int .i64 100000, .int .i64 100001] 2))) Try.underlying46 rfl (by kernel_rfl)) rfl ⟨u, ⟨r3, 0⟩, t6, tri 0 100000 100001 ky, m, F, rfl, (by unfold FitLabel I64; simp only; omega), z6, (by unfold I64; omega), HMM.out, o6.ext ((Ext.refl V6).alloc (.cells #[.int .i64 0, .int .i64 100000, .int .i64 100001] 2)), HFw.out, y6.trans ((Ext.refl V6).alloc (.cells #[.int .i64 0, .int .i64 100000, .int .i64 100001] 2))⟩
  by_cases h3 : r5 = 3
  · subst h3
    go_wp2_with (first
      | (go_at_call 114; (with_reducible refine (HM.out _ X0.out _ _ S5.out).mono ?_); rintro e w8 ⟨t7, rfl, z7, s7, k7⟩; have S8 := Lib.hid s7; have O8 := Lib.hid (HKF.out _ _ O5.out k7); have R8 : Hid (Blk w8 R 46 #[.int .i64 0, .int .i64 0]) := Lib.hid (R0.out.ext S8.out.old); clear s7 k7)
      | (refine wpList_store_mid rfl 46 _ _ rfl R 0 #[.int .i64 1, .int .i64 0] rfl rfl (Blk.there (t := 46) (cs := #[.int .i64 0, .int .i64 0]) R8.out) (by kernel_rfl) (all_oneCell_toArray (cs := [.int .i64 1, .int .i64 0]) (by simp [Value.oneCell'])) ?_))
    obtain ⟨V6, hV6, r6, o6, y6⟩ := use_leaf 1 0 R8.out O8.out HRF.out (X0.out.trans S8.out.old) HR.out
    rw [show w8.setCells R 0 [.int .i64 1, .int .i64 0] = V6 from hV6.symm]
    go_wp2_with fail
    exact bodyPost_ret (results_c2 Try.results38 rfl r6 Try.underlying46 rfl (by kernel_rfl)) rfl ⟨u, ⟨1, 0⟩, t7, 1, m, F, rfl, (by unfold FitLabel I64; decide), z7, (by unfold I64; decide), HMM.out, o6, HFw.out, y6⟩
  · go_upto_region 13 with (fail)
    have x50 := X5.out.cell 0
    have x51 := X5.out.cell 1
    go_region_law (first | (have q3 := S6.out; clear q3; go_simp; go_at_call 51; (with_reducible refine (HN.out _ X0.out _ _ (by repeat (first | with_reducible exact S6.out | with_reducible refine SrcAt.alloc ?_ _ | with_reducible refine SrcAt.ext ?_ (Ext.refl _).drew)) _ (by decide) (by decide)).mono ?_); rintro e w7 ⟨r7, rfl, d0, d1, s7, k7⟩; have K7 : Hid (Kept [B] w5 w7) := Lib.hid (Kept.trans (by repeat (first | with_reducible exact K6.out | with_reducible refine Kept.trans ?_ (Kept.of_ext ((Ext.refl _).alloc _)) | with_reducible refine Kept.trans ?_ (Kept.of_ext (Ext.refl _).drew))) k7.kept); have S7 := Lib.hid s7; have O7 := Lib.hid (HKF.out _ _ O5.out K7.out); have X7 := Lib.hid (blk_kept X5.out K7.out HXB.out); have x70 := X7.out.cell 0; have x71 := X7.out.cell 1; have R7 : Hid (Blk w7 R 46 #[.int .i64 0, .int .i64 0]) := Lib.hid (R0.out.ext S7.out.old); have q0 := R7.out.cell 0; have q1 := R7.out.cell 1; have qf := R7.out.frozen; have iw : IntKind.i64.wrap (1 + r7) = 1 + r7 := IntWalk.i64_in _ (by omega); clear s7 k7) | (go_simp; go_at_call 116; (with_reducible refine (HW.out _ X0.out _ _ (by repeat (first | with_reducible exact S5.out | with_reducible refine SrcAt.alloc ?_ _ | with_reducible refine SrcAt.ext ?_ (Ext.refl _).drew))).mono ?_); rintro e w6 ⟨t6, rfl, z6, s6, k6, n6⟩; have K6 : Hid (Kept [B] w5 w6) := Lib.hid (Kept.trans (by repeat (first | with_reducible exact Kept.refl _ _ | with_reducible refine Kept.trans ?_ (Kept.of_ext ((Ext.refl _).alloc _)) | with_reducible refine Kept.trans ?_ (Kept.of_ext (Ext.refl _).drew))) k6); have S6 := Lib.hid s6; have O6 := Lib.hid (HKF.out _ _ O5.out K6.out); have X6 := Lib.hid (blk_kept X5.out K6.out HXB.out); have x60 := X6.out.cell 0; have x61 := X6.out.cell 1; clear s6 k6 n6))
    all_goals
      obtain ⟨V6, hV6, r6, o6, y6⟩ := use_leaf r3 0 R7.out O7.out HRF.out (X0.out.trans S7.out.old) HR.out
      rw [← hV6]
      go_wp2_with fail
      exact bodyPost_ret (results_c2 Try.results38 rfl r6 Try.underlying46 rfl (by kernel_rfl)) rfl ⟨u, ⟨r3, 0⟩, t6, 1 + r7, m, F, rfl, (by unfold FitLabel I64; simp only; omega), z6, (by unfold I64; omega), HMM.out, o6, HFw.out, y6⟩
end Go.Proofs.Ytbdicafambkhdaa

/- The lists of nodes that the draws make. -/
import Derived.Test.YtbdicafambkhdaaDrawPut
import Derived.Test.YtbdicafambkhdaaNodeNew
import Derived.Test.YtbdicafambkhdaaNodeSet
namespace Go.Proofs.Ytbdicafambkhdaa
open Go.RowKit
attribute [local irreducible] wpQuiet

theorem srcN_one (most : Int) (h : most ≤ 1) (B : Nat) (w : World) :
    Calls Try.prog 51 #[.pointer (some ⟨B, 0, none⟩), .int .i64 most] w fun e w' => e = .returned (.int .i64 0) ∧ w = w' := by
  go_enter Try.func51, Try.ntmps51
  go_wp2_with fail
  go_ret
  exact ⟨rfl, rfl⟩
theorem srcN_all {S : Nat → Prop} (l : List Int) (v : Value) (w0 : World) (h : Rd EByte S w0 v l) (most : Int) (h1 : 1 ≤ most) (h2 : most ≤ 1152921504606846976) (B : Nat) (w : World) (hs : SrcAt l v w0 w B) :
    Calls Try.prog 51 #[.pointer (some ⟨B, 0, none⟩), .int .i64 most] w fun e w' => ∃ r : Int, e = .returned (.int .i64 r) ∧ 0 ≤ r ∧ r < most ∧ SrcAt l v w0 w' B ∧ Kept [B] w w' := by
  by_cases h3 : most ≤ 1
  · exact (srcN_one most h3 B w).mono fun e w' ⟨he, hw⟩ => ⟨0, he, by omega, by omega, hw ▸ hs, hw ▸ Kept.refl _ _⟩
  · exact srcN_any l v w0 h most (by omega) h2 B w hs

theorem bookPut_le (l : List Node) (n : Int) (x : Span) (now : Int) : (bookPut l n x now).nodes.length ≤ l.length := by
  unfold bookPut
  repeat' split
  all_goals simp
theorem nodeSet_le (l : List Node) (n st : Int) : (nodeSet l n st).nodes.length ≤ l.length := by
  unfold nodeSet
  repeat' split
  all_goals simp
theorem nodesNew_le (n : Int) : (nodesNew n).length ≤ 6 := by
  unfold nodesNew
  split
  · rename_i h
    have := isB_true h
    simp; omega
  · simp

/-- A list of nodes drawn since w, of at most n, in memory of its own. -/
def GotN (lb : List Int) (vb : Value) (w0 w : World) (B : Nat) (n : Nat) (v : Value) (w' : World) : Prop :=
  ∃ (m : List Node) (F : List Nat), m.length ≤ n ∧ OwS ONode 42 w' v m F ∧ (∀ b ∈ F, w.heap.size ≤ b) ∧ SrcAt lb vb w0 w' B ∧ Kept [B] w w'

theorem own_put {α : Type} [Inhabited α] {E : Elem α} {O : Own E} {T : TypeId} {w : World} {v : Value} {l : List α} {F : List Nat} {R o : Nat} {vs : List Value} (h : OwS O T w v l F) (hR : R ∉ F) : OwS O T (w.setCells R o vs) v l F :=
  h.kept (G := [R]) (Kept.setCells (by simp) _ _ _ (Kept.refl _ _)) (fun b hb hc => by simp at hc; subst hc; exact hR hb)

set_option maxHeartbeats 8000000 in
set_option maxRecDepth 100000 in
theorem srcNodes_any {S : Nat → Prop} (l : List Int) (v : Value) (w0 : World) (h : Rd EByte S w0 v l) (n now : Int) (hnow : 0 ≤ now ∧ now ≤ 100) (B : Nat) (w : World) (hs : SrcAt l v w0 w B) :
    Calls Try.prog 52 #[.pointer (some ⟨B, 0, none⟩), .int .i64 n, .int .i64 now] w fun e w' => ∃ u, e = .returned u ∧ GotN l v w0 w B 7 u w' := by
  have HN := Lib.hid fun (W : World) (hW : SrcAt l v w0 W B) (most : Int) (h1 : 1 ≤ most) (h2 : most ≤ 1152921504606846976) => srcN_all l v w0 h most h1 h2 B W hW
  have HO := Lib.hid fun (W : World) (hW : SrcAt l v w0 W B) (most : Int) (h1 : 1 < most) (h2 : most ≤ 1152921504606846976) => srcOne_any l v w0 h most h1 h2 B W hW
  have HP := Lib.hid fun (W : World) (hW : SrcAt l v w0 W B) => srcSpans_any l v w0 h B W hW
  have HS := Lib.hid hs
  have HB := Lib.hid hs.lt
  obtain ⟨n0, n1⟩ := hnow
  have hBF : ∀ G : List Nat, (∀ b ∈ G, w.heap.size ≤ b) → B ∉ G := fun G hG hb => absurd (hG B hb) (by have := HB.out; omega)
  have HBF := Lib.hid hBF
  clear h hs hBF
  go_enter Try.func52, Try.ntmps52
  go_upto_region 3 with (first
    | (go_at_call 125; (with_reducible refine (specNodesNew_any n _).mono ?_); rintro e w1 ⟨u1, F1, rfl, o1, f1, x1⟩; have O1 := Lib.hid o1; have F1h := Lib.hid f1; have X1 := Lib.hid x1; have S1 := Lib.hid (HS.out.ext x1); clear o1 f1 x1)
    | (go_at_call 51; (with_reducible refine (HN.out _ S1.out _ (by decide) (by decide)).mono ?_); rintro e w2 ⟨a, rfl, a0, a1, s2, k2⟩; have S2 := Lib.hid s2; have K2 : Hid (Kept [B] w w2) := Lib.hid ((Kept.of_ext X1.out).trans k2); have O2 := Lib.hid (O1.out.kept k2 (fun b hb hB => HBF.out F1 F1h.out (by simp at hB; subst hB; exact hb))); clear s2 k2))
  go_loopw [7, 8] (fun u i w' => ∃ (k : Nat) (m : List Node) (F : List Nat), i = .int .i64 k ∧ k ≤ 5 ∧ m.length ≤ 6 ∧ OwS ONode 42 w' u m F ∧ (∀ b ∈ F, w.heap.size ≤ b) ∧ SrcAt l v w0 w' B ∧ Kept [B] w w') (fun _ i _ => (intOf i).toNat)
  case atStart => exact ⟨a.toNat, nodesNew n, F1, by rw [Int.toNat_of_nonneg a0], by omega, nodesNew_le n, O2.out, F1h.out, S2.out, K2.out⟩
  case round =>
    obtain ⟨k, m, F, rfl, hk5, hm, ho, hF, hs, hk⟩ := hrel
    obtain ⟨A, c, rfl, -⟩ := ho.form
    have HO1 := Lib.hid ho
    have HF1 := Lib.hid hF
    have HS1 := Lib.hid hs
    have HK1 := Lib.hid hk
    clear ho hF hs hk
    by_cases hlt : 0 < k
    · by_cases hml : 0 < m.length
      · go_upto_region 6 with (go_at_call 51; (with_reducible refine (HN.out _ HS1.out _ (by omega) (by omega)).mono ?_); rintro e w3 ⟨at3, rfl, p0, p1, s3, k3⟩; have S3 := Lib.hid s3; have K3 := Lib.hid (HK1.out.trans k3); have O3 := Lib.hid (HO1.out.kept k3 (fun b hb hB => HBF.out F HF1.out (by simp at hB; subst hB; exact hb))); clear s3 k3)
        go_upto_region 7 with (go_at_call 51; (with_reducible refine (HN.out _ S3.out _ (by decide) (by decide)).mono ?_); rintro e w4 ⟨f4, rfl, q0, q1, s4, k4⟩; have S4 := Lib.hid s4; have K4 := Lib.hid (K3.out.trans k4); have O4 := Lib.hid (O3.out.kept k4 (fun b hb hB => HBF.out F HF1.out (by simp at hB; subst hB; exact hb))); clear s4 k4)
        go_upto_region 8 with (first
          | (go_at_call 51; (with_reducible refine (HN.out _ S4.out _ (by decide) (by decide)).mono ?_); rintro e w5 ⟨t5, rfl, t0, t1, s5, k5⟩; have S5 := Lib.hid s5; have K5 := Lib.hid (K4.out.trans k5); have O5 := Lib.hid (O4.out.kept k5 (fun b hb hB => HBF.out F HF1.out (by simp at hB; subst hB; exact hb))); clear s5 k5)
          | (go_at_call 8; (with_reducible refine (specBookPut_any (S := fun b => b ∈ F) m at3 ⟨now + 1 + f4, now + 1 + f4 + 1 + t5⟩ now _ _ O5.out.rd (fit_small (by omega) (by omega) (by omega) (by omega))).mono ?_); rintro e w6 ⟨cs6, F6, rfl, ⟨u6, rfl, ft6, o6⟩, f6, x6⟩; obtain ⟨A6, c6, rfl, -⟩ := o6.form; simp only [cellsNodesOut]; have HL := Lib.hid (Nat.le_trans (bookPut_le m at3 ⟨now + 1 + f4, now + 1 + f4 + 1 + t5⟩ now) hm); generalize bookPut m at3 ⟨now + 1 + f4, now + 1 + f4 + 1 + t5⟩ now = z6 at *; have O6 := Lib.hid o6; have F6h : Hid (∀ b ∈ F6, w.heap.size ≤ b) := Lib.hid (fun b hb => Nat.le_trans K5.out.size (f6 b hb)); have X6 := Lib.hid x6; clear o6 f6 x6))
        obtain ⟨V, Y, hV, hY, hx7, b7⟩ : ∃ V Y, V = w6.alloc (.cells #[.slice A6 z6.nodes.length c6, .int .i64 z6.code] 29) ∧ Y = w6.heap.size ∧ Ext w6 V ∧ Blk V Y 29 #[.slice A6 z6.nodes.length c6, .int .i64 z6.code] := ⟨_, _, rfl, rfl, (Ext.refl _).alloc _, Blk.new _ _ _⟩
        rw [← hV, ← hY]
        have HYB : Hid (Y ∉ [B]) := Lib.hid (by have := S5.out.lt; have := X6.out.size; simp; omega)
        have HYw : Hid (w.heap.size ≤ Y) := Lib.hid (by have := K5.out.size; have := X6.out.size; omega)
        have HYF : Hid (Y ∉ F) := Lib.hid (fun hb => by have := O5.out.lt Y hb; have := X6.out.size; omega)
        have HYF6 : Hid (Y ∉ F6) := Lib.hid (fun hb => by have := O6.out.lt Y hb; omega)
        have S7 := Lib.hid ((S5.out.ext X6.out).ext hx7)
        have K7 : Hid (Kept [B] w V) := Lib.hid ((K5.out.trans (Kept.of_ext X6.out)).trans (Kept.of_ext hx7))
        have O7 := Lib.hid ((O5.out.ext X6.out).ext hx7)
        have P7 := Lib.hid (O6.out.ext hx7)
        have Y7 := Lib.hid b7
        clear hV hY hx7 b7
        go_upto_if 46 with (go_at_call 67; (with_reducible refine (HO.out _ S7.out _ (by decide) (by decide)).mono ?_); rintro e w8 ⟨r8, rfl, s8, k8⟩; have S8 := Lib.hid s8; have K8 := Lib.hid (K7.out.trans k8); have O8 := Lib.hid (O7.out.kept k8 (fun b hb hB => HBF.out F HF1.out (by simp at hB; subst hB; exact hb))); have P8 := Lib.hid (P7.out.kept k8 (fun b hb hB => HBF.out F6 F6h.out (by simp at hB; subst hB; exact hb))); have Y8 : Hid (Blk w8 Y 29 #[.slice A6 z6.nodes.length c6, .int .i64 z6.code]) := Lib.hid ((k8.block Y Y7.out.lt HYB.out).trans Y7.out); clear s8 k8)
        go_cut [11] from 16 to 57 (fun p wx => p = .pointer (some ⟨Y, 0, none⟩) ∧ ∃ (z : List Node) (A9 : Option Addr) (c9 : Nat) (co : Int) (F9 : List Nat), z.length ≤ 6 ∧ Blk wx Y 29 #[.slice A9 z.length c9, .int .i64 co] ∧ OwS ONode 42 wx (.slice A9 z.length c9) z F9 ∧ (∀ b ∈ F9, w.heap.size ≤ b) ∧ OwS ONode 42 wx (.slice A m.length c) m F ∧ SrcAt l v w0 wx B ∧ Kept [B] w wx)
        case first =>
          cases r8 with
          | false =>
            go_wp2_with fail
            go_meet
            exact ⟨rfl, z6.nodes, A6, c6, z6.code, F6, HL.out, Y8.out, P8.out, F6h.out, O8.out, S8.out, K8.out⟩
          | true =>
            go_wp2_with (first
              | (go_at_call 51; (with_reducible refine (HN.out _ S8.out _ (by decide) (by decide)).mono ?_); rintro e w9 ⟨t9, rfl, t90, t91, s9, k9⟩; have S9 := Lib.hid s9; have K9 := Lib.hid (K8.out.trans k9); have O9 := Lib.hid (O8.out.kept k9 (fun b hb hB => HBF.out F HF1.out (by simp at hB; subst hB; exact hb))); have Y9 : Hid (Blk w9 Y 29 #[.slice A6 z6.nodes.length c6, .int .i64 z6.code]) := Lib.hid ((k9.block Y Y8.out.lt HYB.out).trans Y8.out); clear s9 k9)
              | (go_at_call 11; (with_reducible refine (specNodeSet_any (S := fun b => b ∈ F) m at3 (1 + t9) _ _ O9.out.rd).mono ?_); rintro e w10 ⟨cs10, F10, rfl, ⟨u10, rfl, ft10, o10⟩, f10, x10⟩; obtain ⟨A10, c10, rfl, -⟩ := o10.form; simp only [cellsNodesOut]; have HL10 := Lib.hid (Nat.le_trans (nodeSet_le m at3 (1 + t9)) hm); generalize nodeSet m at3 (1 + t9) = z10 at *; have O10 := Lib.hid o10; have F10h := Lib.hid f10; have X10 := Lib.hid x10; have Y10 := Lib.hid (Y9.out.ext x10); clear o10 f10 x10)
              | (refine wpList_store_mid rfl 29 _ _ rfl Y 0 #[.slice A10 z10.nodes.length c10, .int .i64 z10.code] rfl rfl (Blk.there (t := 29) (cs := #[.slice A6 z6.nodes.length c6, .int .i64 z6.code]) Y10.out) (by kernel_rfl) (all_oneCell_toArray (cs := [.slice A10 z10.nodes.length c10, .int .i64 z10.code]) (by simp [Value.oneCell'])) ?_))
            go_meet
            exact ⟨rfl, z10.nodes, A10, c10, z10.code, F10, HL10.out, Blk.setAll (t := 29) (cs := #[.slice A6 z6.nodes.length c6, .int .i64 z6.code]) (vs := #[.slice A10 z10.nodes.length c10, .int .i64 z10.code]) Y10.out rfl, own_put O10.out (fun hb => by have := F10h.out Y hb; have := Y9.out.lt; omega), fun b hb => Nat.le_trans K9.out.size (F10h.out b hb), own_put (O9.out.ext X10.out) HYF.out, src_put (S9.out.ext X10.out) (fun e => HYB.out (by simp [e])) (Nat.le_trans HS.out.old.size HYw.out), kept_put (K9.out.trans (Kept.of_ext X10.out)) HYw.out⟩
        case rest =>
          obtain ⟨rfl, z, A9, c9, co, F9, hz, y9, p9, f9, o9, s9, k9⟩ := hcut
          have P9 := Lib.hid p9
          have F9h := Lib.hid f9
          have O9 := Lib.hid o9
          have S9 := Lib.hid s9
          have K9 := Lib.hid k9
          have y0 := y9.cell 0
          have y1 := y9.cell 1
          clear p9 f9 o9 s9 k9 y9
          go_wp2_with fail
          · exact ⟨⟨k - 1, z, F9, by go_num, by omega, hz, P9.out, F9h.out, S9.out, K9.out⟩, by simp [intOf]; omega⟩
          · exact ⟨⟨k - 1, m, F, by go_num, by omega, hm, O9.out, HF1.out, S9.out, K9.out⟩, by simp [intOf]; omega⟩
      · have hm0 : m.length = 0 := by omega
        replace HO1 : Hid (OwS ONode 42 wr (.slice A 0 c) m F) := Lib.hid (by have := HO1.out; rwa [hm0] at this)
        go_upto_if 59 with (go_at_call 67; (with_reducible refine (HO.out _ HS1.out _ (by decide) (by decide)).mono ?_); rintro e w3 ⟨r3, rfl, s3, k3⟩; have S3 := Lib.hid s3; have K3 := Lib.hid (HK1.out.trans k3); have O3 := Lib.hid (HO1.out.kept k3 (fun b hb hB => HBF.out F HF1.out (by simp at hB; subst hB; exact hb))); clear s3 k3)
        go_cut [7] (fun u wx => GotN l v w0 w B 7 u wx)
        case first =>
          cases r3 with
          | false =>
            go_wp2_with fail
            go_meet
            exact ⟨m, F, by omega, O3.out, HF1.out, S3.out, K3.out⟩
          | true =>
            go_upto_region 15 with (go_at_call 51; (with_reducible refine (HN.out _ S3.out _ (by decide) (by decide)).mono ?_); rintro e w4 ⟨r4, rfl, q0, q1, s4, k4⟩; have S4 := Lib.hid s4; have K4 := Lib.hid (K3.out.trans k4); have O4 := Lib.hid (O3.out.kept k4 (fun b hb hB => HBF.out F HF1.out (by simp at hB; subst hB; exact hb))); clear s4 k4)
            by_cases h0 : r4 = 0
            · subst h0
              go_wp2_with (first
                | (go_at_call 51; (with_reducible refine (HN.out _ S4.out _ (by decide) (by decide)).mono ?_); rintro e w5 ⟨r5, rfl, p0, p1, s5, k5⟩; have S5 := Lib.hid s5; have K5 := Lib.hid (K4.out.trans k5); have O5 := Lib.hid (O4.out.kept k5 (fun b hb hB => HBF.out F HF1.out (by simp at hB; subst hB; exact hb))); clear s5 k5)
                | (at_builtin; refine wpList_append_one (O := ONode) (T := 42) (l := m) (F := F) (G := []) (y := ⟨r5, []⟩) (cs := cellsNode ⟨r5, []⟩ (.slice none 0 0)) rfl _ _ 23 rfl (.agg #[.int .i64 0, .slice none 0 0]) 2 32 Try.underlying23 (by kernel_rfl) rfl rfl rfl ?ow _ 0 1 rfl ?own ?rng ?nd ?len (by decide) ?_; rotate_right; intro u6 w6 F6 o6 k6 f6; have O6 := Lib.hid o6; have K6 := Lib.hid k6; have G6 := Lib.hid f6; clear o6 k6 f6))
              case ow => exact O5.out.ext ((Ext.refl _).alloc _)
              case own => exact ⟨_, rfl, (show I64 r5 by unfold I64; omega), OwS.nil none⟩
              case rng =>
                have h := (Blk.new w5 42 #[.int .i64 r5, .slice none 0 0]).range
                simpa [cellsNode] using h
              case nd => simpa using O5.out.nodup
              case len => omega
              go_meet
              refine ⟨m ++ [⟨r5, []⟩], F6, by simp; omega, O6.out, fun b hb => ?_, (S5.out.alloc _).kept K6.out (HBF.out F HF1.out) (fun b hb => Nat.le_trans HS.out.old.size (HF1.out b hb)), kept_new (K5.out.trans (Kept.of_ext ((Ext.refl _).alloc _))) K6.out HF1.out⟩
              rcases G6.out b hb with h | h | h
              · exact HF1.out b h
              · cases h
              · exact Nat.le_trans K5.out.size (Nat.le_trans ((Ext.refl _).alloc _).size h)
            by_cases h1 : r4 = 1
            · subst h1
              go_wp2_with (first
                | (go_at_call 126; (with_reducible refine (HP.out _ S4.out).mono ?_); rintro e w5 ⟨v5, rfl, m5, G5, hm5, o5, g5, s5, k5⟩; obtain ⟨A5, c5, rfl, -⟩ := o5.form; have S5 := Lib.hid s5; have K5 := Lib.hid (K4.out.trans k5); have O5 := Lib.hid (O4.out.kept k5 (fun b hb hB => HBF.out F HF1.out (by simp at hB; subst hB; exact hb))); have Q5 := Lib.hid o5; have G5h := Lib.hid g5; clear o5 g5 s5 k5)
                | (at_builtin; refine wpList_append_one (O := ONode) (T := 42) (l := m) (F := F) (G := G5) (y := ⟨1, m5⟩) (cs := cellsNode ⟨1, m5⟩ (.slice A5 m5.length c5)) rfl _ _ 23 rfl (.agg #[.int .i64 0, .slice none 0 0]) 2 32 Try.underlying23 (by kernel_rfl) rfl rfl rfl ?ow _ 0 1 rfl ?own ?rng ?nd ?len (by decide) ?_; rotate_right; intro u6 w6 F6 o6 k6 f6; have O6 := Lib.hid o6; have K6 := Lib.hid k6; have G6 := Lib.hid f6; clear o6 k6 f6))
              case ow => exact O5.out.ext ((Ext.refl _).alloc _)
              case own => exact ⟨_, rfl, (show I64 1 by unfold I64; decide), Q5.out.ext ((Ext.refl _).alloc _)⟩
              case rng =>
                have h := (Blk.new w5 42 #[.int .i64 1, .slice A5 m5.length c5]).range
                simpa [cellsNode] using h
              case nd => exact nodup_two O5.out.nodup Q5.out.nodup (fun b hb hc => absurd (O4.out.lt b hb) (by have := G5h.out b hc; omega))
              case len => omega
              go_meet
              refine ⟨m ++ [⟨1, m5⟩], F6, by simp; omega, O6.out, fun b hb => ?_, (S5.out.alloc _).kept K6.out (HBF.out F HF1.out) (fun b hb => Nat.le_trans HS.out.old.size (HF1.out b hb)), kept_new (K5.out.trans (Kept.of_ext ((Ext.refl _).alloc _))) K6.out HF1.out⟩
              rcases G6.out b hb with h | h | h
              · exact HF1.out b h
              · exact Nat.le_trans K4.out.size (G5h.out b h)
              · exact Nat.le_trans K5.out.size (Nat.le_trans ((Ext.refl _).alloc _).size h)
            · go_wp2_with fail
              go_meet
              exact ⟨[], [], by simp, OwS.nil _, fun b hb => (by cases hb), S4.out, K4.out⟩
        case rest =>
          obtain ⟨m7, F7, hm7, o7, f7, s7, k7⟩ := hcut
          have O7 := Lib.hid o7
          have F7h := Lib.hid f7
          have S7 := Lib.hid s7
          have K7 := Lib.hid k7
          clear o7 f7 s7 k7
          go_wp2_with fail
          go_ret
          exact ⟨_, rfl, m7, F7, hm7, O7.out, F7h.out, S7.out, K7.out⟩
    · obtain rfl : k = 0 := by omega
      go_upto_if 59 with (go_at_call 67; (with_reducible refine (HO.out _ HS1.out _ (by decide) (by decide)).mono ?_); rintro e w3 ⟨r3, rfl, s3, k3⟩; have S3 := Lib.hid s3; have K3 := Lib.hid (HK1.out.trans k3); have O3 := Lib.hid (HO1.out.kept k3 (fun b hb hB => HBF.out F HF1.out (by simp at hB; subst hB; exact hb))); clear s3 k3)
      go_cut [7] (fun u wx => GotN l v w0 w B 7 u wx)
      case first =>
        cases r3 with
        | false =>
          go_wp2_with fail
          go_meet
          exact ⟨m, F, by omega, O3.out, HF1.out, S3.out, K3.out⟩
        | true =>
          go_upto_region 15 with (go_at_call 51; (with_reducible refine (HN.out _ S3.out _ (by decide) (by decide)).mono ?_); rintro e w4 ⟨r4, rfl, q0, q1, s4, k4⟩; have S4 := Lib.hid s4; have K4 := Lib.hid (K3.out.trans k4); have O4 := Lib.hid (O3.out.kept k4 (fun b hb hB => HBF.out F HF1.out (by simp at hB; subst hB; exact hb))); clear s4 k4)
          by_cases h0 : r4 = 0
          · subst h0
            go_wp2_with (first
              | (go_at_call 51; (with_reducible refine (HN.out _ S4.out _ (by decide) (by decide)).mono ?_); rintro e w5 ⟨r5, rfl, p0, p1, s5, k5⟩; have S5 := Lib.hid s5; have K5 := Lib.hid (K4.out.trans k5); have O5 := Lib.hid (O4.out.kept k5 (fun b hb hB => HBF.out F HF1.out (by simp at hB; subst hB; exact hb))); clear s5 k5)
              | (at_builtin; refine wpList_append_one (O := ONode) (T := 42) (l := m) (F := F) (G := []) (y := ⟨r5, []⟩) (cs := cellsNode ⟨r5, []⟩ (.slice none 0 0)) rfl _ _ 23 rfl (.agg #[.int .i64 0, .slice none 0 0]) 2 32 Try.underlying23 (by kernel_rfl) rfl rfl rfl ?ow _ 0 1 rfl ?own ?rng ?nd ?len (by decide) ?_; rotate_right; intro u6 w6 F6 o6 k6 f6; have O6 := Lib.hid o6; have K6 := Lib.hid k6; have G6 := Lib.hid f6; clear o6 k6 f6))
            case ow => exact O5.out.ext ((Ext.refl _).alloc _)
            case own => exact ⟨_, rfl, (show I64 r5 by unfold I64; omega), OwS.nil none⟩
            case rng =>
              have h := (Blk.new w5 42 #[.int .i64 r5, .slice none 0 0]).range
              simpa [cellsNode] using h
            case nd => simpa using O5.out.nodup
            case len => omega
            go_meet
            refine ⟨m ++ [⟨r5, []⟩], F6, by simp; omega, O6.out, fun b hb => ?_, (S5.out.alloc _).kept K6.out (HBF.out F HF1.out) (fun b hb => Nat.le_trans HS.out.old.size (HF1.out b hb)), kept_new (K5.out.trans (Kept.of_ext ((Ext.refl _).alloc _))) K6.out HF1.out⟩
            rcases G6.out b hb with h | h | h
            · exact HF1.out b h
            · cases h
            · exact Nat.le_trans K5.out.size (Nat.le_trans ((Ext.refl _).alloc _).size h)
          by_cases h1 : r4 = 1
          · subst h1
            go_wp2_with (first
              | (go_at_call 126; (with_reducible refine (HP.out _ S4.out).mono ?_); rintro e w5 ⟨v5, rfl, m5, G5, hm5, o5, g5, s5, k5⟩; obtain ⟨A5, c5, rfl, -⟩ := o5.form; have S5 := Lib.hid s5; have K5 := Lib.hid (K4.out.trans k5); have O5 := Lib.hid (O4.out.kept k5 (fun b hb hB => HBF.out F HF1.out (by simp at hB; subst hB; exact hb))); have Q5 := Lib.hid o5; have G5h := Lib.hid g5; clear o5 g5 s5 k5)
              | (at_builtin; refine wpList_append_one (O := ONode) (T := 42) (l := m) (F := F) (G := G5) (y := ⟨1, m5⟩) (cs := cellsNode ⟨1, m5⟩ (.slice A5 m5.length c5)) rfl _ _ 23 rfl (.agg #[.int .i64 0, .slice none 0 0]) 2 32 Try.underlying23 (by kernel_rfl) rfl rfl rfl ?ow _ 0 1 rfl ?own ?rng ?nd ?len (by decide) ?_; rotate_right; intro u6 w6 F6 o6 k6 f6; have O6 := Lib.hid o6; have K6 := Lib.hid k6; have G6 := Lib.hid f6; clear o6 k6 f6))
            case ow => exact O5.out.ext ((Ext.refl _).alloc _)
            case own => exact ⟨_, rfl, (show I64 1 by unfold I64; decide), Q5.out.ext ((Ext.refl _).alloc _)⟩
            case rng =>
              have h := (Blk.new w5 42 #[.int .i64 1, .slice A5 m5.length c5]).range
              simpa [cellsNode] using h
            case nd => exact nodup_two O5.out.nodup Q5.out.nodup (fun b hb hc => absurd (O4.out.lt b hb) (by have := G5h.out b hc; omega))
            case len => omega
            go_meet
            refine ⟨m ++ [⟨1, m5⟩], F6, by simp; omega, O6.out, fun b hb => ?_, (S5.out.alloc _).kept K6.out (HBF.out F HF1.out) (fun b hb => Nat.le_trans HS.out.old.size (HF1.out b hb)), kept_new (K5.out.trans (Kept.of_ext ((Ext.refl _).alloc _))) K6.out HF1.out⟩
            rcases G6.out b hb with h | h | h
            · exact HF1.out b h
            · exact Nat.le_trans K4.out.size (G5h.out b h)
            · exact Nat.le_trans K5.out.size (Nat.le_trans ((Ext.refl _).alloc _).size h)
          · go_wp2_with fail
            go_meet
            exact ⟨[], [], by simp, OwS.nil _, fun b hb => (by cases hb), S4.out, K4.out⟩
      case rest =>
        obtain ⟨m7, F7, hm7, o7, f7, s7, k7⟩ := hcut
        have O7 := Lib.hid o7
        have F7h := Lib.hid f7
        have S7 := Lib.hid s7
        have K7 := Lib.hid k7
        clear o7 f7 s7 k7
        go_wp2_with fail
        go_ret
        exact ⟨_, rfl, m7, F7, hm7, O7.out, F7h.out, S7.out, K7.out⟩
end Go.Proofs.Ytbdicafambkhdaa

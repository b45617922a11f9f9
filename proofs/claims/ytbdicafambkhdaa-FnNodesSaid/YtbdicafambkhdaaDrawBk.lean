/- What FnNodes draws: a list of nodes with a booking, a list of nodes with a state. -/
import Derived.Test.YtbdicafambkhdaaDrawNd
namespace Go.Proofs.Ytbdicafambkhdaa
open Go.RowKit
attribute [local irreducible] wpQuiet

set_option maxHeartbeats 4000000 in
set_option maxRecDepth 100000 in
theorem drawNodeSet_any {S : Nat → Prop} (l : List Int) (v : Value) (w : World) (h : Rd EByte S w v l) :
    Calls Try.prog 9 #[v] w fun e w' => ∃ (u : Value) (n st : Int) (m : List Node) (F : List Nat), e = .returned (.tuple #[u, .int .i64 n, .int .i64 st]) ∧ I64 n ∧ I64 st ∧ m.length ≤ 7 ∧ OwS ONode 42 w' u m F ∧ (∀ b ∈ F, w.heap.size ≤ b) ∧ Ext w w' := by
  have HS := Lib.hid (source_any l v w h)
  have HN := Lib.hid fun (B : Nat) (W : World) (hW : SrcAt l v w W B) (most : Int) (h1 : 1 < most) (h2 : most ≤ 1152921504606846976) => srcN_any l v w h most h1 h2 B W hW
  have HO := Lib.hid fun (B : Nat) (W : World) (hW : SrcAt l v w W B) (most : Int) (h1 : 1 < most) (h2 : most ≤ 1152921504606846976) => srcOne_any l v w h most h1 h2 B W hW
  have HE := Lib.hid fun (B : Nat) (W : World) (hW : SrcAt l v w W B) => srcEdge_any l v w h B W hW
  have HD := Lib.hid fun (B : Nat) (W : World) (hW : SrcAt l v w W B) (n now : Int) (hn : 0 ≤ now ∧ now ≤ 100) => srcNodes_any l v w h n now hn B W hW
  clear h
  go_enter Try.func9, Try.ntmps9
  go_upto_region 2 with (go_at_call 50; (with_reducible refine HS.out.mono ?_); rintro e w1 ⟨B, rfl, s1⟩; have S1 := Lib.hid s1; clear s1)
  go_upto_region 3 with (first
    | (go_at_call 51; (with_reducible refine (HN.out _ _ S1.out _ (by decide) (by decide)).mono ?_); rintro e w2 ⟨r2, rfl, p0, p1, s2, k2⟩; have S2 := Lib.hid s2; clear s2 k2)
    | (go_at_call 52; (with_reducible refine (HD.out _ _ S2.out _ 0 (by decide)).mono ?_); rintro e w3 ⟨u, rfl, m, F, hm, o3, f3, s3, k3⟩; have O3 := Lib.hid o3; have F3 := Lib.hid f3; have S3 := Lib.hid s3; clear o3 f3 s3 k3))
  have HBF : Hid (B ∉ F) := Lib.hid (fun hb => absurd (F3.out B hb) (by have := S2.out.lt; omega))
  have HFw : Hid (∀ b ∈ F, w.heap.size ≤ b) := Lib.hid (fun b hb => Nat.le_trans S2.out.old.size (F3.out b hb))
  go_upto_region 4 with (go_at_call 51; (with_reducible refine (HN.out _ _ S3.out _ (by decide) (by decide)).mono ?_); rintro e w4 ⟨r4, rfl, q0, q1, s4, k4⟩; have S4 := Lib.hid s4; have O4 := Lib.hid (O3.out.kept k4 (fun b hb hB => HBF.out (by simp at hB; subst hB; exact hb))); clear s4 k4)
  go_wp2_with (first
    | (go_at_call 67; (with_reducible refine (HO.out _ _ S4.out _ (by decide) (by decide)).mono ?_); rintro e w5 ⟨r5, rfl, s5, k5⟩; have S5 := Lib.hid s5; have O5 := Lib.hid (O4.out.kept k5 (fun b hb hB => HBF.out (by simp at hB; subst hB; exact hb))); clear s5 k5)
    | (go_at_call 68; (with_reducible refine (HE.out _ _ S5.out).mono ?_); rintro e w6 ⟨r6, rfl, i6, s6, k6⟩; have O6 := Lib.hid (O5.out.kept k6 (fun b hb hB => HBF.out (by simp at hB; subst hB; exact hb))); clear S5 O5; have S5 := Lib.hid s6; have O5 := O6; clear s6 k6)
    | (go_at_call 51; (with_reducible refine (HN.out _ _ S5.out _ (by decide) (by decide)).mono ?_); rintro e w7 ⟨r7, rfl, t0, t1, s7, k7⟩; have S7 := Lib.hid s7; have O7 := Lib.hid (O5.out.kept k7 (fun b hb hB => HBF.out (by simp at hB; subst hB; exact hb))); clear s7 k7))
  all_goals (go_ret3; exact ⟨_, _, _, m, F, rfl, (by first | assumption | (unfold I64; omega)), (by unfold I64; omega), hm, O7.out, HFw.out, S7.out.old⟩)
end Go.Proofs.Ytbdicafambkhdaa

/- Two lists of uses that read alike are found alike. The walk of the law FnUses. -/
import Derived.Test.YtbdicafambkhdaaGElems
import Derived.Test.YtbdicafambkhdaaSmall
import Derived.BigQuiet
import Derived.Test.YtbdicafambkhdaaDrawUd
import Derived.Test.YtbdicafambkhdaaUAddI
import Derived.Test.YtbdicafambkhdaaUAddS
import Derived.Test.YtbdicafambkhdaaUAddC
import Derived.Test.YtbdicafambkhdaaHalf
import Derived.Test.YtbdicafambkhdaaUsesE
import Derived.Test.YtbdicafambkhdaaUsesD
import Derived.Deep.RegionHeld3
namespace Go.Proofs.Ytbdicafambkhdaa
open Go.RowKit
attribute [local irreducible] wpQuiet

set_option maxHeartbeats 2000000 in
theorem lwUses_same {S S' : Nat → Prop} (l : List Use) (v u : Value) (w : World) (h : Rd EUse S w v l) (g : Rd EUse S' w u l) :
    Calls Try.prog 40 #[v, u] w fun e w' => e = .returned (.bool true) ∧ Ext w w' := by
  obtain ⟨A, c, rfl, h1, h2, hk⟩ := h.open_
  obtain ⟨A', c', rfl, g1, g2, gk⟩ := g.open_
  unfold maxLen at h2 g2
  have HK := Lib.hid hk
  have GK := Lib.hid gk
  clear hk gk h g
  go_enter Try.func40, Try.ntmps40
  go_wp2_with fail
  go_loopw [5] (fun i w' => ∃ k : Nat, k ≤ l.length ∧ i = .int .i64 k ∧ Ext w w') (fun i _ => l.length - (intOf i).toNat)
  case atStart => exact ⟨0, by omega, rfl, Ext.refl _⟩
  case round =>
    obtain ⟨k, hk1, rfl, hx⟩ := hrel
    have HX := Lib.hid hx
    by_cases hlt : k < l.length
    · obtain ⟨b, o, cs, rfl, _, hr, hc⟩ := HK.out k hlt
      obtain ⟨b', o', ds, rfl, _, gr, gc⟩ := GK.out k hlt
      obtain ⟨rfl, f1⟩ := hr
      obtain ⟨rfl, f2⟩ := gr
      have c0 := Ext.some hx (hc 0 _ rfl)
      have c1 := Ext.some hx (hc 1 _ rfl)
      have c2 := Ext.some hx (hc 2 _ rfl)
      have c3 := Ext.some hx (hc 3 _ rfl)
      simp only [EUse, Nat.add_zero] at c0 c1 c2 c3
      have d0 := Ext.some hx (gc 0 _ rfl)
      have d1 := Ext.some hx (gc 1 _ rfl)
      have d2 := Ext.some hx (gc 2 _ rfl)
      have d3 := Ext.some hx (gc 3 _ rfl)
      simp only [EUse, Nat.add_zero] at d0 d1 d2 d3
      clear hc gc hx f1 f2
      go_wp2_with fail
      refine wp_region_ext (by kernel_rfl) (by kernel_rfl) ?_
      repeat (
        (refine wpQuiet_step (fun K hK => ?_)
         go_simp
         first
          | (refine hK _ ?_; clear hK K)
          | (apply Exists.intro
             refine ⟨fun w__ hx__ => ?_, hK _ ?_⟩
             · have c0__ := Ext.some hx__ c0; have c1__ := Ext.some hx__ c1; have c2__ := Ext.some hx__ c2; have c3__ := Ext.some hx__ c3; have d0__ := Ext.some hx__ d0; have d1__ := Ext.some hx__ d1; have d2__ := Ext.some hx__ d2; have d3__ := Ext.some hx__ d3; first | exact rfl | (go_simp; done) | (go_simp; exact rfl)
             clear hK K)))
      refine wpQuiet_nil ?_
      intro w1 hx1
      have HE := Lib.hid hx1
      clear c0 c1 c2 c3 d0 d1 d2 d3 hx1
      go_wp2_with fail
      go_roundw
      case rel => exact ⟨k + 1, by omega, by go_num, HX.out.trans HE.out⟩
      case measure => simp [intOf]; omega
    · go_wp2_with fail
      go_ret
      exact ⟨rfl, HX.out⟩
end Go.Proofs.Ytbdicafambkhdaa

namespace Go.Proofs.Ytbdicafambkhdaa
open Go.RowKit
attribute [local irreducible] wpQuiet

theorem useOf_in (l : List Use) (a : Label) (o : ByteArray) : 0 ≤ useOf l a o ∧ useOf l a o ≤ 100000 := by
  unfold useOf
  split
  · rename_i h
    cases hf : l.find? (isUse a o) with
    | none => simp
    | some x =>
      have hx := List.mem_of_find?_eq_some hf
      have hk := (right_iff.1 h.2).2.1 x hx
      simp only [useOk, Bool.and_eq_true] at hk
      have := isB_true hk.2
      simp
      omega
  · simp
theorem useOf_quo (l : List Use) (a : Label) (o : ByteArray) : IntKind.i64.wrap ((useOf l a o).tdiv 2) = useOf (usesHalf l) a o := by
  obtain ⟨h1, h2⟩ := useOf_in l a o
  rw [useOf_half, Int.tdiv_eq_ediv_of_nonneg h1]
  exact IntWalk.i64_in _ (by omega)

set_option maxHeartbeats 16000000 in
set_option maxRecDepth 100000 in
theorem fnUses_walk {S S' : Nat → Prop} (l m : List Int) (v u : Value) (w : World) (h : Rd EByte S w v l) (g : Rd EByte S' w u m) :
    Calls Try.prog 5 #[v, u] w fun e w' => e = .returned (.bool true) ∧ Ext w w' := by
  have HD := Lib.hid (drawUseAdd_any l v w h)
  have HG := Lib.hid fun (W : World) (hx : Ext w W) => drawUseAdd_any m u W (g.ext hx)
  obtain ⟨A, c, rfl, l1, l2⟩ := h.form
  obtain ⟨A', c', rfl, m1, m2⟩ := g.form
  unfold maxLen at l2 m2
  clear h g
  by_cases hl : 1048576 < l.length
  · go_enter Try.func5, Try.ntmps5
    go_wp2_with fail
    go_ret
    exact ⟨rfl, Ext.refl _⟩
  by_cases hm : 1048576 < m.length
  · go_enter Try.func5, Try.ntmps5
    go_wp2_with fail
    go_ret
    exact ⟨rfl, Ext.refl _⟩
  go_enter Try.func5, Try.ntmps5
  go_upto_region 4 with (go_at_call 38; (with_reducible refine HD.out.mono ?_); rintro e w1 ⟨u1, a, o, n, us, F1, rfl, fa, so, jn, hus, o1, f1, x1⟩; obtain ⟨A1, c1, rfl, lc1, lm1⟩ := o1.form; have FA := Lib.hid fa; have SO := Lib.hid so; have JN := Lib.hid jn; have HUS := Lib.hid hus; have O1 := Lib.hid o1; have X1 := Lib.hid x1; clear fa so jn hus o1 f1 x1)
  have STO : Hid (Str o) := Lib.hid (by have := SO.out; unfold Str maxLen; omega)
  have SO8 : Hid (o.size ≤ 8000) := Lib.hid (by have := SO.out; omega)
  clear SO
  obtain ⟨W, X, hW, hX, hx2, b2⟩ : ∃ W X, W = w1.alloc (.cells #[.int .i64 a.level, .int .i64 a.set] 46) ∧ X = w1.heap.size ∧ Ext w1 W ∧ Blk W X 46 #[.int .i64 a.level, .int .i64 a.set] := ⟨_, _, rfl, rfl, (Ext.refl _).alloc _, Blk.new _ _ _⟩
  rw [← hW, ← hX]
  have X2 := Lib.hid (X1.out.trans hx2)
  have B2 := Lib.hid b2
  have R2 := Lib.hid (O1.out.ext hx2).rd
  clear hW hX hx2 b2 O1 X1 HD lc1 lm1
  have al : ∀ V, Ext W V → ∀ i, V.cell? ⟨X, i, none⟩ = _ := fun V hx => (B2.out.ext hx).cell
  have ac := al W (Ext.refl _)
  go_upto_region 7 with (first
    | (go_at_call 39; (with_reducible refine (useAdd_any (S := fun b => b ∈ F1) us a o n _ _ R2.out FA.out STO.out JN.out).mono ?_); rintro e w3 ⟨v3, F3, rfl, o3, f3, hx3⟩; have O3 := Lib.hid o3; have X3 : Hid (Ext W w3) := Lib.hid hx3; clear o3 f3 hx3; clear ac; have ac := al w3 X3.out; obtain ⟨A3, c3, rfl, -⟩ := O3.out.form)
    | (go_at_call 41; (with_reducible refine (specUseAdd_any (S := fun b => b ∈ F1) us a o n _ _ (R2.out.ext X3.out) FA.out STO.out JN.out).mono ?_); rintro e w4 ⟨v4, F4, rfl, o4, f4, hx4⟩; have O4 := Lib.hid o4; have X4 : Hid (Ext W w4) := Lib.hid (X3.out.trans hx4); have O34 := Lib.hid (O3.out.ext hx4); clear o4 f4 hx4; clear ac; have ac := al w4 X4.out)
    | (go_at_call 40; (with_reducible refine (lwUses_same (useAdd us a o n) _ _ _ O34.out.rd O4.out.rd).mono ?_); rintro e w5 ⟨rfl, hx5⟩; have X5 := Lib.hid (X4.out.trans hx5); have O35 := Lib.hid (O34.out.ext hx5); clear hx5; clear ac; have ac := al w5 X5.out)
    | (go_at_call 42; (with_reducible refine (usesRight_any (S := fun b => b ∈ F1) us _ _ (R2.out.ext X5.out)).mono ?_); rintro e w6 ⟨rfl, hx6⟩; have X6 := Lib.hid (X5.out.trans hx6); have O36 := Lib.hid (O35.out.ext hx6); clear hx6; clear ac; have ac := al w6 X6.out)
    | (go_at_call 43; (with_reducible refine (specUsesRight_any (S := fun b => b ∈ F1) us _ _ (R2.out.ext X6.out)).mono ?_); rintro e w7 ⟨rfl, hx7⟩; have X7 := Lib.hid (X6.out.trans hx7); have O37 := Lib.hid (O36.out.ext hx7); clear hx7; clear ac; have ac := al w7 X7.out))
  go_upto_region 8 with (go_at_call 38; (with_reducible refine (HG.out _ (X2.out.trans X7.out)).mono ?_); rintro e w8 ⟨u8, b, p, k, us8, F8, rfl, fb, sp, jk, -, -, -, hx8⟩; have FB := Lib.hid fb; have SP := Lib.hid sp; have JK := Lib.hid jk; have X8 := Lib.hid (X7.out.trans hx8); have O38 := Lib.hid (O37.out.ext hx8); clear fb sp jk hx8; clear ac)
  have STP : Hid (Str p) := Lib.hid (by have := SP.out; unfold Str maxLen; omega)
  have SP8 : Hid (p.size ≤ 8000) := Lib.hid (by have := SP.out; omega)
  clear SP HG X3 X4 O4 O34 O35 O36 O37 X5 X6 O3
  obtain ⟨V, Y, hV, hY, hx9, b9⟩ : ∃ V Y, V = w8.alloc (.cells #[.int .i64 b.level, .int .i64 b.set] 46) ∧ Y = w8.heap.size ∧ Ext w8 V ∧ Blk V Y 46 #[.int .i64 b.level, .int .i64 b.set] := ⟨_, _, rfl, rfl, (Ext.refl _).alloc _, Blk.new _ _ _⟩
  rw [← hV, ← hY]
  have X9 := Lib.hid (X8.out.trans hx9)
  have B9 := Lib.hid b9
  have O9 := Lib.hid (O38.out.ext hx9)
  have R9 := Lib.hid (R2.out.ext X9.out)
  have A9 : Hid (∀ T, Ext V T → ∀ i, T.cell? ⟨X, i, none⟩ = _) := Lib.hid (fun T hx => al T (X9.out.trans hx))
  clear hV hY hx9 b9 O38 X8 al X7 R2
  have bl : ∀ T, Ext V T → ∀ i, T.cell? ⟨Y, i, none⟩ = _ := fun T hx => (B9.out.ext hx).cell
  have BL := Lib.hid bl
  go_upto_region 9 with (go_at_call 44; (with_reducible refine (usesHalf_any (S := fun x => x ∈ F1) us _ _ R9.out).mono ?_); rintro e w9 ⟨v9, H9, rfl, h9, f9, hx9⟩; have H9o := Lib.hid h9; have X10 : Hid (Ext V w9) := Lib.hid hx9; clear h9 f9 hx9; obtain ⟨A9', c9', rfl, -⟩ := H9o.out.form)
  have R10 := Lib.hid (R9.out.ext X10.out)
  have HQ := Lib.hid (useOf_quo us b p)
  go_cut [77] (fun q wx => q = .bool false ∧ Ext w9 wx)
  case first =>
    have bl9 : ∀ T, Ext w9 T → ∀ i, T.cell? ⟨Y, i, none⟩ = _ := fun T hx => BL.out T (X10.out.trans hx)
    clear bl
    have HUO := Lib.hid fun (T : World) (hx : Ext w9 T) => useOfI_any (S := fun x => x ∈ H9) (usesHalf us) b p _ T (H9o.out.rd.ext hx)
    have HSU := Lib.hid fun (T : World) (hx : Ext w9 T) => specUseOf_any (S := fun x => x ∈ F1) us b p _ T (R10.out.ext hx) STP.out
    go_region_held3 (fun T => Ext w9 T) (exact (by repeat (first | with_reducible assumption | with_reducible exact Ext.refl _ | with_reducible refine Ext.alloc ?_ _ | with_reducible refine Ext.drew ?_ | with_reducible refine Ext.trans ?_ hx10 | with_reducible refine Ext.trans ?_ hx11 | with_reducible refine Ext.trans ?_ hx12 | with_reducible refine Ext.trans ?_ hx13))) (first | (go_at_call 45; (with_reducible refine (specUsesHalf_any (S := fun x => x ∈ F1) us _ _ (R10.out.ext (by repeat (first | with_reducible assumption | with_reducible exact Ext.refl _ | with_reducible refine Ext.alloc ?_ _ | with_reducible refine Ext.drew ?_ | with_reducible refine Ext.trans ?_ hx10 | with_reducible refine Ext.trans ?_ hx11 | with_reducible refine Ext.trans ?_ hx12 | with_reducible refine Ext.trans ?_ hx13)))).mono ?_); rintro e w10 ⟨v10, G10, rfl, h10, f10, hx10⟩; have H10 := Lib.hid h10; clear h10 f10) | (go_at_call 40; (with_reducible refine (lwUses_same (usesHalf us) _ _ _ (H9o.out.rd.ext (by repeat (first | with_reducible assumption | with_reducible exact Ext.refl _ | with_reducible refine Ext.alloc ?_ _ | with_reducible refine Ext.drew ?_ | with_reducible refine Ext.trans ?_ hx10 | with_reducible refine Ext.trans ?_ hx11 | with_reducible refine Ext.trans ?_ hx12 | with_reducible refine Ext.trans ?_ hx13))) (H10.out.rd.ext (by repeat (first | with_reducible assumption | with_reducible exact Ext.refl _ | with_reducible refine Ext.alloc ?_ _ | with_reducible refine Ext.drew ?_ | with_reducible refine Ext.trans ?_ hx10 | with_reducible refine Ext.trans ?_ hx11 | with_reducible refine Ext.trans ?_ hx12 | with_reducible refine Ext.trans ?_ hx13)))).mono ?_); rintro e w11 ⟨rfl, hx11⟩; skip) | (go_at_call 47; (with_reducible refine (HSU.out _ (by repeat (first | with_reducible assumption | with_reducible exact Ext.refl _ | with_reducible refine Ext.alloc ?_ _ | with_reducible refine Ext.drew ?_ | with_reducible refine Ext.trans ?_ hx10 | with_reducible refine Ext.trans ?_ hx11 | with_reducible refine Ext.trans ?_ hx12 | with_reducible refine Ext.trans ?_ hx13))).mono ?_); rintro e w13 ⟨rfl, hx13⟩; skip) | (go_at_call 46; (with_reducible refine (HUO.out _ (by repeat (first | with_reducible assumption | with_reducible exact Ext.refl _ | with_reducible refine Ext.alloc ?_ _ | with_reducible refine Ext.drew ?_ | with_reducible refine Ext.trans ?_ hx10 | with_reducible refine Ext.trans ?_ hx11 | with_reducible refine Ext.trans ?_ hx12 | with_reducible refine Ext.trans ?_ hx13))).mono ?_); rintro e w12 ⟨rfl, hx12⟩; skip))
    go_wp2_with fail
    go_meet
    refine ⟨?_, (by repeat (first | with_reducible assumption | with_reducible exact Ext.refl _ | with_reducible refine Ext.alloc ?_ _ | with_reducible refine Ext.drew ?_ | with_reducible refine Ext.trans ?_ hx10 | with_reducible refine Ext.trans ?_ hx11 | with_reducible refine Ext.trans ?_ hx12 | with_reducible refine Ext.trans ?_ hx13))⟩
    rw [HQ.out]
    simp
  case rest =>
    obtain ⟨rfl, hx13⟩ := hcut
    generalize wc = w13 at hx13 ⊢
    have X13 := Lib.hid (X10.out.trans hx13)
    have R13 := Lib.hid (R10.out.ext hx13)
    have O13 := Lib.hid ((O9.out.ext X10.out).ext hx13)
    clear hx13 HQ H9o R9 R10 O9 X10 bl
    have b13 := BL.out _ X13.out
    have a13 := A9.out _ X13.out
    go_upto_region 11 with (fail)
    go_cut [85] (fun q wx => q = .bool (!decide (a = b ∧ o = p)) ∧ Ext w13 wx)
    case first =>
      by_cases h1 : b.level = a.level
      · by_cases h2 : b.set = a.set
        · have hab : a = b := by obtain ⟨x, y⟩ := a; obtain ⟨z, t⟩ := b; simp only at h1 h2; subst h1 h2; rfl
          subst hab
          clear h1 h2
          by_cases h3 : o = p
          · subst h3
            go_wp2_with fail
            go_meet
            exact ⟨by simp, Ext.refl _⟩
          · have h4 : ¬ p = o := fun e => h3 e.symm
            go_wp2_with fail
            go_meet
            have h5 : ¬ p.toList = o.toList := fun e => h4 (bytes_iff.2 e)
            exact ⟨by simp [h3, h5], Ext.refl _⟩
        · have hab : ¬ a = b := fun e => h2 (by rw [e])
          go_wp2_with fail
          go_meet
          exact ⟨by simp [hab], Ext.refl _⟩
      · have hab : ¬ a = b := fun e => h1 (by rw [e])
        go_wp2_with fail
        go_meet
        exact ⟨by simp [hab], Ext.refl _⟩
    case rest =>
      obtain ⟨rfl, hxb⟩ := hcut
      generalize wc = wb at hxb ⊢
      replace X13 := Lib.hid (X13.out.trans hxb)
      replace R13 := Lib.hid (R13.out.ext hxb)
      replace O13 := Lib.hid (O13.out.ext hxb)
      clear hxb b13 a13
      have b13 := BL.out _ X13.out
      have a13 := A9.out _ X13.out
      go_upto_if 85 with (fail)
      go_cut [4] (fun q wx => q = .bool false ∧ Ext wb wx)
      case first =>
        by_cases hk : a = b ∧ o = p
        · have hd : decide (a = b ∧ o = p) = true := decide_eq_true hk
          simp only [hd]
          clear hk hd
          go_wp2_with fail
          go_meet
          exact ⟨rfl, Ext.refl _⟩
        · have HK := Lib.hid (useOf_other (n := n) hk (show us.length ≤ 400 by have := HUS.out; omega) SO8.out SP8.out)
          have hd : decide (a = b ∧ o = p) = false := decide_eq_false hk
          simp only [hd]
          clear hk hd
          go_upto_region 12 with (fail)
          have blb : ∀ T, Ext wb T → ∀ i, T.cell? ⟨Y, i, none⟩ = _ := fun T hx => BL.out T (X13.out.trans hx)
          have HUO := Lib.hid fun (T : World) (hx : Ext wb T) => useOfI_any (S := fun x => x ∈ F3) (useAdd us a o n) b p _ T (O13.out.rd.ext hx)
          have HSU := Lib.hid fun (T : World) (hx : Ext wb T) => specUseOf_any (S := fun x => x ∈ F1) us b p _ T (R13.out.ext hx) STP.out
          go_region_held3 (fun T => Ext wb T) (exact (by repeat (first | with_reducible assumption | with_reducible exact Ext.refl _ | with_reducible refine Ext.alloc ?_ _ | with_reducible refine Ext.drew ?_ | with_reducible refine Ext.trans ?_ hx14 | with_reducible refine Ext.trans ?_ hx15 | with_reducible refine Ext.trans ?_ hx16 | with_reducible refine Ext.trans ?_ hx17 | with_reducible refine Ext.trans ?_ hx18 | with_reducible refine Ext.trans ?_ hx19))) (first | (go_at_call 46; (with_reducible refine (HUO.out _ (by repeat (first | with_reducible assumption | with_reducible exact Ext.refl _ | with_reducible refine Ext.alloc ?_ _ | with_reducible refine Ext.drew ?_ | with_reducible refine Ext.trans ?_ hx14 | with_reducible refine Ext.trans ?_ hx15 | with_reducible refine Ext.trans ?_ hx16 | with_reducible refine Ext.trans ?_ hx17 | with_reducible refine Ext.trans ?_ hx18 | with_reducible refine Ext.trans ?_ hx19))).mono ?_); rintro e w14 ⟨rfl, hx14⟩; skip) | (go_at_call 47; (with_reducible refine (HSU.out _ (by repeat (first | with_reducible assumption | with_reducible exact Ext.refl _ | with_reducible refine Ext.alloc ?_ _ | with_reducible refine Ext.drew ?_ | with_reducible refine Ext.trans ?_ hx14 | with_reducible refine Ext.trans ?_ hx15 | with_reducible refine Ext.trans ?_ hx16 | with_reducible refine Ext.trans ?_ hx17 | with_reducible refine Ext.trans ?_ hx18 | with_reducible refine Ext.trans ?_ hx19))).mono ?_); rintro e w15 ⟨rfl, hx15⟩; skip))
          rw [HK.out]
          go_wp2_with fail
          go_meet
          exact ⟨rfl, (by repeat (first | with_reducible assumption | with_reducible exact Ext.refl _ | with_reducible refine Ext.alloc ?_ _ | with_reducible refine Ext.drew ?_ | with_reducible refine Ext.trans ?_ hx14 | with_reducible refine Ext.trans ?_ hx15 | with_reducible refine Ext.trans ?_ hx16 | with_reducible refine Ext.trans ?_ hx17 | with_reducible refine Ext.trans ?_ hx18 | with_reducible refine Ext.trans ?_ hx19))⟩
      case rest =>
        obtain ⟨rfl, hx14⟩ := hcut
        generalize wc = w14 at hx14 ⊢
        have X14 := Lib.hid (X13.out.trans hx14)
        have R14 := Lib.hid (R13.out.ext hx14)
        have O14 := Lib.hid (O13.out.ext hx14)
        clear hx14 b13 a13 X13 R13 O13
        have b14 := BL.out _ X14.out
        have a14 := A9.out _ X14.out
        by_cases h4 : us.length ≤ 4
        · skip
          have HC := Lib.hid (useAdd_comm (l := us) (a := a) (b := b) (o := o) (p := p) (n := n) (m := k) h4 SO8.out SP8.out)
          go_upto_region 17 with (go_at_call 39; (with_reducible refine (useAdd_any (S := fun x => x ∈ F3) (useAdd us a o n) b p k _ _ O14.out.rd FB.out STP.out JK.out).mono ?_); rintro e w15 ⟨v15, F15, rfl, o15, f15, hx15⟩; have P15 := Lib.hid o15; have R15 := Lib.hid (R14.out.ext hx15); have O15 := Lib.hid (O14.out.ext hx15); have X15 := Lib.hid (X14.out.trans hx15); clear o15 f15 hx15 b14 a14)
          obtain ⟨A15, c15, rfl, -⟩ := P15.out.form
          have b15 := BL.out _ X15.out
          have a15 := A9.out _ X15.out
          clear R14 O14 X14
          have blb : ∀ T, Ext w15 T → ∀ i, T.cell? ⟨Y, i, none⟩ = _ := fun T hx => BL.out T (X15.out.trans hx)
          have alb : ∀ T, Ext w15 T → ∀ i, T.cell? ⟨X, i, none⟩ = _ := fun T hx => A9.out T (X15.out.trans hx)
          have HUA := Lib.hid fun (T : World) (hx : Ext w15 T) => useAdd_any (S := fun x => x ∈ F1) us b p k _ T (R15.out.ext hx) FB.out STP.out JK.out
          go_cut [16] (fun q wx => ∃ (A18 : Option Addr) (c18 : Nat) (F18 : List Nat), q = .slice A18 (useAdd (useAdd us b p k) a o n).length c18 ∧ OwS OUse 124 wx (.slice A18 (useAdd (useAdd us b p k) a o n).length c18) (useAdd (useAdd us b p k) a o n) F18 ∧ Ext w15 wx)
          case first =>
            go_region_held3 (fun T => Ext w15 T) (exact (by repeat (first | with_reducible assumption | with_reducible exact Ext.refl _ | with_reducible refine Ext.alloc ?_ _ | with_reducible refine Ext.drew ?_ | with_reducible refine Ext.trans ?_ hx16 | with_reducible refine Ext.trans ?_ hx17 | with_reducible refine Ext.trans ?_ hx18 | with_reducible refine Ext.trans ?_ hx19 | with_reducible refine Ext.trans ?_ hx20 | with_reducible refine Ext.trans ?_ hx21 | with_reducible refine Ext.trans ?_ hx22))) (first | (have q1 := H16.out; clear q1; go_at_call 39; (with_reducible refine (useAdd_any (S := fun x => x ∈ F16) (useAdd us b p k) a o n _ _ (H16.out.rd.ext (by repeat (first | with_reducible assumption | with_reducible exact Ext.refl _ | with_reducible refine Ext.alloc ?_ _ | with_reducible refine Ext.drew ?_ | with_reducible refine Ext.trans ?_ hx16 | with_reducible refine Ext.trans ?_ hx17 | with_reducible refine Ext.trans ?_ hx18 | with_reducible refine Ext.trans ?_ hx19 | with_reducible refine Ext.trans ?_ hx20 | with_reducible refine Ext.trans ?_ hx21 | with_reducible refine Ext.trans ?_ hx22))) FA.out STO.out JN.out).mono ?_); rintro e w17 ⟨v17, F17, rfl, o17, f17, hx17⟩; have H17 := Lib.hid o17; clear o17 f17) | (go_at_call 39; (with_reducible refine (HUA.out _ (by repeat (first | with_reducible assumption | with_reducible exact Ext.refl _ | with_reducible refine Ext.alloc ?_ _ | with_reducible refine Ext.drew ?_ | with_reducible refine Ext.trans ?_ hx16 | with_reducible refine Ext.trans ?_ hx17 | with_reducible refine Ext.trans ?_ hx18 | with_reducible refine Ext.trans ?_ hx19 | with_reducible refine Ext.trans ?_ hx20 | with_reducible refine Ext.trans ?_ hx21 | with_reducible refine Ext.trans ?_ hx22))).mono ?_); rintro e w16 ⟨v16, F16, rfl, o16, f16, hx16⟩; have H16 := Lib.hid o16; clear o16 f16))
            all_goals
              go_wp2_with fail
              go_meet
              obtain ⟨A17, c17, rfl, -⟩ := H17.out.form
              exact ⟨A17, c17, _, rfl, H17.out, (by repeat (first | with_reducible assumption | with_reducible exact Ext.refl _ | with_reducible refine Ext.alloc ?_ _ | with_reducible refine Ext.drew ?_ | with_reducible refine Ext.trans ?_ hx16 | with_reducible refine Ext.trans ?_ hx17 | with_reducible refine Ext.trans ?_ hx18 | with_reducible refine Ext.trans ?_ hx19 | with_reducible refine Ext.trans ?_ hx20 | with_reducible refine Ext.trans ?_ hx21 | with_reducible refine Ext.trans ?_ hx22))⟩
          case rest =>
            obtain ⟨A18, c18, F18, rfl, o18, hx18⟩ := hcut
            generalize wc = w18 at o18 hx18 ⊢
            have P18 := Lib.hid o18
            have X18 := Lib.hid (X15.out.trans hx18)
            have R18 := Lib.hid (R15.out.ext hx18)
            have O18 := Lib.hid (O15.out.ext hx18)
            have Q18 := Lib.hid (P15.out.ext hx18)
            clear o18 hx18 b15 a15 blb alb HUA R15 O15 P15 X15
            have b18 := BL.out _ X18.out
            have a18 := A9.out _ X18.out
            have PR : Hid (Rd EUse (fun x => x ∈ F18) w18 (.slice A18 (useAdd (useAdd us b p k) a o n).length c18) (useAdd (useAdd us a o n) b p k)) := Lib.hid (by rw [HC.out]; exact P18.out.rd)
            have blb : ∀ T, Ext w18 T → ∀ i, T.cell? ⟨Y, i, none⟩ = _ := fun T hx => BL.out T (X18.out.trans hx)
            have alb : ∀ T, Ext w18 T → ∀ i, T.cell? ⟨X, i, none⟩ = _ := fun T hx => A9.out T (X18.out.trans hx)
            have HSA := Lib.hid fun (T : World) (hx : Ext w18 T) => specUseAdd_any (S := fun x => x ∈ F1) us a o n _ T (R18.out.ext hx) FA.out STO.out JN.out
            go_upto_region 18 with (fail)
            go_cut [129] (fun q wx => q = .bool false ∧ Ext w18 wx)
            case first =>
              go_region_held3 (fun T => Ext w18 T) (exact (by repeat (first | with_reducible assumption | with_reducible exact Ext.refl _ | with_reducible refine Ext.alloc ?_ _ | with_reducible refine Ext.drew ?_ | with_reducible refine Ext.trans ?_ hx19 | with_reducible refine Ext.trans ?_ hx20 | with_reducible refine Ext.trans ?_ hx21 | with_reducible refine Ext.trans ?_ hx22))) (first | (have q1 := H20.out; clear q1; go_at_call 40; (with_reducible refine (lwUses_same (useAdd (useAdd us a o n) b p k) _ _ _ (Q18.out.rd.ext (by repeat (first | with_reducible assumption | with_reducible exact Ext.refl _ | with_reducible refine Ext.alloc ?_ _ | with_reducible refine Ext.drew ?_ | with_reducible refine Ext.trans ?_ hx19 | with_reducible refine Ext.trans ?_ hx20 | with_reducible refine Ext.trans ?_ hx21 | with_reducible refine Ext.trans ?_ hx22))) (H20.out.rd.ext (by repeat (first | with_reducible assumption | with_reducible exact Ext.refl _ | with_reducible refine Ext.alloc ?_ _ | with_reducible refine Ext.drew ?_ | with_reducible refine Ext.trans ?_ hx19 | with_reducible refine Ext.trans ?_ hx20 | with_reducible refine Ext.trans ?_ hx21 | with_reducible refine Ext.trans ?_ hx22)))).mono ?_); rintro e w22 ⟨rfl, hx22⟩; skip) | (have q1 := H19.out; clear q1; go_at_call 41; (with_reducible refine (specUseAdd_any (S := fun x => x ∈ F19) (useAdd us a o n) b p k _ _ (H19.out.rd.ext (by repeat (first | with_reducible assumption | with_reducible exact Ext.refl _ | with_reducible refine Ext.alloc ?_ _ | with_reducible refine Ext.drew ?_ | with_reducible refine Ext.trans ?_ hx19 | with_reducible refine Ext.trans ?_ hx20 | with_reducible refine Ext.trans ?_ hx21 | with_reducible refine Ext.trans ?_ hx22))) FB.out STP.out JK.out).mono ?_); rintro e w20 ⟨v20, F20, rfl, o20, f20, hx20⟩; have H20 := Lib.hid o20; clear o20 f20) | (go_at_call 40; (with_reducible refine (lwUses_same (useAdd (useAdd us a o n) b p k) _ _ _ (Q18.out.rd.ext (by repeat (first | with_reducible assumption | with_reducible exact Ext.refl _ | with_reducible refine Ext.alloc ?_ _ | with_reducible refine Ext.drew ?_ | with_reducible refine Ext.trans ?_ hx19 | with_reducible refine Ext.trans ?_ hx20 | with_reducible refine Ext.trans ?_ hx21 | with_reducible refine Ext.trans ?_ hx22))) (PR.out.ext (by repeat (first | with_reducible assumption | with_reducible exact Ext.refl _ | with_reducible refine Ext.alloc ?_ _ | with_reducible refine Ext.drew ?_ | with_reducible refine Ext.trans ?_ hx19 | with_reducible refine Ext.trans ?_ hx20 | with_reducible refine Ext.trans ?_ hx21 | with_reducible refine Ext.trans ?_ hx22)))).mono ?_); rintro e w21 ⟨rfl, hx21⟩; skip) | (go_at_call 41; (with_reducible refine (HSA.out _ (by repeat (first | with_reducible assumption | with_reducible exact Ext.refl _ | with_reducible refine Ext.alloc ?_ _ | with_reducible refine Ext.drew ?_ | with_reducible refine Ext.trans ?_ hx19 | with_reducible refine Ext.trans ?_ hx20 | with_reducible refine Ext.trans ?_ hx21 | with_reducible refine Ext.trans ?_ hx22))).mono ?_); rintro e w19 ⟨v19, F19, rfl, o19, f19, hx19⟩; have H19 := Lib.hid o19; clear o19 f19))
              all_goals
                go_wp2_with fail
                go_meet
                exact ⟨rfl, (by repeat (first | with_reducible assumption | with_reducible exact Ext.refl _ | with_reducible refine Ext.alloc ?_ _ | with_reducible refine Ext.drew ?_ | with_reducible refine Ext.trans ?_ hx19 | with_reducible refine Ext.trans ?_ hx20 | with_reducible refine Ext.trans ?_ hx21 | with_reducible refine Ext.trans ?_ hx22))⟩
            case rest =>
              obtain ⟨rfl, hx19⟩ := hcut
              generalize wc = w19 at hx19 ⊢
              have X19 := Lib.hid (X18.out.trans hx19)
              have R19 := Lib.hid (R18.out.ext hx19)
              have O19 := Lib.hid (O18.out.ext hx19)
              clear hx19 b18 a18 blb alb HSA R18 O18 P18 Q18 PR X18
              have b19 := BL.out _ X19.out
              have a19 := A9.out _ X19.out
              by_cases g : usesRight us = true ∧ labelRight a = true ∧ nameRight o = true ∧ 1 ≤ n ∧ n ≤ 1000 ∧ useOf us a o ≤ 90000
              · have HSM := Lib.hid (useOf_same (l := us) (a := a) (o := o) (n := n) h4 g.1 g.2.1 g.2.2.1 ⟨g.2.2.2.1, g.2.2.2.2.1⟩ g.2.2.2.2.2)
                have iw : IntKind.i64.wrap (useOf us a o + n) = useOf us a o + n := IntWalk.i64_in _ (by have := useOf_in us a o; omega)
                obtain ⟨g1, g2, g3, g4, g5, g6⟩ := g
                go_upto_region 22 with (first | (go_at_call 43; (with_reducible refine (specUsesRight_any (S := fun x => x ∈ F1) us _ _ R19.out).mono ?_); rintro e w20 ⟨rfl, hx20⟩; have X20 := Lib.hid hx20; clear a19; have a19 := A9.out _ (X19.out.trans hx20)) | (go_at_call 48; (with_reducible refine (specLabelRight_any (S := fun _ => True) a _ _ (rel_Label FA.out)).mono ?_); rintro e w21 ⟨rfl, hx21⟩; have X21 := Lib.hid (X20.out.trans hx21)) | (go_at_call 49; (with_reducible refine (specNameRight_any o _ STO.out).mono ?_); rintro e w22 ⟨rfl, rfl⟩; have X22 := Lib.hid X21.out; clear a19; have a19 := A9.out _ (X19.out.trans X22.out)) | (go_at_call 47; (with_reducible refine (specUseOf_any (S := fun x => x ∈ F1) us a o _ _ (R19.out.ext X22.out) STO.out).mono ?_); rintro e w23 ⟨rfl, hx23⟩; have X23 := Lib.hid (X22.out.trans hx23)))
                have R23 := Lib.hid (R19.out.ext X23.out)
                have O23 := Lib.hid (O19.out.ext X23.out)
                have Y23 := Lib.hid (X19.out.trans X23.out)
                clear a19 b19
                have alb : ∀ T, Ext w23 T → ∀ i, T.cell? ⟨X, i, none⟩ = _ := fun T hx => A9.out T (Y23.out.trans hx)
                have HUO := Lib.hid fun (T : World) (hx : Ext w23 T) => useOfI_any (S := fun x => x ∈ F3) (useAdd us a o n) a o _ T (O23.out.rd.ext hx)
                have HSU := Lib.hid fun (T : World) (hx : Ext w23 T) => specUseOf_any (S := fun x => x ∈ F1) us a o _ T (R23.out.ext hx) STO.out
                go_region_held3 (fun T => Ext w23 T) (exact (by repeat (first | with_reducible assumption | with_reducible exact Ext.refl _ | with_reducible refine Ext.alloc ?_ _ | with_reducible refine Ext.drew ?_ | with_reducible refine Ext.trans ?_ hx20 | with_reducible refine Ext.trans ?_ hx21 | with_reducible refine Ext.trans ?_ hx22 | with_reducible refine Ext.trans ?_ hx23 | with_reducible refine Ext.trans ?_ hx24 | with_reducible refine Ext.trans ?_ hx25 | with_reducible refine Ext.trans ?_ hx26))) (first | (go_at_call 46; (with_reducible refine (HUO.out _ (by repeat (first | with_reducible assumption | with_reducible exact Ext.refl _ | with_reducible refine Ext.alloc ?_ _ | with_reducible refine Ext.drew ?_ | with_reducible refine Ext.trans ?_ hx20 | with_reducible refine Ext.trans ?_ hx21 | with_reducible refine Ext.trans ?_ hx22 | with_reducible refine Ext.trans ?_ hx23 | with_reducible refine Ext.trans ?_ hx24 | with_reducible refine Ext.trans ?_ hx25 | with_reducible refine Ext.trans ?_ hx26))).mono ?_); rintro e w24 ⟨rfl, hx24⟩; skip) | (go_at_call 47; (with_reducible refine (HSU.out _ (by repeat (first | with_reducible assumption | with_reducible exact Ext.refl _ | with_reducible refine Ext.alloc ?_ _ | with_reducible refine Ext.drew ?_ | with_reducible refine Ext.trans ?_ hx20 | with_reducible refine Ext.trans ?_ hx21 | with_reducible refine Ext.trans ?_ hx22 | with_reducible refine Ext.trans ?_ hx23 | with_reducible refine Ext.trans ?_ hx24 | with_reducible refine Ext.trans ?_ hx25 | with_reducible refine Ext.trans ?_ hx26))).mono ?_); rintro e w25 ⟨rfl, hx25⟩; skip))
                all_goals
                  go_wp2_with fail
                  go_ret
                  exact ⟨ret_bool (by simp [HSM.out]), X2.out.trans (X9.out.trans (Y23.out.trans (by repeat (first | with_reducible assumption | with_reducible exact Ext.refl _ | with_reducible refine Ext.alloc ?_ _ | with_reducible refine Ext.drew ?_ | with_reducible refine Ext.trans ?_ hx20 | with_reducible refine Ext.trans ?_ hx21 | with_reducible refine Ext.trans ?_ hx22 | with_reducible refine Ext.trans ?_ hx23 | with_reducible refine Ext.trans ?_ hx24 | with_reducible refine Ext.trans ?_ hx25 | with_reducible refine Ext.trans ?_ hx26))))⟩
              · by_cases g1 : usesRight us = true
                · by_cases g2 : labelRight a = true
                  · by_cases g3 : nameRight o = true
                    · by_cases g4 : 1 ≤ n
                      · by_cases g5 : n ≤ 1000
                        · have g6 : ¬ useOf us a o ≤ 90000 := fun e => g ⟨g1, g2, g3, g4, g5, e⟩
                          clear g
                          go_wp2_with (first | (go_at_call 43; (with_reducible refine (specUsesRight_any (S := fun x => x ∈ F1) us _ _ R19.out).mono ?_); rintro e w20 ⟨rfl, hx20⟩; have X20 := Lib.hid hx20; clear a19; have a19 := A9.out _ (X19.out.trans hx20)) | (go_at_call 48; (with_reducible refine (specLabelRight_any (S := fun _ => True) a _ _ (rel_Label FA.out)).mono ?_); rintro e w21 ⟨rfl, hx21⟩; have X21 := Lib.hid (X20.out.trans hx21)) | (go_at_call 49; (with_reducible refine (specNameRight_any o _ STO.out).mono ?_); rintro e w22 ⟨rfl, rfl⟩; have X22 := Lib.hid X21.out; clear a19; have a19 := A9.out _ (X19.out.trans X22.out)) | (go_at_call 47; (with_reducible refine (specUseOf_any (S := fun x => x ∈ F1) us a o _ _ (R19.out.ext X22.out) STO.out).mono ?_); rintro e w23 ⟨rfl, hx23⟩; have X23 := Lib.hid (X22.out.trans hx23)))
                          go_ret
                          exact ⟨rfl, X2.out.trans (X9.out.trans (X19.out.trans (by repeat (first | with_reducible assumption | with_reducible exact Ext.refl _ | with_reducible refine Ext.alloc ?_ _ | with_reducible refine Ext.drew ?_ | with_reducible refine Ext.trans ?_ hx20 | with_reducible refine Ext.trans ?_ hx21 | with_reducible refine Ext.trans ?_ hx22 | with_reducible refine Ext.trans ?_ hx23 | with_reducible refine Ext.trans ?_ hx24 | with_reducible refine Ext.trans ?_ hx25 | with_reducible refine Ext.trans ?_ hx26))))⟩
                        · clear g
                          go_wp2_with (first | (go_at_call 43; (with_reducible refine (specUsesRight_any (S := fun x => x ∈ F1) us _ _ R19.out).mono ?_); rintro e w20 ⟨rfl, hx20⟩; have X20 := Lib.hid hx20; clear a19; have a19 := A9.out _ (X19.out.trans hx20)) | (go_at_call 48; (with_reducible refine (specLabelRight_any (S := fun _ => True) a _ _ (rel_Label FA.out)).mono ?_); rintro e w21 ⟨rfl, hx21⟩; have X21 := Lib.hid (X20.out.trans hx21)) | (go_at_call 49; (with_reducible refine (specNameRight_any o _ STO.out).mono ?_); rintro e w22 ⟨rfl, rfl⟩; have X22 := Lib.hid X21.out; clear a19; have a19 := A9.out _ (X19.out.trans X22.out)) | (go_at_call 47; (with_reducible refine (specUseOf_any (S := fun x => x ∈ F1) us a o _ _ (R19.out.ext X22.out) STO.out).mono ?_); rintro e w23 ⟨rfl, hx23⟩; have X23 := Lib.hid (X22.out.trans hx23)))
                          go_ret
                          exact ⟨rfl, X2.out.trans (X9.out.trans (X19.out.trans (by repeat (first | with_reducible assumption | with_reducible exact Ext.refl _ | with_reducible refine Ext.alloc ?_ _ | with_reducible refine Ext.drew ?_ | with_reducible refine Ext.trans ?_ hx20 | with_reducible refine Ext.trans ?_ hx21 | with_reducible refine Ext.trans ?_ hx22 | with_reducible refine Ext.trans ?_ hx23 | with_reducible refine Ext.trans ?_ hx24 | with_reducible refine Ext.trans ?_ hx25 | with_reducible refine Ext.trans ?_ hx26))))⟩
                      · clear g
                        go_wp2_with (first | (go_at_call 43; (with_reducible refine (specUsesRight_any (S := fun x => x ∈ F1) us _ _ R19.out).mono ?_); rintro e w20 ⟨rfl, hx20⟩; have X20 := Lib.hid hx20; clear a19; have a19 := A9.out _ (X19.out.trans hx20)) | (go_at_call 48; (with_reducible refine (specLabelRight_any (S := fun _ => True) a _ _ (rel_Label FA.out)).mono ?_); rintro e w21 ⟨rfl, hx21⟩; have X21 := Lib.hid (X20.out.trans hx21)) | (go_at_call 49; (with_reducible refine (specNameRight_any o _ STO.out).mono ?_); rintro e w22 ⟨rfl, rfl⟩; have X22 := Lib.hid X21.out; clear a19; have a19 := A9.out _ (X19.out.trans X22.out)) | (go_at_call 47; (with_reducible refine (specUseOf_any (S := fun x => x ∈ F1) us a o _ _ (R19.out.ext X22.out) STO.out).mono ?_); rintro e w23 ⟨rfl, hx23⟩; have X23 := Lib.hid (X22.out.trans hx23)))
                        go_ret
                        exact ⟨rfl, X2.out.trans (X9.out.trans (X19.out.trans (by repeat (first | with_reducible assumption | with_reducible exact Ext.refl _ | with_reducible refine Ext.alloc ?_ _ | with_reducible refine Ext.drew ?_ | with_reducible refine Ext.trans ?_ hx20 | with_reducible refine Ext.trans ?_ hx21 | with_reducible refine Ext.trans ?_ hx22 | with_reducible refine Ext.trans ?_ hx23 | with_reducible refine Ext.trans ?_ hx24 | with_reducible refine Ext.trans ?_ hx25 | with_reducible refine Ext.trans ?_ hx26))))⟩
                    · clear g
                      simp only [Bool.not_eq_true] at g3
                      go_wp2_with (first | (go_at_call 43; (with_reducible refine (specUsesRight_any (S := fun x => x ∈ F1) us _ _ R19.out).mono ?_); rintro e w20 ⟨rfl, hx20⟩; have X20 := Lib.hid hx20; clear a19; have a19 := A9.out _ (X19.out.trans hx20)) | (go_at_call 48; (with_reducible refine (specLabelRight_any (S := fun _ => True) a _ _ (rel_Label FA.out)).mono ?_); rintro e w21 ⟨rfl, hx21⟩; have X21 := Lib.hid (X20.out.trans hx21)) | (go_at_call 49; (with_reducible refine (specNameRight_any o _ STO.out).mono ?_); rintro e w22 ⟨rfl, rfl⟩; have X22 := Lib.hid X21.out; clear a19; have a19 := A9.out _ (X19.out.trans X22.out)) | (go_at_call 47; (with_reducible refine (specUseOf_any (S := fun x => x ∈ F1) us a o _ _ (R19.out.ext X22.out) STO.out).mono ?_); rintro e w23 ⟨rfl, hx23⟩; have X23 := Lib.hid (X22.out.trans hx23)))
                      go_ret
                      exact ⟨rfl, X2.out.trans (X9.out.trans (X19.out.trans (by repeat (first | with_reducible assumption | with_reducible exact Ext.refl _ | with_reducible refine Ext.alloc ?_ _ | with_reducible refine Ext.drew ?_ | with_reducible refine Ext.trans ?_ hx20 | with_reducible refine Ext.trans ?_ hx21 | with_reducible refine Ext.trans ?_ hx22 | with_reducible refine Ext.trans ?_ hx23 | with_reducible refine Ext.trans ?_ hx24 | with_reducible refine Ext.trans ?_ hx25 | with_reducible refine Ext.trans ?_ hx26))))⟩
                  · clear g
                    simp only [Bool.not_eq_true] at g2
                    go_wp2_with (first | (go_at_call 43; (with_reducible refine (specUsesRight_any (S := fun x => x ∈ F1) us _ _ R19.out).mono ?_); rintro e w20 ⟨rfl, hx20⟩; have X20 := Lib.hid hx20; clear a19; have a19 := A9.out _ (X19.out.trans hx20)) | (go_at_call 48; (with_reducible refine (specLabelRight_any (S := fun _ => True) a _ _ (rel_Label FA.out)).mono ?_); rintro e w21 ⟨rfl, hx21⟩; have X21 := Lib.hid (X20.out.trans hx21)) | (go_at_call 49; (with_reducible refine (specNameRight_any o _ STO.out).mono ?_); rintro e w22 ⟨rfl, rfl⟩; have X22 := Lib.hid X21.out; clear a19; have a19 := A9.out _ (X19.out.trans X22.out)) | (go_at_call 47; (with_reducible refine (specUseOf_any (S := fun x => x ∈ F1) us a o _ _ (R19.out.ext X22.out) STO.out).mono ?_); rintro e w23 ⟨rfl, hx23⟩; have X23 := Lib.hid (X22.out.trans hx23)))
                    go_ret
                    exact ⟨rfl, X2.out.trans (X9.out.trans (X19.out.trans (by repeat (first | with_reducible assumption | with_reducible exact Ext.refl _ | with_reducible refine Ext.alloc ?_ _ | with_reducible refine Ext.drew ?_ | with_reducible refine Ext.trans ?_ hx20 | with_reducible refine Ext.trans ?_ hx21 | with_reducible refine Ext.trans ?_ hx22 | with_reducible refine Ext.trans ?_ hx23 | with_reducible refine Ext.trans ?_ hx24 | with_reducible refine Ext.trans ?_ hx25 | with_reducible refine Ext.trans ?_ hx26))))⟩
                · clear g
                  simp only [Bool.not_eq_true] at g1
                  go_wp2_with (first | (go_at_call 43; (with_reducible refine (specUsesRight_any (S := fun x => x ∈ F1) us _ _ R19.out).mono ?_); rintro e w20 ⟨rfl, hx20⟩; have X20 := Lib.hid hx20; clear a19; have a19 := A9.out _ (X19.out.trans hx20)) | (go_at_call 48; (with_reducible refine (specLabelRight_any (S := fun _ => True) a _ _ (rel_Label FA.out)).mono ?_); rintro e w21 ⟨rfl, hx21⟩; have X21 := Lib.hid (X20.out.trans hx21)) | (go_at_call 49; (with_reducible refine (specNameRight_any o _ STO.out).mono ?_); rintro e w22 ⟨rfl, rfl⟩; have X22 := Lib.hid X21.out; clear a19; have a19 := A9.out _ (X19.out.trans X22.out)) | (go_at_call 47; (with_reducible refine (specUseOf_any (S := fun x => x ∈ F1) us a o _ _ (R19.out.ext X22.out) STO.out).mono ?_); rintro e w23 ⟨rfl, hx23⟩; have X23 := Lib.hid (X22.out.trans hx23)))
                  go_ret
                  exact ⟨rfl, X2.out.trans (X9.out.trans (X19.out.trans (by repeat (first | with_reducible assumption | with_reducible exact Ext.refl _ | with_reducible refine Ext.alloc ?_ _ | with_reducible refine Ext.drew ?_ | with_reducible refine Ext.trans ?_ hx20 | with_reducible refine Ext.trans ?_ hx21 | with_reducible refine Ext.trans ?_ hx22 | with_reducible refine Ext.trans ?_ hx23 | with_reducible refine Ext.trans ?_ hx24 | with_reducible refine Ext.trans ?_ hx25 | with_reducible refine Ext.trans ?_ hx26))))⟩
        · go_wp2_with fail
          go_ret
          exact ⟨rfl, X2.out.trans (X9.out.trans X14.out)⟩
end Go.Proofs.Ytbdicafambkhdaa

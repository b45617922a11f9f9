/- The law FnRank: one more priority is worth 100 of rank; age and usage count as far as they count. The conditions: none. -/
import Derived.Test.YtalnbddpkkkpeaaKFnRank
import Derived.Test.YtalnbddpkkkpeaaDraws
import Derived.Test.YtalnbddpkkkpeaaLaw
namespace Go.Proofs.Ytalnbddpkkkpeaa
open Go.ChangeShapes Go.WideShapes Go.ChangeAt Go.RowKit
attribute [local irreducible] wpQuiet

def rankOf (p a u : Int) : Int := if isB p 0 9 && timeOk a && timeOk u then 100 * p + min a 50 - min u 90 else 0
theorem timeOk_true {n : Int} (h : timeOk n = true) : 0 ≤ n ∧ n ≤ 1000000 := isB_true h

theorem l01Min_any (a b : Int) (w : World) :
    Calls Try.prog 116 #[.int .i64 a, .int .i64 b] w fun e w' => e = .returned (.int .i64 (min a b)) ∧ w = w' := by
  go_enter Try.func116, Try.ntmps116
  go_wp2
  all_goals (go_ret; exact ⟨ret_int (by omega), rfl⟩)

theorem specRank_any (p a u : Int) (w : World) :
    Calls Try.prog 40 #[.int .i64 p, .int .i64 a, .int .i64 u] w fun e w' => e = .returned (.int .i64 (rankOf p a u)) ∧ w = w' := by
  by_cases hp : isB p 0 9 = true <;> by_cases ha : timeOk a = true <;> by_cases hu : timeOk u = true
  · have h1 := isB_true hp
    have h2 := timeOk_true ha
    have h3 := timeOk_true hu
    go_enter Try.func40, Try.ntmps40
    go_wp2_with (first | (go_at_call 84; refine (l02Is_any _ _ _ _).mono ?_; rintro e w' ⟨rfl, rfl⟩) | (go_at_call 115; refine (l02Time_any _ _).mono ?_; rintro e w' ⟨rfl, rfl⟩) | (go_at_call 116; refine (l01Min_any _ _ _).mono ?_; rintro e w' ⟨rfl, rfl⟩))
    go_ret
    exact ⟨ret_int (by simp [rankOf, hp, ha, hu]), rfl⟩
  all_goals
    simp only [Bool.not_eq_true] at *
    go_enter Try.func40, Try.ntmps40
    go_wp2_with (first | (go_at_call 84; refine (l02Is_any _ _ _ _).mono ?_; rintro e w' ⟨rfl, rfl⟩) | (go_at_call 115; refine (l02Time_any _ _).mono ?_; rintro e w' ⟨rfl, rfl⟩) | (go_at_call 116; refine (l01Min_any _ _ _).mono ?_; rintro e w' ⟨rfl, rfl⟩))
    go_ret
    exact ⟨ret_int (by simp [rankOf, *]), rfl⟩

theorem rank_any (p a u : Int) (w : World) :
    Calls Try.prog 39 #[.int .i64 p, .int .i64 a, .int .i64 u] w fun e w' => e = .returned (.int .i64 (rankOf p a u)) ∧ w = w' := by
  by_cases hp : isB p 0 9 = true <;> by_cases ha : timeOk a = true <;> by_cases hu : timeOk u = true
  · have h1 := isB_true hp
    have h2 := timeOk_true ha
    have h3 := timeOk_true hu
    go_enter Try.func39, Try.ntmps39
    go_wp2_with (first | (go_at_call 85; refine (within_any _ _ _ _).mono ?_; rintro e w' ⟨rfl, rfl⟩) | (go_at_call 114; refine (isTime_any _ _).mono ?_; rintro e w' ⟨rfl, rfl⟩))
    all_goals (go_ret; exact ⟨ret_int (by simp [rankOf, hp, ha, hu]; try omega), rfl⟩)
  all_goals
    simp only [Bool.not_eq_true] at *
    go_enter Try.func39, Try.ntmps39
    go_wp2_with (first | (go_at_call 85; refine (within_any _ _ _ _).mono ?_; rintro e w' ⟨rfl, rfl⟩) | (go_at_call 114; refine (isTime_any _ _).mono ?_; rintro e w' ⟨rfl, rfl⟩))
    go_ret
    exact ⟨ret_int (by simp [rankOf, *]), rfl⟩


theorem opens_u8 {P : Program} {t : TypeId} (ht : P.underlying t = .some (.int .u8)) : Opens P t EByte := by
  intro H enc w base spare held fuel cs x h
  obtain ⟨n, rfl, _, hw⟩ := DataW.trod_int ht h
  refine ⟨n, rfl, ?_⟩
  simp [Lit.wf, IntKind.min, IntKind.max, IntKind.signed, IntKind.bits] at hw
  omega
theorem opens_Uint8S : Opens Try.prog 50 (ERow EByte) := opens_row Try.underlying50 (by kernel_rfl) (by decide) (opens_u8 Try.underlying5)

theorem rank_in {p a u : Int} (hp : 0 ≤ p ∧ p ≤ 9) (ha : 0 ≤ a ∧ a ≤ 1000000) (hu : 0 ≤ u ∧ u ≤ 1000000) : rankOf p a u = 100 * p + min a 50 - min u 90 := by
  have h1 : isB p 0 9 = true := by unfold isB; simp; omega
  have h2 : timeOk a = true := by unfold timeOk isB; simp; omega
  have h3 : timeOk u = true := by unfold timeOk isB; simp; omega
  simp [rankOf, h1, h2, h3]

set_option maxRecDepth 50000 in
theorem fnRank_walk {S : Nat → Prop} (l : List Int) (v : Value) (w : World) (h : Rd EByte S w v l) :
    Calls Try.prog 8 #[v] w fun e w' => e = .returned (.bool true) ∧ Ext w w' := by
  have HD := Lib.hid (drawRank_any l v w h)
  obtain ⟨A, c, rfl, l1, l2⟩ := h.form
  unfold maxLen at l2
  clear h
  by_cases hl : l.length ≤ 1048576
  · go_enter Try.func8, Try.ntmps8
    go_upto_region 4 with (go_at_call 38; (with_reducible refine HD.out.mono ?_); rintro e w1 ⟨p, a, u, rfl, ip, ia, iu, hx⟩; have HX := Lib.hid hx; clear hx)
    unfold I64 at ip ia iu
    by_cases hc : (0 ≤ p ∧ p ≤ 8) ∧ (0 ≤ a ∧ a < 1000000) ∧ (1 ≤ u ∧ u ≤ 1000000)
    · obtain ⟨⟨p0, p1⟩, ⟨a0, a1⟩, ⟨u0, u1⟩⟩ := hc
      have r1 := rank_in (p := p) (a := a) (u := u) (by omega) (by omega) (by omega)
      have r2 := rank_in (p := p) (a := a + 1) (u := u) (by omega) (by omega) (by omega)
      have r3 := rank_in (p := p) (a := a) (u := u - 1) (by omega) (by omega) (by omega)
      have r4 := rank_in (p := p + 1) (a := a) (u := u) (by omega) (by omega) (by omega)
      obtain ⟨x, y, z, e1, e2, e3, e4, b1, b2, c1, c2, c3, c4⟩ : ∃ x y z, rankOf p a u = x ∧ rankOf p (a + 1) u = y ∧ rankOf p a (u - 1) = z ∧ rankOf (p + 1) a u = x + 100 ∧ -1000 ≤ x ∧ x ≤ 2000 ∧ ¬ (y < x) ∧ ¬ (z < x) ∧ (x < y ↔ a < 50) ∧ (x < z ↔ u ≤ 90) := ⟨_, _, _, rfl, rfl, rfl, by omega, by omega, by omega, by omega, by omega, by omega, by omega⟩
      clear r1 r2 r3 r4
      have d3 : decide (x < y) = decide (a < 50) := by simp [c3]
      have d4 : decide (x < z) = decide (u ≤ 90) := by simp [c4]
      clear c3 c4
      go_wp2_with (first | (go_at_call 40; refine (specRank_any _ _ _ _).mono ?_; rintro e w' ⟨rfl, rfl⟩) | (go_at_call 39; refine (rank_any _ _ _ _).mono ?_; rintro e w' ⟨rfl, rfl⟩))
      all_goals first
        | (go_ret; exact ⟨rfl, HX.out⟩)
        | (exfalso; omega)
        | (exfalso; simp_all; done)
        | (exfalso; simp_all; omega)
        | (go_ret; exact ⟨ret_bool (by simp_all), HX.out⟩)
    · go_wp2_with (first | (go_at_call 40; refine (specRank_any _ _ _ _).mono ?_; rintro e w' ⟨rfl, rfl⟩) | (go_at_call 39; refine (rank_any _ _ _ _).mono ?_; rintro e w' ⟨rfl, rfl⟩))
      all_goals first
        | (go_ret; exact ⟨rfl, HX.out⟩)
        | (exfalso; omega)
        | (exfalso; simp_all; done)
        | (exfalso; simp_all; omega)
        | (go_ret; exact ⟨ret_bool (by simp_all), HX.out⟩)
  · go_enter Try.func8, Try.ntmps8
    go_wp2_with fail
    go_ret
    exact ⟨rfl, Ext.refl _⟩

set_option maxRecDepth 100000 in
theorem fnRank_lifted (os : Os) (started : os.Started) (H : Type) (enc : TypeId × Value → H) :
    ReturnsInHanded {} Try.checked os 8 .any (Rows.fnRankSpec.pre6 enc Try.prog Try.f8 Rows.fnRankRow.domain false) (Rows.fnRankSpec.post enc Try.prog Try.f8 false true false false) := by
  refine returnsInHanded_of_change (C := Try.checked) (show ownKnob Try.prog.godebug = none by kernel_rfl) started (by kernel_rfl) Try.func8
    (ChangeSpec.witness6 (enc := enc) (C := Try.checked) false ⟨#[], #[.slice none 0 0], []⟩ 8 (by kernel_rfl) (by kernel_rfl) (by kernel_rfl) (by kernel_rfl)) ?_
  intro W base args ds gs before hval0 hW hcnd _
  have hval : ∀ (j : Nat) t v, Try.f8.params[j]? = some t → args[j]? = some v → Value.okWide Try.prog W .any base t v := hval0
  have hW' := hW
  obtain ⟨p, q, hA0, hV, rfl, hfz, hnd⟩ := hW
  have hA : DataW.TrodAll enc Try.prog W 0 (fun _ => true) true Try.f8.params.toList args.toList ds p := hA0
  rw [Try.params8] at hA hval
  obtain ⟨v0, d0, rfl, rfl, h0⟩ := trodAll_one hA
  obtain ⟨rfl, rfl⟩ := trodVars_none hV
  obtain ⟨fu0, hf0⟩ := h0
  obtain ⟨l1, u0, e0, rl1⟩ := opens_Uint8S hf0
  obtain ⟨a0, len0, cap0, rfl⟩ := okWide_slice Try.underlying50 (hval 0 50 v0 rfl rfl)
  obtain rfl : u0 = _ := by simpa [Value.cells] using e0.symm
  clear hf0 e0
  clear hA0 hval0 hval hcnd
  refine (fnRank_walk l1 _ W rl1).mono fun e W2 ⟨he, hx⟩ => ?_
  subst he
  exact ⟨_, rfl, law_post (by kernel_rfl) (by kernel_rfl) Try.underlying4 (by intro t ht; rw [Try.params8] at ht; simp only [List.mem_cons, List.not_mem_nil, or_false] at ht; rcases ht with rfl <;> exact ⟨by kernel_rfl, of_decide_eq_true (by kernel_rfl)⟩) rfl rfl hW' hx⟩

theorem fnRank_holds : Rows.FnRankSaid :=
  OpenClaim.holds_of_wide 8 Try.f8 rfl rfl rfl rfl rfl rfl rfl ⟨rfl, rfl, rfl, rfl, rfl⟩ rfl rfl rfl rfl rfl (by kernel_rfl) Try.func8 fnRank_closed
    (of_decide_eq_true (by kernel_rfl)) (by unfold Func.isWrapper; rw [if_neg (of_decide_eq_false (by kernel_rfl))]; exact ⟨rfl, rfl⟩)
    (fun os started H enc _ => fnRank_lifted os started H enc)
end Go.Proofs.Ytalnbddpkkkpeaa

/- The walks of UsesHalf, the program's and the reference's. -/
import Derived.Test.YtbdicafambkhdaaOrdU
import Derived.Test.YtbdicafambkhdaaClones
import Derived.Test.YtbdicafambkhdaaCounts
namespace Go.Proofs.Ytbdicafambkhdaa
open Go.RowKit
attribute [local irreducible] wpQuiet

def half (x : Use) : Use := ⟨x.label, x.owner, x.used / 2⟩
def halves : List Use → List Use
  | [] => []
  | x :: l => if 0 < x.used / 2 then half x :: halves l else halves l
theorem halves_append : ∀ a b : List Use, halves (a ++ b) = halves a ++ halves b
  | [], b => rfl
  | x :: a, b => by
    simp only [List.cons_append, halves, halves_append a b]
    split <;> rfl
theorem halves_yes {l : List Use} {k : Nat} (hk : k < l.length) (h : 0 < (nth l k).used / 2) : halves (l.take (k + 1)) = halves (l.take k) ++ [half (nth l k)] := by
  rw [List.take_succ_eq_append_getElem hk, halves_append, ← nth_eq hk]
  simp [halves, h]
theorem halves_no {l : List Use} {k : Nat} (hk : k < l.length) (h : ¬ 0 < (nth l k).used / 2) : halves (l.take (k + 1)) = halves (l.take k) := by
  rw [List.take_succ_eq_append_getElem hk, halves_append, ← nth_eq hk]
  simp [halves, h]
theorem halves_length : ∀ l : List Use, (halves l).length ≤ l.length
  | [] => Nat.le_refl _
  | x :: l => by
    have := halves_length l
    simp only [halves]
    split <;> simp <;> omega
def usesHalf (l : List Use) : List Use := if usesRight l = true then halves l else []
theorem usesRight_length {l : List Use} (h : usesRight l = true) : l.length ≤ 48 := by
  simp only [usesRight, Bool.and_eq_true, decide_eq_true_eq] at h
  exact h.1
theorem used_bounds {l : List Use} (hu : usesRight l = true) {k : Nat} (hk : k < l.length) : 1 ≤ (nth l k).used ∧ (nth l k).used ≤ 100000 := by
  have := useOk_true hu hk
  simp only [useOk, Bool.and_eq_true] at this
  exact isB_true this.2

set_option maxHeartbeats 2000000 in
set_option maxRecDepth 50000 in
theorem specUsesHalf_any {S : Nat → Prop} (l : List Use) (v : Value) (w : World) (h : Rd EUse S w v l) :
    Calls Try.prog 45 #[v] w (RetO OUse 124 (usesHalf l) w) := by
  have HR := Lib.hid h
  obtain ⟨A, c, rfl, h1, h2, hk⟩ := h.open_
  unfold maxLen at h2
  have HK := Lib.hid hk
  clear hk h
  by_cases hu : usesRight l = true
  · have HU := Lib.hid hu
    have HE : Hid (usesHalf l = halves l) := Lib.hid (by rw [usesHalf, if_pos hu])
    go_enter Try.func45, Try.ntmps45
    go_upto_region 2 with (fail)
    obtain ⟨W, B, hW, hB, hx0, b0⟩ : ∃ W B, W = w.alloc (.cells #[] 124) ∧ B = w.heap.size ∧ Ext w W ∧ Blk W B 124 #[] := ⟨_, _, rfl, rfl, (Ext.refl w).alloc _, Blk.new _ _ _⟩
    rw [← hW, ← hB]
    have HB : Hid (w.heap.size ≤ B) := Lib.hid (by omega)
    have B0 := Lib.hid b0
    have X0 := Lib.hid hx0
    clear hW hB hx0 b0
    go_wp2_with (go_at_call 43; (with_reducible refine (specUsesRight_any (S := S) l _ _ (HR.out.ext X0.out)).mono ?_); rintro e w1 ⟨rfl, hx1⟩; have X1 := Lib.hid (X0.out.trans hx1); have B1 := Lib.hid (B0.out.ext hx1); clear hx1)
    clear hu
    go_loopw [3, 4] (fun v i w' => ∃ (k : Nat) (F : List Nat), k ≤ l.length ∧ i = .int .i64 k ∧ OwS OUse 124 w' v (halves (l.take k)) F ∧ (∀ b ∈ F, w.heap.size ≤ b) ∧ Ext w w') (fun _ i _ => l.length - (intOf i).toNat)
    case atStart => exact ⟨0, [B], by omega, rfl, .inr ⟨B, 0, #[], [], rfl, B1.out, Nat.le_refl _, Nat.zero_le _, rfl, rfl, rfl, by simp, fun k hk => absurd hk (Nat.not_lt_zero _)⟩, fun b hb => by rw [List.mem_singleton.1 hb]; exact HB.out, X1.out⟩
    case round =>
      obtain ⟨k, F, hk1, rfl, hown, hF, hx⟩ := hrel
      have HO := Lib.hid hown
      have HF := Lib.hid hF
      have HX := Lib.hid hx
      clear hown hF
      by_cases hlt : k < l.length
      · obtain ⟨b, q, cs, rfl, _, ⟨rfl, hfit⟩, hc⟩ := HK.out k hlt
        have c0 := Ext.some hx (hc 0 _ rfl)
        have c1 := Ext.some hx (hc 1 _ rfl)
        have c2 := Ext.some hx (hc 2 _ rfl)
        have c3 := Ext.some hx (hc 3 _ rfl)
        simp only [EUse, Nat.add_zero] at c0 c1 c2 c3
        obtain ⟨u1, u2⟩ := used_bounds HU.out hlt
        have HFit := Lib.hid hfit
        clear hc hfit hx
        have HY := fun h => Lib.hid (halves_yes hlt h)
        have HN := fun h => Lib.hid (halves_no hlt h)
        by_cases hp : 0 < (nth l k).used / 2
        · have HYY := HY hp
          clear HY HN
          go_wp2_with (at_builtin; refine wpList_append_one (O := OUse) (T := 124) (l := halves (l.take k)) (F := F) (G := []) (y := half (nth l k)) (cs := cellsUse (half (nth l k))) rfl _ _ 66 rfl (.agg #[.int .i64 0, .int .i64 0, .string ⟨#[]⟩, .int .i64 0]) 4 40 Try.underlying66 (by kernel_rfl) rfl rfl rfl ?ow _ 0 1 rfl ?own ?rng ?nd ?len (by decide) ?_; rotate_right; intro v' w1 F' how hkp hF'; have HOW := Lib.hid how; have HKP := Lib.hid hkp; have HFF := Lib.hid hF'; clear how hkp hF')
          case ow => exact HO.out.ext (((Ext.refl _).alloc _).alloc _)
          case own => exact ⟨⟨rfl, HFit.out.1, HFit.out.2.1, HFit.out.2.2.1, by unfold I64 half; simp only; omega⟩, rfl⟩
          case rng =>
            have h := (Blk.new (wr.alloc (.cells (cellsUse (half (nth l k))).toArray 124)) 124 (cellsUse (half (nth l k))).toArray).range
            simpa [cellsUse, half] using h
          case nd => simpa using HO.out.nodup
          case len =>
            have a := halves_length (l.take k)
            have b := List.length_take_le k l
            have c := usesRight_length HU.out
            omega
          refine ⟨⟨k + 1, F', by omega, by go_num, by rw [HYY.out]; exact HOW.out, fun b hb => ?_, HKP.out.ext ((HX.out.alloc _).alloc _) HF.out⟩, by simp [intOf]; omega⟩
          rcases HFF.out b hb with h | h | h
          · exact HF.out b h
          · cases h
          · exact Nat.le_trans ((HX.out.alloc _).alloc _).size h
        · have HNN := HN hp
          clear HY HN
          go_wp2_with fail
          refine ⟨⟨k + 1, F, by omega, by go_num, by rw [HNN.out]; exact HO.out.ext ((Ext.refl _).alloc _), HF.out, HX.out.alloc _⟩, by simp [intOf]; omega⟩
      · obtain rfl : k = l.length := by omega
        go_wp2_with fail
        go_ret
        exact ⟨_, F, rfl, by rw [HE.out]; have h := HO.out; rw [List.take_length] at h; exact h, HF.out, HX.out⟩
  · simp only [Bool.not_eq_true] at hu
    have HE : Hid (usesHalf l = []) := Lib.hid (by rw [usesHalf, hu]; rfl)
    go_enter Try.func45, Try.ntmps45
    go_wp2_with (go_at_call 43; (with_reducible refine (specUsesRight_any (S := S) l _ _ (HR.out.ext ((Ext.refl _).alloc _))).mono ?_); rintro e w1 ⟨rfl, hx1⟩; have X1 := Lib.hid (((Ext.refl w).alloc _).trans hx1); clear hx1)
    go_ret
    exact ⟨_, [], rfl, by rw [HE.out]; exact OwS.nil _, fun b hb => (by cases hb), X1.out⟩

set_option maxHeartbeats 2000000 in
set_option maxRecDepth 50000 in
theorem usesHalf_any {S : Nat → Prop} (l : List Use) (v : Value) (w : World) (h : Rd EUse S w v l) :
    Calls Try.prog 44 #[v] w (RetO OUse 124 (usesHalf l) w) := by
  have HR := Lib.hid h
  obtain ⟨A, c, rfl, h1, h2, hk⟩ := h.open_
  unfold maxLen at h2
  have HK := Lib.hid hk
  clear hk h
  by_cases hu : usesRight l = true
  · have HU := Lib.hid hu
    have HE : Hid (usesHalf l = halves l) := Lib.hid (by rw [usesHalf, if_pos hu])
    go_enter Try.func44, Try.ntmps44
    go_wp2_with (go_at_call 42; (with_reducible refine (usesRight_any (S := S) l _ _ HR.out).mono ?_); rintro e w1 ⟨rfl, hx1⟩; have X1 := Lib.hid hx1; clear hx1)
    clear hu
    obtain ⟨W, B, hW, hB, hx0, b0⟩ : ∃ W B, W = w1.alloc (.cells #[] 124) ∧ B = w1.heap.size ∧ Ext w1 W ∧ Blk W B 124 #[] := ⟨_, _, rfl, rfl, (Ext.refl w1).alloc _, Blk.new _ _ _⟩
    rw [← hW, ← hB]
    have HB : Hid (w.heap.size ≤ B) := Lib.hid (by rw [hB]; exact X1.out.size)
    have B0 := Lib.hid b0
    have X0 := Lib.hid (X1.out.trans hx0)
    clear hW hB hx0 b0
    go_loopw [3, 12] (fun v i w' => ∃ (k : Nat) (F : List Nat), k ≤ l.length ∧ i = .int .i64 k ∧ OwS OUse 124 w' v (halves (l.take k)) F ∧ (∀ b ∈ F, w.heap.size ≤ b) ∧ Ext w w') (fun _ i _ => l.length - (intOf i).toNat)
    case atStart => exact ⟨0, [B], by omega, rfl, .inr ⟨B, 0, #[], [], rfl, B0.out, Nat.le_refl _, Nat.zero_le _, rfl, rfl, rfl, by simp, fun k hk => absurd hk (Nat.not_lt_zero _)⟩, fun b hb => by rw [List.mem_singleton.1 hb]; exact HB.out, X0.out⟩
    case round =>
      obtain ⟨k, F, hk1, rfl, hown, hF, hx⟩ := hrel
      have HO := Lib.hid hown
      have HF := Lib.hid hF
      have HX := Lib.hid hx
      clear hown hF
      by_cases hlt : k < l.length
      · obtain ⟨b, q, cs, rfl, _, ⟨rfl, hfit⟩, hc⟩ := HK.out k hlt
        have c0 := Ext.some hx (hc 0 _ rfl)
        have c1 := Ext.some hx (hc 1 _ rfl)
        have c2 := Ext.some hx (hc 2 _ rfl)
        have c3 := Ext.some hx (hc 3 _ rfl)
        simp only [EUse, Nat.add_zero] at c0 c1 c2 c3
        obtain ⟨u1, u2⟩ := used_bounds HU.out hlt
        have HFit := Lib.hid hfit
        clear hc hfit hx
        have HY := fun h => Lib.hid (halves_yes hlt h)
        have HN := fun h => Lib.hid (halves_no hlt h)
        by_cases hp : 0 < (nth l k).used / 2
        · have HYY := HY hp
          clear HY HN
          go_wp2_with (at_builtin; refine wpList_append_one (O := OUse) (T := 124) (l := halves (l.take k)) (F := F) (G := []) (y := half (nth l k)) (cs := cellsUse (half (nth l k))) rfl _ _ 66 rfl (.agg #[.int .i64 0, .int .i64 0, .string ⟨#[]⟩, .int .i64 0]) 4 40 Try.underlying66 (by kernel_rfl) rfl rfl rfl ?ow _ 0 1 rfl ?own ?rng ?nd ?len (by decide) ?_; rotate_right; intro v' w1 F' how hkp hF'; have HOW := Lib.hid how; have HKP := Lib.hid hkp; have HFF := Lib.hid hF'; clear how hkp hF')
          case ow => exact HO.out.ext (((Ext.refl _).alloc _).alloc _)
          case own => exact ⟨⟨rfl, HFit.out.1, HFit.out.2.1, HFit.out.2.2.1, by unfold I64 half; simp only; omega⟩, rfl⟩
          case rng =>
            have h := (Blk.new (wr.alloc (.cells (cellsUse (half (nth l k))).toArray 124)) 124 (cellsUse (half (nth l k))).toArray).range
            simpa [cellsUse, half] using h
          case nd => simpa using HO.out.nodup
          case len =>
            have a := halves_length (l.take k)
            have b := List.length_take_le k l
            have c := usesRight_length HU.out
            omega
          refine ⟨⟨k + 1, F', by omega, by go_num, by rw [HYY.out]; exact HOW.out, fun b hb => ?_, HKP.out.ext ((HX.out.alloc _).alloc _) HF.out⟩, by simp [intOf]; omega⟩
          rcases HFF.out b hb with h | h | h
          · exact HF.out b h
          · cases h
          · exact Nat.le_trans ((HX.out.alloc _).alloc _).size h
        · have HNN := HN hp
          clear HY HN
          go_wp2_with fail
          refine ⟨⟨k + 1, F, by omega, by go_num, by rw [HNN.out]; exact HO.out.ext ((Ext.refl _).alloc _), HF.out, HX.out.alloc _⟩, by simp [intOf]; omega⟩
      · obtain rfl : k = l.length := by omega
        go_wp2_with fail
        go_ret
        exact ⟨_, F, rfl, by rw [HE.out]; have h := HO.out; rw [List.take_length] at h; exact h, HF.out, HX.out⟩
  · simp only [Bool.not_eq_true] at hu
    have HE : Hid (usesHalf l = []) := Lib.hid (by rw [usesHalf, hu]; rfl)
    go_enter Try.func44, Try.ntmps44
    go_wp2_with (go_at_call 42; (with_reducible refine (usesRight_any (S := S) l _ _ HR.out).mono ?_); rintro e w1 ⟨rfl, hx1⟩; have X1 := Lib.hid hx1; clear hx1)
    go_ret
    exact ⟨_, [], rfl, by rw [HE.out]; exact OwS.nil _, fun b hb => (by cases hb), X1.out⟩

theorem cntL_const {α : Type} {n : α → Nat} {c : Nat} (h : ∀ x, n x = c) : ∀ l : List α, cntL n l = c * l.length
  | [] => by simp [cntL]
  | x :: l => by
    simp only [cntL, h, cntL_const h l, List.length_cons]
    rw [Nat.mul_succ]
    omega
theorem half_bound {l : List Use} (h : l.length ≤ 1048576) : 1 + ((cntL cntUse l : Nat) : Int) ≤ 1125899906842624 ∧ 1 + ((cntL cntUse (usesHalf l) : Nat) : Int) ≤ 1125899906842624 := by
  have h2 : (usesHalf l).length ≤ l.length := by
    unfold usesHalf
    split
    · exact halves_length l
    · simp
  rw [cntL_const (n := cntUse) (c := 4) (fun _ => rfl), cntL_const (n := cntUse) (c := 4) (fun _ => rfl)]
  omega
end Go.Proofs.Ytbdicafambkhdaa

/- Labels and small numbers as texts. -/
import Derived.Test.YtjiipmkehdiiiaaDoorLabels
import Derived.Test.YtjiipmkehdiiiaaDoorShelf
import Derived.Laws.BytesArg
import Derived.KernelRfl
import Derived.Laws.RangeAny
import Derived.Laws.RangeString
import Derived.Laws.Runes
import Derived.Deep.CutBlock
namespace Go.Proofs.YtjiipmkehdiiiaaDoor
open Go.RowKit
attribute [local irreducible] wpQuiet

def digit (n : Int) : ByteArray := strOfNums [48 + n]
def letsTo (s : Int) (p : Nat) : ByteArray := (if 1 ≤ p ∧ s % 2 = 1 then ⟨#[97]⟩ else ⟨#[]⟩) ++ (if 2 ≤ p ∧ s / 2 % 2 = 1 then ⟨#[98]⟩ else ⟨#[]⟩) ++ (if 3 ≤ p ∧ s / 4 % 2 = 1 then ⟨#[99]⟩ else ⟨#[]⟩)
def labText (a : Label) : ByteArray := if labelRight a = true then digit a.level ++ ⟨#[58]⟩ ++ letsTo a.set 3 else ⟨#[]⟩

theorem digit_dec {i : Nat} (h : i < 10) : (⟨(Lib.decDigits i).toArray⟩ : ByteArray) = digit i := by
  rcases (by omega : i = 0 ∨ i = 1 ∨ i = 2 ∨ i = 3 ∨ i = 4 ∨ i = 5 ∨ i = 6 ∨ i = 7 ∨ i = 8 ∨ i = 9) with rfl | rfl | rfl | rfl | rfl | rfl | rfl | rfl | rfl | rfl <;> kernel_rfl

theorem decimal_any (n : Int) (w : World) (h0 : 0 ≤ n) (h9 : n ≤ 9) :
    Calls Tryd.prog 20 #[.int .i64 n] w fun e w' => e = .returned (.string (digit n)) ∧ Ext w w' := by
  obtain ⟨k, rfl⟩ : ∃ k : Nat, n = k := ⟨n.toNat, by omega⟩
  have HF := Lib.hid (Tryd.strconv_FormatInt_10_small k (by omega) w)
  have HD := Lib.hid (digit_dec (i := k) (by omega))
  go_enter Tryd.func20, Tryd.ntmps20
  go_wp2_with (go_at_call 40; (with_reducible refine HF.out.mono ?_); rintro e w1 ⟨rfl, rfl⟩; rw [HD.out])
  go_ret
  exact ⟨rfl, Ext.refl _⟩

theorem conv_byte_one (W : World) (x : Int) : (convert 64 9 (.slice (some ⟨W.heap.size, 0, none⟩) 1 1)).run Tryd.prog (W.alloc (.cells #[.int .u8 x] 5)) = .ok (.string (strOfNums [x])) (W.alloc (.cells #[.int .u8 x] 5)) := by
  refine run_convert_bytes_arg _ 64 5 Tryd.underlying64 Tryd.underlying5 _ 0 1 1 [x] rfl (fun i hi => ?_) 9 Tryd.underlying9
  obtain rfl : i = 0 := by omega
  rw [(Blk.new W 5 #[.int .u8 x]).cell]
  rfl
theorem l01Dec_any (n : Int) (w : World) (h0 : 0 ≤ n) (h9 : n ≤ 9) :
    Calls Tryd.prog 14 #[.int .i64 n] w fun e w' => e = .returned (.string (digit n)) ∧ Ext w w' := by
  go_enter Tryd.func14, Tryd.ntmps14
  by_cases hz : n = 0
  · subst hz
    go_wp2_with fail
    go_ret
    exact ⟨by rfl, Ext.refl _⟩
  · go_wp2_with fail
    rw [show (n == 0) = false from by simpa using hz]
    go_loopw [0, 4] (fun a o w' => ((a = .int .i64 n ∧ o = .string ⟨#[]⟩) ∨ (a = .int .i64 0 ∧ o = .string (digit n))) ∧ Ext w w') (fun a _ _ => (intOf a).toNat)
    case atStart => exact ⟨.inl ⟨rfl, rfl⟩, Ext.refl _⟩
    case round =>
      obtain ⟨(⟨rfl, rfl⟩ | ⟨rfl, rfl⟩), hx⟩ := hrel
      · have hcv := conv_byte_one
        have hm : n % 10 = n := by omega
        have hd : n / 10 = 0 := by omega
        go_wp2_with fail
        refine ⟨⟨.inr ⟨congrArg (Value.int .i64) hd, ?_⟩, hx.alloc _⟩, ?_⟩
        · show Value.string (_ ++ ByteArray.empty) = _
          rw [ByteArray.append_empty]
          rfl
        · simp [intOf, hd]
          omega
      · go_wp2_with fail
        go_ret
        exact ⟨rfl, hx⟩

set_option maxHeartbeats 4000000 in
theorem labelText_any (a : Label) (w : World) (hf : FitLabel a) :
    Calls Tryd.prog 19 #[.agg #[.int .i64 a.level, .int .i64 a.set]] w fun e w' => e = .returned (.string (labText a)) ∧ Ext w w' := by
  have HF := Lib.hid hf
  clear hf
  go_enter Tryd.func19, Tryd.ntmps19
  go_upto_region 1 with fail
  obtain ⟨W, B, hW, hB, hx0, b0⟩ : ∃ W B, W = w.alloc (.cells #[.int .i64 a.level, .int .i64 a.set] 44) ∧ B = w.heap.size ∧ Ext w W ∧ Blk W B 44 #[.int .i64 a.level, .int .i64 a.set] := ⟨_, _, rfl, rfl, (Ext.refl w).alloc _, Blk.new _ _ _⟩
  rw [← hW, ← hB]
  have X0 := Lib.hid hx0
  have B0 := Lib.hid b0
  clear hW hB hx0 b0
  have bc := B0.out.cell
  go_upto_if 8 with (go_at_call 39; (with_reducible refine (labelRight_any (S := fun _ => True) a _ _ (rel_Label HF.out)).mono ?_); rintro e w1 ⟨rfl, hx1⟩; have X1 := Lib.hid hx1; have B1 := Lib.hid (B0.out.ext hx1); clear hx1 bc)
  have bc := B1.out.cell
  cases hr : labelRight a with
  | false =>
    have HE : Hid (labText a = ⟨#[]⟩) := Lib.hid (by unfold labText; rw [hr]; rfl)
    go_wp2_with fail
    go_ret
    exact ⟨by rw [HE.out]; rfl, X0.out.trans X1.out⟩
  | true =>
    have HE : Hid (labText a = digit a.level ++ ⟨#[58]⟩ ++ letsTo a.set 3) := Lib.hid (by unfold labText; rw [hr]; rfl)
    unfold labelRight at hr
    simp only [Bool.and_eq_true] at hr
    have q1 := isB_true hr.1
    have q2 := isB_true hr.2
    obtain ⟨L, s⟩ := a
    simp only at q1 q2 HE bc
    obtain ⟨k, rfl⟩ : ∃ k : Nat, L = k := ⟨L.toNat, by omega⟩
    have HD := Lib.hid (digit_dec (i := k) (by omega))
    have HFI := Lib.hid (Tryd.strconv_FormatInt_10_small k (by omega))
    have zd : (digit (k : Int)).size = 1 := strOfNums_size _
    clear hr
    go_upto_block 0 with (go_at_call 40; (with_reducible refine (HFI.out _).mono ?_); rintro e w2 ⟨rfl, rfl⟩; rw [HD.out])
    have X2 := Lib.hid (X0.out.trans X1.out)
    clear X0 X1 B0 bc
    obtain ⟨T, hT⟩ : ∃ T, T = digit (k : Int) ++ ⟨#[58]⟩ := ⟨_, rfl⟩
    rw [← hT]
    have zT : T.size = 2 := by rw [hT, ByteArray.size_append, zd]; rfl
    rw [← hT] at HE
    have HB := Lib.hid fun (pos : Nat) => B1.out.ext (show Ext w2 (w2.iter ⟨#[97, 98, 99]⟩ pos) from (Ext.refl w2).alloc _)
    clear hT HD HFI zd HF q1
    go_wp2_with fail
    go_loopw [3] (fun t w' => ∃ pos : Nat, pos ≤ 3 ∧ w' = w2.iter ⟨#[97, 98, 99]⟩ pos ∧ t = .string (T ++ letsTo s pos)) (fun _ w' => 3 - w'.iterPos w2.heap.size)
    case atStart => exact ⟨0, by omega, rfl, by rw [show letsTo s 0 = ByteArray.empty from rfl, ByteArray.append_empty]⟩
    case round =>
      obtain ⟨pos, hp, rfl, rfl⟩ := hrel
      rcases (by omega : pos = 0 ∨ pos = 1 ∨ pos = 2 ∨ pos = 3) with rfl | rfl | rfl | rfl
      · have hnx : ∀ ty, (Instr.next (.pointer (some ⟨w2.heap.size, 0, none⟩)) true ty).run Tryd.prog (w2.iter ⟨#[97, 98, 99]⟩ 0) = .ok (.tuple #[.bool true, .int .i64 0, .int .i32 97]) (w2.iter ⟨#[97, 98, 99]⟩ 1) := fun ty => run_next_any w2 ⟨#[97, 98, 99]⟩ 0 ty (by decide)
        have bc := (HB.out 1).cell
        rcases (by omega : s = 0 ∨ s = 1 ∨ s = 2 ∨ s = 3 ∨ s = 4 ∨ s = 5 ∨ s = 6 ∨ s = 7) with rfl | rfl | rfl | rfl | rfl | rfl | rfl | rfl
        all_goals
          go_wp2_with fail
          refine ⟨⟨1, by omega, rfl, congrArg Value.string ?_⟩, by simp⟩
          first | exact congrArg (T ++ ·) (by kernel_rfl) | (rw [ByteArray.append_assoc]; exact congrArg (T ++ ·) (by kernel_rfl))
      · have hnx : ∀ ty, (Instr.next (.pointer (some ⟨w2.heap.size, 0, none⟩)) true ty).run Tryd.prog (w2.iter ⟨#[97, 98, 99]⟩ 1) = .ok (.tuple #[.bool true, .int .i64 1, .int .i32 98]) (w2.iter ⟨#[97, 98, 99]⟩ 2) := fun ty => run_next_any w2 ⟨#[97, 98, 99]⟩ 1 ty (by decide)
        have bc := (HB.out 2).cell
        rcases (by omega : s = 0 ∨ s = 1 ∨ s = 2 ∨ s = 3 ∨ s = 4 ∨ s = 5 ∨ s = 6 ∨ s = 7) with rfl | rfl | rfl | rfl | rfl | rfl | rfl | rfl
        all_goals
          go_wp2_with fail
          refine ⟨⟨2, by omega, rfl, congrArg Value.string ?_⟩, by simp⟩
          first | exact congrArg (T ++ ·) (by kernel_rfl) | (rw [ByteArray.append_assoc]; exact congrArg (T ++ ·) (by kernel_rfl))
      · have hnx : ∀ ty, (Instr.next (.pointer (some ⟨w2.heap.size, 0, none⟩)) true ty).run Tryd.prog (w2.iter ⟨#[97, 98, 99]⟩ 2) = .ok (.tuple #[.bool true, .int .i64 2, .int .i32 99]) (w2.iter ⟨#[97, 98, 99]⟩ 3) := fun ty => run_next_any w2 ⟨#[97, 98, 99]⟩ 2 ty (by decide)
        have bc := (HB.out 3).cell
        rcases (by omega : s = 0 ∨ s = 1 ∨ s = 2 ∨ s = 3 ∨ s = 4 ∨ s = 5 ∨ s = 6 ∨ s = 7) with rfl | rfl | rfl | rfl | rfl | rfl | rfl | rfl
        all_goals
          go_wp2_with fail
          refine ⟨⟨3, by omega, rfl, congrArg Value.string ?_⟩, by simp⟩
          first | exact congrArg (T ++ ·) (by kernel_rfl) | (rw [ByteArray.append_assoc]; exact congrArg (T ++ ·) (by kernel_rfl))
      · have hnx : ∀ ty, (Instr.next (.pointer (some ⟨w2.heap.size, 0, none⟩)) true ty).run Tryd.prog (w2.iter ⟨#[97, 98, 99]⟩ 3) = _ := fun ty => run_next_end w2 ⟨#[97, 98, 99]⟩ 3 ty (by decide)
        go_wp2_with fail
        go_ret
        exact ⟨by rw [HE.out]; rfl, X2.out.trans ((Ext.refl w2).alloc _)⟩
set_option maxHeartbeats 4000000 in
theorem specLabelText_any (a : Label) (w : World) (hf : FitLabel a) :
    Calls Tryd.prog 13 #[.agg #[.int .i64 a.level, .int .i64 a.set]] w fun e w' => e = .returned (.string (labText a)) ∧ Ext w w' := by
  have HF := Lib.hid hf
  clear hf
  go_enter Tryd.func13, Tryd.ntmps13
  go_upto_region 1 with fail
  obtain ⟨W, B, hW, hB, hx0, b0⟩ : ∃ W B, W = w.alloc (.cells #[.int .i64 a.level, .int .i64 a.set] 44) ∧ B = w.heap.size ∧ Ext w W ∧ Blk W B 44 #[.int .i64 a.level, .int .i64 a.set] := ⟨_, _, rfl, rfl, (Ext.refl w).alloc _, Blk.new _ _ _⟩
  rw [← hW, ← hB]
  have X0 := Lib.hid hx0
  have B0 := Lib.hid b0
  clear hW hB hx0 b0
  have bc := B0.out.cell
  go_upto_if 8 with (go_at_call 30; (with_reducible refine (specLabelRight_any (S := fun _ => True) a _ _ (rel_Label HF.out)).mono ?_); rintro e w1 ⟨rfl, hx1⟩; have X1 := Lib.hid hx1; have B1 := Lib.hid (B0.out.ext hx1); clear hx1 bc)
  have bc := B1.out.cell
  cases hr : labelRight a with
  | false =>
    have HE : Hid (labText a = ⟨#[]⟩) := Lib.hid (by unfold labText; rw [hr]; rfl)
    go_wp2_with fail
    go_ret
    exact ⟨by rw [HE.out]; rfl, X0.out.trans X1.out⟩
  | true =>
    have HE : Hid (labText a = digit a.level ++ ⟨#[58]⟩ ++ letsTo a.set 3) := Lib.hid (by unfold labText; rw [hr]; rfl)
    unfold labelRight at hr
    simp only [Bool.and_eq_true] at hr
    have q1 := isB_true hr.1
    have q2 := isB_true hr.2
    obtain ⟨L, s⟩ := a
    simp only at q1 q2 HE bc
    obtain ⟨k, rfl⟩ : ∃ k : Nat, L = k := ⟨L.toNat, by omega⟩
    have HFI := Lib.hid fun (w : World) => l01Dec_any (k : Int) w (by omega) (by omega)
    have zd : (digit (k : Int)).size = 1 := strOfNums_size _
    clear hr
    go_upto_block 0 with (go_at_call 14; (with_reducible refine (HFI.out _).mono ?_); rintro e w2 ⟨rfl, x2⟩; have X2a := Lib.hid x2; clear x2)
    have X2 := Lib.hid ((X0.out.trans X1.out).trans X2a.out)
    have HB := Lib.hid (B1.out.ext X2a.out)
    clear X0 X1 B0 bc X2a
    obtain ⟨T, hT⟩ : ∃ T, T = digit (k : Int) ++ ⟨#[58]⟩ := ⟨_, rfl⟩
    rw [← hT]
    have zT : T.size = 2 := by rw [hT, ByteArray.size_append, zd]; rfl
    rw [← hT] at HE
    clear hT HFI zd HF q1
    go_wp2_with fail
    go_loopw [3, 5] (fun t i w' => ∃ pos : Nat, pos ≤ 3 ∧ i = .int .i64 pos ∧ w' = w2 ∧ t = .string (T ++ letsTo s pos)) (fun _ i _ => 3 - (intOf i).toNat)
    case atStart => exact ⟨0, by omega, rfl, rfl, by rw [show letsTo s 0 = ByteArray.empty from rfl, ByteArray.append_empty]⟩
    case round =>
      obtain ⟨pos, hp, rfl, rfl, rfl⟩ := hrel
      have bc := HB.out.cell
      rcases (by omega : pos = 0 ∨ pos = 1 ∨ pos = 2 ∨ pos = 3) with rfl | rfl | rfl | rfl
      · rcases (by omega : s = 0 ∨ s = 1 ∨ s = 2 ∨ s = 3 ∨ s = 4 ∨ s = 5 ∨ s = 6 ∨ s = 7) with rfl | rfl | rfl | rfl | rfl | rfl | rfl | rfl
        all_goals
          go_wp2_with fail
          refine ⟨⟨1, by omega, rfl, (by first | trivial | rfl), congrArg Value.string ?_⟩, by simp [intOf]⟩
          first | exact congrArg (T ++ ·) (by kernel_rfl) | (rw [ByteArray.append_assoc]; exact congrArg (T ++ ·) (by kernel_rfl))
      · rcases (by omega : s = 0 ∨ s = 1 ∨ s = 2 ∨ s = 3 ∨ s = 4 ∨ s = 5 ∨ s = 6 ∨ s = 7) with rfl | rfl | rfl | rfl | rfl | rfl | rfl | rfl
        all_goals
          go_wp2_with fail
          refine ⟨⟨2, by omega, rfl, (by first | trivial | rfl), congrArg Value.string ?_⟩, by simp [intOf]⟩
          first | exact congrArg (T ++ ·) (by kernel_rfl) | (rw [ByteArray.append_assoc]; exact congrArg (T ++ ·) (by kernel_rfl))
      · rcases (by omega : s = 0 ∨ s = 1 ∨ s = 2 ∨ s = 3 ∨ s = 4 ∨ s = 5 ∨ s = 6 ∨ s = 7) with rfl | rfl | rfl | rfl | rfl | rfl | rfl | rfl
        all_goals
          go_wp2_with fail
          refine ⟨⟨3, by omega, rfl, (by first | trivial | rfl), congrArg Value.string ?_⟩, by simp [intOf]⟩
          first | exact congrArg (T ++ ·) (by kernel_rfl) | (rw [ByteArray.append_assoc]; exact congrArg (T ++ ·) (by kernel_rfl))
      · go_wp2_with fail
        go_ret
        exact ⟨by rw [HE.out]; rfl, X2.out⟩
end Go.Proofs.YtjiipmkehdiiiaaDoor

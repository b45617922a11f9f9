/- The walk of the reference's PutNum. -/
import Derived.Test.YtdhcbbbmajjehaaGreatPutI
namespace Go.Proofs.YtdhcbbbmajjehaaGreat
open Go.RowKit
attribute [local irreducible] wpQuiet

theorem l01Fold_any (n : Int) (w : World) (hn : I64 n) : Calls Tryz.prog 38 #[.int .i64 n] w fun e w' => e = .returned (.int .u64 (zig n : Int)) ∧ Ext w w' := by
  obtain ⟨h1, h2⟩ := hn
  by_cases h0 : n < 0
  · have HZ : Hid ((zig n : Int) = 2 * (-(n + 1)) + 1) := Lib.hid (by unfold zig; rw [if_pos h0]; omega)
    go_enter Tryz.func38, Tryz.ntmps38
    go_wp2_with fail
    go_ret
    exact ⟨ret_int (by rw [HZ.out]), Ext.refl _⟩
  · have h0' : 0 ≤ n := by omega
    have HZ : Hid ((zig n : Int) = 2 * n) := Lib.hid (by unfold zig; rw [if_neg h0]; omega)
    clear h0
    go_enter Tryz.func38, Tryz.ntmps38
    go_wp2_with fail
    go_ret
    exact ⟨ret_int (by rw [HZ.out]), Ext.refl _⟩
theorem byte_big (u : Nat) : ((u : Int) % 128 + 128) = ((u % 128 + 128 : Nat) : Int) := by omega

set_option maxHeartbeats 4000000 in
set_option maxRecDepth 100000 in
theorem specPutNum_any (n : Int) (w : World) (hn : I64 n) :
    Calls Tryz.prog 20 #[.int .i64 n] w fun e w' => e = .returned (.string (putNum n)) ∧ Ext w w' := by
  have HZ := Lib.hid (zig_lt hn)
  have HL := Lib.hid (leb_length 9 _ (Nat.lt_trans (zig_lt hn) (by decide)))
  have HN := Lib.hid hn
  clear hn
  go_enter Tryz.func20, Tryz.ntmps20
  go_wp2_with fail
  refine (l01Fold_any n _ HN.out).mono ?_
  rintro e w0 ⟨rfl, hx0⟩
  have XX := Lib.hid hx0
  clear hx0
  go_wp2_with fail
  obtain ⟨W, B, hW, hB, hx0, b0⟩ : ∃ W B, W = w0.alloc (.cells #[] 5) ∧ B = w0.heap.size ∧ Ext w0 W ∧ Blk W B 5 #[] := ⟨_, _, rfl, rfl, (Ext.refl _).alloc _, Blk.new _ _ _⟩
  rw [← hW, ← hB]
  have HB : Hid (w.heap.size ≤ B) := Lib.hid (by have := XX.out.size; omega)
  have B0 := Lib.hid b0
  have X0 := Lib.hid (XX.out.trans hx0)
  clear hW hB hx0 b0
  go_loopw [3, 4] (fun b a w' => ∃ (u : Nat) (acc : List Int) (F : List Nat), b = .int .u64 (u : Int) ∧ u < 18446744073709551616 ∧ acc ++ leb u = leb (zig n) ∧ OwS OByte 5 w' a acc F ∧ (∀ b ∈ F, w.heap.size ≤ b) ∧ Ext w w') (fun b _ _ => (intOf b).toNat)
  case atStart => exact ⟨zig n, [], [B], rfl, HZ.out, rfl, .inr ⟨B, 0, #[], [], rfl, B0.out, Nat.le_refl _, Nat.zero_le _, rfl, rfl, rfl, by simp, fun k hk => absurd hk (Nat.not_lt_zero _)⟩, fun b hb => by rw [List.mem_singleton.1 hb]; exact HB.out, X0.out⟩
  case round =>
    obtain ⟨u, acc, F, rfl, hu, hal, hown, hF, hx⟩ := hrel
    have HO := Lib.hid hown
    have HF := Lib.hid hF
    have HX := Lib.hid hx
    have HA := Lib.hid hal
    have hacc : acc.length ≤ 10 := by have a := HL.out; rw [← hal, List.length_append] at a; omega
    clear hown hF hx hal
    by_cases hb : 128 ≤ u
    · have hb' : (128 : Int) ≤ (u : Int) := by omega
      have HL2 := Lib.hid (leb_big hb)
      go_wp2_with (at_builtin; refine wpList_append_one (O := OByte) (T := 5) (l := acc) (F := F) (G := []) (y := ((u % 128 + 128 : Nat) : Int)) rfl _ _ 86 rfl (.int .u8 0) 1 1 Tryz.underlying86 (by kernel_rfl) rfl rfl rfl (HO.out.ext ((Ext.refl _).alloc _)) _ 0 1 rfl ⟨⟨by rw [byte_big], by omega, by omega⟩, rfl⟩ (Blk.new _ _ _).range (by simpa using HO.out.nodup) (by omega) (by decide) ?_; intro v' w9 F' how hkp hF'; have HOW := Lib.hid how; have HKP := Lib.hid hkp; have HFF := Lib.hid hF'; clear how hkp hF')
      go_roundw
      case rel => exact ⟨u / 128, acc ++ [((u % 128 + 128 : Nat) : Int)], F', by simp, by omega, by rw [List.append_assoc, List.singleton_append, ← HL2.out]; exact HA.out, HOW.out, fun b hb => match HFF.out b hb with | .inl h => HF.out b h | .inr (.inl h) => absurd h (by simp) | .inr (.inr h) => Nat.le_trans (HX.out.alloc _).size h, HKP.out.ext (HX.out.alloc _) HF.out⟩
      case measure => simp [intOf]; omega
    · have hb' : (u : Int) < 128 := by omega
      have HL2 := Lib.hid (leb_small (u := u) (by omega))
      have hm : (u : Int) % 256 = (u : Int) := by omega
      go_wp2_with (at_builtin; refine wpList_append_one (O := OByte) (T := 5) (l := acc) (F := F) (G := []) (y := (u : Int)) rfl _ _ 86 rfl (.int .u8 0) 1 1 Tryz.underlying86 (by kernel_rfl) rfl rfl rfl (HO.out.ext ((Ext.refl _).alloc _)) _ 0 1 rfl ⟨⟨rfl, by omega, by omega⟩, rfl⟩ (Blk.new _ _ _).range (by simpa using HO.out.nodup) (by omega) (by decide) ?_; intro v' w9 F' how hkp hF'; have HOW := Lib.hid how; have HKP := Lib.hid hkp; have HFF := Lib.hid hF'; have hcv := conv_ow how (by simp); clear how hkp hF')
      go_ret
      exact ⟨by rw [show putNum n = strOfNums (acc ++ [(u : Int)]) from by rw [putNum, ← HA.out, HL2.out]]; rfl, HKP.out.ext (HX.out.alloc _) HF.out⟩
end Go.Proofs.YtdhcbbbmajjehaaGreat

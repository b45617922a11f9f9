/- The walk of the program's PutNum. -/
import Derived.Test.YtdhcbbbmajjehaaGreatPutP
import Derived.Test.YtdhcbbbmajjehaaGreatRows
import Derived.Laws.BitsAllLaws
namespace Go.Proofs.YtdhcbbbmajjehaaGreat
open Go.RowKit
attribute [local irreducible] wpQuiet

theorem zig_bits {n : Int} (h : I64 n) : bits .xor .u64 (IntKind.u64.wrap (wrap64 (n * 2))) (IntKind.u64.wrap (n / 9223372036854775808)) = (zig n : Int) := by
  obtain ⟨h1, h2⟩ := h
  have hw : IntKind.u64.wrap (wrap64 (n * 2)) = (n * 2) % 18446744073709551616 := by
    rw [IntKind.wrap_u64]
    unfold wrap64
    omega
  show IntKind.u64.wrap ((BitVec.ofInt 64 (IntKind.u64.wrap (wrap64 (n * 2))) ^^^ BitVec.ofInt 64 (IntKind.u64.wrap (n / 9223372036854775808))).toNat : Int) = _
  rw [hw, IntKind.wrap_u64, IntKind.wrap_u64]
  rcases Int.lt_or_le n 0 with h0 | h0
  · have e : n / 9223372036854775808 = -1 := by omega
    have e2 : BitVec.ofInt 64 ((-1 : Int) % 18446744073709551616) = BitVec.allOnes 64 := by decide
    rw [e, e2, BitVec.xor_allOnes, BitVec.toNat_not, BitVec.toNat_ofInt]
    have e3 : (2 : Nat) ^ 64 = 18446744073709551616 := by decide
    rw [e3]
    unfold zig
    rw [if_pos h0]
    omega
  · have e : n / 9223372036854775808 = 0 := by omega
    have e2 : BitVec.ofInt 64 ((0 : Int) % 18446744073709551616) = 0#64 := by decide
    rw [e, e2, BitVec.xor_zero, BitVec.toNat_ofInt]
    have e3 : (2 : Nat) ^ 64 = 18446744073709551616 := by decide
    rw [e3]
    unfold zig
    rw [if_neg (by omega)]
    omega
theorem or_bits (x : Nat) (h : x < 256) : bits .or .u8 (x : Int) 128 = ((x % 128 + 128 : Nat) : Int) := by
  have : ∀ y : Fin 256, bits .or .u8 ((y.val : Nat) : Int) 128 = ((y.val % 128 + 128 : Nat) : Int) := by decide +kernel
  exact this ⟨x, h⟩
theorem or_byte (u : Nat) : bits .or .u8 ((u : Int) % 256) 128 = ((u % 128 + 128 : Nat) : Int) := by
  have := or_bits (u % 256) (Nat.mod_lt _ (by decide))
  rw [show ((u % 256 : Nat) : Int) = (u : Int) % 256 from by omega] at this
  rw [this]
  omega

theorem conv_ow {w : World} {v : Value} {l : List Int} {F : List Nat} (h : OwS OByte 5 w v l F) (h0 : l ≠ []) : (convert 86 9 v).run Tryz.prog w = .ok (.string (strOfNums l)) w := by
  rcases h with ⟨rfl, _⟩ | ⟨B, c, C, Fs, rfl, hB, h1, h2, h3, hl, rfl, hn, hall⟩
  · exact absurd rfl h0
  · refine run_convert_bytes_arg _ 86 5 Tryz.underlying86 Tryz.underlying5 B 0 l.length c l rfl (fun i hi => ?_) 9 Tryz.underlying9
    obtain ⟨cs, ⟨⟨rfl, _⟩, _⟩, hc⟩ := hall i hi
    have := hc 0 _ rfl
    rw [nth_eq hi] at this
    simpa [EByte, List.getElem?_eq_getElem hi] using this

set_option maxHeartbeats 4000000 in
set_option maxRecDepth 100000 in
theorem putNum_any (n : Int) (w : World) (hn : I64 n) :
    Calls Tryz.prog 46 #[.int .i64 n] w fun e w' => e = .returned (.string (putNum n)) ∧ Ext w w' := by
  have HZ := Lib.hid (zig_lt hn)
  have HL := Lib.hid (leb_length 9 _ (Nat.lt_trans (zig_lt hn) (by decide)))
  have hzb := zig_bits hn
  clear hn
  go_enter Tryz.func46, Tryz.ntmps46
  go_wp2_with fail
  clear hzb
  obtain ⟨W, B, hW, hB, hx0, b0⟩ : ∃ W B, W = w.alloc (.cells #[] 5) ∧ B = w.heap.size ∧ Ext w W ∧ Blk W B 5 #[] := ⟨_, _, rfl, rfl, (Ext.refl w).alloc _, Blk.new _ _ _⟩
  rw [← hW, ← hB]
  have HB : Hid (w.heap.size ≤ B) := Lib.hid (by omega)
  have B0 := Lib.hid b0
  have X0 := Lib.hid hx0
  clear hW hB hx0 b0
  go_loopw [3, 4] (fun a b w' => ∃ (u : Nat) (acc : List Int) (F : List Nat), b = .int .u64 (u : Int) ∧ u < 18446744073709551616 ∧ acc ++ leb u = leb (zig n) ∧ OwS OByte 5 w' a acc F ∧ (∀ b ∈ F, w.heap.size ≤ b) ∧ Ext w w') (fun _ b _ => (intOf b).toNat)
  case atStart => exact ⟨zig n, [], [B], rfl, HZ.out, rfl, .inr ⟨B, 0, #[], [], rfl, B0.out, Nat.le_refl _, Nat.zero_le _, rfl, rfl, rfl, by simp, fun k hk => absurd hk (Nat.not_lt_zero _)⟩, fun b hb => by rw [List.mem_singleton.1 hb]; exact HB.out, X0.out⟩
  case round =>
    obtain ⟨u, acc, F, rfl, hu, hal, hown, hF, hx⟩ := hrel
    have HO := Lib.hid hown
    have HF := Lib.hid hF
    have HX := Lib.hid hx
    have HA := Lib.hid hal
    have hacc : acc.length ≤ 10 := by have a := HL.out; rw [← hal, List.length_append] at a; omega
    clear hown hF hx hal
    by_cases hb : 128 ≤ u
    · have hb' : (128 : Int) ≤ (u : Int) := by omega
      have HL2 := Lib.hid (leb_big hb)
      go_wp2_with (at_builtin; refine wpList_append_one (O := OByte) (T := 5) (l := acc) (F := F) (G := []) (y := ((u % 128 + 128 : Nat) : Int)) rfl _ _ 86 rfl (.int .u8 0) 1 1 Tryz.underlying86 (by kernel_rfl) rfl rfl rfl (HO.out.ext ((Ext.refl _).alloc _)) _ 0 1 rfl ⟨⟨by rw [or_byte], by omega, by omega⟩, rfl⟩ (Blk.new _ _ _).range (by simpa using HO.out.nodup) (by omega) (by decide) ?_; intro v' w9 F' how hkp hF'; have HOW := Lib.hid how; have HKP := Lib.hid hkp; have HFF := Lib.hid hF'; clear how hkp hF')
      go_roundw
      case rel => exact ⟨u / 128, acc ++ [((u % 128 + 128 : Nat) : Int)], F', by simp, by omega, by rw [List.append_assoc, List.singleton_append, ← HL2.out]; exact HA.out, HOW.out, fun b hb => match HFF.out b hb with | .inl h => HF.out b h | .inr (.inl h) => absurd h (by simp) | .inr (.inr h) => Nat.le_trans (HX.out.alloc _).size h, HKP.out.ext (HX.out.alloc _) HF.out⟩
      case measure => simp [intOf]; omega
    · have hb' : (u : Int) < 128 := by omega
      have HL2 := Lib.hid (leb_small (u := u) (by omega))
      have hm : (u : Int) % 256 = (u : Int) := by omega
      go_wp2_with (at_builtin; refine wpList_append_one (O := OByte) (T := 5) (l := acc) (F := F) (G := []) (y := (u : Int)) rfl _ _ 86 rfl (.int .u8 0) 1 1 Tryz.underlying86 (by kernel_rfl) rfl rfl rfl (HO.out.ext ((Ext.refl _).alloc _)) _ 0 1 rfl ⟨⟨rfl, by omega, by omega⟩, rfl⟩ (Blk.new _ _ _).range (by simpa using HO.out.nodup) (by omega) (by decide) ?_; intro v' w9 F' how hkp hF'; have HOW := Lib.hid how; have HKP := Lib.hid hkp; have HFF := Lib.hid hF'; have hcv := conv_ow how (by simp); clear how hkp hF')
      go_ret
      exact ⟨by rw [show putNum n = strOfNums (acc ++ [(u : Int)]) from by rw [putNum, ← HA.out, HL2.out]]; rfl, HKP.out.ext (HX.out.alloc _) HF.out⟩
end Go.Proofs.YtdhcbbbmajjehaaGreat

/- The walk of markText. -/
import Derived.Test.YtikiipahmgpamaaMarkText
import Derived.Test.YtikiipahmgpamaaRows
import Derived.Laws.IdiomStrings
import Derived.Laws.BytesArg
namespace Go.Proofs.Ytikiipahmgpamaa
open Go.RowKit
attribute [local irreducible] wpQuiet
theorem append_bytes (a b : List UInt8) : (⟨a.toArray⟩ : ByteArray) ++ ⟨b.toArray⟩ = ⟨(a ++ b).toArray⟩ := by
  apply ByteArray.ext
  simp
theorem num_bytes (x : Nat) (b : List UInt8) : strOfNums [(48 : Int) + (x : Int) % 10] ++ ⟨b.toArray⟩ = ⟨(UInt8.ofNat (48 + x % 10) :: b).toArray⟩ := by
  have h : strOfNums [(48 : Int) + (x : Int) % 10] = ⟨[UInt8.ofNat (48 + x % 10)].toArray⟩ := by
    unfold strOfNums
    have e : ((48 : Int) + (x : Int) % 10).toNat = 48 + x % 10 := by omega
    simp [e]
  rw [h, append_bytes]
  rfl
theorem conv_one (W : World) (x : Int) : (convert 59 9 (.slice (some ⟨W.heap.size, 0, none⟩) 1 1)).run Try.prog (W.alloc (.cells #[.int .u8 x] 5)) = .ok (.string (strOfNums [x])) (W.alloc (.cells #[.int .u8 x] 5)) :=
  run_convert_bytes_arg _ 59 5 Try.underlying59 Try.underlying5 W.heap.size 0 1 1 [x] rfl (fun i hi => by
    obtain rfl : i = 0 := by omega
    rw [(Blk.new W _ _).cell]
    rfl) 9 Try.underlying9
set_option maxHeartbeats 4000000 in
set_option maxRecDepth 100000 in
theorem markText_any (q : Int) (w : World) (h0 : 0 ≤ q) (h1 : q ≤ 1125899906842624) :
    Calls Try.prog 109 #[.int .i64 q] w fun e w' => e = .returned (.string (mtext q)) ∧ Ext w w' := by
  by_cases hz : q ≤ 0
  · have HE : Hid (mtext q = ⟨#[109, 48]⟩) := Lib.hid (by unfold mtext; rw [if_pos hz])
    go_enter Try.func109, Try.ntmps109
    go_wp2_with fail
    go_ret
    exact ⟨by rw [HE.out]; rfl, Ext.refl _⟩
  · have hq : 0 < q := by omega
    have hcv := conv_one
    have hs1 := fun x : Int => strOfNums_size [x]
    have H1 := Lib.hid h1
    clear hz h0 h1
    go_enter Try.func109, Try.ntmps109
    go_wp2_with fail
    go_loopw [0, 3] (fun k t w' => ∃ (n : Nat) (acc : List UInt8), k = .int .i64 n ∧ t = .string ⟨acc.toArray⟩ ∧ n ≤ q.toNat ∧ digs n ++ acc = digs q.toNat ∧ Ext w w') (fun k _ _ => (intOf k).toNat)
    case atStart => exact ⟨q.toNat, [], by rw [Int.toNat_of_nonneg (by omega)], rfl, Nat.le_refl _, by simp, Ext.refl _⟩
    case round =>
      obtain ⟨n, acc, rfl, rfl, hn, hd, hx⟩ := hrel
      have HD := Lib.hid hd
      have HX := Lib.hid hx
      have hl : acc.length < 9223372036854775806 := by
        have a := congrArg List.length hd
        rw [List.length_append] at a
        have b := digs_length q.toNat
        have c := H1.out
        omega
      have hn2 : n ≤ 9223372036854775806 := by have := H1.out; omega
      have HN := Lib.hid hn
      clear hd hx hn
      by_cases hp : 0 < n
      · go_wp2_with fail
        go_roundw
        case rel => exact ⟨n / 10, UInt8.ofNat (48 + n % 10) :: acc, by go_num, by rw [num_bytes], by have := HN.out; omega, by rw [← HD.out, digs_pos hp, List.append_assoc]; rfl, HX.out.alloc _⟩
        case measure => simp [intOf]; omega
      · obtain rfl : n = 0 := by omega
        have HE : Hid (mtext q = ⟨#[109]⟩ ++ ⟨acc.toArray⟩) := Lib.hid (by
          have h := HD.out
          rw [digs_zero, List.nil_append] at h
          have e := append_bytes [109] acc
          unfold mtext
          rw [if_neg (by omega), ← h]
          exact e.symm)
        simp only [Int.natCast_zero]
        go_wp2_with fail
        go_ret
        exact ⟨by rw [HE.out]; rfl, HX.out⟩
end Go.Proofs.Ytikiipahmgpamaa

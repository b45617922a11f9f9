/- The text that stands for a number. The walk of markText. -/
import Derived.Test.YtdhcbbbmajjehaaOwn
import Derived.Test.YtdhcbbbmajjehaaRows
import Derived.Laws.IdiomStrings
import Derived.Laws.BytesArg
namespace Go.Proofs.Ytdhcbbbmajjehaa
/-- The decimal digits of a number; of 0: none. -/
def digs (n : Nat) : List UInt8 := if _h : n = 0 then [] else digs (n / 10) ++ [UInt8.ofNat (48 + n % 10)]
termination_by n
decreasing_by omega
theorem digs_zero : digs 0 = [] := by rw [digs]; simp
theorem digs_pos {n : Nat} (h : 0 < n) : digs n = digs (n / 10) ++ [UInt8.ofNat (48 + n % 10)] := by rw [digs, dif_neg (by omega)]
theorem digs_length (n : Nat) : (digs n).length ≤ n := by
  induction n using Nat.strongRecOn with
  | _ n ih =>
    rcases Nat.eq_zero_or_pos n with rfl | h
    · rw [digs_zero]; simp
    · have := ih (n / 10) (by omega)
      rw [digs_pos h, List.length_append, List.length_singleton]
      omega
def mtext (q : Int) : ByteArray := ⟨(109 :: (if q ≤ 0 then [48] else digs q.toNat)).toArray⟩
theorem mtext_str (q : Int) (h : q ≤ 1125899906842624) : Str (mtext q) := by
  have h1 : (mtext q).size = (109 :: (if q ≤ 0 then [48] else digs q.toNat)).length := rfl
  unfold Str maxLen
  rw [h1]
  split
  · simp
  · have := digs_length q.toNat
    simp only [List.length_cons]
    omega
end Go.Proofs.Ytdhcbbbmajjehaa

namespace Go.Proofs.Ytdhcbbbmajjehaa
open Go.RowKit
attribute [local irreducible] wpQuiet
theorem append_bytes (a b : List UInt8) : (⟨a.toArray⟩ : ByteArray) ++ ⟨b.toArray⟩ = ⟨(a ++ b).toArray⟩ := by
  apply ByteArray.ext
  simp
theorem num_bytes (x : Nat) (b : List UInt8) : strOfNums [(48 : Int) + (x : Int) % 10] ++ ⟨b.toArray⟩ = ⟨(UInt8.ofNat (48 + x % 10) :: b).toArray⟩ := by
  have h : strOfNums [(48 : Int) + (x : Int) % 10] = ⟨[UInt8.ofNat (48 + x % 10)].toArray⟩ := by
    unfold strOfNums
    have e : ((48 : Int) + (x : Int) % 10).toNat = 48 + x % 10 := by omega
    simp [e]
  rw [h, append_bytes]
  rfl
theorem conv_one (W : World) (x : Int) : (convert 22 9 (.slice (some ⟨W.heap.size, 0, none⟩) 1 1)).run Try.prog (W.alloc (.cells #[.int .u8 x] 5)) = .ok (.string (strOfNums [x])) (W.alloc (.cells #[.int .u8 x] 5)) :=
  run_convert_bytes_arg _ 22 5 Try.underlying22 Try.underlying5 W.heap.size 0 1 1 [x] rfl (fun i hi => by
    obtain rfl : i = 0 := by omega
    rw [(Blk.new W _ _).cell]
    rfl) 9 Try.underlying9
end Go.Proofs.Ytdhcbbbmajjehaa

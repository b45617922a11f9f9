/- The text that stands for a number. -/
import Derived.Test.YtikiipahmgpamaaOwn
namespace Go.Proofs.Ytikiipahmgpamaa
/-- The decimal digits of a number; of 0: none. -/
def digs (n : Nat) : List UInt8 := if _h : n = 0 then [] else digs (n / 10) ++ [UInt8.ofNat (48 + n % 10)]
termination_by n
decreasing_by omega
theorem digs_zero : digs 0 = [] := by rw [digs]; simp
theorem digs_pos {n : Nat} (h : 0 < n) : digs n = digs (n / 10) ++ [UInt8.ofNat (48 + n % 10)] := by rw [digs, dif_neg (by omega)]
theorem digs_length (n : Nat) : (digs n).length ≤ n := by
  induction n using Nat.strongRecOn with
  | _ n ih =>
    rcases Nat.eq_zero_or_pos n with rfl | h
    · rw [digs_zero]; simp
    · have := ih (n / 10) (by omega)
      rw [digs_pos h, List.length_append, List.length_singleton]
      omega
def mtext (q : Int) : ByteArray := ⟨(109 :: (if q ≤ 0 then [48] else digs q.toNat)).toArray⟩
theorem mtext_str (q : Int) (h : q ≤ 1125899906842624) : Str (mtext q) := by
  have h1 : (mtext q).size = (109 :: (if q ≤ 0 then [48] else digs q.toNat)).length := rfl
  unfold Str maxLen
  rw [h1]
  split
  · simp
  · have := digs_length q.toNat
    simp only [List.length_cons]
    omega
end Go.Proofs.Ytikiipahmgpamaa

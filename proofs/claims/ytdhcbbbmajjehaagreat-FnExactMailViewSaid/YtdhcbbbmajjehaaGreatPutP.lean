/- The bytes of a number, in plain Lean. -/
import Derived.Test.YtdhcbbbmajjehaaGreatOwn2
import Derived.Laws.IdiomStrings
import Derived.Laws.BytesArg
namespace Go.Proofs.YtdhcbbbmajjehaaGreat
open Go.RowKit

def EByte : Elem Int where
  size := 1
  rel := fun _ _ cs x => cs = [.int .u8 x] ∧ 0 ≤ x ∧ x < 256
  len := by rintro _ _ _ _ ⟨rfl, _⟩; rfl
  keep := fun _ h => h
  sub := fun _ h => h
  one := by rintro _ _ _ _ ⟨rfl, _⟩ v hv; rw [List.mem_singleton.1 hv]; rfl
def OByte : Own EByte := OFlat EByte fun h => h
/-- A number in bytes of seven bits, the least first. -/
def leb (u : Nat) : List Int := if _h : u < 128 then [(u : Int)] else ((u % 128 + 128 : Nat) : Int) :: leb (u / 128)
termination_by u
decreasing_by omega
theorem leb_small {u : Nat} (h : u < 128) : leb u = [(u : Int)] := by rw [leb, dif_pos h]
theorem leb_big {u : Nat} (h : 128 ≤ u) : leb u = ((u % 128 + 128 : Nat) : Int) :: leb (u / 128) := by rw [leb, dif_neg (by omega)]
theorem leb_length (k : Nat) : ∀ u : Nat, u < 128 ^ (k + 1) → (leb u).length ≤ k + 1 := by
  induction k with
  | zero => intro u h; rw [leb_small (by simpa using h)]; simp
  | succ k ih =>
    intro u h
    rcases Nat.lt_or_ge u 128 with h1 | h1
    · rw [leb_small h1]; simp
    · rw [leb_big h1, List.length_cons]
      have := ih (u / 128) (by rw [Nat.div_lt_iff_lt_mul (by decide)]; rwa [Nat.pow_succ] at h)
      omega
theorem leb_pos (u : Nat) : 0 < (leb u).length := by
  rcases Nat.lt_or_ge u 128 with h | h
  · rw [leb_small h]; simp
  · rw [leb_big h]; simp
def zig (n : Int) : Nat := if n < 0 then (2 * (-(n + 1)) + 1).toNat else (2 * n).toNat
theorem zig_lt {n : Int} (h : I64 n) : zig n < 18446744073709551616 := by
  unfold I64 at h
  unfold zig
  split <;> omega
def putNum (n : Int) : ByteArray := strOfNums (leb (zig n))
theorem putNum_size {n : Int} (h : I64 n) : (putNum n).size ≤ 10 := by
  unfold putNum
  rw [strOfNums_size]
  exact leb_length 9 _ (Nat.lt_trans (zig_lt h) (by decide))
def putText (t : ByteArray) : ByteArray := if 8000 < t.size then ⟨#[]⟩ else putNum t.size ++ t
def putNumsFrom (a : ByteArray) : List Int → ByteArray
  | [] => a
  | x :: l => putNumsFrom (a ++ putNum x) l
end Go.Proofs.YtdhcbbbmajjehaaGreat

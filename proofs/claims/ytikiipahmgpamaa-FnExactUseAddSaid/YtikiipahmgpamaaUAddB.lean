/- How many numbers the result of UseAdd takes. -/
import Derived.Test.YtikiipahmgpamaaUAddP
import Derived.Test.YtikiipahmgpamaaCounts
namespace Go.Proofs.Ytikiipahmgpamaa
theorem useAdd_len (l : List Use) (a : Label) (o : ByteArray) (n : Int) : (useAdd l a o n).length ≤ l.length + 1 := by
  unfold useAdd
  split
  · exact Nat.zero_le _
  split
  · omega
  split
  · simp [addAt]
  split
  · omega
  · have := insP_le l ⟨a, o, n⟩
    simp [insU]
    omega
theorem useAdd_bound {l : List Use} {a : Label} {o : ByteArray} {n : Int} (h : l.length ≤ 1048576) : 1 + ((cntL cntUse l : Nat) : Int) ≤ 1125899906842624 ∧ 1 + ((cntL cntUse (useAdd l a o n) : Nat) : Int) ≤ 1125899906842624 := by
  have h1 := cnt_uses l
  have h2 := cnt_uses (useAdd l a o n)
  have h3 := useAdd_len l a o n
  omega
end Go.Proofs.Ytikiipahmgpamaa

/- The walks of PutText and putNums. -/
import Derived.Test.YtdhcbbbmajjehaaGreatPutS
import Derived.Test.YtdhcbbbmajjehaaGreatSmall
namespace Go.Proofs.YtdhcbbbmajjehaaGreat
open Go.RowKit
attribute [local irreducible] wpQuiet

theorem bytes_assoc (a b c : ByteArray) : a ++ b ++ c = a ++ (b ++ c) := by
  apply ByteArray.ext
  simp [Array.append_assoc]
theorem bytes_nil (a : ByteArray) : (⟨#[]⟩ : ByteArray) ++ a = a := by
  apply ByteArray.ext
  simp
theorem from_assoc : ∀ (l : List Int) (a b : ByteArray), a ++ putNumsFrom b l = putNumsFrom (a ++ b) l
  | [], _, _ => rfl
  | x :: l, a, b => by
    simp only [putNumsFrom]
    rw [from_assoc l a (b ++ putNum x), bytes_assoc]
theorem from_app : ∀ (l m : List Int) (a : ByteArray), putNumsFrom a (l ++ m) = putNumsFrom (putNumsFrom a l) m
  | [], _, _ => rfl
  | x :: l, m, a => by simp only [List.cons_append, putNumsFrom]; exact from_app l m _
theorem size_app (a b : ByteArray) : (a ++ b).size = a.size + b.size := ByteArray.size_append
theorem from_size : ∀ (l : List Int) (a : ByteArray), (∀ x ∈ l, I64 x) → (putNumsFrom a l).size ≤ a.size + 10 * l.length
  | [], _, _ => by simp [putNumsFrom]
  | x :: l, a, h => by
    have h1 := from_size l (a ++ putNum x) fun y hy => h y (List.mem_cons_of_mem _ hy)
    have h2 := putNum_size (h x (List.mem_cons_self ..))
    rw [size_app] at h1
    simp only [putNumsFrom, List.length_cons]
    omega
theorem text_size {t : ByteArray} : (putText t).size ≤ 8010 := by
  unfold putText
  split
  · simp [ByteArray.size]
  · rename_i h
    rw [size_app]
    have := putNum_size (n := (t.size : Int)) (by unfold I64; omega)
    omega

set_option maxHeartbeats 2000000 in
set_option maxRecDepth 50000 in
theorem putNums_any {S : Nat → Prop} (l : List Int) (v : Value) (w : World) (h : Rd EInt S w v l) (hl : l.length ≤ 1000) :
    Calls Tryz.prog 28 #[v] w fun e w' => e = .returned (.string (putNumsFrom ⟨#[]⟩ l)) ∧ Ext w w' := by
  obtain ⟨A, c, rfl, h1, h2, hk⟩ := h.open_
  unfold maxLen at h2
  have HK := Lib.hid hk
  clear hk h
  go_enter Tryz.func28, Tryz.ntmps28
  go_wp2_with fail
  go_loopw [3, 8] (fun s i w' => ∃ k : Nat, k ≤ l.length ∧ i = .int .i64 k ∧ s = .string (putNumsFrom ⟨#[]⟩ (l.take k)) ∧ (putNumsFrom ⟨#[]⟩ (l.take k)).size ≤ 10 * k ∧ Ext w w') (fun _ i _ => l.length - (intOf i).toNat)
  case atStart => exact ⟨0, by omega, rfl, rfl, by simp [putNumsFrom, ByteArray.size], Ext.refl _⟩
  case round =>
    obtain ⟨k, hk1, rfl, rfl, hs, hx⟩ := hrel
    have HX := Lib.hid hx
    by_cases hlt : k < l.length
    · obtain ⟨b, q, cs, rfl, _, ⟨rfl, hi⟩, hc⟩ := HK.out k hlt
      have c0 := Ext.some hx (hc 0 _ rfl)
      simp only [EInt, Nat.add_zero, Nat.mul_one] at c0
      have HI := Lib.hid hi
      have HP := putNum_size hi
      have HE : Hid (putNumsFrom ⟨#[]⟩ (l.take (k + 1)) = putNumsFrom ⟨#[]⟩ (l.take k) ++ putNum (nth l k)) := Lib.hid (by rw [take_succ_nth hlt, from_app]; rfl)
      clear hc hi hx
      go_wp2_with (go_at_call 46; refine (putNum_any _ _ HI.out).mono ?_; rintro e w1 ⟨rfl, hx1⟩; have X1 := Lib.hid hx1; clear hx1)
      refine ⟨⟨k + 1, by omega, by go_num, by rw [HE.out], by rw [HE.out, size_app]; omega, HX.out.trans X1.out⟩, ?_⟩
      simp [intOf]
      omega
    · obtain rfl : k = l.length := by omega
      have HE : Hid (putNumsFrom ⟨#[]⟩ (l.take l.length) = putNumsFrom ⟨#[]⟩ l) := Lib.hid (by rw [List.take_length])
      go_wp2_with fail
      go_ret
      exact ⟨by rw [← HE.out]; rfl, HX.out⟩
end Go.Proofs.YtdhcbbbmajjehaaGreat

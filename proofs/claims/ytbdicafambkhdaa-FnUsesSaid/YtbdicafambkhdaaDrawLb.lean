/- Drawing names and labels out of bytes. -/
import Derived.Test.YtbdicafambkhdaaDrawSz
import Derived.Laws.BytesArg
namespace Go.Proofs.Ytbdicafambkhdaa
open Go.RowKit
attribute [local irreducible] wpQuiet

theorem pick_at {w w1 : World} {A B k : Nat} {T : TypeId} {C : List Value} (hA : Blk w A T C.toArray) (hAB : A ≠ B) (hk : Kept [B] w w1) (hC : ∀ x ∈ C, ∃ t : ByteArray, x = .string t ∧ t.size ≤ 100) (hlt : k < C.length) : ∃ t : ByteArray, w1.cell? ⟨A, k, none⟩ = some (.string t) ∧ t.size ≤ 100 := by
  have h : Blk w1 A T C.toArray := (hk.block A hA.lt (by simpa using hAB)).trans hA
  obtain ⟨t, e, i⟩ := hC C[k] (List.getElem_mem hlt)
  exact ⟨t, by rw [h.cell, List.getElem?_toArray, List.getElem?_eq_getElem hlt, e], i⟩

theorem srcPick_any {S : Nat → Prop} (l : List Int) (v : Value) (w0 : World) (h : Rd EByte S w0 v l) (B : Nat) (w : World) (hs : SrcAt l v w0 w B) (A : Nat) (T : TypeId) (C : List Value) (n : Nat) (hA : Blk w A T C.toArray) (hAB : A ≠ B) (hC : ∀ x ∈ C, ∃ t : ByteArray, x = .string t ∧ t.size ≤ 100) (hn : n = C.length) (h1 : 1 < n) (h2 : n ≤ 1000) :
    Calls Try.prog 115 #[.pointer (some ⟨B, 0, none⟩), .slice (some ⟨A, 0, none⟩) n n] w fun e w' => ∃ t : ByteArray, e = .returned (.string t) ∧ t.size ≤ 100 ∧ SrcAt l v w0 w' B ∧ Thru B w w' := by
  have HN := Lib.hid (srcN_thru l v w0 h (n : Int) (by omega) (by omega) B w hs)
  have HA := Lib.hid hA
  have HC := Lib.hid hC
  have HE := Lib.hid hn
  clear h hs hA hC hn
  go_enter Try.func115, Try.ntmps115
  go_wp2_with (go_at_call 51; (with_reducible refine HN.out.mono ?_); rintro e w1 ⟨r, rfl, r0, r1, s1, k1⟩; have S1 := Lib.hid s1; have K1 := Lib.hid k1; obtain ⟨k, rfl⟩ : ∃ k : Nat, r = k := ⟨r.toNat, by omega⟩; obtain ⟨t, ht, hz⟩ := pick_at (k := k) HA.out hAB k1.kept HC.out (by have := HE.out; omega); clear s1 k1)
  go_ret
  exact ⟨t, rfl, hz, S1.out, K1.out⟩

set_option maxRecDepth 50000 in
theorem srcOwner_any {S : Nat → Prop} (l : List Int) (v : Value) (w0 : World) (h : Rd EByte S w0 v l) (B : Nat) (w : World) (hs : SrcAt l v w0 w B) :
    Calls Try.prog 116 #[.pointer (some ⟨B, 0, none⟩)] w fun e w' => ∃ t : ByteArray, e = .returned (.string t) ∧ t.size ≤ 100 ∧ SrcAt l v w0 w' B ∧ Kept [B] w w' ∧ w'.heap.size = w.heap.size + 1 := by
  have HP := Lib.hid fun (W : World) (hW : SrcAt l v w0 W B) => srcPick_any l v w0 h B W hW
  have HS := Lib.hid hs
  have HB := Lib.hid hs.lt
  clear h hs
  go_enter Try.func116, Try.ntmps116
  go_wp2_with (go_at_call 115; (with_reducible refine (HP.out _ (HS.out.alloc _) _ _ _ _ (Blk.new _ _ _) ?ab ?all ?len ?one ?small).mono ?_); rotate_right; rintro e w1 ⟨t, rfl, hz, s1, k1⟩; have S1 := Lib.hid s1; have K1 := Lib.hid ((Kept.of_ext ((Ext.refl w).alloc _)).trans k1.kept); have Z1 : Hid (w1.heap.size = w.heap.size + 1) := Lib.hid (by rw [k1.size]; simp); clear s1 k1)
  case ab => have := HB.out; omega
  case all => simp only [List.mem_cons, List.not_mem_nil, or_false]; rintro x (rfl | rfl | rfl | rfl | rfl | rfl | rfl) <;> exact ⟨_, rfl, by decide⟩
  case len => rfl
  case one => decide
  case small => decide
  go_ret
  exact ⟨t, rfl, hz, S1.out, K1.out, Z1.out⟩

theorem conv_byte1 (W : World) (x : Int) : (convert 22 9 (.slice (some ⟨W.heap.size, 0, none⟩) 1 1)).run Try.prog (W.alloc (.cells #[.int .u8 x] 5)) = .ok (.string (strOfNums [x])) (W.alloc (.cells #[.int .u8 x] 5)) := by
  refine run_convert_bytes_arg _ 22 5 Try.underlying22 Try.underlying5 _ 0 1 1 [x] rfl (fun i hi => ?_) 9 Try.underlying9
  obtain rfl : i = 0 := by omega
  rw [(Blk.new W 5 #[.int .u8 x]).cell]
  rfl

set_option maxHeartbeats 4000000 in
set_option maxRecDepth 50000 in
theorem srcName_any {S : Nat → Prop} (l : List Int) (v : Value) (w0 : World) (h : Rd EByte S w0 v l) (B : Nat) (w : World) (hs : SrcAt l v w0 w B) :
    Calls Try.prog 114 #[.pointer (some ⟨B, 0, none⟩)] w fun e w' => ∃ t : ByteArray, e = .returned (.string t) ∧ t.size ≤ 100 ∧ SrcAt l v w0 w' B ∧ Kept [B] w w' := by
  have HN := Lib.hid fun (W : World) (hW : SrcAt l v w0 W B) (most : Int) (h1 : 1 < most) (h2 : most ≤ 1152921504606846976) => srcN_any l v w0 h most h1 h2 B W hW
  have HS := Lib.hid hs
  have hcv := conv_byte1
  clear h hs
  go_enter Try.func114, Try.ntmps114
  go_upto_region 2 with (go_at_call 51; (with_reducible refine (HN.out _ HS.out _ (by decide) (by decide)).mono ?_); rintro e w1 ⟨r1, rfl, p0, p1, s1, k1⟩; have S1 := Lib.hid s1; have K1 := Lib.hid k1; clear s1 k1)
  obtain ⟨W2, hW2, hx2⟩ : ∃ W, W = w1.alloc (.cells #[.int .u8 (97 + r1)] 5) ∧ Ext w1 W := ⟨_, rfl, (Ext.refl _).alloc _⟩
  rw [← hW2]
  have S2 : Hid (SrcAt l v w0 W2 B) := Lib.hid (by rw [hW2]; exact S1.out.alloc _)
  have K2 : Hid (Kept [B] w W2) := Lib.hid (K1.out.trans (Kept.of_ext hx2))
  have Z2 : (strOfNums [97 + r1]).size = 1 := strOfNums_size _
  obtain ⟨s2, hs2⟩ : ∃ s, strOfNums [97 + r1] = s := ⟨_, rfl⟩
  rw [hs2] at Z2
  rw [hs2]
  clear hW2 hx2 hs2 S1 K1 p0 p1 HS
  go_wp2_with (go_at_call 51; (with_reducible refine (HN.out _ S2.out _ (by decide) (by decide)).mono ?_); rintro e w3 ⟨r2, rfl, p2, p3, s3, k3⟩; have S3 := Lib.hid s3; have K3 := Lib.hid (K2.out.trans k3); clear s3 k3)
  go_loopw [3, 4] (fun s i w' => ∃ (t : ByteArray) (k : Nat), s = .string t ∧ i = .int .i64 k ∧ t.size + k ≤ 5 ∧ SrcAt l v w0 w' B ∧ Kept [B] w w') (fun _ i _ => (intOf i).toNat)
  case atStart => exact ⟨s2, r2.toNat, rfl, by rw [Int.toNat_of_nonneg p2], by omega, S3.out, K3.out⟩
  case round =>
    obtain ⟨t, k, rfl, rfl, hz, hs, hk⟩ := hrel
    have HS := Lib.hid hs
    have HK := Lib.hid hk
    clear hs hk
    by_cases h0 : 0 < k
    · have hsz : ∀ y : Int, (strOfNums [y]).size = 1 := fun y => strOfNums_size _
      have t1 : ¬ (9223372036854775807 < (t.size : Int) + 1) := by omega
      have t2 : ¬ (9223372036854775807 < t.size + 1) := by omega
      have t3 : t.size + 1 ≤ 9223372036854775807 := by omega
      have t4 : (t.size : Int) + 1 ≤ 9223372036854775807 := by omega
      go_upto_region 5 with (fail)
      go_wp2_with (go_at_call 51; (with_reducible refine (HN.out _ HS.out _ (by decide) (by decide)).mono ?_); rintro e w4 ⟨r4, rfl, p4, p5, s4, k4⟩; have S4 := Lib.hid s4; have K4 := Lib.hid (HK.out.trans k4); clear s4 k4)
      refine ⟨⟨_, k - 1, rfl, by go_num, ?_, S4.out.alloc _, K4.out.trans (Kept.of_ext ((Ext.refl _).alloc _))⟩, ?_⟩
      · rw [ByteArray.size_append, strOfNums_size]; simp; omega
      · simp [intOf]; omega
    · go_wp2_with fail
      go_ret
      exact ⟨t, rfl, by omega, HS.out, HK.out⟩
end Go.Proofs.Ytbdicafambkhdaa

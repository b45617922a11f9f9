/- The walks of NodesNew, the program's and the reference's. -/
import Derived.Test.YtbdicafambkhdaaNodeRep
import Derived.Test.YtbdicafambkhdaaClones
import Derived.Test.YtbdicafambkhdaaCounts
import Derived.Test.YtbdicafambkhdaaTaskRS
namespace Go.Proofs.Ytbdicafambkhdaa
open Go.RowKit
attribute [local irreducible] wpQuiet

theorem rep_get {α : Type} (a b : α) : ∀ (n k j : Nat), k < n → j < 2 → (List.replicate n [a, b]).flatten[k * 2 + j]? = [a, b][j]?
  | 0, k, j, hk, _ => absurd hk (Nat.not_lt_zero _)
  | n + 1, 0, j, _, hj => by
    rw [List.replicate_succ, List.flatten_cons, Nat.zero_mul, Nat.zero_add, List.getElem?_append_left (by simpa using hj)]
  | n + 1, k + 1, j, hk, hj => by
    rw [List.replicate_succ, List.flatten_cons, List.getElem?_append_right (by simp only [List.length_cons, List.length_nil]; omega), show (k + 1) * 2 + j - [a, b].length = k * 2 + j by simp only [List.length_cons, List.length_nil]; omega]
    exact rep_get a b n k j (by omega) hj
theorem nth_rep {n k : Nat} (x : Node) (h : k < n) : nth (List.replicate n x) k = x := by
  rw [nth_eq (by simpa using h)]
  simp
theorem own_newNodes {w : World} {B n : Nat} {C : Array Value} (hb : Blk w B 42 C) (hC : C = (List.replicate n [Value.int .i64 1, .slice none 0 0]).flatten.toArray) (hn : n ≤ maxLen) :
    OwS ONode 42 w (.slice (some ⟨B, 0, none⟩) n n) (List.replicate n ⟨1, []⟩) [B] := by
  refine .inr ⟨B, n, C, List.replicate n [], by simp, hb, by simp, hn, ?_, by simp, by rw [flat_flatten], by simp, fun k hk => ?_⟩
  · rw [hC]
    simp [ENode]
  · have hk' : k < n := by simpa using hk
    rw [nth_rep _ hk', show nth (List.replicate n ([] : List Nat)) k = [] from flat_list (α := Nat) hk']
    refine ⟨_, ⟨_, rfl, (show I64 1 by unfold I64; decide), OwS.nil none⟩, fun j u hj => ?_⟩
    have hj2 : j < 2 := by
      have := (List.getElem?_eq_some_iff.1 hj).1
      simpa [cellsNode] using this
    rw [hb.cell, hC, List.getElem?_toArray]
    exact (rep_get _ _ n k j hk' hj2).trans hj
theorem new_bound (n : Int) : 1 + ((cntL cntNode (nodesNew n) : Nat) : Int) ≤ 1125899906842624 := by
  unfold nodesNew
  split
  · rename_i h
    have := isB_true h
    rw [show cntL cntNode (List.replicate n.toNat (⟨1, []⟩ : Node)) = n.toNat from ?_]
    · omega
    · generalize n.toNat = m
      induction m with
      | zero => rfl
      | succ m ih =>
        have h0 : cntNode ⟨1, []⟩ = 1 := rfl
        rw [List.replicate_succ, cntL, ih, h0, Nat.add_comm]
  · simp [cntL]

set_option maxHeartbeats 2000000 in
set_option maxRecDepth 50000 in
theorem specNodesNew_any (n : Int) (w : World) :
    Calls Try.prog 125 #[.int .i64 n] w (RetO ONode 42 (nodesNew n) w) := by
  by_cases hu : isB n 1 6 = true
  · have hb := isB_true hu
    obtain ⟨N, rfl⟩ : ∃ N : Nat, n = N := ⟨n.toNat, by omega⟩
    have HE : Hid (nodesNew (N : Int) = List.replicate N ⟨1, []⟩) := Lib.hid (by rw [nodesNew, if_pos hu]; rfl)
    go_enter Try.func125, Try.ntmps125
    go_upto_region 2 with (fail)
    obtain ⟨W, B, hW, hB, hx0, b0⟩ : ∃ W B, W = w.alloc (.cells #[] 42) ∧ B = w.heap.size ∧ Ext w W ∧ Blk W B 42 #[] := ⟨_, _, rfl, rfl, (Ext.refl w).alloc _, Blk.new _ _ _⟩
    rw [← hW, ← hB]
    have HB : Hid (w.heap.size ≤ B) := Lib.hid (by omega)
    have B0 := Lib.hid b0
    have X0 := Lib.hid hx0
    clear hW hB hx0 b0
    go_wp2_with (go_at_call 89; refine (l02Is_any _ _ _ _).mono ?_; rintro e w' ⟨rfl, rfl⟩)
    go_loopw [0, 3] (fun i v w' => ∃ (k : Nat) (F : List Nat), k ≤ N ∧ i = .int .i64 ((N : Int) - k) ∧ OwS ONode 42 w' v (List.replicate k ⟨1, []⟩) F ∧ (∀ b ∈ F, w.heap.size ≤ b) ∧ Ext w w') (fun i _ _ => (intOf i).toNat)
    case atStart => exact ⟨0, [B], by omega, by go_num, .inr ⟨B, 0, #[], [], rfl, B0.out, Nat.le_refl _, Nat.zero_le _, rfl, rfl, rfl, by simp, fun k hk => absurd hk (Nat.not_lt_zero _)⟩, fun b hb => by rw [List.mem_singleton.1 hb]; exact HB.out, X0.out⟩
    case round =>
      obtain ⟨k, F, hk1, rfl, hown, hF, hx⟩ := hrel
      have HO := Lib.hid hown
      have HF := Lib.hid hF
      have HX := Lib.hid hx
      clear hown hF hx
      by_cases hlt : k < N
      · go_wp2_with (at_builtin; refine wpList_append_one (O := ONode) (T := 42) (l := List.replicate k ⟨1, []⟩) (F := F) (G := []) (y := ⟨1, []⟩) (cs := cellsNode ⟨1, []⟩ (.slice none 0 0)) rfl _ _ 23 rfl (.agg #[.int .i64 0, .slice none 0 0]) 2 32 Try.underlying23 (by kernel_rfl) rfl rfl rfl ?ow _ 0 1 rfl ?own ?rng ?nd ?len (by decide) ?_; rotate_right; intro v' w1 F' how hkp hF'; have HOW := Lib.hid how; have HKP := Lib.hid hkp; have HFF := Lib.hid hF'; clear how hkp hF')
        case ow => exact HO.out.ext ((Ext.refl _).alloc _)
        case own => exact ⟨_, rfl, (show I64 1 by unfold I64; decide), OwS.nil none⟩
        case rng =>
          have h := (Blk.new wr 42 #[.int .i64 1, .slice none 0 0]).range
          simpa [cellsNode] using h
        case nd => simpa using HO.out.nodup
        case len => simp; omega
        refine ⟨⟨k + 1, F', by omega, by go_num, by rw [List.replicate_succ']; exact HOW.out, fun b hb => ?_, HKP.out.ext (HX.out.alloc _) HF.out⟩, by simp [intOf]; omega⟩
        rcases HFF.out b hb with h | h | h
        · exact HF.out b h
        · cases h
        · exact Nat.le_trans (HX.out.alloc _).size h
      · obtain rfl : k = N := by omega
        go_wp2_with fail
        go_ret
        exact ⟨_, F, rfl, by rw [HE.out]; exact HO.out, HF.out, HX.out⟩
  · simp only [Bool.not_eq_true] at hu
    have HE : Hid (nodesNew n = []) := Lib.hid (by rw [nodesNew, hu]; rfl)
    go_enter Try.func125, Try.ntmps125
    go_upto_region 2 with (fail)
    obtain ⟨W, B, hW, hB, hx0, b0⟩ : ∃ W B, W = w.alloc (.cells #[] 42) ∧ B = w.heap.size ∧ Ext w W ∧ Blk W B 42 #[] := ⟨_, _, rfl, rfl, (Ext.refl w).alloc _, Blk.new _ _ _⟩
    rw [← hW, ← hB]
    have X0 := Lib.hid hx0
    clear hW hB hx0 b0
    go_wp2_with (go_at_call 89; refine (l02Is_any _ _ _ _).mono ?_; rintro e w' ⟨rfl, rfl⟩)
    go_ret
    exact ⟨_, [], rfl, by rw [HE.out]; exact OwS.nil _, fun b hb => (by cases hb), X0.out⟩

end Go.Proofs.Ytbdicafambkhdaa

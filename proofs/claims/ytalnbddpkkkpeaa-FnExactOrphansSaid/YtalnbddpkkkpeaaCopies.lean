/- Copies of lists of tasks, with nodes of their own. -/
import Derived.Test.YtalnbddpkkkpeaaCopyI
import Derived.Test.YtalnbddpkkkpeaaCopyS
import Derived.Test.YtalnbddpkkkpeaaOrphP
namespace Go.Proofs.Ytalnbddpkkkpeaa
open Go.RowKit
attribute [local irreducible] wpQuiet

set_option maxHeartbeats 4000000 in
set_option maxRecDepth 100000 in
theorem copyTasks_any {S : Nat → Prop} (l : List Task) (v : Value) (w : World) (h : Rd ETask S w v l) (hl : l.length ≤ 1000000) (hs : ∀ k, k < l.length → (nth l k).nodes.length ≤ 1000000000) :
    Calls Try.prog 199 #[v] w (RetO OTask 46 l w) := by
  obtain ⟨A, c, rfl, h1, h2, hk⟩ := h.open_
  unfold maxLen at h2
  have HK := Lib.hid hk
  have HS := Lib.hid hs
  clear hk h hs
  go_enter Try.func199, Try.ntmps199
  go_wp2_with fail
  obtain ⟨W, B, hW, hB, hx0, b0⟩ : ∃ W B, W = w.alloc (.cells #[] 46) ∧ B = w.heap.size ∧ Ext w W ∧ Blk W B 46 #[] := ⟨_, _, rfl, rfl, (Ext.refl w).alloc _, Blk.new _ _ _⟩
  rw [← hW, ← hB]
  have HB : Hid (w.heap.size ≤ B) := Lib.hid (by omega)
  have B0 := Lib.hid b0
  have X0 := Lib.hid hx0
  clear hW hB hx0 b0
  go_loopw [3, 9] (fun v i w' => ∃ (k : Nat) (F : List Nat), k ≤ l.length ∧ i = .int .i64 k ∧ OwS OTask 46 w' v (l.take k) F ∧ (∀ b ∈ F, w.heap.size ≤ b) ∧ Ext w w') (fun _ i _ => l.length - (intOf i).toNat)
  case atStart => exact ⟨0, [B], by omega, rfl, .inr ⟨B, 0, #[], [], rfl, B0.out, Nat.le_refl _, Nat.zero_le _, rfl, rfl, rfl, by simp, fun k hk => absurd hk (Nat.not_lt_zero _)⟩, fun b hb => by rw [List.mem_singleton.1 hb]; exact HB.out, X0.out⟩
  case round =>
    obtain ⟨k, F, hk1, rfl, hown, hF, hx⟩ := hrel
    have HO := Lib.hid hown
    have HF := Lib.hid hF
    have HX := Lib.hid hx
    have LF := Lib.hid hown.lt
    clear hown hF
    by_cases hlt : k < l.length
    · obtain ⟨b, q, cs, rfl, _, ⟨v1, rfl, hfit, hrd⟩, hc⟩ := HK.out k hlt
      obtain ⟨A1, c1, rfl, -⟩ := hrd.form
      have c0 := Ext.some hx (hc 0 _ rfl)
      have c1 := Ext.some hx (hc 1 _ rfl)
      have c2 := Ext.some hx (hc 2 _ rfl)
      have c3 := Ext.some hx (hc 3 _ rfl)
      have c4 := Ext.some hx (hc 4 _ rfl)
      have c5 := Ext.some hx (hc 5 _ rfl)
      have c6 := Ext.some hx (hc 6 _ rfl)
      have c7 := Ext.some hx (hc 7 _ rfl)
      have c8 := Ext.some hx (hc 8 _ rfl)
      have c9 := Ext.some hx (hc 9 _ rfl)
      have c10 := Ext.some hx (hc 10 _ rfl)
      have c11 := Ext.some hx (hc 11 _ rfl)
      have c12 := Ext.some hx (hc 12 _ rfl)
      have c13 := Ext.some hx (hc 13 _ rfl)
      simp only [ETask, Nat.add_zero] at c0 c1 c2 c3 c4 c5 c6 c7 c8 c9 c10 c11 c12 c13
      have HFit := Lib.hid hfit
      have HRD := Lib.hid (hrd.ext hx)
      have HN := Lib.hid (HS.out k hlt)
      have HT := Lib.hid (take_succ_nth hlt)
      clear hc hfit hx hrd
      go_wp2_with (first
        | (go_at_call 122; go_loud ((with_reducible refine (copyTask_own (S := S) (nth l k) _ _ (rel_Task HFit.out (HRD.out.ext ((Ext.refl _).alloc _))) HN.out).mono ?_); rintro e w1 ⟨cs1, G1, rfl, ⟨u1, rfl, f1, q1⟩, g1, hx1⟩; obtain ⟨p1, k1, rfl, -⟩ := q1.form; have Q1 := Lib.hid q1; have X1 := Lib.hid (((Ext.refl _).alloc _).trans hx1); have Z1 : Hid (∀ b ∈ G1, wr.heap.size ≤ b) := Lib.hid (fun b hb => Nat.le_trans ((Ext.refl wr).alloc _).size (g1 b hb)); clear f1 q1 g1 hx1; simp only [cellsTask]))
        | (at_builtin; refine wpList_append_one (O := OTask) (T := 46) (l := l.take k) (F := F) (G := G1) (y := nth l k) (cs := cellsTask (nth l k) (.slice p1 (nth l k).nodes.length k1)) rfl _ _ 58 rfl (.agg #[.int .i64 0, .int .i64 0, .int .i64 0, .string ⟨#[]⟩, .int .i64 0, .int .i64 0, .int .i64 0, .int .i64 0, .int .i64 0, .int .i64 0, .int .i64 0, .int .i64 0, .int .i64 0, .slice none 0 0]) 14 136 Try.underlying58 (by kernel_rfl) rfl rfl rfl ?ow _ 0 1 rfl ?own ?rng ?nd ?len (by decide) ?_; rotate_right; intro v' w2 F' how hkp hF'; have HOW := Lib.hid how; have HKP := Lib.hid hkp; have HFF := Lib.hid hF'; clear how hkp hF'))
      case ow => exact HO.out.ext (X1.out.alloc _)
      case own => exact ⟨_, rfl, HFit.out, Q1.out.ext ((Ext.refl _).alloc _)⟩
      case rng =>
        have h := (Blk.new w1 46 (cellsTask (nth l k) (.slice p1 (nth l k).nodes.length k1)).toArray).range
        simpa [cellsTask] using h
      case nd => exact nodup_two HO.out.nodup Q1.out.nodup (fun b h1 h2 => by have a := LF.out b h1; have c := Z1.out b h2; omega)
      case len => rw [List.length_take]; omega
      refine ⟨⟨k + 1, F', by omega, by go_num, by rw [HT.out]; exact HOW.out, fun b hb => ?_, HKP.out.ext ((HX.out.trans X1.out).alloc _) HF.out⟩, by simp [intOf]; omega⟩
      rcases HFF.out b hb with h | h | h
      · exact HF.out b h
      · exact Nat.le_trans HX.out.size (Z1.out b h)
      · exact Nat.le_trans ((HX.out.trans X1.out).alloc _).size h
    · obtain rfl : k = l.length := by omega
      go_wp2_with fail
      go_ret
      exact ⟨_, F, rfl, by have h := HO.out; rw [List.take_length] at h; exact h, HF.out, HX.out⟩
end Go.Proofs.Ytalnbddpkkkpeaa

/- The walk of held.. for uses. Printed by wip/gen2.py. -/
import Derived.Test.YtikiipahmgpamaaGOwn
import Derived.Test.YtikiipahmgpamaaGMarkDef
import Derived.Test.YtikiipahmgpamaaRows
import Derived.Test.YtikiipahmgpamaaMarkTextW
namespace Go.Proofs.Ytikiipahmgpamaa
open Go.RowKit
attribute [local irreducible] wpQuiet

set_option maxHeartbeats 8000000 in
set_option maxRecDepth 50000 in
theorem heldUseS_any {S : Nat → Prop} (l : List Use) (v : Value) (q : Int) (w : World) (h : Rd EUse S w v (markL mkUse cntUse q l)) (h0 : 0 ≤ q) (h1 : q + cntL cntUse l ≤ 1125899906842624) :
    Calls Try.prog 31 #[v, .int .i64 q] w fun e w' => e = .returned (.int .i64 (q + cntL cntUse l)) ∧ Ext w w' := by
  obtain ⟨A, c, rfl, g1, g2, hk⟩ := h.open_
  rw [markL_length] at g1 hk ⊢
  unfold maxLen at g2
  have H := Lib.hid hk
  clear hk
  have H1 := Lib.hid h1
  clear h h1
  go_enter Try.func31, Try.ntmps31
  go_wp2_with fail
  go_loopw [1, 5] (fun kk i w' => ∃ j : Nat, j ≤ l.length ∧ i = .int .i64 j ∧ kk = .int .i64 (q + cntL cntUse (l.take j)) ∧ Ext w w') (fun _ i _ => l.length - (intOf i).toNat)
  case atStart => exact ⟨0, Nat.zero_le _, rfl, by simp [cntL], Ext.refl _⟩
  case round =>
    obtain ⟨j, hj, rfl, rfl, hx⟩ := hrel
    by_cases hlt : j < l.length
    · obtain ⟨B, o, cs, rfl, _, hr, hc⟩ := H.out j hlt
      rw [markL_nth q hlt] at hr
      obtain ⟨rfl, hfit⟩ := hr
      have c0 := Ext.some hx (hc 0 _ rfl)
      have c1 := Ext.some hx (hc 1 _ rfl)
      have c2 := Ext.some hx (hc 2 _ rfl)
      have c3 := Ext.some hx (hc 3 _ rfl)
      simp only [EUse, Nat.add_zero] at c0 c1 c2 c3
      have HC := Lib.hid (cntL_at (n := cntUse) hlt)
      have HS := Lib.hid (cntL_succ (n := cntUse) hlt)
      have HX := Lib.hid hx
      have hb : 0 ≤ q + (cntL cntUse (l.take j) : Int) ∧ q + (cntL cntUse (l.take j) : Int) + cntUse (nth l j) ≤ 1125899906842624 := by have := H1.out; have := HC.out; omega
      simp only [cntUse] at hb
      clear hc hx hfit
      generalize hq : q + (cntL cntUse (l.take j) : Int) = Q at *
      have HQ := Lib.hid hq
      clear hq
      obtain ⟨hb0, hb1⟩ := hb
      simp only [mkUse] at c0 c1 c2 c3
      go_wp2_with fail
      refine wp_region_ext (by kernel_rfl) (by kernel_rfl) ?_
      repeat (
        (refine wpQuiet_step (fun K hK => ?_)
         go_simp
         first
          | (refine hK _ ?_; clear hK K)
          | (apply Exists.intro
             refine ⟨fun w__ hx__ => ?_, hK _ ?_⟩
             · have c2__ := Ext.some hx__ c2; first | exact rfl | (go_simp; done) | (go_simp; exact rfl) | (go_at_call 109; exact ext_of hx__ (markText_any _ _ (by omega) (by omega)))
             clear hK K)))
      refine wpQuiet_nil ?_
      intro w1 hx1
      replace c3 := Ext.some hx1 c3
      replace HX := Lib.hid (HX.out.trans hx1)
      clear hx1 c0 c1 c2
      go_wp2_with fail
      first
        | (go_roundw
           case rel => exact ⟨j + 1, by omega, by go_num, by rw [HS.out, ← HQ.out]; push_cast; simp only [cntUse]; go_num, HX.out⟩
           case measure => simp [intOf]; omega)
        | (refine ⟨⟨j + 1, by omega, by go_num, by rw [HS.out, ← HQ.out]; push_cast; simp only [cntUse]; go_num, HX.out⟩, ?_⟩
           simp [intOf]
           omega)
    · obtain rfl : j = l.length := by omega
      go_wp2_with fail
      go_ret
      exact ⟨ret_int (by rw [List.take_length]), hx⟩

end Go.Proofs.Ytikiipahmgpamaa

/- Two lists of spans, or of nodes, that read alike are found alike. -/
import Derived.Test.YtbdicafambkhdaaGElems
import Derived.Test.YtbdicafambkhdaaSmall
import Derived.BigQuiet
namespace Go.Proofs.Ytbdicafambkhdaa
open Go.RowKit
attribute [local irreducible] wpQuiet

set_option maxHeartbeats 2000000 in
theorem lwSpans_same {S S' : Nat → Prop} (l : List Span) (v u : Value) (w : World) (h : Rd ESpan S w v l) (g : Rd ESpan S' w u l) :
    Calls Try.prog 20 #[v, u] w fun e w' => e = .returned (.bool true) ∧ Ext w w' := by
  obtain ⟨A, c, rfl, h1, h2, hk⟩ := h.open_
  obtain ⟨A', c', rfl, g1, g2, gk⟩ := g.open_
  unfold maxLen at h2 g2
  have HK := Lib.hid hk
  have GK := Lib.hid gk
  clear hk gk h g
  go_enter Try.func20, Try.ntmps20
  go_wp2_with fail
  go_loopw [5] (fun i w' => ∃ k : Nat, k ≤ l.length ∧ i = .int .i64 k ∧ Ext w w') (fun i _ => l.length - (intOf i).toNat)
  case atStart => exact ⟨0, by omega, rfl, Ext.refl _⟩
  case round =>
    obtain ⟨k, hk1, rfl, hx⟩ := hrel
    have HX := Lib.hid hx
    by_cases hlt : k < l.length
    · obtain ⟨b, o, cs, rfl, _, hr, hc⟩ := HK.out k hlt
      obtain ⟨b', o', ds, rfl, _, gr, gc⟩ := GK.out k hlt
      obtain ⟨rfl, f1⟩ := hr
      obtain ⟨rfl, f2⟩ := gr
      have c0 := Ext.some hx (hc 0 _ rfl)
      have c1 := Ext.some hx (hc 1 _ rfl)
      simp only [ESpan, Nat.add_zero] at c0 c1
      have d0 := Ext.some hx (gc 0 _ rfl)
      have d1 := Ext.some hx (gc 1 _ rfl)
      simp only [ESpan, Nat.add_zero] at d0 d1
      clear hc gc hx f1 f2
      go_wp2_with fail
      refine wp_region_ext (by kernel_rfl) (by kernel_rfl) ?_
      repeat (
        (refine wpQuiet_step (fun K hK => ?_)
         go_simp
         first
          | (refine hK _ ?_; clear hK K)
          | (apply Exists.intro
             refine ⟨fun w__ hx__ => ?_, hK _ ?_⟩
             · have c0__ := Ext.some hx__ c0; have c1__ := Ext.some hx__ c1; have d0__ := Ext.some hx__ d0; have d1__ := Ext.some hx__ d1; first | exact rfl | (go_simp; done) | (go_simp; exact rfl)
             clear hK K)))
      refine wpQuiet_nil ?_
      intro w1 hx1
      have HE := Lib.hid hx1
      clear c0 c1 d0 d1 hx1
      go_wp2_with fail
      go_roundw
      case rel => exact ⟨k + 1, by omega, by go_num, HX.out.trans HE.out⟩
      case measure => simp [intOf]; omega
    · go_wp2_with fail
      go_ret
      exact ⟨rfl, HX.out⟩

set_option maxHeartbeats 2000000 in
theorem lwNodes_same {S S' : Nat → Prop} (l : List Node) (v u : Value) (w : World) (h : Rd ENode S w v l) (g : Rd ENode S' w u l) :
    Calls Try.prog 12 #[v, u] w fun e w' => e = .returned (.bool true) ∧ Ext w w' := by
  obtain ⟨A, c, rfl, h1, h2, hk⟩ := h.open_
  obtain ⟨A', c', rfl, g1, g2, gk⟩ := g.open_
  unfold maxLen at h2 g2
  have HK := Lib.hid hk
  have GK := Lib.hid gk
  clear hk gk h g
  go_enter Try.func12, Try.ntmps12
  go_wp2_with fail
  go_loopw [5] (fun i w' => ∃ k : Nat, k ≤ l.length ∧ i = .int .i64 k ∧ Ext w w') (fun i _ => l.length - (intOf i).toNat)
  case atStart => exact ⟨0, by omega, rfl, Ext.refl _⟩
  case round =>
    obtain ⟨k, hk1, rfl, hx⟩ := hrel
    have HX := Lib.hid hx
    by_cases hlt : k < l.length
    · obtain ⟨b, o, cs, rfl, _, ⟨v1, rfl, _, r1⟩, hc⟩ := HK.out k hlt
      obtain ⟨b', o', ds, rfl, _, ⟨u1, rfl, _, q1⟩, gc⟩ := GK.out k hlt
      have R1 := Lib.hid (r1.ext hx)
      have Q1 := Lib.hid (q1.ext hx)
      have c0 := Ext.some hx (hc 0 _ rfl)
      have c1 := Ext.some hx (hc 1 _ rfl)
      simp only [ENode, Nat.add_zero] at c0 c1
      have d0 := Ext.some hx (gc 0 _ rfl)
      have d1 := Ext.some hx (gc 1 _ rfl)
      simp only [ENode, Nat.add_zero] at d0 d1
      clear hc gc hx r1 q1
      go_wp2_with fail
      refine wp_region_ext (by kernel_rfl) (by kernel_rfl) ?_
      repeat (
        (refine wpQuiet_step (fun K hK => ?_)
         go_simp
         first
          | (refine hK _ ?_; clear hK K)
          | (apply Exists.intro
             refine ⟨fun w__ hx__ => ?_, hK _ ?_⟩
             · have c0__ := Ext.some hx__ c0; have c1__ := Ext.some hx__ c1; have d0__ := Ext.some hx__ d0; have d1__ := Ext.some hx__ d1; first | exact rfl | (go_simp; done) | (go_simp; exact rfl) | (go_at_call 20; exact ext_of hx__ (lwSpans_same (nth l k).books _ _ _ (R1.out.ext hx__) (Q1.out.ext hx__)))
             clear hK K)))
      refine wpQuiet_nil ?_
      intro w1 hx1
      have HE := Lib.hid hx1
      clear c0 c1 d0 d1 hx1
      go_wp2_with fail
      go_roundw
      case rel => exact ⟨k + 1, by omega, by go_num, HX.out.trans HE.out⟩
      case measure => simp [intOf]; omega
    · go_wp2_with fail
      go_ret
      exact ⟨rfl, HX.out⟩
end Go.Proofs.Ytbdicafambkhdaa

/- The walk of ownersOf. -/
import Derived.Test.YtocomclenbhhaaaGreatUses
namespace Go.Proofs.YtocomclenbhhaaaGreat
open Go.RowKit
attribute [local irreducible] wpQuiet

def ownersOf (l : List Use) (a : Label) : Nat := l.countP fun x => decide (x.label = a)
theorem ownersOf_succ {l : List Use} {a : Label} {k : Nat} (hk : k < l.length) : ownersOf (l.take (k + 1)) a = ownersOf (l.take k) a + if (nth l k).label = a then 1 else 0 := by
  have h : l.take (k + 1) = l.take k ++ [nth l k] := by
    rw [List.take_succ_eq_append_getElem hk, nth_eq hk]
  rw [h]
  simp [ownersOf, List.countP_append, List.countP_cons]
theorem ownersOf_le (l : List Use) (a : Label) : ownersOf l a ≤ l.length := List.countP_le_length

set_option maxHeartbeats 4000000 in
theorem ownersOf_any {S S' : Nat → Prop} (l : List Use) (a : Label) (v : Value) (cs : List Value) (w : World) (h : Rd EUse S w v l) (g : ELabel.rel S' w cs a) :
    Calls Tryz.prog 139 #[v, .agg cs.toArray] w fun e w' => e = .returned (.int .i64 (ownersOf l a)) ∧ Ext w w' := by
  obtain ⟨rfl, hi⟩ := g
  clear hi
  obtain ⟨A, c, rfl, h1, h2, hk⟩ := h.open_
  unfold maxLen at h2
  have HK := Lib.hid hk
  clear hk h
  simp only [cellsLabel]
  go_enter Tryz.func139, Tryz.ntmps139
  go_wp2_with fail
  obtain ⟨W, B, hW__, hB__, hxW, hbox__⟩ := box_new w #[.int .i64 a.level, .int .i64 a.set] 60
  rw [← hW__, ← hB__]
  have b0 := hbox__ 0 _ rfl
  have b1 := hbox__ 1 _ rfl
  clear hW__ hB__ hbox__
  have HB0 := Lib.hid b0
  have HB1 := Lib.hid b1
  have HW := Lib.hid hxW
  clear b0 b1 hxW
  go_loopw [5, 10] (fun n i w' => ∃ k : Nat, k ≤ l.length ∧ i = .int .i64 k ∧ n = .int .i64 (ownersOf (l.take k) a) ∧ Ext W w') (fun _ i _ => l.length - (intOf i).toNat)
  case atStart => exact ⟨0, by omega, rfl, rfl, Ext.refl _⟩
  case round =>
    obtain ⟨k, hk1, rfl, rfl, hx⟩ := hrel
    have HX := Lib.hid hx
    by_cases hlt : k < l.length
    · obtain ⟨b, o, cs, rfl, _, ⟨rfl, _⟩, hc⟩ := HK.out k hlt
      have hxx := HW.out.trans hx
      have c0 := Ext.some hxx (hc 0 _ rfl)
      have c1 := Ext.some hxx (hc 1 _ rfl)
      have c2 := Ext.some hxx (hc 2 _ rfl)
      have c3 := Ext.some hxx (hc 3 _ rfl)
      simp only [EUse, Nat.add_zero] at c0 c1 c2 c3
      have d0 := fun o : Obj => Ext.some (hx.alloc o) HB0.out
      have d1 := fun o : Obj => Ext.some (hx.alloc o) HB1.out
      have hs := ownersOf_succ (a := a) hlt
      have hle : ownersOf (l.take k) a < 2 ^ 63 - 1 := by have := ownersOf_le (l.take k) a; have := List.length_take_le k l; omega
      clear hc hx hxx
      generalize hn : ownersOf (l.take k) a = n at *
      have HN := Lib.hid hn
      clear hn
      by_cases e0 : (nth l k).label.level = a.level
      · by_cases e1 : (nth l k).label.set = a.set
        · rw [if_pos (Label.ext e0 e1)] at hs
          have HS := Lib.hid hs
          clear hs
          go_wp2_with fail
          go_roundw
          case rel => exact ⟨k + 1, by omega, by go_num, by rw [HS.out]; go_num, ((HX.out.alloc _))⟩
          case measure => simp [intOf]; omega
        · rw [if_neg (fun e => e1 (congrArg Label.set e))] at hs
          have HS := Lib.hid hs
          clear hs
          go_wp2_with fail
          go_roundw
          case rel => exact ⟨k + 1, by omega, by go_num, by rw [HS.out]; go_num, ((HX.out.alloc _))⟩
          case measure => simp [intOf]; omega
      · rw [if_neg (fun e => e0 (congrArg Label.level e))] at hs
        have HS := Lib.hid hs
        clear hs
        go_wp2_with fail
        go_roundw
        case rel => exact ⟨k + 1, by omega, by go_num, by rw [HS.out]; go_num, ((HX.out.alloc _))⟩
        case measure => simp [intOf]; omega
    · have he : k = l.length := by omega
      subst he
      go_wp2_with fail
      go_ret
      exact ⟨ret_int (by rw [List.take_length]), HW.out.trans HX.out⟩
end Go.Proofs.YtocomclenbhhaaaGreat

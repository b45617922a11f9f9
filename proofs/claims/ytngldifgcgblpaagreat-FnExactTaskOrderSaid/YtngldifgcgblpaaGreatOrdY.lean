/- The words of memory that grew by draws and new blocks alone, as those of memory that only grew. What was left out of other texts of this seat, for the laws that need it. Printed by wip/rest.py. Who sorts a row and who inserts its elements one after another come to the same row. The walks of the rank functions. The order in which a yard's tasks are planned, in plain Lean. -/
import Derived.Test.YtngldifgcgblpaaGreatUAddP
import Derived.Test.YtngldifgcgblpaaGreatCmp
import Derived.Test.YtngldifgcgblpaaGreatUses
import Derived.Test.YtngldifgcgblpaaGreatUsesC
import Derived.Test.YtngldifgcgblpaaGreatUsesD
import Derived.Test.YtngldifgcgblpaaGreatUsesE
import Derived.Test.YtngldifgcgblpaaGreatTasksP
import Derived.Test.YtngldifgcgblpaaGreatOrdU
import Derived.Test.YtngldifgcgblpaaGreatSmall
import Derived.Test.YtngldifgcgblpaaGreatLabels
import Derived.Test.YtngldifgcgblpaaGreatReady
import Derived.Test.YtngldifgcgblpaaGreatGYardT
import Derived.Test.YtngldifgcgblpaaGreatCompactL
namespace Go.Proofs.YtngldifgcgblpaaGreat
open Go.RowKit Go.Sort
attribute [local irreducible] wpQuiet

instance {a b : World} : Coe (Gr a b) (Ext a b) := ⟨Gr.ext⟩
theorem Gr.some {w w' : World} (h : Gr w w') {p : Addr} {u : Value} (hp : w.cell? p = some u) : w'.cell? p = some u := h.ext.some hp
theorem Gr.range {w w' : World} (h : Gr w w') {b o : Nat} {cs : List Value} (hr : w.rangeAt b o cs) : w'.rangeAt b o cs := h.ext.range hr
theorem Gr.same {w w' : World} (h : Gr w w') (S : Nat → Prop) : Same S w w' := h.ext.same S
theorem Gr.size {w w' : World} (h : Gr w w') : w.heap.size ≤ w'.heap.size := h.ext.size
theorem gr_of {P : Program} {f : FuncId} {args : Array Value} {w w1 : World} {v : Value} (hx : Gr w w1) (h : Calls P f args w1 fun e w' => e = .returned v ∧ Gr w1 w') :
    Calls P f args w1 fun e w' => e = .returned v ∧ Gr w w' := h.mono fun _ _ ⟨he, hk⟩ => ⟨he, hx.trans hk⟩
theorem gr_of_same {P : Program} {f : FuncId} {args : Array Value} {w w1 : World} {v : Value} (hx : Gr w w1) (h : Calls P f args w1 fun e w' => e = .returned v ∧ w1 = w') :
    Calls P f args w1 fun e w' => e = .returned v ∧ Gr w w' := h.mono fun _ _ ⟨he, hk⟩ => ⟨he, hk ▸ hx⟩
theorem wp_region_gr {P : Program} {id : Nat} {Q : Exit → Act → World → Prop} {a : Act} {w : World} {l : List Oper} (hm : P.follows .mixedOrders = true) (hB : Region.lexB .any l.toArray = true)
    (h : wpQuiet P l.toArray (fun w' => Gr w w') (fun a' => ∀ w', Gr w w' → Q .normal a' w') l a) : (Code.region id l.toArray true).wp P Q a w :=
  wp_region_quiet (C := fun w' => Gr w w') hm hB (Gr.refl w).drew (by simpa using h)
theorem box_new_gr (w : World) (cs : Array Value) (T : TypeId) : ∃ W B, W = w.alloc (.cells cs T) ∧ B = w.heap.size ∧ Gr w W ∧ (∀ i u, cs[i]? = some u → W.cell? ⟨B, i, none⟩ = some u) := by
  obtain ⟨W, B, h1, h2, _, h4⟩ := box_new w cs T
  exact ⟨W, B, h1, h2, by rw [h1]; exact (Gr.refl w).alloc _, h4⟩
theorem boxes2_gr (w : World) (A O : Array Value) (T U : TypeId) : ∃ W B, W = (w.alloc (.cells A T)).alloc (.cells O U) ∧ B = w.heap.size ∧ Gr w W ∧ Blk W B T A ∧ Blk W (B + 1) U O := by
  obtain ⟨W, B, h1, h2, _, h4, h5⟩ := boxes2 w A O T U
  exact ⟨W, B, h1, h2, by rw [h1]; exact ((Gr.refl w).alloc _).alloc _, h4, h5⟩
end Go.Proofs.YtngldifgcgblpaaGreat

namespace Go.Proofs.YtngldifgcgblpaaGreat
open Go.RowKit Go.Sort
attribute [local irreducible] wpQuiet

/-- Has this label and this owner. -/
def isUse (a : Label) (o : ByteArray) (x : Use) : Bool := decide (x.label = a) && decide (x.owner = o)
def useOf (l : List Use) (a : Label) (o : ByteArray) : Int := if o.size ≤ 8000 ∧ usesRight l = true then ((l.find? (isUse a o)).map (·.used)).getD 0 else 0
theorem useOf_some {l : List Use} {a : Label} {o : ByteArray} {k : Nat} (h0 : o.size ≤ 8000) (hr : usesRight l = true) (hk : k < l.length) (h : ∀ j, j < k → isUse a o (nth l j) = false) (hp : isUse a o (nth l k) = true) : useOf l a o = (nth l k).used := by
  have : l.find? (isUse a o) = some (nth l k) := by
    rw [List.find?_eq_some_iff_getElem]
    refine ⟨hp, k, hk, (nth_eq hk).symm, fun j hj => ?_⟩
    have := h j hj
    rw [nth_eq (by omega)] at this
    simpa using this
  rw [useOf, if_pos ⟨h0, hr⟩, this]; rfl
theorem useOf_none {l : List Use} {a : Label} {o : ByteArray} (h : ∀ j, j < l.length → isUse a o (nth l j) = false) : useOf l a o = 0 := by
  have : l.find? (isUse a o) = none := List.find?_eq_none.2 fun x hx => by
    obtain ⟨i, hi, rfl⟩ := List.getElem_of_mem hx
    have := h i hi
    rw [nth_eq hi] at this
    simpa using this
  rw [useOf, this]
  split <;> rfl
theorem isUse_iff {a : Label} {o : ByteArray} {x : Use} : isUse a o x = (decide (x.label.level = a.level) && decide (x.label.set = a.set) && decide (x.owner.toList = o.toList)) := by
  obtain ⟨⟨l, s⟩, p, u⟩ := x
  obtain ⟨m, t⟩ := a
  simp [isUse, bytes_iff]
set_option maxHeartbeats 4000000 in
theorem specUseOf_any {S : Nat → Prop} (l : List Use) (a : Label) (o : ByteArray) (v : Value) (w : World) (h : Rd EUse S w v l) (ho : Str o) :
    Calls Tryz.prog 290 #[v, .agg #[.int .i64 a.level, .int .i64 a.set], .string o] w fun e w' => e = .returned (.int .i64 (useOf l a o)) ∧ Ext w w' := by
  have HR := Lib.hid h
  obtain ⟨A, c, rfl, h1, h2, hk⟩ := h.open_
  unfold maxLen at h2
  unfold Str maxLen at ho
  have HK := Lib.hid hk
  clear hk h
  by_cases h8 : o.size ≤ 8000
  · by_cases hu : usesRight l = true
    · have HU := Lib.hid hu
      go_enter Tryz.func290, Tryz.ntmps290
      go_wp2_with fail
      obtain ⟨W, B, hW__, hB__, hxW, hbox__⟩ := box_new w #[.int .i64 a.level, .int .i64 a.set] 49
      rw [← hW__, ← hB__]
      have b0 := hbox__ 0 _ rfl
      have b1 := hbox__ 1 _ rfl
      clear hW__ hB__ hbox__
      have HB0 := Lib.hid b0
      have HB1 := Lib.hid b1
      have HW := Lib.hid hxW
      clear b0 b1 hxW
      go_wp2_with (go_at_call 164; refine (specUsesRight_any (S := S) l _ _ (HR.out.ext HW.out)).mono ?_; rintro e w1 ⟨rfl, hx1⟩; have HX1 := Lib.hid (HW.out.trans hx1); have HB2 := Lib.hid (Ext.some hx1 HB0.out); have HB3 := Lib.hid (Ext.some hx1 HB1.out); clear hx1)
      clear hu
      go_loopw [7] (fun i w' => ∃ k : Nat, k ≤ l.length ∧ i = .int .i64 k ∧ (∀ j, j < k → isUse a o (nth l j) = false) ∧ Ext w1 w') (fun i _ => l.length - (intOf i).toNat)
      case atStart => exact ⟨0, by omega, rfl, fun j hj => by omega, Ext.refl _⟩
      case round =>
        obtain ⟨k, hk1, rfl, hall, hx⟩ := hrel
        have HA := Lib.hid hall
        have HX := Lib.hid (HX1.out.trans hx)
        have HY := Lib.hid hx
        clear hall
        by_cases hlt : k < l.length
        · obtain ⟨b, q, cs, rfl, _, ⟨rfl, hfit⟩, hc⟩ := HK.out k hlt
          have c0 := Ext.some HX.out (hc 0 _ rfl)
          have c1 := Ext.some HX.out (hc 1 _ rfl)
          have c2 := Ext.some HX.out (hc 2 _ rfl)
          have c3 := Ext.some HX.out (hc 3 _ rfl)
          have d0 := Ext.some hx HB2.out
          have d1 := Ext.some hx HB3.out
          simp only [EUse, Nat.add_zero] at c0 c1 c2 c3
          clear hc hfit hx
          go_wp2_with fail
          all_goals refine wp_region_ext (by kernel_rfl) (by kernel_rfl) ?_
          all_goals have ite__ := @ite_ok
          repeat (any_goals (
            refine wpQuiet_step (fun K hK => ?_)
            go_simp
            first
              | (refine hK _ ?_; clear hK K)
              | (apply Exists.intro
                 refine ⟨fun w__ hx__ => ?_, hK _ ?_⟩
                 · have c0__ := Ext.some hx__ c0; have c1__ := Ext.some hx__ c1; have c2__ := Ext.some hx__ c2; have d0__ := Ext.some hx__ d0; have d1__ := Ext.some hx__ d1; (first | exact rfl | (go_simp; done) | (go_simp; exact rfl))
                 clear hK K)
              | (split
                 all_goals (first
                   | (refine hK _ ?_; clear hK K)
                   | (apply Exists.intro
                      refine ⟨fun w__ hx__ => ?_, hK _ ?_⟩
                      · have c0__ := Ext.some hx__ c0; have c1__ := Ext.some hx__ c1; have c2__ := Ext.some hx__ c2; have d0__ := Ext.some hx__ d0; have d1__ := Ext.some hx__ d1; (first | exact rfl | (go_simp; done) | (go_simp; exact rfl))
                      clear hK K)))))
          all_goals (refine wpQuiet_nil ?_)
          all_goals (intro w1 hx1; clear ite__)
          all_goals have e3 := Ext.some hx1 c3
          all_goals have HE := Lib.hid hx1
          all_goals clear c0 c1 c2 c3 d0 d1 hx1
          all_goals go_wp2_with fail
          all_goals first
            | (go_ret; exact ⟨ret_int (useOf_some h8 HU.out hlt HA.out (by rw [isUse_iff]; simp_all)).symm, HX.out.trans HE.out⟩)
            | (go_roundw
               case rel => exact ⟨k + 1, by omega, by go_num, all_succ HA.out (by rw [isUse_iff]; simp_all), HY.out.trans HE.out⟩
               case measure => simp [intOf]; omega)
        · have HE := Lib.hid (useOf_none (a := a) (o := o) (l := l) fun j hj => HA.out j (by omega))
          go_wp2_with fail
          go_ret
          exact ⟨ret_int HE.out.symm, HX.out⟩
    · simp only [Bool.not_eq_true] at hu
      have HU : Hid (useOf l a o = 0) := Lib.hid (by unfold useOf; rw [if_neg (by simp [hu])])
      go_enter Tryz.func290, Tryz.ntmps290
      go_wp2_with (go_at_call 164; refine (specUsesRight_any (S := S) l _ _ (HR.out.ext ((Ext.refl _).alloc _))).mono ?_; rintro e w1 ⟨rfl, hx1⟩)
      go_ret
      exact ⟨ret_int HU.out.symm, ((Ext.refl _).alloc _).trans hx1⟩
  · have HU : Hid (useOf l a o = 0) := Lib.hid (by unfold useOf; rw [if_neg (fun h => h8 h.1)])
    have h8' : 8000 < o.size := by omega
    clear h8
    go_enter Tryz.func290, Tryz.ntmps290
    go_wp2_with fail
    go_ret
    exact ⟨ret_int HU.out.symm, (Ext.refl _).alloc _⟩
theorem call_useAt1 : ∀ (args : Array Value) (W : World), (callFunc 291 args).run Tryz.prog W = .ok (.enter 291 args) W := by
  intro args W
  go_simp
def useIx (l : List Use) (a : Label) (o : ByteArray) : Int := idxOf (isUse a o) l
theorem useAt_true {l : List Use} (hu : usesRight l = true) {k : Nat} (hk : k < l.length) : useAt l k = true := by
  simp only [usesRight, Bool.and_eq_true, List.all_eq_true] at hu
  exact hu.2 k (List.mem_range.mpr hk)
theorem useOk_true {l : List Use} (hu : usesRight l = true) {k : Nat} (hk : k < l.length) : useOk (nth l k) = true := by
  have := useAt_true hu hk
  simp only [useAt, Bool.and_eq_true] at this
  exact this.1.1
theorem name_short {s : ByteArray} (h : nameRight s = true) : s.size ≤ 20 := by
  simp only [nameRight, Bool.and_eq_true, decide_eq_true_eq] at h
  omega
theorem short_of {l : List Use} {a : Label} {o : ByteArray} (hu : usesRight l = true) {k : Nat} (hk : k < l.length) (hp : isUse a o (nth l k) = true) : o.size ≤ 8000 := by
  have h1 := useOk_true hu hk
  simp only [useOk, Bool.and_eq_true] at h1
  simp only [isUse, Bool.and_eq_true, decide_eq_true_eq] at hp
  have := name_short h1.1.2
  rw [hp.2] at this
  omega
theorem bytes_anti : ∀ a b : List UInt8, Lib.compareBytes b a = - Lib.compareBytes a b
  | [], [] => rfl
  | [], _ :: _ => rfl
  | _ :: _, [] => rfl
  | a :: l, b :: m => by
    have ih := bytes_anti l m
    unfold Lib.compareBytes
    by_cases h1 : a < b
    · have h2 : ¬ b < a := fun h => absurd (UInt8.lt_trans h1 h) (UInt8.lt_irrefl _)
      simp [h1, h2]
    · by_cases h2 : b < a
      · simp [h1, h2]
      · simp [h1, h2, ih]
theorem bytes_trans : ∀ a b c : List UInt8, Lib.compareBytes a b ≤ 0 → Lib.compareBytes b c ≤ 0 → Lib.compareBytes a c ≤ 0
  | [], _, [], _, _ => by simp [Lib.compareBytes]
  | [], _, _ :: _, _, _ => by simp [Lib.compareBytes]
  | _ :: _, [], _, h, _ => by simp [Lib.compareBytes] at h
  | _ :: _, _ :: _, [], _, h => by simp [Lib.compareBytes] at h
  | a :: l, b :: m, c :: n, h, k => by
    have ih := bytes_trans l m n
    unfold Lib.compareBytes at h k ⊢
    by_cases h1 : a < b
    · by_cases k1 : b < c
      · simp [UInt8.lt_trans h1 k1]
      · by_cases k2 : c < b
        · simp [k1, k2] at k
        · obtain rfl : b = c := UInt8.le_antisymm (UInt8.not_lt.mp k2) (UInt8.not_lt.mp k1)
          simp [h1]
    · by_cases h2 : b < a
      · simp [h1, h2] at h
      · obtain rfl : a = b := UInt8.le_antisymm (UInt8.not_lt.mp h2) (UInt8.not_lt.mp h1)
        simp only [h1, if_false] at h
        by_cases k1 : a < c
        · simp [k1]
        · by_cases k2 : c < a
          · simp [k1, k2] at k
          · simp only [k1, k2, if_false] at k ⊢
            exact ih h k
theorem bytes_eq : ∀ a b : List UInt8, Lib.compareBytes a b = 0 → a = b
  | [], [], _ => rfl
  | [], _ :: _, h => by simp [Lib.compareBytes] at h
  | _ :: _, [], h => by simp [Lib.compareBytes] at h
  | a :: l, b :: m, h => by
    unfold Lib.compareBytes at h
    by_cases h1 : a < b
    · simp [h1] at h
    · by_cases h2 : b < a
      · simp [h1, h2] at h
      · simp only [h1, h2, if_false] at h
        obtain rfl : a = b := UInt8.le_antisymm (UInt8.not_lt.mp h2) (UInt8.not_lt.mp h1)
        rw [bytes_eq l m h]
theorem cmp3_eq {a b : Int} (h : cmp3 a b = 0) : a = b := by
  unfold cmp3 at h
  split at h
  · omega
  · split at h <;> omega
set_option maxHeartbeats 4000000 in
theorem compareUses_gr {S S' : Nat → Prop} (a b : Use) (cs ds : List Value) (w : World) (h : EUse.rel S w cs a) (g : EUse.rel S' w ds b) :
    Calls Tryz.prog 233 #[.agg cs.toArray, .agg ds.toArray] w fun e w' => e = .returned (.int .i64 (cmpUses a b)) ∧ Gr w w' := by
  obtain ⟨rfl, hi⟩ := h
  obtain ⟨rfl, gi⟩ := g
  have ha : FitLabel a.label := ⟨hi.1, hi.2.1⟩
  have hb : FitLabel b.label := ⟨gi.1, gi.2.1⟩
  have HA := Lib.hid ha
  have HB := Lib.hid hb
  clear hi gi ha hb
  simp only [cellsUse]
  go_enter Tryz.func233, Tryz.ntmps233
  go_upto_region 1 with (fail)
  obtain ⟨W, B, hW, hB, hx0, a0, b0⟩ := boxes2 w #[.int .i64 a.label.level, .int .i64 a.label.set, .string a.owner, .int .i64 a.used] #[.int .i64 b.label.level, .int .i64 b.label.set, .string b.owner, .int .i64 b.used] 155 155
  rw [← hW, ← hB]
  have XX : Hid (Gr w W) := Lib.hid (by rw [hW]; exact ((Gr.refl w).alloc _).alloc _)
  clear hW hB
  have al : ∀ V, Gr W V → ∀ i, V.cell? ⟨B, i, none⟩ = _ := fun V hx => (a0.ext hx.ext).cell
  have bl : ∀ V, Gr W V → ∀ i, V.cell? ⟨B + 1, i, none⟩ = _ := fun V hx => (b0.ext hx.ext).cell
  clear hx0 a0 b0
  go_region_held3 (fun w' => Gr W w') (first | exact (Gr.refl _).drew | assumption | exact Gr.alloc (by assumption) _ | exact Gr.trans (by assumption) hx9 | exact Gr.trans (by assumption) hx8) (first | (go_at_call 195; (refine (compareLabels_gr (S := fun _ => True) (S' := fun _ => True) a.label b.label _ _ _ (rel_Label HA.out) (rel_Label HB.out)).mono ?_); rintro e w8 ⟨rfl, hx8⟩) | (go_at_call 281; refine (Tryz.strings_Compare _ _ _).mono ?_; rintro e w1 ⟨rfl, rfl⟩) | (go_at_call 194; refine (or_gr [cmpLabels a.label b.label, Lib.compareBytes a.owner.data.toList b.owner.data.toList] _ _ (rd_two _ _ _ _ (cmpLabels_i64 _ _) (compareBytes_i64 _ _))).mono ?_; rintro e w9 ⟨rfl, hx9⟩))
  all_goals
    clear al bl
    go_wp2_with fail
    go_ret
    exact ⟨rfl, XX.out.trans (by assumption)⟩
end Go.Proofs.YtngldifgcgblpaaGreat

namespace Go.Proofs.YtngldifgcgblpaaGreat
open Go.RowKit
attribute [local irreducible] wpQuiet

section
variable {α : Type} {c : α → α → Int}
theorem Lin.flip (h : Lin c) : Lin fun x y => c y x := ⟨fun x y => h.anti y x, fun x y z h1 h2 => h.trans z y x h2 h1⟩
theorem Lin.le_lt (h : Lin c) {x y z : α} (h1 : c x y ≤ 0) (h2 : c y z < 0) : c x z < 0 := by
  have a1 := h.anti x z
  have a2 := h.anti y z
  have := h.trans z x y
  have := h.trans x y z h1 (by omega)
  rcases (show c x z < 0 ∨ 0 ≤ c x z by omega) with h3 | h3
  · exact h3
  · have := h.trans z x y (by omega) h1
    omega
def putP (c : α → α → Int) (l : List α) (x : α) : Nat := (l.takeWhile fun y => decide (c y x < 0)).length
def putL (c : α → α → Int) (l : List α) (x : α) : List α := l.take (putP c l x) ++ x :: l.drop (putP c l x)
def sortL (c : α → α → Int) (l : List α) : List α := l.foldl (putL c) []
theorem putP_le (l : List α) (x : α) : putP c l x ≤ l.length := (List.takeWhile_sublist _).length_le
theorem putP_low [Inhabited α] : ∀ (l : List α) (x : α) (k : Nat), k < putP c l x → c (nth l k) x < 0
  | [], x, k, h => by simp [putP] at h
  | y :: l, x, k, h => by
    unfold putP at h
    rw [List.takeWhile_cons] at h
    split at h
    · rename_i hy
      cases k with
      | zero => simpa [nth] using hy
      | succ k =>
        have := putP_low l x k (by unfold putP; simpa using h)
        simpa [nth] using this
    · simp at h
theorem putP_at [Inhabited α] : ∀ (l : List α) (x : α), putP c l x < l.length → ¬ c (nth l (putP c l x)) x < 0
  | [], x, h => by simp at h
  | y :: l, x, h => by
    unfold putP at h ⊢
    rw [List.takeWhile_cons] at h ⊢
    split
    · rename_i hy
      rw [if_pos hy] at h
      have := putP_at l x (by unfold putP; simpa using h)
      simpa [nth, putP] using this
    · rename_i hy
      simpa [nth] using hy
theorem putP_stop [Inhabited α] {l : List α} {x : α} {k : Nat} (hk : k ≤ l.length) (h : ∀ j, j < k → c (nth l j) x < 0) (he : k = l.length ∨ ¬ c (nth l k) x < 0) : putP c l x = k := by
  rcases Nat.lt_trichotomy (putP c l x) k with h1 | h1 | h1
  · exact absurd (h _ h1) (putP_at l x (by omega))
  · exact h1
  · rcases he with he | he
    · have := putP_le (c := c) l x; omega
    · exact absurd (putP_low l x k h1) he
theorem putL_perm (l : List α) (x : α) : (putL c l x).Perm (l ++ [x]) := by
  unfold putL
  have h1 : (List.take (putP c l x) l ++ x :: List.drop (putP c l x) l).Perm (x :: (List.take (putP c l x) l ++ List.drop (putP c l x) l)) := List.perm_middle
  rw [List.take_append_drop] at h1
  exact h1.trans (List.perm_append_singleton x l).symm
theorem putL_sorted [Inhabited α] (h : Lin c) {l : List α} {x : α} (hl : l.Pairwise fun a b => c a b < 0) (hn : ∀ y ∈ l, c y x ≠ 0) : (putL c l x).Pairwise fun a b => c a b < 0 := by
  have low : ∀ a ∈ l.take (putP c l x), c a x < 0 := fun a ha => by
    obtain ⟨i, hi, rfl⟩ := List.getElem_of_mem ha
    rw [List.length_take] at hi
    have := putP_low (c := c) l x i (by omega)
    rw [nth_eq (by omega)] at this
    simpa using this
  have high : ∀ b ∈ l.drop (putP c l x), c x b < 0 := fun b hb => by
    obtain ⟨i, hi, rfl⟩ := List.getElem_of_mem hb
    rw [List.length_drop] at hi
    have h1 := putP_at (c := c) l x (by omega)
    have h2 := hn _ (nth_mem (show putP c l x < l.length by omega))
    have h3 := h.anti (nth l (putP c l x)) x
    have h4 : c x (nth l (putP c l x)) < 0 := by omega
    rw [List.getElem_drop]
    rcases Nat.eq_zero_or_pos i with h0 | h0
    · subst h0
      rw [nth_eq (by omega)] at h4
      simpa using h4
    · have h5 := List.pairwise_iff_getElem.1 hl (putP c l x) (putP c l x + i) (by omega) (by omega) (by omega)
      rw [nth_eq (by omega)] at h4
      exact h.le_lt (Int.le_of_lt h4) h5
  unfold putL
  rw [List.pairwise_append]
  refine ⟨hl.sublist (List.take_sublist _ _), List.pairwise_cons.2 ⟨high, hl.sublist (List.drop_sublist _ _)⟩, fun a ha b hb => ?_⟩
  rcases List.mem_cons.1 hb with rfl | hb
  · exact low a ha
  · exact h.le_lt (Int.le_of_lt (low a ha)) (high b hb)
theorem fold_sorted [Inhabited α] (h : Lin c) : ∀ (l acc : List α), acc.Pairwise (fun a b => c a b < 0) → (acc ++ l).Pairwise (fun a b => c a b ≠ 0) → (l.foldl (putL c) acc).Pairwise (fun a b => c a b < 0) ∧ (l.foldl (putL c) acc).Perm (acc ++ l)
  | [], acc, ha, _ => by simpa using ha
  | x :: l, acc, ha, hn => by
    have sym : ∀ {a b : α}, c a b ≠ 0 → c b a ≠ 0 := fun {a b} h1 => by have := h.anti a b; omega
    have hp := putL_perm (c := c) acc x
    have hs := putL_sorted h (x := x) ha (fun y hy => (List.pairwise_append.1 hn).2.2 y hy x (by simp))
    have e : acc ++ x :: l = (acc ++ [x]) ++ l := by simp
    have hp2 : (putL c acc x ++ l).Perm (acc ++ x :: l) := by rw [e]; exact hp.append_right l
    obtain ⟨g1, g2⟩ := fold_sorted h l (putL c acc x) hs (hp2.symm.pairwise hn sym)
    exact ⟨g1, g2.trans hp2⟩
theorem sortL_sorted [Inhabited α] (h : Lin c) {l : List α} (hn : l.Pairwise fun a b => c a b ≠ 0) : (sortL c l).Pairwise fun a b => c a b < 0 := (fold_sorted h l [] List.Pairwise.nil (by simpa using hn)).1
theorem sortL_perm [Inhabited α] (h : Lin c) {l : List α} (hn : l.Pairwise fun a b => c a b ≠ 0) : (sortL c l).Perm l := (fold_sorted h l [] List.Pairwise.nil (by simpa using hn)).2
theorem sortL_unique [Inhabited α] (h : Lin c) {l m : List α} (hn : l.Pairwise fun a b => c a b ≠ 0) (hp : m.Perm l) (hs : m.Pairwise fun a b => c a b ≤ 0) : m = sortL c l := by
  have hi := sortL_sorted h hn
  have hp2 : m.Perm (sortL c l) := hp.trans (sortL_perm h hn).symm
  refine List.Perm.eq_of_pairwise (le := fun a b => c a b ≤ 0) ?_ hs (hi.imp fun h => Int.le_of_lt h) hp2
  intro a b ha hb h1 h2
  have ha' := hp2.mem_iff.1 ha
  obtain ⟨i, hi1, rfl⟩ := List.getElem_of_mem ha'
  obtain ⟨j, hj1, rfl⟩ := List.getElem_of_mem hb
  rcases Nat.lt_trichotomy i j with g | g | g
  · have := List.pairwise_iff_getElem.1 hi i j hi1 hj1 g
    have h3 := h.anti (sortL c l)[i] (sortL c l)[j]
    omega
  · subst g; rfl
  · have := List.pairwise_iff_getElem.1 hi j i hj1 hi1 g
    have h3 := h.anti (sortL c l)[j] (sortL c l)[i]
    omega
theorem sortL_snoc (l : List α) (x : α) : sortL c (l ++ [x]) = putL c (sortL c l) x := by rw [sortL, List.foldl_append]; rfl
end
end Go.Proofs.YtngldifgcgblpaaGreat

namespace Go.Proofs.YtngldifgcgblpaaGreat
open Go.RowKit
attribute [local irreducible] wpQuiet

def rankOf (p a u : Int) : Int := if isB p 0 9 && timeOk a && timeOk u then 100 * p + min a 50 - min u 90 else 0
theorem timeOk_true {n : Int} (h : timeOk n = true) : 0 ≤ n ∧ n ≤ 1000000 := isB_true h

theorem l01Min_any (a b : Int) (w : World) :
    Calls Tryz.prog 315 #[.int .i64 a, .int .i64 b] w fun e w' => e = .returned (.int .i64 (min a b)) ∧ w = w' := by
  go_enter Tryz.func315, Tryz.ntmps315
  go_wp2
  all_goals (go_ret; exact ⟨ret_int (by omega), rfl⟩)

theorem specRank_any (p a u : Int) (w : World) :
    Calls Tryz.prog 289 #[.int .i64 p, .int .i64 a, .int .i64 u] w fun e w' => e = .returned (.int .i64 (rankOf p a u)) ∧ w = w' := by
  by_cases hp : isB p 0 9 = true <;> by_cases ha : timeOk a = true <;> by_cases hu : timeOk u = true
  · have h1 := isB_true hp
    have h2 := timeOk_true ha
    have h3 := timeOk_true hu
    go_enter Tryz.func289, Tryz.ntmps289
    go_wp2_with (first | (go_at_call 73; refine (l02Is_any _ _ _ _).mono ?_; rintro e w' ⟨rfl, rfl⟩) | (go_at_call 255; refine (l02Time_any _ _).mono ?_; rintro e w' ⟨rfl, rfl⟩) | (go_at_call 315; refine (l01Min_any _ _ _).mono ?_; rintro e w' ⟨rfl, rfl⟩))
    go_ret
    exact ⟨ret_int (by simp [rankOf, hp, ha, hu]), rfl⟩
  all_goals
    simp only [Bool.not_eq_true] at *
    go_enter Tryz.func289, Tryz.ntmps289
    go_wp2_with (first | (go_at_call 73; refine (l02Is_any _ _ _ _).mono ?_; rintro e w' ⟨rfl, rfl⟩) | (go_at_call 255; refine (l02Time_any _ _).mono ?_; rintro e w' ⟨rfl, rfl⟩) | (go_at_call 315; refine (l01Min_any _ _ _).mono ?_; rintro e w' ⟨rfl, rfl⟩))
    go_ret
    exact ⟨ret_int (by simp [rankOf, *]), rfl⟩

theorem rank_any (p a u : Int) (w : World) :
    Calls Tryz.prog 190 #[.int .i64 p, .int .i64 a, .int .i64 u] w fun e w' => e = .returned (.int .i64 (rankOf p a u)) ∧ w = w' := by
  by_cases hp : isB p 0 9 = true <;> by_cases ha : timeOk a = true <;> by_cases hu : timeOk u = true
  · have h1 := isB_true hp
    have h2 := timeOk_true ha
    have h3 := timeOk_true hu
    go_enter Tryz.func190, Tryz.ntmps190
    go_wp2_with (first | (go_at_call 130; refine (within_any _ _ _ _).mono ?_; rintro e w' ⟨rfl, rfl⟩) | (go_at_call 256; refine (isTime_any _ _).mono ?_; rintro e w' ⟨rfl, rfl⟩))
    all_goals (go_ret; exact ⟨ret_int (by simp [rankOf, hp, ha, hu]; try omega), rfl⟩)
  all_goals
    simp only [Bool.not_eq_true] at *
    go_enter Tryz.func190, Tryz.ntmps190
    go_wp2_with (first | (go_at_call 130; refine (within_any _ _ _ _).mono ?_; rintro e w' ⟨rfl, rfl⟩) | (go_at_call 256; refine (isTime_any _ _).mono ?_; rintro e w' ⟨rfl, rfl⟩))
    go_ret
    exact ⟨ret_int (by simp [rankOf, *]), rfl⟩
end Go.Proofs.YtngldifgcgblpaaGreat

namespace Go.Proofs.YtngldifgcgblpaaGreat
open Go.RowKit
attribute [local irreducible] wpQuiet

def rankT (y : Yard) (t : Task) : Int := rankOf t.prio (y.now - t.born) (useOf y.uses t.label t.owner)
def cmpT (y : Yard) (a b : Task) : Int := orOf [cmpLabels a.label b.label, cmp3 (rankT y b) (rankT y a), cmp3 a.id b.id]
def goesT (y : Yard) (t : Task) : Bool := decide (t.state = 2) || readyB y.tasks t
def orderT (y : Yard) : List Task := sortL (cmpT y) (y.tasks.filter (goesT y))
def firstT (y : Yard) (a b : Task) : Bool := if ¬ a.label = b.label then decide (keyOf a.label < keyOf b.label) else if ¬ rankT y a = rankT y b then decide (rankT y b < rankT y a) else decide (a.id < b.id)
theorem orOf_three (a b c : Int) : orOf [a, b, c] = if a = 0 then (if b = 0 then c else b) else a := by
  simp only [orOf]
  split <;> (try split) <;> (try split) <;> simp_all
theorem lin_T (y : Yard) : Lin (cmpT y) := by
  have := Lin.lex (lin_labels.comap Task.label) (Lin.lex ((Lin.flip lin_cmp3).comap (rankT y)) (lin_cmp3.comap Task.id))
  have e : cmpT y = fun a b => if cmpLabels a.label b.label = 0 then (if cmp3 (rankT y b) (rankT y a) = 0 then cmp3 a.id b.id else cmp3 (rankT y b) (rankT y a)) else cmpLabels a.label b.label := by funext a b; rw [cmpT, orOf_three]
  rw [e]; exact this
theorem cmp3_lt {a b : Int} : cmp3 a b < 0 ↔ a < b := by
  unfold cmp3
  split
  · omega
  · split <;> omega
theorem first_cmp {y : Yard} {a b : Task} (ha : labelRight a.label = true) (hb : labelRight b.label = true) : firstT y a b = decide (cmpT y a b < 0) := by
  unfold firstT cmpT
  rw [orOf_three]
  rcases cmp_key ha hb with ⟨h1, h2⟩ | ⟨h1, h2⟩ | ⟨h1, h2⟩
  · have hne : ¬ a.label = b.label := fun e => by rw [e] at h1; omega
    rw [if_pos hne, if_neg (by omega), decide_eq_true h1, decide_eq_true h2]
  · rw [if_neg (by simp [h1]), if_pos h2]
    by_cases hr : rankT y a = rankT y b
    · rw [if_neg (by simp [hr]), hr, if_pos (by simp [cmp3]), decide_eq_decide]
      exact cmp3_lt.symm
    · have h3 : ¬ cmp3 (rankT y b) (rankT y a) = 0 := fun e => hr (cmp3_eq e).symm
      rw [if_pos hr, if_neg h3, decide_eq_decide]
      exact cmp3_lt.symm
  · have hne : ¬ a.label = b.label := fun e => by rw [e] at h1; omega
    rw [if_pos hne, if_neg (by omega), decide_eq_decide]
    omega
theorem right_at {l : List Task} (h : tasksRight l = true) {k : Nat} (hk : k < l.length) : taskRight (nth l k) = true := by
  simp only [tasksRight, Bool.and_eq_true, List.all_eq_true, List.mem_range] at h
  have := h.2 k hk
  simp only [tI, Bool.and_eq_true] at this
  exact this.1.1
/-- No two tasks of a right row are alike. -/
theorem apart {y : Yard} {i j : Nat} (h : tasksRight y.tasks = true) (hj : j < y.tasks.length) (hij : i < j) : cmpT y (nth y.tasks i) (nth y.tasks j) ≠ 0 := by
  unfold cmpT
  rw [orOf_three]
  have hr := fun k hk => (right_at h (k := k) hk)
  rcases cmp_key (taskRight_label (hr i (by omega))) (taskRight_label (hr j hj)) with ⟨h1, h2⟩ | ⟨h1, h2⟩ | ⟨h1, h2⟩
  · rw [if_neg (by omega)]; omega
  · rw [if_pos h2]
    have ho := (order_of hj (fun k hk => by
      have h' := h
      simp only [tasksRight, Bool.and_eq_true, List.all_eq_true, List.mem_range] at h'
      exact h'.2 k hk) (Nat.le_of_lt hij)).2 h1
    split
    · intro e
      have := cmp3_eq e
      omega
    · assumption
  · rw [if_neg (by omega)]; omega
theorem apart_all {y : Yard} (h : tasksRight y.tasks = true) : y.tasks.Pairwise fun a b => cmpT y a b ≠ 0 := by
  rw [List.pairwise_iff_getElem]
  intro i j hi hj hij
  have := apart h hj hij
  rwa [nth_eq hi, nth_eq hj] at this
theorem apart_some {y : Yard} (h : tasksRight y.tasks = true) (p : Task → Bool) : (y.tasks.filter p).Pairwise fun a b => cmpT y a b ≠ 0 := (apart_all h).filter p
end Go.Proofs.YtngldifgcgblpaaGreat

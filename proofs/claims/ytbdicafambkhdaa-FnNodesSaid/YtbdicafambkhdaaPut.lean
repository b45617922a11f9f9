/- SpanPut and what it stands on: the program's and the reference's. -/
import Derived.Test.YtbdicafambkhdaaInsSpan
import Derived.Test.YtbdicafambkhdaaClones
import Derived.Test.YtbdicafambkhdaaBookCut
import Derived.BigQuiet
namespace Go.Proofs.Ytbdicafambkhdaa
open Go.RowKit
attribute [local irreducible] wpQuiet

def laps (x o : Span) : Bool := decide (o.from_ < x.to_) && decide (x.from_ < o.to_)
def freeOf (l : List Span) (x : Span) : Bool := !(l.any (laps x))
def ahead (x o : Span) : Bool := decide (o.from_ < x.from_)
/-- Where x goes. -/
def insAt (l : List Span) (x : Span) : Nat := (l.takeWhile (ahead x)).length
def spanIns (l : List Span) (x : Span) : List Span := l.take (insAt l x) ++ x :: l.drop (insAt l x)
theorem insAt_le (l : List Span) (x : Span) : insAt l x ≤ l.length := by
  unfold insAt
  induction l with
  | nil => simp
  | cons y l ih =>
    rw [List.takeWhile_cons]
    split
    · simpa using ih
    · simp
theorem insAt_low : ∀ (l : List Span) (x : Span) (k : Nat), k < insAt l x → (nth l k).from_ < x.from_
  | [], x, k, h => by simp [insAt] at h
  | y :: l, x, k, h => by
    unfold insAt at h
    rw [List.takeWhile_cons] at h
    split at h
    · rename_i hy
      rcases k with _ | k
      · simpa [ahead, nth] using hy
      · exact insAt_low l x k (by unfold insAt; simpa using h)
    · simp at h
theorem insAt_at : ∀ (l : List Span) (x : Span), insAt l x < l.length → ¬ (nth l (insAt l x)).from_ < x.from_
  | [], x, h => by simp at h
  | y :: l, x, h => by
    unfold insAt at h ⊢
    rw [List.takeWhile_cons] at h ⊢
    split
    · rename_i hy
      rw [if_pos hy] at h
      exact insAt_at l x (by unfold insAt; simpa using h)
    · rename_i hy
      simpa [ahead, nth] using hy
theorem spanIns_length (l : List Span) (x : Span) : (spanIns l x).length = l.length + 1 := by
  have := insAt_le l x
  simp [spanIns]
  omega
theorem free_all {l : List Span} {x : Span} (h : freeOf l x = true) {k : Nat} (hk : k < l.length) : laps x (nth l k) = false := by
  unfold freeOf at h
  simp only [Bool.not_eq_true', List.any_eq_false] at h
  simpa using h _ (nth_mem hk)
theorem free_no {l : List Span} {x : Span} {k : Nat} (hk : k < l.length) (h : laps x (nth l k) = true) : freeOf l x = false := by
  unfold freeOf
  simp only [Bool.not_eq_false', List.any_eq_true]
  exact ⟨_, nth_mem hk, h⟩
theorem free_yes {l : List Span} {x : Span} (h : ∀ k, k < l.length → laps x (nth l k) = false) : freeOf l x = true := by
  unfold freeOf
  simp only [Bool.not_eq_true', List.any_eq_false]
  intro y hy
  obtain ⟨i, hi, rfl⟩ := List.getElem_of_mem hy
  have := h i hi
  rw [nth_eq hi] at this
  simpa using this
theorem Rd.drop {α : Type} {E : Elem α} {S : Nat → Prop} {w : World} {b o n c k : Nat} {l : List α} (h : Rd E S w (.slice (some ⟨b, o, none⟩) n c) l) (hk : k ≤ l.length) : Rd E S w (.slice (some ⟨b, o + k * E.size, none⟩) (n - k) (c - k)) (l.drop k) := by
  obtain ⟨A, c', hv, h1, h2, hall⟩ := h
  injection hv with e1 e2 e3
  subst e1 e2 e3
  refine ⟨_, _, by rw [List.length_drop], by rw [List.length_drop]; omega, by omega, fun j x hx => ?_⟩
  rw [List.getElem?_drop] at hx
  obtain ⟨b', o', cs, hA, hS, hr, hc⟩ := hall _ x hx
  injection hA with hA
  cases hA
  refine ⟨_, _, cs, rfl, hS, hr, ?_⟩
  rw [show o + k * E.size + j * E.size = o + (k + j) * E.size by rw [Nat.add_mul]; omega]
  exact hc

theorem quiet_ext {w0 w V : World} {n : Nat} (h : w.drewN n = V) (hx : Ext w0 w) : Ext w0 V := by subst h; exact hx.trans ⟨rfl, rfl, rfl, Nat.le_refl _, fun _ _ => rfl⟩
theorem call_isFree1 : ∀ (args : Array Value) (W : World), (callFunc 128 args).run Try.prog W = .ok (.enter 128 args) W := by
  intro args W
  go_simp
set_option maxHeartbeats 2000000 in
theorem isFree1_any {S : Nat → Prop} (o x : Span) (cs : List Value) (B : Nat) (w : World) (h : ESpan.rel S w cs o) (d0 : w.cell? ⟨B, 0, none⟩ = some (.int .i64 x.from_)) (d1 : w.cell? ⟨B, 1, none⟩ = some (.int .i64 x.to_)) :
    Calls Try.prog 128 #[.agg cs.toArray, .pointer (some ⟨B, 0, none⟩)] w fun e w' => e = .returned (.bool (laps x o)) ∧ Ext w w' := by
  obtain ⟨rfl, _⟩ := h
  have d0' := fun ob : Obj => Ext.some ((Ext.refl w).alloc ob) d0
  have d1' := fun ob : Obj => Ext.some ((Ext.refl w).alloc ob) d1
  simp only [cellsSpan]
  go_enter Try.func128, Try.ntmps128
  go_wp2_with fail
  all_goals (go_ret; exact ⟨ret_bool (by unfold laps; simp_all <;> omega), (Ext.refl _).alloc _⟩)

set_option maxHeartbeats 2000000 in
theorem isFree_any {S : Nat → Prop} (l : List Span) (x : Span) (v : Value) (w : World) (h : Rd ESpan S w v l) :
    Calls Try.prog 57 #[v, .agg #[.int .i64 x.from_, .int .i64 x.to_]] w fun e w' => e = .returned (.bool (freeOf l x)) ∧ Ext w w' := by
  have HR := Lib.hid h
  obtain ⟨A, c, rfl, h1, h2⟩ := h.form
  clear h
  go_enter Try.func57, Try.ntmps57
  go_upto_region 1 with (fail)
  obtain ⟨W, B, hW, hB, hx0, b0⟩ : ∃ W B, W = w.alloc (.cells #[.int .i64 x.from_, .int .i64 x.to_] 25) ∧ B = w.heap.size ∧ Ext w W ∧ Blk W B 25 #[.int .i64 x.from_, .int .i64 x.to_] := ⟨_, _, rfl, rfl, (Ext.refl w).alloc _, Blk.new _ _ _⟩
  rw [← hW, ← hB]
  have B0 := Lib.hid b0
  have X0 := Lib.hid hx0
  clear hW hB hx0 b0
  go_wp2_with fail
  refine (containsFunc_Span_1 (S := S) l (laps x) _ 128 _ _ (HR.out.ext X0.out) call_isFree1 (fun cs o w3 hx hr => isFree1_any o x cs _ w3 hr (Ext.some hx (B0.out.cell 0)) (Ext.some hx (B0.out.cell 1)))).mono ?_
  rintro e w2 ⟨rfl, hx2⟩
  have X2 := Lib.hid (X0.out.trans hx2)
  clear hx2
  go_wp2_with fail
  go_ret
  exact ⟨ret_bool (by rw [freeOf]), X2.out⟩

set_option maxHeartbeats 4000000 in
theorem l03Free_any {S : Nat → Prop} (l : List Span) (x : Span) (v : Value) (w : World) (h : Rd ESpan S w v l) :
    Calls Try.prog 64 #[v, .agg #[.int .i64 x.from_, .int .i64 x.to_]] w fun e w' => e = .returned (.bool (freeOf l x)) ∧ Ext w w' := by
  obtain ⟨A, c, rfl, h1, h2, hk⟩ := h.span
  unfold maxLen at h2
  have HK := Lib.hid hk
  clear hk h
  go_enter Try.func64, Try.ntmps64
  go_upto_region 1 with (fail)
  obtain ⟨W, B, hW, hB, hx0, b0⟩ : ∃ W B, W = w.alloc (.cells #[.int .i64 x.from_, .int .i64 x.to_] 25) ∧ B = w.heap.size ∧ Ext w W ∧ Blk W B 25 #[.int .i64 x.from_, .int .i64 x.to_] := ⟨_, _, rfl, rfl, (Ext.refl w).alloc _, Blk.new _ _ _⟩
  rw [← hW, ← hB]
  have B0 := Lib.hid b0
  have X0 := Lib.hid hx0
  clear hW hB hx0 b0
  go_wp2_with fail
  go_loopw [5] (fun i w' => ∃ k : Nat, k ≤ l.length ∧ i = .int .i64 k ∧ (∀ j, j < k → laps x (nth l j) = false) ∧ Ext W w') (fun i _ => l.length - (intOf i).toNat)
  case atStart => exact ⟨0, by omega, rfl, fun j hj => by omega, Ext.refl _⟩
  case round =>
    obtain ⟨k, hk1, rfl, hall, hx⟩ := hrel
    have HA := Lib.hid hall
    have HX := Lib.hid hx
    clear hall
    by_cases hlt : k < l.length
    · obtain ⟨b, o, rfl, hb, c0, c1⟩ := HK.out k hlt
      have c0' := Ext.some (X0.out.trans hx) c0
      have c1' := Ext.some (X0.out.trans hx) c1
      have b0' : wr.cell? ⟨B, 0, none⟩ = some (.int .i64 x.from_) := Ext.some hx (B0.out.cell 0)
      have b1' : wr.cell? ⟨B, 1, none⟩ = some (.int .i64 x.to_) := Ext.some hx (B0.out.cell 1)
      clear c0 c1 hb hx
      have hi : (k : Int) < (l.length : Int) := by omega
      have hi0 : (0 : Int) ≤ (k : Int) := Int.natCast_nonneg _
      by_cases hp : laps x (nth l k) = true
      · have HF : Hid (freeOf l x = false) := Lib.hid (free_no hlt hp)
        have hq := hp
        unfold laps at hq
        simp only [Bool.and_eq_true, decide_eq_true_eq] at hq
        obtain ⟨q1, q2⟩ := hq
        clear hp
        go_wp2_with fail
        go_quiet (fail)
        generalize hV : wr.drewN _ = V
        have XV := Lib.hid (quiet_ext hV (X0.out.trans HX.out))
        clear hV
        go_wp2_with fail
        go_ret
        exact ⟨ret_bool HF.out.symm, XV.out⟩
      · simp only [Bool.not_eq_true] at hp
        have HE := Lib.hid (all_succ HA.out hp)
        by_cases q1 : (nth l k).from_ < x.to_
        · have q2 : ¬ x.from_ < (nth l k).to_ := by
            intro q2
            unfold laps at hp
            simp [q1, q2] at hp
          clear hp
          go_wp2_with fail
          go_quiet (fail)
          generalize hV : wr.drewN _ = V
          have XV := Lib.hid (quiet_ext hV HX.out)
          clear hV
          go_wp2_with fail
          go_roundw
          case rel => exact ⟨k + 1, by omega, by go_num, HE.out, XV.out⟩
          case measure => simp [intOf]; omega
        · clear hp
          have q1' : decide ((nth l k).from_ < x.to_) = false := by simpa using q1
          go_wp2_with fail
          go_quiet (fail)
          generalize hV : wr.drewN _ = V
          have XV := Lib.hid (quiet_ext hV HX.out)
          clear hV
          go_wp2_with fail
          go_roundw
          case rel => exact ⟨k + 1, by omega, by go_num, HE.out, XV.out⟩
          case measure => simp [intOf]; omega
    · obtain rfl : k = l.length := by omega
      have HE : Hid (freeOf l x = true) := Lib.hid (free_yes HA.out)
      go_wp2_with fail
      go_ret
      exact ⟨ret_bool HE.out.symm, X0.out.trans HX.out⟩
-- printed by wip/put.py
set_option maxHeartbeats 8000000 in
set_option maxRecDepth 100000 in
theorem l03Put_some {S : Nat → Prop} (l : List Span) (x : Span) (v : Value) (w : World) (h : Rd ESpan S w v l) (h0 : 0 < l.length) (hl : l.length ≤ 1000) (hf : FitSpan x) :
    Calls Try.prog 66 #[v, .agg #[.int .i64 x.from_, .int .i64 x.to_]] w (RetO OSpan 25 (spanIns l x) w) := by
  have HR := Lib.hid h
  obtain ⟨A, c, rfl, h1, h2, hk⟩ := h.span
  have hcm := Lib.hid h2
  unfold maxLen at h2
  have HK := Lib.hid hk
  have HF := Lib.hid hf
  have HP := Lib.hid (insAt_le l x)
  obtain ⟨b0, o0, hA, -⟩ := hk 0 h0
  subst hA
  have HLT : Hid ((l.take (insAt l x)).length = insAt l x) := Lib.hid (by rw [List.length_take]; have := insAt_le l x; omega)
  clear hk h hf
  go_enter Try.func66, Try.ntmps66
  go_upto_region 1 with (fail)
  obtain ⟨W, B, hW, hB, hBl, hx0, b0⟩ : ∃ W B, W = w.alloc (.cells #[.int .i64 x.from_, .int .i64 x.to_] 25) ∧ B = w.heap.size ∧ w.heap.size ≤ B ∧ Ext w W ∧ Blk W B 25 #[.int .i64 x.from_, .int .i64 x.to_] := ⟨_, _, rfl, rfl, Nat.le_refl _, (Ext.refl w).alloc _, Blk.new _ _ _⟩
  rw [← hW, ← hB]
  have B0 := Lib.hid b0
  have X0 := Lib.hid hx0
  clear hW hB hx0 b0 hBl
  go_wp2_with fail
  go_loopw [5] (fun i w' => ∃ k : Nat, k ≤ insAt l x ∧ i = .int .i64 k ∧ Ext W w') (fun i _ => l.length - (intOf i).toNat)
  case atStart => exact ⟨0, by omega, rfl, Ext.refl _⟩
  case round =>
    obtain ⟨k, hk1, rfl, hx⟩ := hrel
    have HX := Lib.hid hx
    have hi0 : (0 : Int) ≤ (k : Int) := Int.natCast_nonneg _
    have b0' : wr.cell? ⟨B, 0, none⟩ = some (.int .i64 x.from_) := Ext.some hx (B0.out.cell 0)
    have b1' : wr.cell? ⟨B, 1, none⟩ = some (.int .i64 x.to_) := Ext.some hx (B0.out.cell 1)
    have hle := HP.out
    by_cases hlt : k < insAt l x
    · obtain ⟨b, o, hbo, hb, c0, c1⟩ := HK.out k (by omega)
      cases hbo
      have c0' := Ext.some (X0.out.trans hx) c0
      have c1' := Ext.some (X0.out.trans hx) c1
      have q1 := insAt_low l x k hlt
      clear c0 c1 hb hx
      have hi : (k : Int) < (l.length : Int) := by omega
      go_wp2_with fail
      go_quiet (fail)
      generalize hV : wr.drewN _ = V
      have XV := Lib.hid (quiet_ext hV HX.out)
      clear hV
      go_wp2_with fail
      go_roundw
      case rel => exact ⟨k + 1, by omega, by go_num, XV.out⟩
      case measure => simp [intOf]; omega
    · obtain rfl : k = insAt l x := by omega
      generalize hp : insAt l x = p at *
      have HPL := Lib.hid hp
      by_cases hpl : p < l.length
      · obtain ⟨b, o, hbo, hb, c0, c1⟩ := HK.out p hpl
        cases hbo
        have c0' := Ext.some (X0.out.trans hx) c0
        have c1' := Ext.some (X0.out.trans hx) c1
        have q1 : decide ((nth l p).from_ < x.from_) = false := by have := insAt_at l x (by rw [hp]; exact hpl); rw [hp] at this; simpa using this
        clear c0 c1 hb hx hp hlt hk1
        have hi : (p : Int) < (l.length : Int) := by omega
        have hpc : ¬ (c = p) := by omega
        have hi2 : (p : Int) ≤ (l.length : Int) := by omega
        have hi3 : (p : Int) ≤ (c : Int) := by omega
        go_wp2_with fail
        go_quiet (fail)
        generalize hV : wr.drewN _ = V
        have XV := Lib.hid (quiet_ext hV (X0.out.trans HX.out))
        have b0' : V.cell? ⟨B, 0, none⟩ = some (.int .i64 x.from_) := Ext.some (quiet_ext hV (Ext.refl _)) b0'
        have b1' : V.cell? ⟨B, 1, none⟩ = some (.int .i64 x.to_) := Ext.some (quiet_ext hV (Ext.refl _)) b1'
        clear hV c0' c1'
        go_upto_region 5 with (at_builtin; refine wpList_append_flat (E := ESpan) (T := 25) (hfl := fun h => h) (l := ([] : List Span)) (ys := l.take p) (F := []) (S := S) rfl _ _ 39 rfl (.agg #[.int .i64 0, .int .i64 0]) 2 16 Try.underlying39 (by kernel_rfl) rfl rfl rfl (OwS.nil _) rfl (Rd.take (HR.out.ext (XV.out.alloc _)) (by omega)) (by simp only [List.length_nil, List.length_take]; unfold maxLen; omega) (by simp only [List.length_nil, List.length_take]; omega) ?_; intro v1 w1 F1 o1 k1 f1; have O1 := Lib.hid o1; have F1h : Hid (∀ b ∈ F1, (V).heap.size ≤ b) := Lib.hid (fun b hb => by rcases f1 b hb with h | h; cases h; exact Nat.le_trans ((Ext.refl _).alloc _).size h); have X1 := Lib.hid (k1.ext (XV.out.alloc _) (fun b hb => by cases hb)); have d0 : w1.cell? ⟨B, 0, none⟩ = some (.int .i64 x.from_) := k1.cell (by simp) (((Ext.refl _).alloc _).some b0'); have d1 : w1.cell? ⟨B, 1, none⟩ = some (.int .i64 x.to_) := k1.cell (by simp) (((Ext.refl _).alloc _).some b1'); have X1v : Hid (Ext V w1) := Lib.hid (k1.ext ((Ext.refl _).alloc _) (fun b hb => by cases hb)); have F1w : Hid (∀ b ∈ F1, w.heap.size ≤ b) := Lib.hid (fun b hb => Nat.le_trans (XV.out).size (F1h.out b hb)); clear o1 k1 f1)
        go_upto_region 6 with (at_builtin; refine wpList_append_one (O := OSpan) (T := 25) (l := l.take p) (F := F1) (G := []) (y := x) (cs := [.int .i64 x.from_, .int .i64 x.to_]) rfl _ _ 39 rfl (.agg #[.int .i64 0, .int .i64 0]) 2 16 Try.underlying39 (by kernel_rfl) rfl rfl rfl (O1.out.ext ((Ext.refl _).alloc _)) _ 0 1 rfl ⟨rel_Span HF.out, rfl⟩ (Blk.new _ _ _).range (by simpa using O1.out.nodup) (by rw [List.length_take]; omega) (by decide) ?_; intro v2 w2 F2 o2 k2 f2; have O2 := Lib.hid o2; have F2h : Hid (∀ b ∈ F2, (V).heap.size ≤ b) := Lib.hid (fun b hb => by rcases f2 b hb with h | h | h; exact F1h.out b h; cases h; exact Nat.le_trans (X1v.out).size (Nat.le_trans ((Ext.refl _).alloc _).size h)); have F1q := F1w; have X2 := Lib.hid (k2.ext (X1.out.alloc _) F1w.out); have F2w : Hid (∀ b ∈ F2, w.heap.size ≤ b) := Lib.hid (fun b hb => Nat.le_trans (XV.out).size (F2h.out b hb)); clear o2 k2 f2)
        go_wp2_with (at_builtin; refine wpList_append_flat (E := ESpan) (T := 25) (hfl := fun h => h) (l := l.take p ++ [x]) (ys := l.drop p) (F := F2) (S := S) rfl _ _ 39 rfl (.agg #[.int .i64 0, .int .i64 0]) 2 16 Try.underlying39 (by kernel_rfl) rfl rfl rfl O2.out rfl (Rd.drop (HR.out.ext X2.out) (by omega)) (by simp only [List.length_append, List.length_cons, List.length_nil, List.length_take, List.length_drop]; unfold maxLen; omega) (by simp only [List.length_append, List.length_cons, List.length_nil, List.length_take, List.length_drop]; omega) ?_; intro v3 w3 F3 o3 k3 f3; have O3 := Lib.hid o3; have X3 := Lib.hid (k3.ext X2.out F2w.out); have F3h : Hid (∀ b ∈ F3, w.heap.size ≤ b) := Lib.hid (fun b hb => by rcases f3 b hb with h | h; exact F2w.out b h; exact Nat.le_trans X2.out.size h); clear o3 k3 f3)
        go_ret
        exact ⟨_, F3, rfl, by rw [spanIns, HPL.out]; have o3 := O3.out; simp at o3 ⊢; exact o3, F3h.out, X3.out⟩
      · have hpe : p = l.length := by omega
        subst hpe
        have q0 : ¬ l.length = 0 := by omega
        go_wp2_with fail
        go_quiet (fail)
        generalize hV : wr.drewN _ = V
        have XV := Lib.hid (quiet_ext hV (X0.out.trans HX.out))
        have b0' : V.cell? ⟨B, 0, none⟩ = some (.int .i64 x.from_) := Ext.some (quiet_ext hV (Ext.refl _)) b0'
        have b1' : V.cell? ⟨B, 1, none⟩ = some (.int .i64 x.to_) := Ext.some (quiet_ext hV (Ext.refl _)) b1'
        clear hV
        have hnil : l.drop l.length = [] := List.drop_length
        have hi2 : (0 : Int) ≤ (l.length : Int) := by omega
        have hi3 : (l.length : Int) ≤ (c : Int) := by omega
        have HC := Lib.hid (show c - l.length ≤ maxLen by have := hcm.out; omega)
        clear hp hlt hk1 hx hpl
        by_cases hcp : c = l.length
        · subst hcp
          go_upto_region 5 with (at_builtin; refine wpList_append_flat (E := ESpan) (T := 25) (hfl := fun h => h) (l := ([] : List Span)) (ys := l.take l.length) (F := []) (S := S) rfl _ _ 39 rfl (.agg #[.int .i64 0, .int .i64 0]) 2 16 Try.underlying39 (by kernel_rfl) rfl rfl rfl (OwS.nil _) rfl (Rd.take (HR.out.ext (XV.out.alloc _)) (by omega)) (by simp only [List.length_nil, List.length_take]; unfold maxLen; omega) (by simp only [List.length_nil, List.length_take]; omega) ?_; intro v1 w1 F1 o1 k1 f1; have O1 := Lib.hid o1; have F1h : Hid (∀ b ∈ F1, (V).heap.size ≤ b) := Lib.hid (fun b hb => by rcases f1 b hb with h | h; cases h; exact Nat.le_trans ((Ext.refl _).alloc _).size h); have X1 := Lib.hid (k1.ext (XV.out.alloc _) (fun b hb => by cases hb)); have d0 : w1.cell? ⟨B, 0, none⟩ = some (.int .i64 x.from_) := k1.cell (by simp) (((Ext.refl _).alloc _).some b0'); have d1 : w1.cell? ⟨B, 1, none⟩ = some (.int .i64 x.to_) := k1.cell (by simp) (((Ext.refl _).alloc _).some b1'); have X1v : Hid (Ext V w1) := Lib.hid (k1.ext ((Ext.refl _).alloc _) (fun b hb => by cases hb)); have F1w : Hid (∀ b ∈ F1, w.heap.size ≤ b) := Lib.hid (fun b hb => Nat.le_trans (XV.out).size (F1h.out b hb)); clear o1 k1 f1)
          go_upto_region 6 with (at_builtin; refine wpList_append_one (O := OSpan) (T := 25) (l := l.take l.length) (F := F1) (G := []) (y := x) (cs := [.int .i64 x.from_, .int .i64 x.to_]) rfl _ _ 39 rfl (.agg #[.int .i64 0, .int .i64 0]) 2 16 Try.underlying39 (by kernel_rfl) rfl rfl rfl (O1.out.ext ((Ext.refl _).alloc _)) _ 0 1 rfl ⟨rel_Span HF.out, rfl⟩ (Blk.new _ _ _).range (by simpa using O1.out.nodup) (by rw [List.length_take]; omega) (by decide) ?_; intro v2 w2 F2 o2 k2 f2; have O2 := Lib.hid o2; have F2h : Hid (∀ b ∈ F2, (V).heap.size ≤ b) := Lib.hid (fun b hb => by rcases f2 b hb with h | h | h; exact F1h.out b h; cases h; exact Nat.le_trans (X1v.out).size (Nat.le_trans ((Ext.refl _).alloc _).size h)); have F1q := F1w; have X2 := Lib.hid (k2.ext (X1.out.alloc _) F1w.out); have F2w : Hid (∀ b ∈ F2, w.heap.size ≤ b) := Lib.hid (fun b hb => Nat.le_trans (XV.out).size (F2h.out b hb)); clear o2 k2 f2)
          go_wp2_with (at_builtin; refine wpList_append_flat (E := ESpan) (T := 25) (hfl := fun h => h) (l := l.take l.length ++ [x]) (ys := ([] : List Span)) (F := F2) (S := S) rfl _ _ 39 rfl (.agg #[.int .i64 0, .int .i64 0]) 2 16 Try.underlying39 (by kernel_rfl) rfl rfl rfl O2.out rfl (Rd.nil (by decide)) (by simp only [List.length_append, List.length_cons, List.length_nil, List.length_take]; unfold maxLen; omega) (by simp only [List.length_append, List.length_cons, List.length_nil, List.length_take]; omega) ?_; intro v3 w3 F3 o3 k3 f3; have O3 := Lib.hid o3; have X3 := Lib.hid (k3.ext X2.out F2w.out); have F3h : Hid (∀ b ∈ F3, w.heap.size ≤ b) := Lib.hid (fun b hb => by rcases f3 b hb with h | h; exact F2w.out b h; exact Nat.le_trans X2.out.size h); clear o3 k3 f3)
          go_ret
          exact ⟨_, F3, rfl, by rw [spanIns, HPL.out]; have o3 := O3.out; simp [hnil] at o3 ⊢; exact o3, F3h.out, X3.out⟩
        · skip
          go_upto_region 5 with (at_builtin; refine wpList_append_flat (E := ESpan) (T := 25) (hfl := fun h => h) (l := ([] : List Span)) (ys := l.take l.length) (F := []) (S := S) rfl _ _ 39 rfl (.agg #[.int .i64 0, .int .i64 0]) 2 16 Try.underlying39 (by kernel_rfl) rfl rfl rfl (OwS.nil _) rfl (Rd.take (HR.out.ext (XV.out.alloc _)) (by omega)) (by simp only [List.length_nil, List.length_take]; unfold maxLen; omega) (by simp only [List.length_nil, List.length_take]; omega) ?_; intro v1 w1 F1 o1 k1 f1; have O1 := Lib.hid o1; have F1h : Hid (∀ b ∈ F1, (V).heap.size ≤ b) := Lib.hid (fun b hb => by rcases f1 b hb with h | h; cases h; exact Nat.le_trans ((Ext.refl _).alloc _).size h); have X1 := Lib.hid (k1.ext (XV.out.alloc _) (fun b hb => by cases hb)); have d0 : w1.cell? ⟨B, 0, none⟩ = some (.int .i64 x.from_) := k1.cell (by simp) (((Ext.refl _).alloc _).some b0'); have d1 : w1.cell? ⟨B, 1, none⟩ = some (.int .i64 x.to_) := k1.cell (by simp) (((Ext.refl _).alloc _).some b1'); have X1v : Hid (Ext V w1) := Lib.hid (k1.ext ((Ext.refl _).alloc _) (fun b hb => by cases hb)); have F1w : Hid (∀ b ∈ F1, w.heap.size ≤ b) := Lib.hid (fun b hb => Nat.le_trans (XV.out).size (F1h.out b hb)); clear o1 k1 f1)
          go_upto_region 6 with (at_builtin; refine wpList_append_one (O := OSpan) (T := 25) (l := l.take l.length) (F := F1) (G := []) (y := x) (cs := [.int .i64 x.from_, .int .i64 x.to_]) rfl _ _ 39 rfl (.agg #[.int .i64 0, .int .i64 0]) 2 16 Try.underlying39 (by kernel_rfl) rfl rfl rfl (O1.out.ext ((Ext.refl _).alloc _)) _ 0 1 rfl ⟨rel_Span HF.out, rfl⟩ (Blk.new _ _ _).range (by simpa using O1.out.nodup) (by rw [List.length_take]; omega) (by decide) ?_; intro v2 w2 F2 o2 k2 f2; have O2 := Lib.hid o2; have F2h : Hid (∀ b ∈ F2, (V).heap.size ≤ b) := Lib.hid (fun b hb => by rcases f2 b hb with h | h | h; exact F1h.out b h; cases h; exact Nat.le_trans (X1v.out).size (Nat.le_trans ((Ext.refl _).alloc _).size h)); have F1q := F1w; have X2 := Lib.hid (k2.ext (X1.out.alloc _) F1w.out); have F2w : Hid (∀ b ∈ F2, w.heap.size ≤ b) := Lib.hid (fun b hb => Nat.le_trans (XV.out).size (F2h.out b hb)); clear o2 k2 f2)
          go_wp2_with (at_builtin; refine wpList_append_flat (E := ESpan) (T := 25) (hfl := fun h => h) (l := l.take l.length ++ [x]) (ys := ([] : List Span)) (F := F2) (S := S) rfl _ _ 39 rfl (.agg #[.int .i64 0, .int .i64 0]) 2 16 Try.underlying39 (by kernel_rfl) rfl rfl rfl O2.out rfl (Rd.nil HC.out) (by simp only [List.length_append, List.length_cons, List.length_nil, List.length_take]; unfold maxLen; omega) (by simp only [List.length_append, List.length_cons, List.length_nil, List.length_take]; omega) ?_; intro v3 w3 F3 o3 k3 f3; have O3 := Lib.hid o3; have X3 := Lib.hid (k3.ext X2.out F2w.out); have F3h : Hid (∀ b ∈ F3, w.heap.size ≤ b) := Lib.hid (fun b hb => by rcases f3 b hb with h | h; exact F2w.out b h; exact Nat.le_trans X2.out.size h); clear o3 k3 f3)
          go_ret
          exact ⟨_, F3, rfl, by rw [spanIns, HPL.out]; have o3 := O3.out; simp [hnil] at o3 ⊢; exact o3, F3h.out, X3.out⟩
set_option maxHeartbeats 8000000 in
set_option maxRecDepth 100000 in
theorem l03Put_nil {S : Nat → Prop} (x : Span) (A : Option Addr) (c : Nat) (w : World) (hcm : c ≤ maxLen) (hf : FitSpan x) :
    Calls Try.prog 66 #[.slice A 0 c, .agg #[.int .i64 x.from_, .int .i64 x.to_]] w (RetO OSpan 25 [x] w) := by
  have HF := Lib.hid hf
  have HC := Lib.hid hcm
  unfold maxLen at hcm
  have hi3 : (0 : Int) ≤ (c : Int) := Int.natCast_nonneg _
  clear hf
  go_enter Try.func66, Try.ntmps66
  go_upto_region 1 with (fail)
  obtain ⟨W, B, hW, hB, hBl, hx0, b0⟩ : ∃ W B, W = w.alloc (.cells #[.int .i64 x.from_, .int .i64 x.to_] 25) ∧ B = w.heap.size ∧ w.heap.size ≤ B ∧ Ext w W ∧ Blk W B 25 #[.int .i64 x.from_, .int .i64 x.to_] := ⟨_, _, rfl, rfl, Nat.le_refl _, (Ext.refl w).alloc _, Blk.new _ _ _⟩
  rw [← hW, ← hB]
  have B0 := Lib.hid b0
  have X0 := Lib.hid hx0
  clear hW hB hx0 b0 hBl
  go_wp2_with fail
  go_loopw [5] (fun i w' => i = .int .i64 0 ∧ Ext W w') (fun i _ => 1 - (intOf i).toNat)
  case atStart => exact ⟨rfl, Ext.refl _⟩
  case round =>
    obtain ⟨rfl, hx⟩ := hrel
    have HX := Lib.hid hx
    have b0' : wr.cell? ⟨B, 0, none⟩ = some (.int .i64 x.from_) := Ext.some hx (B0.out.cell 0)
    have b1' : wr.cell? ⟨B, 1, none⟩ = some (.int .i64 x.to_) := Ext.some hx (B0.out.cell 1)
    clear hx
    go_wp2_with fail
    go_quiet (fail)
    generalize hV : wr.drewN _ = V
    have XV := Lib.hid (quiet_ext hV (X0.out.trans HX.out))
    have b0' : V.cell? ⟨B, 0, none⟩ = some (.int .i64 x.from_) := Ext.some (quiet_ext hV (Ext.refl _)) b0'
    have b1' : V.cell? ⟨B, 1, none⟩ = some (.int .i64 x.to_) := Ext.some (quiet_ext hV (Ext.refl _)) b1'
    clear hV
    cases A with
    | none =>
      go_upto_region 5 with (at_builtin; refine wpList_append_flat (E := ESpan) (T := 25) (hfl := fun h => h) (l := ([] : List Span)) (ys := ([] : List Span)) (F := []) (S := S) rfl _ _ 39 rfl (.agg #[.int .i64 0, .int .i64 0]) 2 16 Try.underlying39 (by kernel_rfl) rfl rfl rfl (OwS.nil _) rfl (Rd.nil (S := S) HC.out) (by simp only [List.length_nil]; unfold maxLen; omega) (by simp only [List.length_nil]; omega) ?_; intro v1 w1 F1 o1 k1 f1; have O1 := Lib.hid o1; have F1h : Hid (∀ b ∈ F1, (V).heap.size ≤ b) := Lib.hid (fun b hb => by rcases f1 b hb with h | h; cases h; exact Nat.le_trans ((Ext.refl _).alloc _).size h); have X1 := Lib.hid (k1.ext (XV.out.alloc _) (fun b hb => by cases hb)); have d0 : w1.cell? ⟨B, 0, none⟩ = some (.int .i64 x.from_) := k1.cell (by simp) (((Ext.refl _).alloc _).some b0'); have d1 : w1.cell? ⟨B, 1, none⟩ = some (.int .i64 x.to_) := k1.cell (by simp) (((Ext.refl _).alloc _).some b1'); have X1v : Hid (Ext V w1) := Lib.hid (k1.ext ((Ext.refl _).alloc _) (fun b hb => by cases hb)); have F1w : Hid (∀ b ∈ F1, w.heap.size ≤ b) := Lib.hid (fun b hb => Nat.le_trans (XV.out).size (F1h.out b hb)); clear o1 k1 f1)
      go_upto_region 6 with (at_builtin; refine wpList_append_one (O := OSpan) (T := 25) (l := ([] : List Span)) (F := F1) (G := []) (y := x) (cs := [.int .i64 x.from_, .int .i64 x.to_]) rfl _ _ 39 rfl (.agg #[.int .i64 0, .int .i64 0]) 2 16 Try.underlying39 (by kernel_rfl) rfl rfl rfl (O1.out.ext ((Ext.refl _).alloc _)) _ 0 1 rfl ⟨rel_Span HF.out, rfl⟩ (Blk.new _ _ _).range (by simpa using O1.out.nodup) (by decide) (by decide) ?_; intro v2 w2 F2 o2 k2 f2; have O2 := Lib.hid o2; have F2h : Hid (∀ b ∈ F2, (V).heap.size ≤ b) := Lib.hid (fun b hb => by rcases f2 b hb with h | h | h; exact F1h.out b h; cases h; exact Nat.le_trans (X1v.out).size (Nat.le_trans ((Ext.refl _).alloc _).size h)); have F1q := F1w; have X2 := Lib.hid (k2.ext (X1.out.alloc _) F1w.out); have F2w : Hid (∀ b ∈ F2, w.heap.size ≤ b) := Lib.hid (fun b hb => Nat.le_trans (XV.out).size (F2h.out b hb)); clear o2 k2 f2)
      go_wp2_with (at_builtin; refine wpList_append_flat (E := ESpan) (T := 25) (hfl := fun h => h) (l := [x]) (ys := ([] : List Span)) (F := F2) (S := S) rfl _ _ 39 rfl (.agg #[.int .i64 0, .int .i64 0]) 2 16 Try.underlying39 (by kernel_rfl) rfl rfl rfl O2.out rfl (Rd.nil HC.out) (by simp only [List.length_cons, List.length_nil]; unfold maxLen; omega) (by simp only [List.length_cons, List.length_nil]; omega) ?_; intro v3 w3 F3 o3 k3 f3; have O3 := Lib.hid o3; have X3 := Lib.hid (k3.ext X2.out F2w.out); have F3h : Hid (∀ b ∈ F3, w.heap.size ≤ b) := Lib.hid (fun b hb => by rcases f3 b hb with h | h; exact F2w.out b h; exact Nat.le_trans X2.out.size h); clear o3 k3 f3)
      go_ret
      exact ⟨_, F3, rfl, by have o3 := O3.out; simp at o3; exact o3, F3h.out, X3.out⟩
    | some a =>
      obtain ⟨b, o, sp⟩ := a
      by_cases hcp : c = 0
      · subst hcp
        go_upto_region 5 with (at_builtin; refine wpList_append_flat (E := ESpan) (T := 25) (hfl := fun h => h) (l := ([] : List Span)) (ys := ([] : List Span)) (F := []) (S := S) rfl _ _ 39 rfl (.agg #[.int .i64 0, .int .i64 0]) 2 16 Try.underlying39 (by kernel_rfl) rfl rfl rfl (OwS.nil _) rfl (Rd.nil (S := S) HC.out) (by simp only [List.length_nil]; unfold maxLen; omega) (by simp only [List.length_nil]; omega) ?_; intro v1 w1 F1 o1 k1 f1; have O1 := Lib.hid o1; have F1h : Hid (∀ b ∈ F1, (V).heap.size ≤ b) := Lib.hid (fun b hb => by rcases f1 b hb with h | h; cases h; exact Nat.le_trans ((Ext.refl _).alloc _).size h); have X1 := Lib.hid (k1.ext (XV.out.alloc _) (fun b hb => by cases hb)); have d0 : w1.cell? ⟨B, 0, none⟩ = some (.int .i64 x.from_) := k1.cell (by simp) (((Ext.refl _).alloc _).some b0'); have d1 : w1.cell? ⟨B, 1, none⟩ = some (.int .i64 x.to_) := k1.cell (by simp) (((Ext.refl _).alloc _).some b1'); have X1v : Hid (Ext V w1) := Lib.hid (k1.ext ((Ext.refl _).alloc _) (fun b hb => by cases hb)); have F1w : Hid (∀ b ∈ F1, w.heap.size ≤ b) := Lib.hid (fun b hb => Nat.le_trans (XV.out).size (F1h.out b hb)); clear o1 k1 f1)
        go_upto_region 6 with (at_builtin; refine wpList_append_one (O := OSpan) (T := 25) (l := ([] : List Span)) (F := F1) (G := []) (y := x) (cs := [.int .i64 x.from_, .int .i64 x.to_]) rfl _ _ 39 rfl (.agg #[.int .i64 0, .int .i64 0]) 2 16 Try.underlying39 (by kernel_rfl) rfl rfl rfl (O1.out.ext ((Ext.refl _).alloc _)) _ 0 1 rfl ⟨rel_Span HF.out, rfl⟩ (Blk.new _ _ _).range (by simpa using O1.out.nodup) (by decide) (by decide) ?_; intro v2 w2 F2 o2 k2 f2; have O2 := Lib.hid o2; have F2h : Hid (∀ b ∈ F2, (V).heap.size ≤ b) := Lib.hid (fun b hb => by rcases f2 b hb with h | h | h; exact F1h.out b h; cases h; exact Nat.le_trans (X1v.out).size (Nat.le_trans ((Ext.refl _).alloc _).size h)); have F1q := F1w; have X2 := Lib.hid (k2.ext (X1.out.alloc _) F1w.out); have F2w : Hid (∀ b ∈ F2, w.heap.size ≤ b) := Lib.hid (fun b hb => Nat.le_trans (XV.out).size (F2h.out b hb)); clear o2 k2 f2)
        go_wp2_with (at_builtin; refine wpList_append_flat (E := ESpan) (T := 25) (hfl := fun h => h) (l := [x]) (ys := ([] : List Span)) (F := F2) (S := S) rfl _ _ 39 rfl (.agg #[.int .i64 0, .int .i64 0]) 2 16 Try.underlying39 (by kernel_rfl) rfl rfl rfl O2.out rfl (Rd.nil (by decide)) (by simp only [List.length_cons, List.length_nil]; unfold maxLen; omega) (by simp only [List.length_cons, List.length_nil]; omega) ?_; intro v3 w3 F3 o3 k3 f3; have O3 := Lib.hid o3; have X3 := Lib.hid (k3.ext X2.out F2w.out); have F3h : Hid (∀ b ∈ F3, w.heap.size ≤ b) := Lib.hid (fun b hb => by rcases f3 b hb with h | h; exact F2w.out b h; exact Nat.le_trans X2.out.size h); clear o3 k3 f3)
        go_ret
        exact ⟨_, F3, rfl, by have o3 := O3.out; simp at o3; exact o3, F3h.out, X3.out⟩
      · skip
        go_upto_region 5 with (at_builtin; refine wpList_append_flat (E := ESpan) (T := 25) (hfl := fun h => h) (l := ([] : List Span)) (ys := ([] : List Span)) (F := []) (S := S) rfl _ _ 39 rfl (.agg #[.int .i64 0, .int .i64 0]) 2 16 Try.underlying39 (by kernel_rfl) rfl rfl rfl (OwS.nil _) rfl (Rd.nil (S := S) HC.out) (by simp only [List.length_nil]; unfold maxLen; omega) (by simp only [List.length_nil]; omega) ?_; intro v1 w1 F1 o1 k1 f1; have O1 := Lib.hid o1; have F1h : Hid (∀ b ∈ F1, (V).heap.size ≤ b) := Lib.hid (fun b hb => by rcases f1 b hb with h | h; cases h; exact Nat.le_trans ((Ext.refl _).alloc _).size h); have X1 := Lib.hid (k1.ext (XV.out.alloc _) (fun b hb => by cases hb)); have d0 : w1.cell? ⟨B, 0, none⟩ = some (.int .i64 x.from_) := k1.cell (by simp) (((Ext.refl _).alloc _).some b0'); have d1 : w1.cell? ⟨B, 1, none⟩ = some (.int .i64 x.to_) := k1.cell (by simp) (((Ext.refl _).alloc _).some b1'); have X1v : Hid (Ext V w1) := Lib.hid (k1.ext ((Ext.refl _).alloc _) (fun b hb => by cases hb)); have F1w : Hid (∀ b ∈ F1, w.heap.size ≤ b) := Lib.hid (fun b hb => Nat.le_trans (XV.out).size (F1h.out b hb)); clear o1 k1 f1)
        go_upto_region 6 with (at_builtin; refine wpList_append_one (O := OSpan) (T := 25) (l := ([] : List Span)) (F := F1) (G := []) (y := x) (cs := [.int .i64 x.from_, .int .i64 x.to_]) rfl _ _ 39 rfl (.agg #[.int .i64 0, .int .i64 0]) 2 16 Try.underlying39 (by kernel_rfl) rfl rfl rfl (O1.out.ext ((Ext.refl _).alloc _)) _ 0 1 rfl ⟨rel_Span HF.out, rfl⟩ (Blk.new _ _ _).range (by simpa using O1.out.nodup) (by decide) (by decide) ?_; intro v2 w2 F2 o2 k2 f2; have O2 := Lib.hid o2; have F2h : Hid (∀ b ∈ F2, (V).heap.size ≤ b) := Lib.hid (fun b hb => by rcases f2 b hb with h | h | h; exact F1h.out b h; cases h; exact Nat.le_trans (X1v.out).size (Nat.le_trans ((Ext.refl _).alloc _).size h)); have F1q := F1w; have X2 := Lib.hid (k2.ext (X1.out.alloc _) F1w.out); have F2w : Hid (∀ b ∈ F2, w.heap.size ≤ b) := Lib.hid (fun b hb => Nat.le_trans (XV.out).size (F2h.out b hb)); clear o2 k2 f2)
        go_wp2_with (at_builtin; refine wpList_append_flat (E := ESpan) (T := 25) (hfl := fun h => h) (l := [x]) (ys := ([] : List Span)) (F := F2) (S := S) rfl _ _ 39 rfl (.agg #[.int .i64 0, .int .i64 0]) 2 16 Try.underlying39 (by kernel_rfl) rfl rfl rfl O2.out rfl (Rd.nil HC.out) (by simp only [List.length_cons, List.length_nil]; unfold maxLen; omega) (by simp only [List.length_cons, List.length_nil]; omega) ?_; intro v3 w3 F3 o3 k3 f3; have O3 := Lib.hid o3; have X3 := Lib.hid (k3.ext X2.out F2w.out); have F3h : Hid (∀ b ∈ F3, w.heap.size ≤ b) := Lib.hid (fun b hb => by rcases f3 b hb with h | h; exact F2w.out b h; exact Nat.le_trans X2.out.size h); clear o3 k3 f3)
        go_ret
        exact ⟨_, F3, rfl, by have o3 := O3.out; simp at o3; exact o3, F3h.out, X3.out⟩
theorem l03Put_any {S : Nat → Prop} (l : List Span) (x : Span) (v : Value) (w : World) (h : Rd ESpan S w v l) (hl : l.length ≤ 1000) (hf : FitSpan x) :
    Calls Try.prog 66 #[v, .agg #[.int .i64 x.from_, .int .i64 x.to_]] w (RetO OSpan 25 (spanIns l x) w) := by
  rcases Nat.eq_zero_or_pos l.length with h0 | h0
  · obtain rfl := List.eq_nil_of_length_eq_zero h0
    obtain ⟨A, c, rfl, -, h2⟩ := h.form
    exact l03Put_nil (S := S) x A c w h2 hf
  · exact l03Put_some l x v w h h0 hl hf
set_option maxHeartbeats 2000000 in
theorem IsFree_any {S : Nat → Prop} (l : List Span) (x : Span) (v : Value) (w : World) (h : Rd ESpan S w v l) :
    Calls Try.prog 17 #[v, .agg #[.int .i64 x.from_, .int .i64 x.to_]] w fun e w' => e = .returned (.bool (spansRight l && spanRight x && freeOf l x)) ∧ Ext w w' := by
  have HR := Lib.hid h
  obtain ⟨A, c, rfl, h1, h2⟩ := h.form
  clear h
  go_enter Try.func17, Try.ntmps17
  go_upto_region 1 with (fail)
  obtain ⟨W, B, hW, hB, hBl, hx0, b0⟩ : ∃ W B, W = w.alloc (.cells #[.int .i64 x.from_, .int .i64 x.to_] 25) ∧ B = w.heap.size ∧ w.heap.size ≤ B ∧ Ext w W ∧ Blk W B 25 #[.int .i64 x.from_, .int .i64 x.to_] := ⟨_, _, rfl, rfl, Nat.le_refl _, (Ext.refl w).alloc _, Blk.new _ _ _⟩
  rw [← hW, ← hB]
  have B0 := Lib.hid b0
  have X0 := Lib.hid hx0
  clear hW hB hx0 b0 hBl
  have b0' : W.cell? ⟨B, 0, none⟩ = some (.int .i64 x.from_) := B0.out.cell 0
  have b1' : W.cell? ⟨B, 1, none⟩ = some (.int .i64 x.to_) := B0.out.cell 1
  go_wp2_with (first | (go_at_call 74; (with_reducible refine (spansRight_any (S := S) l _ _ (HR.out.ext X0.out)).mono ?_); rintro e w1 ⟨rfl, hx1⟩; have X1 := Lib.hid (X0.out.trans hx1); have B1 := Lib.hid (B0.out.ext hx1); clear hx1 b0' b1'; have b0' : w1.cell? ⟨B, 0, none⟩ = some (.int .i64 x.from_) := B1.out.cell 0; have b1' : w1.cell? ⟨B, 1, none⟩ = some (.int .i64 x.to_) := B1.out.cell 1) | (go_at_call 54; (with_reducible refine (spanRight_any x _).mono ?_); rintro e w2 ⟨rfl, hx2⟩; have X2 := Lib.hid (X1.out.trans hx2); have B2 := Lib.hid (B1.out.ext hx2); clear hx2 b0' b1'; have b0' : w2.cell? ⟨B, 0, none⟩ = some (.int .i64 x.from_) := B2.out.cell 0; have b1' : w2.cell? ⟨B, 1, none⟩ = some (.int .i64 x.to_) := B2.out.cell 1) | (go_at_call 57; (with_reducible refine (isFree_any (S := S) l x _ _ (HR.out.ext X2.out)).mono ?_); rintro e w3 ⟨rfl, hx3⟩; have X3 := Lib.hid (X2.out.trans hx3); clear hx3))
  all_goals (go_ret; exact ⟨ret_bool (by simp_all), by first | exact X3.out | exact X2.out | exact X1.out⟩)
set_option maxHeartbeats 8000000 in
set_option maxRecDepth 100000 in
theorem spanPut_any {S : Nat → Prop} (l : List Span) (x : Span) (v : Value) (w : World) (h : Rd ESpan S w v l) (hl : l.length < 20) (hs : spansRight l = true) (hxr : spanRight x = true) (hfr : freeOf l x = true) (hf : FitSpan x) :
    Calls Try.prog 59 #[v, .agg #[.int .i64 x.from_, .int .i64 x.to_]] w (RetO OSpan 25 (spanIns l x) w) := by
  have HR := Lib.hid h
  obtain ⟨A, c, rfl, h1, h2⟩ := h.form
  unfold maxLen at h2
  have HF := Lib.hid hf
  have HP := Lib.hid (insAt_le l x)
  have HS := Lib.hid hs
  have HX := Lib.hid hxr
  have HFr := Lib.hid hfr
  clear h hf
  go_enter Try.func59, Try.ntmps59
  go_upto_region 1 with (fail)
  obtain ⟨W, B, hW, hB, hBl, hx0, b0⟩ : ∃ W B, W = w.alloc (.cells #[.int .i64 x.from_, .int .i64 x.to_] 25) ∧ B = w.heap.size ∧ w.heap.size ≤ B ∧ Ext w W ∧ Blk W B 25 #[.int .i64 x.from_, .int .i64 x.to_] := ⟨_, _, rfl, rfl, Nat.le_refl _, (Ext.refl w).alloc _, Blk.new _ _ _⟩
  rw [← hW, ← hB]
  have B0 := Lib.hid b0
  have X0 := Lib.hid hx0
  clear hW hB hx0 b0 hBl
  have b0' : W.cell? ⟨B, 0, none⟩ = some (.int .i64 x.from_) := B0.out.cell 0
  have b1' : W.cell? ⟨B, 1, none⟩ = some (.int .i64 x.to_) := B0.out.cell 1
  go_upto_region 4 with (go_at_call 129; (with_reducible refine (cloneSpan_any (S := S) l _ _ (HR.out.ext X0.out) (by omega)).mono ?_); rintro e w1 ⟨v1, F1, rfl, o1, f1, hx1⟩; obtain ⟨A1, c1, rfl, -⟩ := o1.form; have O1 := Lib.hid o1; have F1h := Lib.hid f1; have X1 := Lib.hid (X0.out.trans hx1); have B1 := Lib.hid (B0.out.ext hx1); clear o1 f1 hx1 b0' b1'; have b0' : w1.cell? ⟨B, 0, none⟩ = some (.int .i64 x.from_) := B1.out.cell 0; have b1' : w1.cell? ⟨B, 1, none⟩ = some (.int .i64 x.to_) := B1.out.cell 1)
  have hq : (spansRight l && spanRight x && freeOf l x) = true := by rw [hs, hxr, hfr]; rfl
  have HQ := Lib.hid hq
  clear hs hxr hfr hq
  have hn20 : ¬ (l.length : Int) = 20 := by omega
  go_upto_region 6 with (go_at_call 17; (with_reducible refine (IsFree_any (S := S) l x _ _ (HR.out.ext X1.out)).mono ?_); rintro e w2 ⟨rfl, hx2⟩; rw [HQ.out]; have X2 := Lib.hid (X1.out.trans hx2); have X12 := Lib.hid hx2; have B2 := Lib.hid (B1.out.ext hx2); have O2 := Lib.hid (O1.out.ext hx2); clear hx2 b0' b1'; have b0' : w2.cell? ⟨B, 0, none⟩ = some (.int .i64 x.from_) := B2.out.cell 0; have b1' : w2.cell? ⟨B, 1, none⟩ = some (.int .i64 x.to_) := B2.out.cell 1)
  go_wp2_with fail
  obtain ⟨A2, c2, hv2, n1, n2, hk⟩ := (O2.out.rd).span
  injection hv2 with e1 e2 e3
  subst e1 e3
  clear e2
  unfold maxLen at n2
  have HK := Lib.hid hk
  clear hk
  go_loopw [6] (fun i w' => ∃ k : Nat, k ≤ insAt l x ∧ i = .int .i64 k ∧ Ext w2 w') (fun i _ => l.length - (intOf i).toNat)
  case atStart => exact ⟨0, by omega, rfl, Ext.refl _⟩
  case round =>
    obtain ⟨k, hk1, rfl, hx⟩ := hrel
    have HXr := Lib.hid hx
    have hi0 : (0 : Int) ≤ (k : Int) := Int.natCast_nonneg _
    have b0' : wr.cell? ⟨B, 0, none⟩ = some (.int .i64 x.from_) := Ext.some hx b0'
    have b1' : wr.cell? ⟨B, 1, none⟩ = some (.int .i64 x.to_) := Ext.some hx b1'
    have hle := HP.out
    by_cases hlt : k < insAt l x
    · obtain ⟨b, o, rfl, hb, c0, c1⟩ := HK.out k (by omega)
      have c0' := Ext.some hx c0
      have c1' := Ext.some hx c1
      have q1 := insAt_low l x k hlt
      clear c0 c1 hb hx
      have hi : (k : Int) < (l.length : Int) := by omega
      go_wp2_with fail
      go_quiet (fail)
      generalize hV : wr.drewN _ = V
      have XV := Lib.hid (quiet_ext hV HXr.out)
      clear hV
      go_wp2_with fail
      go_roundw
      case rel => exact ⟨k + 1, by omega, by go_num, XV.out⟩
      case measure => simp [intOf]; omega
    · obtain rfl : k = insAt l x := by omega
      generalize hp : insAt l x = p at *
      have HPL := Lib.hid hp
      by_cases hpl : p < l.length
      · obtain ⟨b, o, rfl, hb, c0, c1⟩ := HK.out p hpl
        have c0' := Ext.some hx c0
        have c1' := Ext.some hx c1
        have q1 : decide ((nth l p).from_ < x.from_) = false := by have := insAt_at l x (by rw [hp]; exact hpl); rw [hp] at this; simpa using this
        clear c0 c1 hb hx hp hlt hk1
        have hi : (p : Int) < (l.length : Int) := by omega
        go_wp2_with fail
        go_quiet (fail)
        generalize hV : wr.drewN _ = V
        have XV := Lib.hid (quiet_ext hV HXr.out)
        have b0' : V.cell? ⟨B, 0, none⟩ = some (.int .i64 x.from_) := Ext.some (quiet_ext hV (Ext.refl _)) b0'
        have b1' : V.cell? ⟨B, 1, none⟩ = some (.int .i64 x.to_) := Ext.some (quiet_ext hV (Ext.refl _)) b1'
        clear hV c0' c1'
        have HOV := Lib.hid (O2.out.ext XV.out)
        have XW := Lib.hid (X2.out.trans XV.out)
        have HI : Hid (∀ (V2 : World) (Bx : Nat), Ext V V2 → Blk V2 Bx 25 #[.int .i64 x.from_, .int .i64 x.to_] → V.heap.size ≤ Bx → Calls Try.prog 130 #[.slice (some ⟨b, o, none⟩) l.length c1, .int .i64 p, .slice (some ⟨Bx, 0, none⟩) 1 1] V2 (RetIns (l.take p ++ x :: l.drop p) F1 V2)) := Lib.hid (fun V2 Bx hV2 hb2 hge => by have h0 := insert_Span (l.take p) (l.drop p) x (.slice (some ⟨b, o, none⟩) l.length c1) F1 V2 Bx (by rw [List.take_append_drop]; exact HOV.out.ext hV2) (by rw [List.take_append_drop]; omega) hb2 HF.out (fun hm => by have := HOV.out.lt _ hm; omega); rw [show (l.take p).length = p by rw [List.length_take]; omega] at h0; exact h0)
        have XA := Lib.hid ((Ext.refl V).alloc (.cells #[.int .i64 x.from_, .int .i64 x.to_] 25))
        go_wp2_with (go_at_call 130; (with_reducible refine (HI.out _ V.heap.size XA.out (Blk.new _ _ _) (Nat.le_refl _)).mono ?_); rintro e w5 ⟨v5, F5, rfl, o5, k5, f5⟩; have O5 := Lib.hid o5; have K5 := Lib.hid k5; have F5h := Lib.hid f5; clear o5 k5 f5)
        go_ret
        exact ⟨_, F5, rfl, by rw [spanIns, HPL.out]; exact O5.out, fun b hb => by rcases F5h.out b hb with h | h; exact Nat.le_trans X0.out.size (F1h.out b h); exact Nat.le_trans (XW.out.trans XA.out).size h, K5.out.ext (XW.out.trans XA.out) (fun b hb => Nat.le_trans X0.out.size (F1h.out b hb))⟩
      · have hpe : p = l.length := by omega
        subst hpe
        clear hp hlt hk1 hx hpl
        go_wp2_with fail
        go_quiet (fail)
        generalize hV : wr.drewN _ = V
        have XV := Lib.hid (quiet_ext hV HXr.out)
        have b0' : V.cell? ⟨B, 0, none⟩ = some (.int .i64 x.from_) := Ext.some (quiet_ext hV (Ext.refl _)) b0'
        have b1' : V.cell? ⟨B, 1, none⟩ = some (.int .i64 x.to_) := Ext.some (quiet_ext hV (Ext.refl _)) b1'
        clear hV
        have HOV := Lib.hid (O2.out.ext XV.out)
        have XW := Lib.hid (X2.out.trans XV.out)
        have HI : Hid (∀ (V2 : World) (Bx : Nat), Ext V V2 → Blk V2 Bx 25 #[.int .i64 x.from_, .int .i64 x.to_] → V.heap.size ≤ Bx → Calls Try.prog 130 #[.slice A1 l.length c1, .int .i64 l.length, .slice (some ⟨Bx, 0, none⟩) 1 1] V2 (RetIns (l.take l.length ++ x :: l.drop l.length) F1 V2)) := Lib.hid (fun V2 Bx hV2 hb2 hge => by have h0 := insert_Span (l.take l.length) (l.drop l.length) x (.slice A1 l.length c1) F1 V2 Bx (by rw [List.take_append_drop]; exact HOV.out.ext hV2) (by rw [List.take_append_drop]; omega) hb2 HF.out (fun hm => by have := HOV.out.lt _ hm; omega); rw [show (l.take l.length).length = l.length by rw [List.length_take]; omega] at h0; exact h0)
        have XA := Lib.hid ((Ext.refl V).alloc (.cells #[.int .i64 x.from_, .int .i64 x.to_] 25))
        go_wp2_with (go_at_call 130; (with_reducible refine (HI.out _ V.heap.size XA.out (Blk.new _ _ _) (Nat.le_refl _)).mono ?_); rintro e w5 ⟨v5, F5, rfl, o5, k5, f5⟩; have O5 := Lib.hid o5; have K5 := Lib.hid k5; have F5h := Lib.hid f5; clear o5 k5 f5)
        go_ret
        exact ⟨_, F5, rfl, by rw [spanIns, HPL.out]; exact O5.out, fun b hb => by rcases F5h.out b hb with h | h; exact Nat.le_trans X0.out.size (F1h.out b h); exact Nat.le_trans (XW.out.trans XA.out).size h, K5.out.ext (XW.out.trans XA.out) (fun b hb => Nat.le_trans X0.out.size (F1h.out b hb))⟩
end Go.Proofs.Ytbdicafambkhdaa

/- What each type of data has for itself in memory. Printed by wip/gen2.py. slices.Clone at the types that lead to no memory. -/
import Derived.Test.YtbdicafambkhdaaOwn
import Derived.Test.YtbdicafambkhdaaRows
import Derived.Lib.LazyBuf
namespace Go.Proofs.Ytbdicafambkhdaa
open Go.RowKit

def OInt : Own EInt := OFlat EInt fun h => h
def OSpan : Own ESpan := OFlat ESpan fun h => h
def OLabel : Own ELabel := OFlat ELabel fun h => h
def ONode : Own ENode where
  own := fun w cs x F => ∃ v1, cs = cellsNode x v1 ∧ FitNode x ∧ OwS OSpan 25 w v1 x.books F
  rel := by rintro _ _ _ _ ⟨v1, rfl, hf, h1⟩; exact ⟨_, rfl, hf, h1.rd⟩
  keep := by rintro _ _ _ _ _ hb ⟨v1, rfl, hf, h1⟩; exact ⟨_, rfl, hf, h1.keep hb⟩
  lt := by rintro _ _ _ _ ⟨_, rfl, _, h1⟩; exact h1.lt
  nodup := by rintro _ _ _ _ ⟨_, rfl, _, h1⟩; exact h1.nodup
def OUse : Own EUse := OFlat EUse fun h => h
def OTask : Own ETask where
  own := fun w cs x F => ∃ v1, cs = cellsTask x v1 ∧ FitTask x ∧ OwS OInt 2 w v1 x.nodes F
  rel := by rintro _ _ _ _ ⟨v1, rfl, hf, h1⟩; exact ⟨_, rfl, hf, h1.rd⟩
  keep := by rintro _ _ _ _ _ hb ⟨v1, rfl, hf, h1⟩; exact ⟨_, rfl, hf, h1.keep hb⟩
  lt := by rintro _ _ _ _ ⟨_, rfl, _, h1⟩; exact h1.lt
  nodup := by rintro _ _ _ _ ⟨_, rfl, _, h1⟩; exact h1.nodup
def OPair : Own EPair := OFlat EPair fun h => h
def OQuota : Own EQuota := OFlat EQuota fun h => h
def ONote : Own ENote := OFlat ENote fun h => h
def ONodesOut : Own ENodesOut where
  own := fun w cs x F => ∃ v1, cs = cellsNodesOut x v1 ∧ FitNodesOut x ∧ OwS ONode 42 w v1 x.nodes F
  rel := by rintro _ _ _ _ ⟨v1, rfl, hf, h1⟩; exact ⟨_, rfl, hf, h1.rd⟩
  keep := by rintro _ _ _ _ _ hb ⟨v1, rfl, hf, h1⟩; exact ⟨_, rfl, hf, h1.keep hb⟩
  lt := by rintro _ _ _ _ ⟨_, rfl, _, h1⟩; exact h1.lt
  nodup := by rintro _ _ _ _ ⟨_, rfl, _, h1⟩; exact h1.nodup
def OTaskOut : Own ETaskOut where
  own := fun w cs x F => ∃ v1, cs = cellsTaskOut x v1 ∧ FitTaskOut x ∧ OwS OInt 2 w v1 x.task.nodes F
  rel := by rintro _ _ _ _ ⟨v1, rfl, hf, h1⟩; exact ⟨_, rfl, hf, h1.rd⟩
  keep := by rintro _ _ _ _ _ hb ⟨v1, rfl, hf, h1⟩; exact ⟨_, rfl, hf, h1.keep hb⟩
  lt := by rintro _ _ _ _ ⟨_, rfl, _, h1⟩; exact h1.lt
  nodup := by rintro _ _ _ _ ⟨_, rfl, _, h1⟩; exact h1.nodup
end Go.Proofs.Ytbdicafambkhdaa

namespace Go.Proofs.Ytbdicafambkhdaa
open Go.RowKit
attribute [local irreducible] wpQuiet

set_option maxHeartbeats 1000000 in
set_option maxRecDepth 100000 in
theorem cloneInt_any {S : Nat → Prop} (l : List Int) (v : Value) (w : World) (h : Rd EInt S w v l) (hl : l.length ≤ 1000000000) :
    Calls Try.prog 147 #[v] w (RetO OInt 2 l w) := by
  have HR := Lib.hid h
  obtain ⟨A, c, rfl, h1, h2, hk⟩ := h.open_
  unfold maxLen at h2
  have HK := Lib.hid hk
  have HL := Lib.hid hl
  clear hk h hl
  have hnil := fun (W : World) (a : Option Addr) (n c : Nat) => Go.Lib.run_eql_slice_nil (P := Try.prog) W 47 2 a n c 0 0 Try.underlying47
  cases A with
  | none =>
    obtain rfl : l = [] := by
      rcases Nat.eq_zero_or_pos l.length with h0 | h0
      · exact List.eq_nil_of_length_eq_zero h0
      · obtain ⟨_, _, _, h', _⟩ := HK.out 0 h0
        cases h'
    go_enter Try.func147, Try.ntmps147
    go_wp2_with fail
    go_ret
    exact ⟨_, [], rfl, OwS.nil _, fun b hb => (by cases hb), Ext.refl _⟩
  | some a =>
    obtain ⟨B, o, sp⟩ := a
    go_enter Try.func147, Try.ntmps147
    go_wp2_with (at_builtin; refine wpList_append_flat (E := EInt) (T := 2) (hfl := fun h => h) (l := []) (ys := l) (F := []) (S := S) rfl _ _ 47 rfl (.int .i64 0) 1 8 Try.underlying47 (by kernel_rfl) rfl rfl rfl ?ow rfl ?rd ?b1 ?b2 ?_; rotate_right; intro v' w1 F' how hkp hF'; have HOW := Lib.hid how; have HKP := Lib.hid hkp; have HFF := Lib.hid hF'; clear how hkp hF')
    case ow => exact OwS.nil _
    case rd => exact HR.out.ext ((Ext.refl _).alloc _)
    case b1 => have := HL.out; simp only [List.length_nil, maxLen]; omega
    case b2 => have := HL.out; simp only [List.length_nil]; omega
    go_ret
    exact ⟨_, F', rfl, HOW.out, fun b hb => (by rcases HFF.out b hb with h | h; cases h; exact Nat.le_trans ((Ext.refl w).alloc _).size h), HKP.out.ext ((Ext.refl _).alloc _) (fun b hb => by cases hb)⟩

set_option maxHeartbeats 1000000 in
set_option maxRecDepth 100000 in
theorem cloneSpan_any {S : Nat → Prop} (l : List Span) (v : Value) (w : World) (h : Rd ESpan S w v l) (hl : l.length ≤ 1000000000) :
    Calls Try.prog 129 #[v] w (RetO OSpan 25 l w) := by
  have HR := Lib.hid h
  obtain ⟨A, c, rfl, h1, h2, hk⟩ := h.open_
  unfold maxLen at h2
  have HK := Lib.hid hk
  have HL := Lib.hid hl
  clear hk h hl
  have hnil := fun (W : World) (a : Option Addr) (n c : Nat) => Go.Lib.run_eql_slice_nil (P := Try.prog) W 39 25 a n c 0 0 Try.underlying39
  cases A with
  | none =>
    obtain rfl : l = [] := by
      rcases Nat.eq_zero_or_pos l.length with h0 | h0
      · exact List.eq_nil_of_length_eq_zero h0
      · obtain ⟨_, _, _, h', _⟩ := HK.out 0 h0
        cases h'
    go_enter Try.func129, Try.ntmps129
    go_wp2_with fail
    go_ret
    exact ⟨_, [], rfl, OwS.nil _, fun b hb => (by cases hb), Ext.refl _⟩
  | some a =>
    obtain ⟨B, o, sp⟩ := a
    go_enter Try.func129, Try.ntmps129
    go_wp2_with (at_builtin; refine wpList_append_flat (E := ESpan) (T := 25) (hfl := fun h => h) (l := []) (ys := l) (F := []) (S := S) rfl _ _ 39 rfl (.agg #[.int .i64 0, .int .i64 0]) 2 16 Try.underlying39 (by kernel_rfl) rfl rfl rfl ?ow rfl ?rd ?b1 ?b2 ?_; rotate_right; intro v' w1 F' how hkp hF'; have HOW := Lib.hid how; have HKP := Lib.hid hkp; have HFF := Lib.hid hF'; clear how hkp hF')
    case ow => exact OwS.nil _
    case rd => exact HR.out.ext ((Ext.refl _).alloc _)
    case b1 => have := HL.out; simp only [List.length_nil, maxLen]; omega
    case b2 => have := HL.out; simp only [List.length_nil]; omega
    go_ret
    exact ⟨_, F', rfl, HOW.out, fun b hb => (by rcases HFF.out b hb with h | h; cases h; exact Nat.le_trans ((Ext.refl w).alloc _).size h), HKP.out.ext ((Ext.refl _).alloc _) (fun b hb => by cases hb)⟩

set_option maxHeartbeats 1000000 in
set_option maxRecDepth 100000 in
theorem cloneUse_any {S : Nat → Prop} (l : List Use) (v : Value) (w : World) (h : Rd EUse S w v l) (hl : l.length ≤ 1000000000) :
    Calls Try.prog 118 #[v] w (RetO OUse 124 l w) := by
  have HR := Lib.hid h
  obtain ⟨A, c, rfl, h1, h2, hk⟩ := h.open_
  unfold maxLen at h2
  have HK := Lib.hid hk
  have HL := Lib.hid hl
  clear hk h hl
  have hnil := fun (W : World) (a : Option Addr) (n c : Nat) => Go.Lib.run_eql_slice_nil (P := Try.prog) W 66 124 a n c 0 0 Try.underlying66
  cases A with
  | none =>
    obtain rfl : l = [] := by
      rcases Nat.eq_zero_or_pos l.length with h0 | h0
      · exact List.eq_nil_of_length_eq_zero h0
      · obtain ⟨_, _, _, h', _⟩ := HK.out 0 h0
        cases h'
    go_enter Try.func118, Try.ntmps118
    go_wp2_with fail
    go_ret
    exact ⟨_, [], rfl, OwS.nil _, fun b hb => (by cases hb), Ext.refl _⟩
  | some a =>
    obtain ⟨B, o, sp⟩ := a
    go_enter Try.func118, Try.ntmps118
    go_wp2_with (at_builtin; refine wpList_append_flat (E := EUse) (T := 124) (hfl := fun h => h) (l := []) (ys := l) (F := []) (S := S) rfl _ _ 66 rfl (.agg #[.int .i64 0, .int .i64 0, .string ⟨#[]⟩, .int .i64 0]) 4 40 Try.underlying66 (by kernel_rfl) rfl rfl rfl ?ow rfl ?rd ?b1 ?b2 ?_; rotate_right; intro v' w1 F' how hkp hF'; have HOW := Lib.hid how; have HKP := Lib.hid hkp; have HFF := Lib.hid hF'; clear how hkp hF')
    case ow => exact OwS.nil _
    case rd => exact HR.out.ext ((Ext.refl _).alloc _)
    case b1 => have := HL.out; simp only [List.length_nil, maxLen]; omega
    case b2 => have := HL.out; simp only [List.length_nil]; omega
    go_ret
    exact ⟨_, F', rfl, HOW.out, fun b hb => (by rcases HFF.out b hb with h | h; cases h; exact Nat.le_trans ((Ext.refl w).alloc _).size h), HKP.out.ext ((Ext.refl _).alloc _) (fun b hb => by cases hb)⟩
end Go.Proofs.Ytbdicafambkhdaa

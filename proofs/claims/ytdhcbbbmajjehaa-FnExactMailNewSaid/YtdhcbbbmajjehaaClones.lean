/- slices.Clone at the types that lead to no memory. -/
import Derived.Test.YtdhcbbbmajjehaaGOwn
import Derived.Test.YtdhcbbbmajjehaaRows
import Derived.Lib.LazyBuf
namespace Go.Proofs.Ytdhcbbbmajjehaa
open Go.RowKit
attribute [local irreducible] wpQuiet

set_option maxHeartbeats 1000000 in
set_option maxRecDepth 100000 in
theorem cloneInt_any {S : Nat → Prop} (l : List Int) (v : Value) (w : World) (h : Rd EInt S w v l) (hl : l.length ≤ 1000000000) :
    Calls Try.prog 197 #[v] w (RetO OInt 2 l w) := by
  have HR := Lib.hid h
  obtain ⟨A, c, rfl, h1, h2, hk⟩ := h.open_
  unfold maxLen at h2
  have HK := Lib.hid hk
  have HL := Lib.hid hl
  clear hk h hl
  have hnil := fun (W : World) (a : Option Addr) (n c : Nat) => Go.Lib.run_eql_slice_nil (P := Try.prog) W 57 2 a n c 0 0 Try.underlying57
  cases A with
  | none =>
    obtain rfl : l = [] := by
      rcases Nat.eq_zero_or_pos l.length with h0 | h0
      · exact List.eq_nil_of_length_eq_zero h0
      · obtain ⟨_, _, _, h', _⟩ := HK.out 0 h0
        cases h'
    go_enter Try.func197, Try.ntmps197
    go_wp2_with fail
    go_ret
    exact ⟨_, [], rfl, OwS.nil _, fun b hb => (by cases hb), Ext.refl _⟩
  | some a =>
    obtain ⟨B, o, sp⟩ := a
    go_enter Try.func197, Try.ntmps197
    go_wp2_with (at_builtin; refine wpList_append_flat (E := EInt) (T := 2) (hfl := fun h => h) (l := []) (ys := l) (F := []) (S := S) rfl _ _ 57 rfl (.int .i64 0) 1 8 Try.underlying57 (by kernel_rfl) rfl rfl rfl ?ow rfl ?rd ?b1 ?b2 ?_; rotate_right; intro v' w1 F' how hkp hF'; have HOW := Lib.hid how; have HKP := Lib.hid hkp; have HFF := Lib.hid hF'; clear how hkp hF')
    case ow => exact OwS.nil _
    case rd => exact HR.out.ext ((Ext.refl _).alloc _)
    case b1 => have := HL.out; simp only [List.length_nil, maxLen]; omega
    case b2 => have := HL.out; simp only [List.length_nil]; omega
    go_ret
    exact ⟨_, F', rfl, HOW.out, fun b hb => (by rcases HFF.out b hb with h | h; cases h; exact Nat.le_trans ((Ext.refl w).alloc _).size h), HKP.out.ext ((Ext.refl _).alloc _) (fun b hb => by cases hb)⟩

set_option maxHeartbeats 1000000 in
set_option maxRecDepth 100000 in
theorem cloneSpan_any {S : Nat → Prop} (l : List Span) (v : Value) (w : World) (h : Rd ESpan S w v l) (hl : l.length ≤ 1000000000) :
    Calls Try.prog 180 #[v] w (RetO OSpan 38 l w) := by
  have HR := Lib.hid h
  obtain ⟨A, c, rfl, h1, h2, hk⟩ := h.open_
  unfold maxLen at h2
  have HK := Lib.hid hk
  have HL := Lib.hid hl
  clear hk h hl
  have hnil := fun (W : World) (a : Option Addr) (n c : Nat) => Go.Lib.run_eql_slice_nil (P := Try.prog) W 52 38 a n c 0 0 Try.underlying52
  cases A with
  | none =>
    obtain rfl : l = [] := by
      rcases Nat.eq_zero_or_pos l.length with h0 | h0
      · exact List.eq_nil_of_length_eq_zero h0
      · obtain ⟨_, _, _, h', _⟩ := HK.out 0 h0
        cases h'
    go_enter Try.func180, Try.ntmps180
    go_wp2_with fail
    go_ret
    exact ⟨_, [], rfl, OwS.nil _, fun b hb => (by cases hb), Ext.refl _⟩
  | some a =>
    obtain ⟨B, o, sp⟩ := a
    go_enter Try.func180, Try.ntmps180
    go_wp2_with (at_builtin; refine wpList_append_flat (E := ESpan) (T := 38) (hfl := fun h => h) (l := []) (ys := l) (F := []) (S := S) rfl _ _ 52 rfl (.agg #[.int .i64 0, .int .i64 0]) 2 16 Try.underlying52 (by kernel_rfl) rfl rfl rfl ?ow rfl ?rd ?b1 ?b2 ?_; rotate_right; intro v' w1 F' how hkp hF'; have HOW := Lib.hid how; have HKP := Lib.hid hkp; have HFF := Lib.hid hF'; clear how hkp hF')
    case ow => exact OwS.nil _
    case rd => exact HR.out.ext ((Ext.refl _).alloc _)
    case b1 => have := HL.out; simp only [List.length_nil, maxLen]; omega
    case b2 => have := HL.out; simp only [List.length_nil]; omega
    go_ret
    exact ⟨_, F', rfl, HOW.out, fun b hb => (by rcases HFF.out b hb with h | h; cases h; exact Nat.le_trans ((Ext.refl w).alloc _).size h), HKP.out.ext ((Ext.refl _).alloc _) (fun b hb => by cases hb)⟩

set_option maxHeartbeats 1000000 in
set_option maxRecDepth 100000 in
theorem cloneUse_any {S : Nat → Prop} (l : List Use) (v : Value) (w : World) (h : Rd EUse S w v l) (hl : l.length ≤ 1000000000) :
    Calls Try.prog 81 #[v] w (RetO OUse 120 l w) := by
  have HR := Lib.hid h
  obtain ⟨A, c, rfl, h1, h2, hk⟩ := h.open_
  unfold maxLen at h2
  have HK := Lib.hid hk
  have HL := Lib.hid hl
  clear hk h hl
  have hnil := fun (W : World) (a : Option Addr) (n c : Nat) => Go.Lib.run_eql_slice_nil (P := Try.prog) W 23 120 a n c 0 0 Try.underlying23
  cases A with
  | none =>
    obtain rfl : l = [] := by
      rcases Nat.eq_zero_or_pos l.length with h0 | h0
      · exact List.eq_nil_of_length_eq_zero h0
      · obtain ⟨_, _, _, h', _⟩ := HK.out 0 h0
        cases h'
    go_enter Try.func81, Try.ntmps81
    go_wp2_with fail
    go_ret
    exact ⟨_, [], rfl, OwS.nil _, fun b hb => (by cases hb), Ext.refl _⟩
  | some a =>
    obtain ⟨B, o, sp⟩ := a
    go_enter Try.func81, Try.ntmps81
    go_wp2_with (at_builtin; refine wpList_append_flat (E := EUse) (T := 120) (hfl := fun h => h) (l := []) (ys := l) (F := []) (S := S) rfl _ _ 23 rfl (.agg #[.int .i64 0, .int .i64 0, .string ⟨#[]⟩, .int .i64 0]) 4 40 Try.underlying23 (by kernel_rfl) rfl rfl rfl ?ow rfl ?rd ?b1 ?b2 ?_; rotate_right; intro v' w1 F' how hkp hF'; have HOW := Lib.hid how; have HKP := Lib.hid hkp; have HFF := Lib.hid hF'; clear how hkp hF')
    case ow => exact OwS.nil _
    case rd => exact HR.out.ext ((Ext.refl _).alloc _)
    case b1 => have := HL.out; simp only [List.length_nil, maxLen]; omega
    case b2 => have := HL.out; simp only [List.length_nil]; omega
    go_ret
    exact ⟨_, F', rfl, HOW.out, fun b hb => (by rcases HFF.out b hb with h | h; cases h; exact Nat.le_trans ((Ext.refl w).alloc _).size h), HKP.out.ext ((Ext.refl _).alloc _) (fun b hb => by cases hb)⟩
end Go.Proofs.Ytdhcbbbmajjehaa

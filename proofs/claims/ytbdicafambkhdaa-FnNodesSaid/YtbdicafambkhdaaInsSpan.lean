/- slices.DeleteFunc at spans, on a slice that lies in memory of its own. slices.Delete at spans: one element of a slice that lies in memory of its own is struck. Rows of spans in memory, cell by cell; copy of elements of several cells. slices.Insert of spans: the cells that it writes. slices.Insert of one span into a slice that has its memory for itself. -/
import Derived.Test.YtbdicafambkhdaaNodeC
import Derived.Test.YtbdicafambkhdaaOrdU
import Derived.Test.YtbdicafambkhdaaClones
import Derived.Test.YtbdicafambkhdaaShelf
import Derived.Shelf.Spec.SlicesInsertGrow
namespace Go.Proofs.Ytbdicafambkhdaa
open Go.RowKit
attribute [local irreducible] wpQuiet

set_option maxHeartbeats 1000000 in
set_option maxRecDepth 50000 in
theorem indexFunc_Span {S : Nat → Prop} (l : List Span) (p : Span → Bool) (v : Value) (f : Nat) (caps : Array Value) (w : World) (h : Rd ESpan S w v l) (hcall : ∀ (args : Array Value) (W : World), (callFunc f args).run Try.prog W = .ok (.enter f args) W)
    (hf : ∀ (cs : List Value) (x : Span) (w1 : World), Ext w w1 → ESpan.rel S w1 cs x → Calls Try.prog f (#[.agg cs.toArray] ++ caps) w1 fun e w' => e = .returned (.bool (p x)) ∧ Ext w1 w') :
    Calls Try.prog 77 #[v, .func (.func f) #[] caps] w fun e w' => e = .returned (.int .i64 (idxOf p l)) ∧ Ext w w' := by
  obtain ⟨A, c, rfl, h1, h2, hk⟩ := h.open_
  unfold maxLen at h2
  have HK := Lib.hid hk
  have HF := Lib.hid hf
  clear hk h hf
  go_enter Try.func77, Try.ntmps77
  go_wp2_with fail
  go_loopw [8] (fun i w' => ∃ k : Nat, k ≤ l.length ∧ i = .int .i64 k ∧ (∀ j, j < k → p (nth l j) = false) ∧ Ext w w') (fun i _ => l.length - (intOf i).toNat)
  case atStart => exact ⟨0, by omega, rfl, fun j hj => by omega, Ext.refl _⟩
  case round =>
    obtain ⟨k, hk1, rfl, hall, hx⟩ := hrel
    have HA := Lib.hid hall
    have HX := Lib.hid hx
    clear hall
    by_cases hlt : k < l.length
    · obtain ⟨b, o, cs, rfl, hb, hr, hc⟩ := HK.out k hlt
      have HR := Lib.hid (ESpan.keep (hx.same S) hr)
      have HC := Lib.hid (hx.range hc)
      have HI : Hid ((Try.prog.info? 25).map (·.size) = some cs.length) := Lib.hid (by rw [ESpan.len hr]; kernel_rfl)
      clear hr hc hx
      by_cases hp : p (nth l k) = true
      · have HE : Hid (idxOf p l = k) := Lib.hid (idxOf_some hlt HA.out hp)
        go_wp2_with (first | (refine wpList_load_mid rfl 25 _ rfl b (o + k * 2) rfl cs _ HC.out Try.underlying25 rfl HI.out ?_) | ((with_reducible refine (HF.out cs (nth l k) _ HX.out HR.out).mono ?_); rintro e w1 ⟨rfl, hx1⟩; have HX1 := Lib.hid hx1; clear hx1))
        go_ret
        exact ⟨ret_int HE.out.symm, HX.out.trans HX1.out⟩
      · simp only [Bool.not_eq_true] at hp
        have HE := Lib.hid (all_succ HA.out hp)
        go_wp2_with (first | (refine wpList_load_mid rfl 25 _ rfl b (o + k * 2) rfl cs _ HC.out Try.underlying25 rfl HI.out ?_) | ((with_reducible refine (HF.out cs (nth l k) _ HX.out HR.out).mono ?_); rintro e w1 ⟨rfl, hx1⟩; have HX1 := Lib.hid hx1; clear hx1))
        go_roundw
        case rel => exact ⟨k + 1, by omega, by go_num, HE.out, HX.out.trans HX1.out⟩
        case measure => simp [intOf]; omega
    · have HE : Hid (idxOf p l = -1) := Lib.hid (idxOf_none fun j hj => HA.out j (by omega))
      go_wp2_with fail
      go_ret
      exact ⟨ret_int HE.out.symm, HX.out⟩

theorem containsFunc_Span {S : Nat → Prop} (l : List Span) (p : Span → Bool) (v : Value) (f : Nat) (caps : Array Value) (w : World) (h : Rd ESpan S w v l) (hcall : ∀ (args : Array Value) (W : World), (callFunc f args).run Try.prog W = .ok (.enter f args) W)
    (hf : ∀ (cs : List Value) (x : Span) (w1 : World), Ext w w1 → ESpan.rel S w1 cs x → Calls Try.prog f (#[.agg cs.toArray] ++ caps) w1 fun e w' => e = .returned (.bool (p x)) ∧ Ext w1 w') :
    Calls Try.prog 127 #[v, .func (.func f) #[] caps] w fun e w' => e = .returned (.bool (l.any p)) ∧ Ext w w' := by
  have HE := Lib.hid (idxOf_any (p := p) (l := l))
  have H := Lib.hid (indexFunc_Span l p v f caps w h hcall hf)
  clear h hcall hf
  go_enter Try.func127, Try.ntmps127
  go_wp2_with (refine H.out.mono ?_; rintro e w1 ⟨rfl, hx1⟩; have HX1 := Lib.hid hx1; clear hx1)
  go_ret
  exact ⟨ret_bool HE.out, HX1.out⟩
theorem indexFunc_Span_0 {S : Nat → Prop} (l : List Span) (p : Span → Bool) (v : Value) (f : Nat) (w : World) (h : Rd ESpan S w v l) (hcall : ∀ (args : Array Value) (W : World), (callFunc f args).run Try.prog W = .ok (.enter f args) W)
    (hf : ∀ (cs : List Value) (x : Span) (w1 : World), Ext w w1 → ESpan.rel S w1 cs x → Calls Try.prog f #[.agg cs.toArray] w1 fun e w' => e = .returned (.bool (p x)) ∧ Ext w1 w') :
    Calls Try.prog 77 #[v, .func (.func f) #[] #[]] w fun e w' => e = .returned (.int .i64 (idxOf p l)) ∧ Ext w w' :=
  indexFunc_Span l p v f #[] w h hcall fun cs x w1 hx hr => by rw [show (#[.agg cs.toArray] ++ #[] : Array Value) = #[.agg cs.toArray] from rfl]; exact hf cs x w1 hx hr
theorem containsFunc_Span_0 {S : Nat → Prop} (l : List Span) (p : Span → Bool) (v : Value) (f : Nat) (w : World) (h : Rd ESpan S w v l) (hcall : ∀ (args : Array Value) (W : World), (callFunc f args).run Try.prog W = .ok (.enter f args) W)
    (hf : ∀ (cs : List Value) (x : Span) (w1 : World), Ext w w1 → ESpan.rel S w1 cs x → Calls Try.prog f #[.agg cs.toArray] w1 fun e w' => e = .returned (.bool (p x)) ∧ Ext w1 w') :
    Calls Try.prog 127 #[v, .func (.func f) #[] #[]] w fun e w' => e = .returned (.bool (l.any p)) ∧ Ext w w' :=
  containsFunc_Span l p v f #[] w h hcall fun cs x w1 hx hr => by rw [show (#[.agg cs.toArray] ++ #[] : Array Value) = #[.agg cs.toArray] from rfl]; exact hf cs x w1 hx hr
theorem indexFunc_Span_1 {S : Nat → Prop} (l : List Span) (p : Span → Bool) (v : Value) (f : Nat) (c1 : Value) (w : World) (h : Rd ESpan S w v l) (hcall : ∀ (args : Array Value) (W : World), (callFunc f args).run Try.prog W = .ok (.enter f args) W)
    (hf : ∀ (cs : List Value) (x : Span) (w1 : World), Ext w w1 → ESpan.rel S w1 cs x → Calls Try.prog f #[.agg cs.toArray, c1] w1 fun e w' => e = .returned (.bool (p x)) ∧ Ext w1 w') :
    Calls Try.prog 77 #[v, .func (.func f) #[] #[c1]] w fun e w' => e = .returned (.int .i64 (idxOf p l)) ∧ Ext w w' :=
  indexFunc_Span l p v f #[c1] w h hcall fun cs x w1 hx hr => by rw [show (#[.agg cs.toArray] ++ #[c1] : Array Value) = #[.agg cs.toArray, c1] from rfl]; exact hf cs x w1 hx hr
theorem containsFunc_Span_1 {S : Nat → Prop} (l : List Span) (p : Span → Bool) (v : Value) (f : Nat) (c1 : Value) (w : World) (h : Rd ESpan S w v l) (hcall : ∀ (args : Array Value) (W : World), (callFunc f args).run Try.prog W = .ok (.enter f args) W)
    (hf : ∀ (cs : List Value) (x : Span) (w1 : World), Ext w w1 → ESpan.rel S w1 cs x → Calls Try.prog f #[.agg cs.toArray, c1] w1 fun e w' => e = .returned (.bool (p x)) ∧ Ext w1 w') :
    Calls Try.prog 127 #[v, .func (.func f) #[] #[c1]] w fun e w' => e = .returned (.bool (l.any p)) ∧ Ext w w' :=
  containsFunc_Span l p v f #[c1] w h hcall fun cs x w1 hx hr => by rw [show (#[.agg cs.toArray] ++ #[c1] : Array Value) = #[.agg cs.toArray, c1] from rfl]; exact hf cs x w1 hx hr
theorem indexFunc_Span_2 {S : Nat → Prop} (l : List Span) (p : Span → Bool) (v : Value) (f : Nat) (c1 c2 : Value) (w : World) (h : Rd ESpan S w v l) (hcall : ∀ (args : Array Value) (W : World), (callFunc f args).run Try.prog W = .ok (.enter f args) W)
    (hf : ∀ (cs : List Value) (x : Span) (w1 : World), Ext w w1 → ESpan.rel S w1 cs x → Calls Try.prog f #[.agg cs.toArray, c1, c2] w1 fun e w' => e = .returned (.bool (p x)) ∧ Ext w1 w') :
    Calls Try.prog 77 #[v, .func (.func f) #[] #[c1, c2]] w fun e w' => e = .returned (.int .i64 (idxOf p l)) ∧ Ext w w' :=
  indexFunc_Span l p v f #[c1, c2] w h hcall fun cs x w1 hx hr => by rw [show (#[.agg cs.toArray] ++ #[c1, c2] : Array Value) = #[.agg cs.toArray, c1, c2] from rfl]; exact hf cs x w1 hx hr
theorem containsFunc_Span_2 {S : Nat → Prop} (l : List Span) (p : Span → Bool) (v : Value) (f : Nat) (c1 c2 : Value) (w : World) (h : Rd ESpan S w v l) (hcall : ∀ (args : Array Value) (W : World), (callFunc f args).run Try.prog W = .ok (.enter f args) W)
    (hf : ∀ (cs : List Value) (x : Span) (w1 : World), Ext w w1 → ESpan.rel S w1 cs x → Calls Try.prog f #[.agg cs.toArray, c1, c2] w1 fun e w' => e = .returned (.bool (p x)) ∧ Ext w1 w') :
    Calls Try.prog 127 #[v, .func (.func f) #[] #[c1, c2]] w fun e w' => e = .returned (.bool (l.any p)) ∧ Ext w w' :=
  containsFunc_Span l p v f #[c1, c2] w h hcall fun cs x w1 hx hr => by rw [show (#[.agg cs.toArray] ++ #[c1, c2] : Array Value) = #[.agg cs.toArray, c1, c2] from rfl]; exact hf cs x w1 hx hr
theorem indexFunc_Span_3 {S : Nat → Prop} (l : List Span) (p : Span → Bool) (v : Value) (f : Nat) (c1 c2 c3 : Value) (w : World) (h : Rd ESpan S w v l) (hcall : ∀ (args : Array Value) (W : World), (callFunc f args).run Try.prog W = .ok (.enter f args) W)
    (hf : ∀ (cs : List Value) (x : Span) (w1 : World), Ext w w1 → ESpan.rel S w1 cs x → Calls Try.prog f #[.agg cs.toArray, c1, c2, c3] w1 fun e w' => e = .returned (.bool (p x)) ∧ Ext w1 w') :
    Calls Try.prog 77 #[v, .func (.func f) #[] #[c1, c2, c3]] w fun e w' => e = .returned (.int .i64 (idxOf p l)) ∧ Ext w w' :=
  indexFunc_Span l p v f #[c1, c2, c3] w h hcall fun cs x w1 hx hr => by rw [show (#[.agg cs.toArray] ++ #[c1, c2, c3] : Array Value) = #[.agg cs.toArray, c1, c2, c3] from rfl]; exact hf cs x w1 hx hr
theorem containsFunc_Span_3 {S : Nat → Prop} (l : List Span) (p : Span → Bool) (v : Value) (f : Nat) (c1 c2 c3 : Value) (w : World) (h : Rd ESpan S w v l) (hcall : ∀ (args : Array Value) (W : World), (callFunc f args).run Try.prog W = .ok (.enter f args) W)
    (hf : ∀ (cs : List Value) (x : Span) (w1 : World), Ext w w1 → ESpan.rel S w1 cs x → Calls Try.prog f #[.agg cs.toArray, c1, c2, c3] w1 fun e w' => e = .returned (.bool (p x)) ∧ Ext w1 w') :
    Calls Try.prog 127 #[v, .func (.func f) #[] #[c1, c2, c3]] w fun e w' => e = .returned (.bool (l.any p)) ∧ Ext w w' :=
  containsFunc_Span l p v f #[c1, c2, c3] w h hcall fun cs x w1 hx hr => by rw [show (#[.agg cs.toArray] ++ #[c1, c2, c3] : Array Value) = #[.agg cs.toArray, c1, c2, c3] from rfl]; exact hf cs x w1 hx hr

/-- clear(s), s a slice of n > 0 elements. -/
theorem run_clear_row {P : Program} (w : World) (t e ty : TypeId) (z : Value) (n : Nat) (ht : P.underlying t = some (.slice e)) (hv : ∀ w, (zeroValue e).run P w = .ok z w) (h1 : ∀ v ∈ (Builtin.zeroCells z.cells n).toList, v.oneCell' = true) (b o c : Nat) (hn : 0 < n)
    (hth : w.there b o (Builtin.zeroCells z.cells n).toList.length) :
    (Builtin.clear_ #[t] ty #[.slice (some ⟨b, o, none⟩) n c]).run P w = .ok (.tuple #[]) (w.setCells b o (Builtin.zeroCells z.cells n).toList) := by
  have hst := run_storeCells_cells (P := P) b o (Builtin.zeroCells z.cells n).toList 0 w (fun j hj => by rw [Nat.add_zero]; exact (hth j hj).1) (fun j hj => by rw [Nat.add_zero]; exact (hth j hj).2) h1
  simp only [Nat.add_zero] at hst
  obtain ⟨m, rfl⟩ : ∃ m, n = m + 1 := ⟨n - 1, by omega⟩
  simp [Builtin.clear_, run_underlying ht, hv, hst]
theorem wpList_clear_row {P : Program} {ops : Array Oper} {rest : List Oper} {o : Oper} {a : Act} {w : World} {Q : Exit → Act → World → Prop} (hgd : o.guard = none) (s : Operand) (t e : TypeId) (z : Value) (n : Nat)
    (ho : o.op = .call { callee := .builtin .clear, args := #[s], argTypes := #[t] }) (ht : P.underlying t = some (.slice e)) (hv : ∀ w, (zeroValue e).run P w = .ok z w) (h1 : ∀ v ∈ (Builtin.zeroCells z.cells n).toList, v.oneCell' = true) (b o' c : Nat)
    (hs : a.eval s = .slice (some ⟨b, o', none⟩) n c) (hn : 0 < n) (hth : w.there b o' (Builtin.zeroCells z.cells n).toList.length)
    (h : wpList P ops Q rest (a.put o.dst (.tuple #[])) (w.setCells b o' (Builtin.zeroCells z.cells n).toList)) : wpList P ops Q (o :: rest) a w :=
  wpList_plain hgd fun _ hK => by
    unfold Oper.wp execOp
    simp only [ho, resolve, invoke, builtin, Sem.run_bind, Sem.run_pure, Result.andThen_ok, List.map_toArray, List.map_cons, List.map_nil, hs, run_clear_row w t e o.type z n ht hv h1 b o' c hn hth]
    exact hK _ _ h
/-- The first elements of a row of elements that lead to no memory, when what stands behind them has been written. -/
theorem OwS.cut {α : Type} [Inhabited α] {E : Elem α} {hfl : ∀ {S S' : Nat → Prop} {w w' : World} {cs x}, E.rel S w cs x → E.rel S' w' cs x} {T : TypeId} {w w' : World} {l : List α} {B c n m : Nat} {F : List Nat}
    (h : OwS (OFlat E hfl) T w (.slice (some ⟨B, 0, none⟩) l.length c) l F) (hl : 0 < l.length) (hn : n ≤ l.length) (hr : RowBut T B (n * E.size) m w w') : ∃ F', OwS (OFlat E hfl) T w' (.slice (some ⟨B, 0, none⟩) n c) (l.take n) F' ∧ ∀ b ∈ F', b ∈ F := by
  rcases h with ⟨rfl, _⟩ | ⟨B', c', C, Fs, hv, hB, h1, h2, h3, hlF, rfl, hnd, hall⟩
  · simp at hl
  · cases hv
    obtain ⟨C0, C', g1, g2, g3, g4⟩ := hr
    rw [hB] at g1
    cases g1
    have hlen : (l.take n).length = n := by rw [List.length_take]; omega
    refine ⟨B :: (Fs.take n).flatten, .inr ⟨B, c, C', Fs.take n, by rw [hlen], g2, by rw [hlen]; omega, h2, by rw [g3, h3], by rw [hlen, List.length_take]; omega, rfl, ?_, fun k hk => ?_⟩, fun b hb => ?_⟩
    · have e : Fs.flatten = (Fs.take n).flatten ++ (Fs.drop n).flatten := by rw [← List.flatten_append, List.take_append_drop]
      rw [e] at hnd
      obtain ⟨h1', h2'⟩ := List.nodup_cons.1 hnd
      exact List.nodup_cons.2 ⟨fun hm => h1' (List.mem_append_left _ hm), (List.nodup_append.1 h2').1⟩
    · rw [hlen] at hk
      obtain ⟨cs, ho, hc⟩ := hall k (by omega)
      have e1 : nth (l.take n) k = nth l k := by rw [nth_eq (by omega), nth_eq (by omega)]; simp
      have e2 : nth (Fs.take n) k = nth Fs k := by rw [nth_eq (by rw [List.length_take]; omega), nth_eq (by omega)]; simp
      refine ⟨cs, by rw [e1, e2]; exact ⟨hfl ho.1, ho.2⟩, fun i u hi => ?_⟩
      have hil : i < E.size := by have := (List.getElem?_eq_some_iff.1 hi).1; rwa [E.len ho.1] at this
      have hcell := hc i u hi
      rw [cell_of_row w B _ C T (0, 0) hB] at hcell
      rw [cell_of_row w' B _ C' T (0, 0) g2, g4 _ (.inl (Nat.lt_of_lt_of_le (Nat.add_lt_add_left hil _) (by rw [← Nat.succ_mul]; exact Nat.mul_le_mul_right _ hk)))]
      exact hcell
    · rcases List.mem_cons.1 hb with rfl | hb
      · exact List.mem_cons_self ..
      · obtain ⟨G, hG, hb⟩ := List.mem_flatten.1 hb
        exact List.mem_cons_of_mem _ (List.mem_flatten.2 ⟨G, List.mem_of_mem_take hG, hb⟩)
theorem take_set_succ {α : Type} [Inhabited α] {m : List α} {i : Nat} {x : α} (h : i < m.length) : (m.set i x).take (i + 1) = m.take i ++ [x] := by
  rw [List.take_succ_eq_append_getElem (by simpa using h), List.take_set_of_le (Nat.le_refl _)]
  simp
theorem filter_take_yes {α : Type} [Inhabited α] {f : α → Bool} {l : List α} {k : Nat} (hk : k < l.length) (h : f (nth l k) = true) : (l.take (k + 1)).filter f = (l.take k).filter f ++ [nth l k] := by
  rw [take_succ_nth hk, List.filter_append]; simp [h]
theorem filter_take_no {α : Type} [Inhabited α] {f : α → Bool} {l : List α} {k : Nat} (hk : k < l.length) (h : f (nth l k) = false) : (l.take (k + 1)).filter f = (l.take k).filter f := by
  rw [take_succ_nth hk, List.filter_append]; simp [h]
theorem filter_all_nth {α : Type} [Inhabited α] {f : α → Bool} {l : List α} (h : ∀ j, j < l.length → f (nth l j) = true) : l.filter f = l := List.filter_eq_self.2 fun x hx => by
  obtain ⟨i, hi, rfl⟩ := List.getElem_of_mem hx
  have := h i hi
  rwa [nth_eq hi] at this
theorem zero_spans (n : Nat) : (Builtin.zeroCells (Value.agg #[.int .i64 0, .int .i64 0]).cells n).toList.length = n * 2 ∧ ∀ v ∈ (Builtin.zeroCells (Value.agg #[.int .i64 0, .int .i64 0]).cells n).toList, v.oneCell' = true := by
  refine ⟨by rw [Array.length_toList, size_zeroCells]; rfl, fun v hv => ?_⟩
  obtain ⟨i, hi, rfl⟩ := List.getElem_of_mem hv
  simp only [Builtin.zeroCells, Array.getElem_toList, Array.getElem_map, Array.getElem_range]
  have h2 : i % 2 < 2 := Nat.mod_lt _ (by decide)
  rcases (show i % 2 = 0 ∨ i % 2 = 1 by omega) with h | h <;> simp [Value.cells, h, Value.oneCell']

set_option maxHeartbeats 8000000 in
set_option maxRecDepth 100000 in
theorem deleteFunc_Span (l : List Span) (p : Span → Bool) (v : Value) (f : Nat) (c1 : Value) (F : List Nat) (w : World) (h : OwS OSpan 25 w v l F) (hl : l.length ≤ 1000000) (hcall : ∀ (args : Array Value) (W : World), (callFunc f args).run Try.prog W = .ok (.enter f args) W)
    (hf : ∀ (cs : List Value) (x : Span) (w1 : World), Kept F w w1 → ESpan.rel (fun _ => False) w1 cs x → Calls Try.prog f #[.agg cs.toArray, c1] w1 fun e w' => e = .returned (.bool (p x)) ∧ Ext w1 w') :
    Calls Try.prog 80 #[v, .func (.func f) #[] #[c1]] w fun e w' => ∃ v' F', e = .returned v' ∧ OwS OSpan 25 w' v' (l.filter fun x => !p x) F' ∧ (∀ b ∈ F', b ∈ F) ∧ Kept F w w' := by
  obtain ⟨A, c, rfl, h1, h2⟩ := h.form
  unfold maxLen at h2
  have HO := Lib.hid h
  have HC := Lib.hid hcall
  have HF := Lib.hid hf
  clear h
  have hcall' := hcall
  go_enter Try.func80, Try.ntmps80
  clear hcall hf hcall'
  go_wp2_with fail
  refine (indexFunc_Span_1 (S := fun b => b ∈ F) l p _ f c1 w HO.out.rd HC.out (fun cs x w1 hx hr => HF.out cs x w1 (Kept.of_ext hx) hr)).mono ?_
  rintro e w1 ⟨rfl, hx1⟩
  have X1 := Lib.hid hx1
  clear hx1
  rcases idxOf_cases p l with ⟨hi, hn⟩ | ⟨k0, hk0, hi, hq, hn⟩
  · have HI : Hid (idxOf p l = -1) := Lib.hid hi
    have HE : Hid (l.filter (fun x => !p x) = l) := Lib.hid (filter_all_nth fun j hj => by rw [hn j hj]; rfl)
    clear hi hn
    rw [HI.out]
    go_wp2_with fail
    go_ret
    exact ⟨_, F, rfl, by rw [HE.out]; exact HO.out.ext X1.out, fun b hb => hb, Kept.of_ext X1.out⟩
  · have HI : Hid (idxOf p l = k0) := Lib.hid hi
    have HS : Hid (l.take k0 = (l.take (k0 + 1)).filter fun x => !p x) := Lib.hid (by
      rw [filter_take_no hk0 (by rw [hq]; rfl)]
      exact (filter_all_nth fun j hj => by rw [List.length_take] at hj; rw [nth_eq (by rw [List.length_take]; omega)]; have := hn j (by omega); rw [nth_eq (by omega)] at this; simp [this]).symm)
    obtain ⟨B, rfl⟩ : ∃ B, A = some ⟨B, 0, none⟩ := by
      rcases HO.out with ⟨rfl, _⟩ | ⟨B, _, _, _, hv, _⟩
      · simp at hk0
      · cases hv; exact ⟨B, rfl⟩
    clear hi hq hn
    rw [HI.out]
    have hne1 : ((k0 : Int) == -1) = false := beq_eq_false_iff_ne.2 (by omega)
    go_wp2_with fail
    clear hne1
    go_loopw [5, 6] (fun a b w' => ∃ (i j : Nat) (m : List Span), a = .int .i64 i ∧ b = .int .i64 j ∧ i < j ∧ j ≤ l.length ∧ m.length = l.length ∧ m.take i = (l.take j).filter (fun x => !p x) ∧ (∀ t, j ≤ t → t < l.length → nth m t = nth l t) ∧ OwS OSpan 25 w' (.slice (some ⟨B, 0, none⟩) l.length c) m F ∧ Kept F w w') (fun _ b _ => l.length - (intOf b).toNat)
    case atStart => exact ⟨k0, k0 + 1, l, rfl, by go_num, by omega, by omega, rfl, HS.out, fun _ _ _ => rfl, HO.out.ext X1.out, Kept.of_ext X1.out⟩
    case round =>
      obtain ⟨i, j, m, rfl, rfl, hij, hj, hml, hmt, hmn, hown, hkp⟩ := hrel
      have HML := Lib.hid hml
      have HMT := Lib.hid hmt
      have HMN := Lib.hid hmn
      have HOW := Lib.hid hown
      have HKP := Lib.hid hkp
      clear hml hmt hmn hown hkp
      by_cases hlt : j < l.length
      · obtain ⟨cs, hcs, hc⟩ : ∃ cs, ESpan.rel (fun b => b ∈ F) wr cs (nth l j) ∧ wr.rangeAt B (j * 2) cs := by
          obtain ⟨A2, c2, hv2, _, _, hk2⟩ := HOW.out.rd.open_
          obtain ⟨b, q, cs, hA2, _, hr2, hc2⟩ := hk2 j (by rw [HML.out]; exact hlt)
          injection hv2 with e1 e2 e3
          rw [← e1] at hA2
          cases hA2
          rw [HMN.out j (Nat.le_refl _) hlt] at hr2
          exact ⟨cs, hr2, by simpa [ESpan] using hc2⟩
        obtain ⟨rfl, hfit⟩ := hcs
        have e0 := hc 0 _ rfl
        have e1 := hc 1 _ rfl
        simp only [Nat.add_zero] at e0 e1
        have HFit := Lib.hid hfit
        clear hc hfit
        have hcall := HC.out
        go_wp2_with fail
        obtain ⟨W5, B5, hW5, hB5, hx5, b5⟩ : ∃ W B, W = wr.alloc (.cells #[.int .i64 (nth l j).from_, .int .i64 (nth l j).to_] 25) ∧ B = wr.heap.size ∧ Ext wr W ∧ Blk W B 25 #[.int .i64 (nth l j).from_, .int .i64 (nth l j).to_] := ⟨_, _, rfl, rfl, (Ext.refl _).alloc _, Blk.new _ _ _⟩
        rw [← hW5, ← hB5]
        have X5 := Lib.hid hx5
        have BB5 := Lib.hid b5
        clear hW5 hB5 hx5 b5 e0 e1
        refine (HF.out [.int .i64 (nth l j).from_, .int .i64 (nth l j).to_] (nth l j) _ (HKP.out.trans (Kept.of_ext X5.out)) (rel_Span HFit.out)).mono ?_
        rintro e w2 ⟨rfl, hx2⟩
        have X2 := Lib.hid (X5.out.trans hx2)
        have BB2 := Lib.hid (BB5.out.ext hx2)
        clear hx2
        have e0 := BB2.out.cell 0
        have e1 := BB2.out.cell 1
        simp only [List.getElem?_toArray, List.getElem?_cons_succ, List.getElem?_cons_zero] at e0 e1
        cases hp : p (nth l j) with
        | true =>
          have HT2 : Hid (m.take i = (l.take (j + 1)).filter fun x => !p x) := Lib.hid (by rw [filter_take_no hlt (by rw [hp]; rfl)]; exact HMT.out)
          clear hp
          go_wp2_with fail
          go_roundw
          case rel => exact ⟨i, j + 1, m, by go_num, by go_num, by omega, by omega, HML.out, HT2.out, fun t h3 h4 => HMN.out t (by omega) h4, HOW.out.ext X2.out, HKP.out.trans (Kept.of_ext X2.out)⟩
          case measure => simp [intOf]; omega
        | false =>
          have him : i < m.length := by have := HML.out; omega
          have HT2 : Hid ((m.set i (nth l j)).take (i + 1) = (l.take (j + 1)).filter fun x => !p x) := Lib.hid (by rw [take_set_succ him, filter_take_yes hlt (by rw [hp]; rfl), HMT.out])
          clear hp
          obtain ⟨B', c', G, cs, hv, hBF, hBG, hGF, ho, hc, hfz, hth, hrow, hset⟩ := (HOW.out.ext X2.out).at (k := i) him
          obtain ⟨⟨rfl, hfi⟩, rfl⟩ := ho
          injection hv with hA hlen hcc
          clear hlen
          subst hcc
          cases hA
          have d0 := hc 0 _ rfl
          have d1 := hc 1 _ rfl
          have z0 := hfz (i * 2)
          have z1 := hfz (i * 2 + 1)
          simp only [ESpan, Nat.add_zero] at d0 d1
          have HN : Hid (OwS OSpan 25 (w2.setCells B (i * 2) [.int .i64 (nth l j).from_, .int .i64 (nth l j).to_]) (.slice (some ⟨B, 0, none⟩) l.length c) (m.set i (nth l j)) F) := Lib.hid (by
            refine hset _ _ [.int .i64 (nth l j).from_, .int .i64 (nth l j).to_] (Kept.setCells (by simp) _ _ _ (Kept.refl _ _)) (RowBut.setCells _ _ _ hrow (by simp [ESpan]) (by simp [ESpan])) ⟨rel_Span HFit.out, rfl⟩ ?_
            exact World.rangeAt_setCells_same w2 B (i * 2) [.int .i64 (nth l j).from_, .int .i64 (nth l j).to_] hth)
          have HBF := Lib.hid hBF
          have hil : (i : Int) < (l.length : Int) := by have := HML.out; omega
          clear hset hth hrow hc hfz hfi hBF hBG hGF
          go_wp2_with fail
          go_roundw
          case rel => exact ⟨i + 1, j + 1, m.set i (nth l j), by go_num, by go_num, by omega, by omega, by rw [List.length_set]; exact HML.out, HT2.out, fun t h3 h4 => by rw [nth_set_ne (by omega) (by rw [HML.out]; exact h4)]; exact HMN.out t (by omega) h4, HN.out, Kept.setCell (Kept.setCell (HKP.out.trans (Kept.of_ext X2.out)) HBF.out _) HBF.out _⟩
          case measure => simp [intOf]; omega
      · obtain rfl : j = l.length := by omega
        have hil : (i : Int) < (l.length : Int) := by omega
        have hi0 : (0 : Int) ≤ (i : Int) := Int.natCast_nonneg _
        obtain ⟨C, hB⟩ : ∃ C : Array Value, wr.heap[B]? = some (.cells C 25 (0, 0)) ∧ C.size = c * 2 := by
          rcases HOW.out with ⟨_, _, A', hv⟩ | ⟨B', c', C, Fs, hv, hB, _, _, h3, _⟩
          · injection hv with _ hh; omega
          · injection hv with e1 e2 e3; cases e1; subst e3; exact ⟨C, hB, by simpa [ESpan] using h3⟩
        have HTH : Hid (wr.there B (i * 2) ((l.length - i) * 2)) := Lib.hid (cells_there hB.1 (by rw [hB.2]; omega))
        have HRW : Hid (RowBut 25 B (i * 2) ((l.length - i) * 2) wr (wr.setCells B (i * 2) (Builtin.zeroCells (Value.agg #[.int .i64 0, .int .i64 0]).cells (l.length - i)).toList)) := Lib.hid (RowBut.setCells _ _ _ (RowBut.refl hB.1) (Nat.le_refl _) (by rw [(zero_spans _).1]; exact Nat.le_refl _))
        have HBF : Hid (B ∈ F) := Lib.hid (by
          rcases HOW.out with ⟨_, _, A', hv⟩ | ⟨B', c', C, Fs, hv, _, _, _, _, _, rfl, _⟩
          · injection hv with _ hh; omega
          · injection hv with e1 e2 e3; cases e1; exact List.mem_cons_self ..)
        clear hB
        have hclr := run_clear_row (P := Try.prog) wr 39 25 0 (.agg #[.int .i64 0, .int .i64 0]) (l.length - i) Try.underlying39 (by intro w; go_simp) (zero_spans _).2 B (i * 2) (c - i) (by omega) (by rw [(zero_spans _).1]; exact HTH.out)
        go_wp2_with fail
        go_ret
        obtain ⟨F2, o2, f2⟩ := OwS.cut (h := by rw [HML.out]; exact HOW.out) (by rw [HML.out]; omega) (n := i) (by rw [HML.out]; omega) HRW.out
        have hE : m.take i = l.filter fun x => !p x := by have := HMT.out; rwa [List.take_length] at this
        have hlen : (l.filter fun x => !p x).length = i := by rw [← hE, List.length_take, HML.out]; omega
        exact ⟨_, F2, rfl, by rw [← hE]; exact o2, f2, HKP.out.trans (Kept.setCells HBF.out _ _ _ (Kept.refl _ _))⟩
end Go.Proofs.Ytbdicafambkhdaa

namespace Go.Proofs.Ytbdicafambkhdaa
open Go.RowKit
attribute [local irreducible] wpQuiet

section
variable {α : Type} [Inhabited α] {E : Elem α} {T : TypeId} {w : World} {l ys : List α} {P : Program} {hfl : ∀ {S S' : Nat → Prop} {w w' : World} {cs x}, E.rel S w cs x → E.rel S' w' cs x}
/-- append(v, s...) in a slice that has room: it stays where it is. -/
theorem run_append_flat_room (t ty : TypeId) (i : TypeInfo) (z : Value) (ht : P.underlying t = some (.slice T)) (hi : P.info? T = some i) (hz : i.zero = some z) (hsz : i.size = E.size) (hzs : z.cells.size = E.size) {B cap : Nat} {F : List Nat} {S : Nat → Prop}
    (hown : OwS (OFlat E hfl) T w (.slice (some ⟨B, 0, none⟩) l.length cap) l F) (hcap : 0 < cap) (Bs os c : Nat) (hy : ∀ k, k < ys.length → ∃ cs, E.rel S w cs (nth ys k) ∧ w.rangeAt Bs (os + k * E.size) cs) (hroom : l.length + ys.length ≤ cap) (hs : cap ≤ maxLen) (hby : (l.length + ys.length) * i.bytes ≤ 140737488355328) :
    ∃ w' F', (Builtin.append_ #[t, t] ty #[.slice (some ⟨B, 0, none⟩) l.length cap, .slice (some ⟨Bs, os, none⟩) ys.length c]).run P w = .ok (.slice (some ⟨B, 0, none⟩) (l.length + ys.length) cap) w' ∧ OwS (OFlat E hfl) T w' (.slice (some ⟨B, 0, none⟩) (l.length + ys.length) cap) (l ++ ys) F' ∧ Kept F w w' ∧ (∀ b ∈ F', b ∈ F ∨ w.heap.size ≤ b) := by
  have hy' : ∀ k, k < ys.length → ∃ cs, (OFlat E hfl).own w cs (nth ys k) (nth (List.replicate ys.length []) k) ∧ w.rangeAt Bs (os + k * E.size) cs := fun k hk => by
    obtain ⟨cs, h1, h2⟩ := hy k hk
    exact ⟨cs, ⟨hfl h1, flat_list (α := α) hk⟩, h2⟩
  obtain ⟨v', w', F', hr, g2, g3, g4⟩ := run_append_ow (P := P) (Gs := List.replicate ys.length []) t ty i z ht hi hz hsz hzs hown Bs os c (by simp) hy' (by rw [flat_flatten, List.append_nil]; exact hown.nodup) (fun b hb => by rw [flat_flatten] at hb; cases hb) (Nat.le_trans hroom hs) hby
  rcases hown with ⟨_, _, A, hv⟩ | ⟨B', cap', C, Fs, hv, hB, h1, h2, h3, hl, _, _, hk⟩
  · injection hv with _ _ hh; omega
  · injection hv with e1 e2 e3
    cases e1
    subst e3
    obtain ⟨hnews, hone⟩ := rowOf_cell (cells_there_of hy')
    have hnl : (rowOf w Bs os (ys.length * E.size)).length = ys.length * i.size := by rw [rowOf_length, hsz]
    have hfit : l.length * i.size + (rowOf w Bs os (ys.length * E.size)).length ≤ C.size := by rw [hnl, h3, ← Nat.add_mul, hsz]; exact Nat.mul_le_mul_right _ hroom
    have hr2 := run_append_room (P := P) w t ty T i ht hi B l.length cap C hB ⟨Bs, os, none⟩ ys.length c _ hnl (fun j u hj => by rw [Addr.add_mid]; exact hnews j u hj) hone hroom hfit
    rw [hr] at hr2
    injection hr2 with e1 e2
    subst e1
    exact ⟨w', F', hr, g2, g3, fun b hb => by
      have := g4 b hb
      rw [flat_flatten] at this
      simpa using this⟩
theorem step_append_flat_room {ops : Array Oper} {o : Oper} {a : Act} {K : Act → World → Prop} {Q : Exit → Act → World → Prop} {X : Prop} (hgd : o.guard = none) (s x : Operand) (t : TypeId)
    (ho : o.op = .call { callee := .builtin .append, args := #[s, x], argTypes := #[t, t] })
    (z : Value) (size bytes : Nat) (ht : P.underlying t = some (.slice T)) (hi : (P.info? T).map (fun i => (i.zero, i.size, i.bytes)) = some (some z, size, bytes)) (hsz : size = E.size) (hzs : z.cells.size = E.size) {B cap n m : Nat} {F : List Nat} {S : Nat → Prop}
    (hn : l.length = n) (hm : ys.length = m) (hs : a.eval s = .slice (some ⟨B, 0, none⟩) n cap) (hown : OwS (OFlat E hfl) T w (.slice (some ⟨B, 0, none⟩) n cap) l F) (hcap : 0 < cap) (Bs os c : Nat) (hx : a.eval x = .slice (some ⟨Bs, os, none⟩) m c)
    (hy : ∀ k, k < m → ∃ cs, E.rel S w cs (nth ys k) ∧ w.rangeAt Bs (os + k * E.size) cs) (hroom : n + m ≤ cap) (hs' : cap ≤ maxLen) (hby : (n + m) * bytes ≤ 140737488355328)
    (h : ∀ w' F', OwS (OFlat E hfl) T w' (.slice (some ⟨B, 0, none⟩) (n + m) cap) (l ++ ys) F' → Kept F w w' → (∀ b ∈ F', b ∈ F ∨ w.heap.size ≤ b) → K (a.put o.dst (.slice (some ⟨B, 0, none⟩) (n + m) cap)) w') : if Region.wanted o (yielded ops a.tmps) = true then Oper.wp P o a w K Q else X := by
  have hw : Region.wanted o (yielded ops a.tmps) = true := by simp [Region.wanted, hgd]
  rw [if_pos hw]
  subst hn hm
  obtain ⟨i, h1, h2, h3, h4⟩ := info_parts hi
  obtain ⟨w', F', hr, g2, g3, g4⟩ := run_append_flat_room (P := P) t o.type i z ht h1 h2 (h3.trans hsz) hzs hown hcap Bs os c hy hroom hs' (by rw [h4]; exact hby)
  unfold Oper.wp execOp
  simp only [ho, resolve, invoke, builtin, Sem.run_bind, Sem.run_pure, Result.andThen_ok, List.map_toArray, List.map_cons, List.map_nil, hs, hx, hr]
  exact h w' F' g2 g3 g4
end
/-- The first elements of a row, when what stands behind them has been written. -/
theorem OwS.cut2 {α : Type} [Inhabited α] {E : Elem α} {hfl : ∀ {S S' : Nat → Prop} {w w' : World} {cs x}, E.rel S w cs x → E.rel S' w' cs x} {T : TypeId} {w w' : World} {l : List α} {B c m n : Nat} {F : List Nat}
    (h : OwS (OFlat E hfl) T w (.slice (some ⟨B, 0, none⟩) n c) l F) (hl : l.length = n) (hc : 0 < c) (hr : RowBut T B (n * E.size) m w w') : OwS (OFlat E hfl) T w' (.slice (some ⟨B, 0, none⟩) n c) l F := by
  subst hl
  rcases h with ⟨_, _, A, hv⟩ | ⟨B', c', C, Fs, hv, hB, h1, h2, h3, hlF, rfl, hnd, hall⟩
  · injection hv with _ _ hh; omega
  · cases hv
    obtain ⟨C0, C', g1, g2, g3, g4⟩ := hr
    rw [hB] at g1
    cases g1
    refine .inr ⟨B, c, C', Fs, rfl, g2, h1, h2, by rw [g3, h3], hlF, rfl, hnd, fun k hk => ?_⟩
    obtain ⟨cs, ho, hc'⟩ := hall k hk
    refine ⟨cs, ⟨hfl ho.1, ho.2⟩, fun i u hi => ?_⟩
    have hil : i < E.size := by have := (List.getElem?_eq_some_iff.1 hi).1; rwa [E.len ho.1] at this
    have hcell := hc' i u hi
    rw [cell_of_row w B _ C T (0, 0) hB] at hcell
    rw [cell_of_row w' B _ C' T (0, 0) g2, g4 _ (.inl (Nat.lt_of_lt_of_le (Nat.add_lt_add_left hil _) (by rw [← Nat.succ_mul]; exact Nat.mul_le_mul_right _ hk)))]
    exact hcell

theorem OwS.flat_blocks {α : Type} [Inhabited α] {E : Elem α} {hfl : ∀ {S S' : Nat → Prop} {w w' : World} {cs x}, E.rel S w cs x → E.rel S' w' cs x} {T : TypeId} {w : World} {l : List α} {B c n : Nat} {F : List Nat}
    (h : OwS (OFlat E hfl) T w (.slice (some ⟨B, 0, none⟩) n c) l F) (hc : 0 < c) : F = [B] := by
  rcases h with ⟨_, _, A, hv⟩ | ⟨B', c', C, Fs, hv, hB, h1, h2, h3, hlF, rfl, hnd, hall⟩
  · injection hv with _ _ hh; omega
  · cases hv
    have : Fs.flatten = [] := List.flatten_eq_nil_iff.2 fun G hG => by
      obtain ⟨i, hi, rfl⟩ := List.getElem_of_mem hG
      obtain ⟨cs, ho, _⟩ := hall i (by omega)
      rw [← nth_eq hi]
      exact ho.2
    rw [this]

set_option maxHeartbeats 8000000 in
set_option maxRecDepth 100000 in
theorem delete_Span (l : List Span) (k : Nat) (v : Value) (F : List Nat) (w : World) (h : OwS OSpan 25 w v l F) (hl : l.length ≤ 1000000) (hk : k < l.length) :
    Calls Try.prog 79 #[v, .int .i64 k, .int .i64 ((k : Int) + 1)] w fun e w' => ∃ v' F', e = .returned v' ∧ OwS OSpan 25 w' v' (l.eraseIdx k) F' ∧ (∀ b ∈ F', b ∈ F) ∧ Kept F w w' := by
  obtain ⟨A, c, rfl, h1, h2⟩ := h.form
  unfold maxLen at h2
  have HO := Lib.hid h
  obtain ⟨B, rfl⟩ : ∃ B, A = some ⟨B, 0, none⟩ := by
    rcases h with ⟨rfl, _⟩ | ⟨B, _, _, _, hv, _⟩
    · simp at hk
    · injection hv with e1; exact ⟨B, e1⟩
  clear h
  have i0 : (0 : Int) ≤ (k : Int) := Int.natCast_nonneg _
  have i1 : (k : Int) ≤ (l.length : Int) := by omega
  have i2 : (k : Int) + 1 ≤ (l.length : Int) := by omega
  have i3 : (k : Int) ≤ (k : Int) + 1 := by omega
  have i4 : ((k : Int) + 1).toNat = k + 1 := by omega
  have i5 : (l.length : Int) ≤ (c : Int) := by omega
  go_enter Try.func79, Try.ntmps79
  go_upto_region 5 with (fail)
  have i6 : (k : Int) ≤ (c : Int) := by omega
  have i7 : (k : Int) + 1 ≤ (c : Int) := by omega
  have i8 : (0 : Int) ≤ (k : Int) + 1 := by omega
  obtain ⟨F1, o1, f1⟩ := HO.out.take (n := k) (by omega) _ _ rfl
  have O1 := Lib.hid o1
  have HY : Hid (∀ j, j < l.length - (k + 1) → ∃ cs, ESpan.rel (fun b => b ∈ F) w cs (nth (l.drop (k + 1)) j) ∧ w.rangeAt B ((k + 1) * 2 + j * 2) cs) := Lib.hid fun j hj => by
    obtain ⟨A2, c2, hv2, _, _, hk2⟩ := HO.out.rd.open_
    obtain ⟨b, q, cs, hA2, _, hr2, hc2⟩ := hk2 (k + 1 + j) (by omega)
    injection hv2 with e1 e2 e3
    rw [← e1] at hA2
    cases hA2
    have e : nth (l.drop (k + 1)) j = nth l (k + 1 + j) := by rw [nth_eq (by rw [List.length_drop]; omega), nth_eq (by omega)]; simp
    rw [e]
    refine ⟨cs, hr2, ?_⟩
    have e2 : 0 + (k + 1 + j) * ESpan.size = (k + 1) * 2 + j * 2 := by simp [ESpan]; omega
    rwa [e2] at hc2
  have LT : Hid ((l.take k).length = k) := Lib.hid (by rw [List.length_take]; omega)
  have LD : Hid ((l.drop (k + 1)).length = l.length - (k + 1)) := Lib.hid (by rw [List.length_drop])
  clear o1
  have HC0 : Hid (0 < c) := Lib.hid (by omega)
  rcases Classical.em (c = k + 1) with rfl | hck
  · skip
    go_region_held3 (fun _ => True) (exact trivial) (first | (refine step_append_flat_room (E := ESpan) (T := 25) (hfl := fun h => h) (S := fun b => b ∈ F) (B := B) (cap := (k + 1)) (n := k) (m := 0) (F := F1) (l := l.take k) (ys := l.drop (k + 1)) (by rfl) _ _ 39 (by rfl) (.agg #[.int .i64 0, .int .i64 0]) 2 16 Try.underlying39 (by kernel_rfl) rfl rfl LT.out (by rw [LD.out]; omega) (by rfl) (O1.out.ext (by first | exact Ext.refl _ | exact (Ext.refl _).drew)) (by omega) B 0 0 (by rfl) (fun j hj => absurd hj (by omega)) (by omega) (by unfold maxLen; omega) (by omega) ?_; intro w1 F2 o2 k2 f2))
    have HO2 := Lib.hid o2
    have HK2 := Lib.hid k2
    have HF2 := Lib.hid f2
    clear o2 k2 f2
    have hlen : k + 0 = k := by omega
    have HO3 : Hid (OwS OSpan 25 w1 (.slice (some ⟨B, 0, none⟩) k (k + 1)) (l.take k ++ l.drop (k + 1)) F2) := Lib.hid (by have := HO2.out; rwa [hlen] at this)
    have HLA : Hid ((l.take k ++ l.drop (k + 1)).length = k) := Lib.hid (by rw [List.length_append, LT.out, LD.out]; omega)
    obtain ⟨C, hC, hCs⟩ : ∃ C : Array Value, w1.heap[B]? = some (.cells C 25 (0, 0)) ∧ C.size = (k + 1) * 2 := by
      rcases HO3.out with ⟨_, _, A', hv⟩ | ⟨B', c', C, Fs, hv, hB, _, _, h3, _⟩
      · injection hv with _ _ hh; omega
      · injection hv with e1 e2 e3; cases e1; subst e3; exact ⟨C, hB, by simpa [ESpan] using h3⟩
    have HBF : Hid (B ∈ F2) := Lib.hid (by
      rcases HO3.out with ⟨_, _, A', hv⟩ | ⟨B', c', C, Fs, hv, _, _, _, _, _, rfl, _⟩
      · injection hv with _ _ hh; omega
      · injection hv with e1 e2 e3; cases e1; exact List.mem_cons_self ..)
    have HTH : Hid (w1.there B (k * 2) 2) := Lib.hid (cells_there hC (by rw [hCs]; omega))
    have HRW : Hid (RowBut 25 B (k * 2) 2 w1 (w1.setCells B (k * 2) (Builtin.zeroCells (Value.agg #[.int .i64 0, .int .i64 0]).cells 1).toList)) := Lib.hid (RowBut.setCells _ _ _ (RowBut.refl hC) (Nat.le_refl _) (by rw [(zero_spans _).1]; exact Nat.le_refl _))
    have hclr := run_clear_row (P := Try.prog) w1 39 25 0 (.agg #[.int .i64 0, .int .i64 0]) 1 Try.underlying39 (by intro w; go_simp) (zero_spans _).2 B (k * 2) 1 (by omega) (by rw [(zero_spans _).1]; exact HTH.out)
    rw [hlen]
    have j1 : (k : Int) ≤ (l.length : Int) := by omega
    have j2 : (0 : Int) ≤ (k : Int) := Int.natCast_nonneg _
    have j3 : l.length - k = 1 := by omega
    have j4 : ¬ (k + 1) = k := by omega
    clear hC hCs i0 i1 i2 i3 i4 i6 i7 i8 hlen
    go_wp2_with fail
    go_ret
    have hE : l.take k ++ l.drop (k + 1) = l.eraseIdx k := (List.eraseIdx_eq_take_drop_succ ..).symm
    exact ⟨_, F2, rfl, by rw [← hE]; exact OwS.cut2 HO3.out HLA.out HC0.out HRW.out, fun b hb => by rw [HO3.out.flat_blocks HC0.out] at hb; rw [HO.out.flat_blocks HC0.out]; exact hb, (Kept.trans (Kept.of_ext (Ext.refl _).drew) (HK2.out.sub fun b _ hb => f1 b hb)).trans (Kept.setCells (by rw [HO.out.flat_blocks HC0.out]; simp) _ _ _ (Kept.refl _ _))⟩
  · skip
    go_region_held3 (fun _ => True) (exact trivial) (first | (refine step_append_flat_room (E := ESpan) (T := 25) (hfl := fun h => h) (S := fun b => b ∈ F) (B := B) (cap := c) (n := k) (m := l.length - (k + 1)) (F := F1) (l := l.take k) (ys := l.drop (k + 1)) (by rfl) _ _ 39 (by rfl) (.agg #[.int .i64 0, .int .i64 0]) 2 16 Try.underlying39 (by kernel_rfl) rfl rfl LT.out LD.out (by rfl) (O1.out.ext (by first | exact Ext.refl _ | exact (Ext.refl _).drew)) (by omega) B ((k + 1) * 2) (c - (k + 1)) (by rfl) (by first | exact HY.out | exact fun j hj => (let ⟨cs, a, b⟩ := HY.out j hj; ⟨cs, ESpan.keep ((Ext.refl _).drew.same _) a, (Ext.refl _).drew.range b⟩)) (by omega) (by unfold maxLen; omega) (by omega) ?_; intro w1 F2 o2 k2 f2))
    have HO2 := Lib.hid o2
    have HK2 := Lib.hid k2
    have HF2 := Lib.hid f2
    clear o2 k2 f2
    have hlen : k + (l.length - (k + 1)) = l.length - 1 := by omega
    have HO3 : Hid (OwS OSpan 25 w1 (.slice (some ⟨B, 0, none⟩) (l.length - 1) c) (l.take k ++ l.drop (k + 1)) F2) := Lib.hid (by have := HO2.out; rwa [hlen] at this)
    have HLA : Hid ((l.take k ++ l.drop (k + 1)).length = l.length - 1) := Lib.hid (by rw [List.length_append, LT.out, LD.out]; omega)
    obtain ⟨C, hC, hCs⟩ : ∃ C : Array Value, w1.heap[B]? = some (.cells C 25 (0, 0)) ∧ C.size = c * 2 := by
      rcases HO3.out with ⟨_, _, A', hv⟩ | ⟨B', c', C, Fs, hv, hB, _, _, h3, _⟩
      · injection hv with _ _ hh; omega
      · injection hv with e1 e2 e3; cases e1; subst e3; exact ⟨C, hB, by simpa [ESpan] using h3⟩
    have HBF : Hid (B ∈ F2) := Lib.hid (by
      rcases HO3.out with ⟨_, _, A', hv⟩ | ⟨B', c', C, Fs, hv, _, _, _, _, _, rfl, _⟩
      · injection hv with _ _ hh; omega
      · injection hv with e1 e2 e3; cases e1; exact List.mem_cons_self ..)
    have HTH : Hid (w1.there B ((l.length - 1) * 2) 2) := Lib.hid (cells_there hC (by rw [hCs]; omega))
    have HRW : Hid (RowBut 25 B ((l.length - 1) * 2) 2 w1 (w1.setCells B ((l.length - 1) * 2) (Builtin.zeroCells (Value.agg #[.int .i64 0, .int .i64 0]).cells 1).toList)) := Lib.hid (RowBut.setCells _ _ _ (RowBut.refl hC) (Nat.le_refl _) (by rw [(zero_spans _).1]; exact Nat.le_refl _))
    have hclr := run_clear_row (P := Try.prog) w1 39 25 0 (.agg #[.int .i64 0, .int .i64 0]) 1 Try.underlying39 (by intro w; go_simp) (zero_spans _).2 B ((l.length - 1) * 2) (c - (l.length - 1)) (by omega) (by rw [(zero_spans _).1]; exact HTH.out)
    rw [hlen]
    have j1 : ((l.length - 1 : Nat) : Int) ≤ (l.length : Int) := by omega
    have j2 : (0 : Int) ≤ ((l.length - 1 : Nat) : Int) := Int.natCast_nonneg _
    have j3 : l.length - (l.length - 1) = 1 := by omega
    have j4 : ¬ c = l.length - 1 := by omega
    clear hC hCs i0 i1 i2 i3 i4 i6 i7 i8 hlen
    go_wp2_with fail
    go_ret
    have hE : l.take k ++ l.drop (k + 1) = l.eraseIdx k := (List.eraseIdx_eq_take_drop_succ ..).symm
    exact ⟨_, F2, rfl, by rw [← hE]; exact OwS.cut2 HO3.out HLA.out HC0.out HRW.out, fun b hb => by rw [HO3.out.flat_blocks HC0.out] at hb; rw [HO.out.flat_blocks HC0.out]; exact hb, (Kept.trans (Kept.of_ext (Ext.refl _).drew) (HK2.out.sub fun b _ hb => f1 b hb)).trans (Kept.setCells (by rw [HO.out.flat_blocks HC0.out]; simp) _ _ _ (Kept.refl _ _))⟩
end Go.Proofs.Ytbdicafambkhdaa

namespace Go.Proofs.Ytbdicafambkhdaa
open Go.RowKit

/-- copy(d, s): n elements of z cells each. -/
theorem run_copy_z {P : Program} (w : World) (dT sT ty elem : TypeId) (z n b o dLen dCap : Nat) (a : Addr) (sLen sCap : Nat) (cs : List Value)
    (hu : P.underlying dT = some (.slice elem)) (hs : (P.info? elem).map (·.size) = some z) (hn : n = Nat.min sLen dLen) (hcl : cs.length = n * z)
    (hsrc : ∀ j v, cs[j]? = some v → w.cell? (a.add j) = some v) (hc : w.there b o cs.length) (h1 : ∀ v ∈ cs, v.oneCell' = true) :
    (Builtin.copy_ #[dT, sT] ty #[.slice (some ⟨b, o, none⟩) dLen dCap, .slice (some a) sLen sCap]).run P w = .ok (goInt n) (w.setCells b o cs) := by
  have hl := run_loadCells_list (P := P) w a cs hsrc
  have hst := run_storeCells_cells (P := P) b o cs 0 w (fun j hj => by rw [Nat.add_zero]; exact (hc j hj).1) (fun j hj => by rw [Nat.add_zero]; exact (hc j hj).2) h1
  cases hq : P.info? elem with
  | none => simp [hq] at hs
  | some i =>
    have hi : i.size = z := by simpa [hq] using hs
    rw [hcl] at hl
    simp only [Nat.add_zero] at hst
    simp [Builtin.copy_, run_underlying hu, Builtin.lenOf, Builtin.firstCells, sizeOf, typeInfo, hq, hi, ← hn, hl, hst]

def rowC : List Span → List Value
  | [] => []
  | x :: l => .int .i64 x.from_ :: .int .i64 x.to_ :: rowC l
theorem rowC_length : ∀ l, (rowC l).length = l.length * 2
  | [] => rfl
  | x :: l => by rw [rowC, List.length_cons, List.length_cons, rowC_length l, List.length_cons]; omega
theorem rowC_append : ∀ a b, rowC (a ++ b) = rowC a ++ rowC b
  | [], b => rfl
  | x :: a, b => by rw [List.cons_append, rowC, rowC_append a b]; rfl
theorem rowC_one : ∀ l, ∀ v ∈ rowC l, v.oneCell' = true
  | [], v, h => by cases h
  | x :: l, v, h => by
    rw [rowC, List.mem_cons, List.mem_cons] at h
    rcases h with rfl | rfl | h
    · rfl
    · rfl
    · exact rowC_one l v h
theorem rowC_get : ∀ (l : List Span) (k j : Nat), k < l.length → j < 2 → (rowC l)[k * 2 + j]? = (cellsSpan (nth l k))[j]?
  | [], k, _, h, _ => absurd h (Nat.not_lt_zero _)
  | x :: l, 0, j, _, hj => by
    rcases j with _ | _ | j
    · rfl
    · rfl
    · omega
  | x :: l, k + 1, j, h, hj => by
    rw [show (k + 1) * 2 + j = (k * 2 + j) + 2 by omega]
    exact rowC_get l k j (by simpa using h) hj
theorem rowC_drop (l : List Span) (k : Nat) : rowC l = rowC (l.take k) ++ rowC (l.drop k) := by
  rw [← rowC_append, List.take_append_drop]

theorem range_append {w : World} {B o : Nat} {a b : List Value} (h1 : w.rangeAt B o a) (h2 : w.rangeAt B (o + a.length) b) : w.rangeAt B o (a ++ b) := by
  intro j u hj
  by_cases hlt : j < a.length
  · rw [List.getElem?_append_left hlt] at hj
    exact h1 j u hj
  · rw [List.getElem?_append_right (by omega)] at hj
    have := h2 _ u hj
    rwa [show o + a.length + (j - a.length) = o + j by omega] at this
theorem range_left {w : World} {B o : Nat} {a b : List Value} (h : w.rangeAt B o (a ++ b)) : w.rangeAt B o a := fun j u hj => h j u (by rw [List.getElem?_append_left (List.getElem?_eq_some_iff.1 hj).1]; exact hj)
theorem range_right {w : World} {B o : Nat} {a b : List Value} (h : w.rangeAt B o (a ++ b)) : w.rangeAt B (o + a.length) b := fun j u hj => by
  have := h (a.length + j) u (by rw [List.getElem?_append_right (by omega), Nat.add_sub_cancel_left]; exact hj)
  rwa [← Nat.add_assoc] at this

variable {T : TypeId} {w w' : World} {v : Value} {l : List Span} {F : List Nat}
/-- A slice of spans with memory of its own: its block, cell by cell. -/
theorem own_row (h : OwS OSpan T w v l F) (hl : 0 < l.length) : ∃ (B c : Nat) (C : Array Value), v = .slice (some ⟨B, 0, none⟩) l.length c ∧ Blk w B T C ∧ C.size = c * 2 ∧ l.length ≤ c ∧ c ≤ maxLen ∧ F = [B] ∧ w.rangeAt B 0 (rowC l) ∧ ∀ x ∈ l, FitSpan x := by
  obtain ⟨A, c0, hv0, hc0, _⟩ := h.form
  obtain ⟨B0, hB0⟩ : ∃ B0, A = some ⟨B0, 0, none⟩ := by
    rcases h with ⟨rfl, _⟩ | ⟨B, _, _, _, hv, _⟩
    · simp at hl
    · rw [hv] at hv0; injection hv0 with e1; exact ⟨B, e1.symm⟩
  subst hB0
  subst hv0
  have hF := OwS.flat_blocks h (by omega)
  rcases h with ⟨rfl, _⟩ | ⟨B, c, C, Fs, hv, hB, h1, h2, h3, hlF, h4, hn, hk⟩
  · simp at hl
  · injection hv with e1 e2 e3
    cases e1
    subst e3
    refine ⟨_, _, C, rfl, hB, h3, h1, h2, hF, fun j u hj => ?_, fun x hx => ?_⟩
    · have hj2 : j < l.length * 2 := by rw [← rowC_length]; exact (List.getElem?_eq_some_iff.1 hj).1
      have hk' : j / 2 < l.length := by omega
      obtain ⟨cs, ho, hc⟩ := hk _ hk'
      obtain ⟨⟨rfl, _⟩, _⟩ := ho
      have e : j = j / 2 * 2 + j % 2 := by omega
      rw [e, rowC_get l _ _ hk' (by omega)] at hj
      have := hc (j % 2) u hj
      rw [Nat.zero_add, e]
      exact this
    · obtain ⟨i, hi, rfl⟩ := List.getElem_of_mem hx
      obtain ⟨cs, ho, _⟩ := hk i hi
      rw [← nth_eq hi]
      exact ho.1.2
/-- .. and back. -/
theorem row_own {B c : Nat} {C : Array Value} (hB : Blk w B T C) (hC : C.size = c * 2) (hr : w.rangeAt B 0 (rowC l)) (hl : l.length ≤ c) (hm : c ≤ maxLen) (hf : ∀ x ∈ l, FitSpan x) : OwS OSpan T w (.slice (some ⟨B, 0, none⟩) l.length c) l [B] := by
  refine .inr ⟨B, c, C, List.replicate l.length [], rfl, hB, hl, hm, hC, by simp, by rw [flat_flatten], by simp, fun k hk => ⟨cellsSpan (nth l k), ⟨⟨rfl, hf _ (nth_mem hk)⟩, flat_list (α := Span) hk⟩, fun j u hj => ?_⟩⟩
  have hj2 : j < 2 := (List.getElem?_eq_some_iff.1 hj).1
  have := hr (k * 2 + j) u (by rw [rowC_get l k j hk hj2]; exact hj)
  rwa [Nat.zero_add] at this
theorem blk_set {B : Nat} {C : Array Value} (h : Blk w B T C) (o : Nat) (vs : List Value) : ∃ C' : Array Value, Blk (w.setCells B o vs) B T C' ∧ C'.size = C.size := setCells_heap vs w o C h
end Go.Proofs.Ytbdicafambkhdaa

namespace Go.Proofs.Ytbdicafambkhdaa
open Go.RowKit Go.Lib
attribute [local irreducible] wpQuiet

theorem isSome_set {B o : Nat} {vs : List Value} {w : World} {n : Nat} (h : w.there B 0 n) (ho : o + vs.length ≤ n) : (w.setCells B o vs).there B 0 n := fun j hj => by
  rw [Nat.zero_add]
  exact ⟨isSome_setCells B vs o w (fun t ht => by have := (h (o + t) (by omega)).1; rwa [Nat.zero_add] at this) j (by have := (h j hj).1; rwa [Nat.zero_add] at this), by rw [World.frozen?_setCells]; have := (h j hj).2; rwa [Nat.zero_add] at this⟩
theorem there_at {w : World} {B n o m : Nat} (h : w.there B 0 n) (hm : o + m ≤ n) : w.there B o m := fun j hj => by have := h (o + j) (by omega); rwa [Nat.zero_add] at this

set_option maxHeartbeats 4000000 in
set_option maxRecDepth 100000 in
/-- There is room, i < len(s): in place. -/
theorem ins_shift (B n c i vb m vc : Nat) (cs vs : List Value) (w : World) (hi : i < n) (hm : 0 < m) (hroom : n + m ≤ c) (hc63 : c ≤ 9223372036854775807) (hvb : vb ≠ B)
    (hcl : cs.length = n * 2) (hvl : vs.length = m * 2) (hcs : w.rangeAt B 0 cs) (hth : w.there B 0 (c * 2)) (hvs : w.rangeAt vb 0 vs) (h1c : ∀ v ∈ cs, v.oneCell' = true) (h1v : ∀ v ∈ vs, v.oneCell' = true)
    (tA tB : TypeId) (kA kB : Nat) (hsa : w.shape? vb = some (tA, kA)) (hsb : w.shape? B = some (tB, kB)) (hkB : kB ≠ 0) (hfa : w.frozen? ⟨vb, 0, none⟩ = false) (hfe : w.frozen? ⟨vb, kA, none⟩ = false) :
    Calls Try.prog 130 #[.slice (some ⟨B, 0, none⟩) n c, .int .i64 i, .slice (some ⟨vb, 0, none⟩) m vc] w fun e w' =>
      e = .returned (.slice (some ⟨B, 0, none⟩) (n + m) c) ∧ w' = (w.drew.setCells B ((i + m) * 2) (cs.drop (i * 2))).setCells B (i * 2) vs := by
  have mixed : Try.prog.follows Departure.mixedOrders = true := by kernel_rfl
  have hz1 : ¬ ((m : Int) = 0) := by omega
  have hz2 : ¬ ((i : Int) = (n : Int)) := by omega
  have hsz : (Try.prog.info? 25).map (·.size) = some 2 := by kernel_rfl
  have hz : ∀ w, (Go.sizeOf 25).run Try.prog w = .ok 2 w := by intro w; go_simp
  have hov : ∀ lb cb, (callFunc 155 #[.slice (some ⟨vb, 0, none⟩) m vc, .slice (some ⟨B, (i + m) * 2, none⟩) lb cb]).run Try.prog w = .ok (.value (.bool false)) w := fun lb cb => by
    rw [run_callFunc_extern Try.func155 (by kernel_rfl) (by kernel_rfl) (by kernel_rfl) (e := Extern.SlicesOverlaps.overlaps #[39, 39] #[4]) (by kernel_rfl),
      Lib.run_overlaps_apart w 39 4 25 Try.underlying39 2 hz ⟨vb, 0, none⟩ ⟨B, (i + m) * 2, none⟩ m vc lb cb hvb tA tB kA kB hsa hsb hkB hfa hfe]
    rfl
  have hdl : (cs.drop (i * 2)).length = (n - i) * 2 := by rw [List.length_drop, hcl]; omega
  have hw1 : IntKind.i64.wrap ((i : Int) + (m : Int)) = (i : Int) + (m : Int) := by rw [IntKind.wrap_i64]; omega
  have hw2 : IntKind.i64.wrap ((n : Int) + (m : Int)) = (n : Int) + (m : Int) := by rw [IntKind.wrap_i64]; omega
  have hb1 : (0 : Int) ≤ (i : Int) + (m : Int) := by omega
  have hin : i ≤ n := by omega
  have htn : ((i : Int) + (m : Int)).toNat = i + m := by omega
  have htn2 : ((n : Int) + (m : Int)).toNat = n + m := by omega
  have hb2 : ¬ (c = i + m) := by omega
  have hb3 : (i : Int) ≤ (n : Int) + (m : Int) := by omega
  have hb4 : ¬ (c = i) := by omega
  have hcp1 : ∀ ty dc sc, (Builtin.copy_ #[39, 39] ty #[.slice (some ⟨B, (i + m) * 2, none⟩) (n + m - (i + m)) dc, .slice (some ⟨B, i * 2, none⟩) (n + m - i) sc]).run Try.prog w.drew = .ok (goInt (n - i : Nat)) (w.drew.setCells B ((i + m) * 2) (cs.drop (i * 2))) := fun ty dc sc =>
    run_copy_z w.drew _ _ ty 25 2 (n - i) B ((i + m) * 2) (n + m - (i + m)) dc ⟨B, i * 2, none⟩ (n + m - i) sc (cs.drop (i * 2)) Try.underlying39 hsz (by simp only [Nat.min_def]; split <;> omega) hdl
      (fun j v hj => by
        rw [Addr.add_mid]
        have := hcs (i * 2 + j) v (by rwa [List.getElem?_drop] at hj)
        rw [Nat.zero_add] at this
        exact this)
      (there_at (n := c * 2) (fun j hj => hth j hj) (by rw [hdl]; omega)) (fun v hv => h1c v (List.mem_of_mem_drop hv))
  obtain ⟨W1, hW1⟩ : ∃ W1, W1 = w.drew.setCells B ((i + m) * 2) (cs.drop (i * 2)) := ⟨_, rfl⟩
  have hth1 : W1.there B 0 (c * 2) := by
    rw [hW1]
    exact isSome_set (w := w.drew) (fun j hj => hth j hj) (by rw [hdl]; omega)
  have hcp2 : ∀ (W : World), (∀ x, W.cell? x = W1.cell? x) → (∀ x, W.frozen? x = W1.frozen? x) → ∀ ty dc, (Builtin.copy_ #[39, 39] ty #[.slice (some ⟨B, i * 2, none⟩) (n + m - i) dc, .slice (some ⟨vb, 0, none⟩) m vc]).run Try.prog W = .ok (goInt m) (W.setCells B (i * 2) vs) := fun W hWc hWf ty dc =>
    run_copy_z W _ _ ty 25 2 m B (i * 2) (n + m - i) dc ⟨vb, 0, none⟩ m vc vs Try.underlying39 hsz (by simp only [Nat.min_def]; split <;> omega) hvl
      (fun j v hj => by
        rw [Addr.add_mid, hWc, hW1, World.cell?_setCells_out B _ _ _ _ (fun h _ => absurd h hvb)]
        exact hvs j v hj)
      (fun j hj => by rw [hWc, hWf]; exact there_at hth1 (m := vs.length) (by rw [hvl]; omega) j hj) h1v
  rw [← hW1] at hcp1
  go_enter Try.func130, Try.ntmps130
  go_wp2_with (simp only [hov])
  go_region_law_o (refine step_copy_runI rfl _ _ 39 39 rfl _ _ (by simp [Act.eval, Act.put]) (by simp [Act.eval, Act.put]) (hcp1 _ _ _) ?_)
  go_wp2_with (at_builtin; refine wpList_copy_runI _ rfl _ _ 39 39 rfl _ _ rfl rfl (hcp2 _ (fun _ => rfl) (fun _ => rfl) _ _) ?_)
  go_ret
  first | exact ⟨rfl, rfl⟩ | exact ⟨rfl, by rw [hW1]⟩

set_option maxHeartbeats 4000000 in
set_option maxRecDepth 100000 in
/-- No room, i < len(s): a new row. -/
theorem ins_grow (B n c i vb m vc : Nat) (cs vs : List Value) (w : World) (hi : i < n) (hm : 0 < m) (hnc : n ≤ c) (hroom : c < n + m) (hbig : (n + m) * 16 ≤ 140737488355328)
    (hcl : cs.length = n * 2) (hvl : vs.length = m * 2) (hcs : w.rangeAt B 0 cs) (hvs : w.rangeAt vb 0 vs) (h1c : ∀ v ∈ cs, v.oneCell' = true) (h1v : ∀ v ∈ vs, v.oneCell' = true) :
    Calls Try.prog 130 #[.slice (some ⟨B, 0, none⟩) n c, .int .i64 i, .slice (some ⟨vb, 0, none⟩) m vc] w fun e w' =>
      ∃ (G : Nat) (ROW : Array Value), e = .returned (.slice (some ⟨w.heap.size, 0, none⟩) (n + m) G) ∧ n + m ≤ G ∧ G ≤ maxLen ∧ ROW.size = G * 2 ∧ (∀ (j : Nat) (v : Value), (cs.take (i * 2))[j]? = some v → ROW[j]? = some v) ∧
      w' = (((w.alloc (.cells ROW 25)).drew.setCells w.heap.size (i * 2) vs).drew).setCells w.heap.size ((i + m) * 2) (cs.drop (i * 2)) := by
  obtain ⟨i0, hi0, hz0, hzs, hzb⟩ := info_parts (P := Try.prog) (e := 25) (z := .agg #[.int .i64 0, .int .i64 0]) (size := 2) (bytes := 16) (by kernel_rfl)
  have mixed : Try.prog.follows Departure.mixedOrders = true := by kernel_rfl
  have hz1 : ¬ ((m : Int) = 0) := by omega
  have hz2 : ¬ ((i : Int) = (n : Int)) := by omega
  have hz3 : (c : Int) < (n : Int) + (m : Int) := by omega
  have hsz : (Try.prog.info? 25).map (·.size) = some 2 := by kernel_rfl
  have hbw : B < w.heap.size := block_lt_of_cell (hcs 0 _ (List.getElem?_eq_getElem (by omega)))
  have hvw : vb < w.heap.size := block_lt_of_cell (hvs 0 _ (List.getElem?_eq_getElem (by omega)))
  have hkk : (n : Int) + (m : Int) - (i : Int) = ((n + m - i : Nat) : Int) := by omega
  have hik : i + (n + m - i) = n + m := by omega
  have hold : (Builtin.firstCells i0.size i (.slice (some ⟨B, 0, none⟩) i c)).run Try.prog w.drew = .ok (cs.take (i * 2)).toArray w.drew := by
    rw [hzs]
    exact run_firstCells_some w.drew 2 i ⟨B, 0, none⟩ i c (cs.take (i * 2)) (by rw [List.length_take]; omega) (fun j v hj => by
      rw [Addr.add_mid]
      rw [List.getElem?_take] at hj
      split at hj
      · exact hcs j v hj
      · cases hj)
  have hrz : ∀ ty, (Builtin.append_ #[39, 3] ty #[.slice (some ⟨B, 0, none⟩) i c, .int .i64 ((n : Int) + (m : Int) - (i : Int))]).run Try.prog w =
      .ok (.slice (some ⟨w.heap.size, 0, none⟩) (n + m) (grownCap w (n + m) c 25)) (w.drew.alloc (.cells ((cs.take (i * 2)).toArray ++ Builtin.zeroCells (Value.agg #[.int .i64 0, .int .i64 0]).cells (n + m - i) ++ Builtin.zeroCells (Value.agg #[.int .i64 0, .int .i64 0]).cells (grownCap w (n + m) c 25 - (n + m))) 25)) := fun ty => by
    have h := Lib.run_append_grow_zeros (P := Try.prog) w 39 3 ty 25 i0 _ .i64 .i64 Try.underlying39 Try.underlying3 hi0 hz0 (some ⟨B, 0, none⟩) i c (cs.take (i * 2)) hold (n + m - i) (by omega) (by omega) (by omega) (by omega) (by rw [hzb]; omega) (by rw [hzb, hik]; exact growslice_fits hroom hbig)
    rw [hik] at h
    rw [hkk]
    exact h
  obtain ⟨G, hG⟩ : ∃ G, G = grownCap w (n + m) c 25 := ⟨_, rfl⟩
  obtain ⟨ROW, hROW⟩ : ∃ ROW : Array Value, ROW = (cs.take (i * 2)).toArray ++ Builtin.zeroCells (Value.agg #[.int .i64 0, .int .i64 0]).cells (n + m - i) ++ Builtin.zeroCells (Value.agg #[.int .i64 0, .int .i64 0]).cells (G - (n + m)) := ⟨_, rfl⟩
  rw [← hG] at hrz
  rw [← hROW] at hrz
  have hGn : n + m ≤ G := by rw [hG]; exact grownCap_ge w _ _ _
  have hGm : G ≤ maxLen := by rw [hG]; exact grownCap_le_maxLen w (n + m) c 25 (by unfold maxLen; omega)
  have hRs : ROW.size = G * 2 := by
    rw [hROW, Array.size_append, Array.size_append, List.size_toArray, List.length_take, size_zeroCells, size_zeroCells]
    simp only [Value.cells, Array.size]
    simp
    omega
  have hRt : ∀ (j : Nat) (v : Value), (cs.take (i * 2))[j]? = some v → ROW[j]? = some v := fun j v hj => by
    have hj2 := (List.getElem?_eq_some_iff.1 hj).1
    rw [hROW, Array.append_assoc, Array.getElem?_append_left (by rw [List.size_toArray]; exact hj2), List.getElem?_toArray]
    exact hj
  have HG := Lib.hid hGn
  have HGm := Lib.hid hGm
  have HRs := Lib.hid hRs
  have HRt := Lib.hid hRt
  obtain ⟨W1, hW1⟩ : ∃ W1, W1 = w.drew.alloc (.cells ROW 25) := ⟨_, rfl⟩
  rw [← hW1] at hrz
  have hN : W1.there w.heap.size 0 (G * 2) := by
    rw [hW1]
    exact cells_there (C := ROW) (heap_alloc_new w.drew _) (by rw [hRs]; omega)
  have hOb : ∀ j v, w.cell? ⟨B, j, none⟩ = some v → W1.cell? ⟨B, j, none⟩ = some v := fun j v h => by rw [hW1, World.cell?_alloc_past (w := w.drew) _ B j hbw]; exact h
  have hOv : ∀ j v, w.cell? ⟨vb, j, none⟩ = some v → W1.cell? ⟨vb, j, none⟩ = some v := fun j v h => by rw [hW1, World.cell?_alloc_past (w := w.drew) _ vb j hvw]; exact h
  have hcpA : ∀ (W : World), (∀ x, W.cell? x = W1.cell? x) → (∀ x, W.frozen? x = W1.frozen? x) → ∀ ty dc, (Builtin.copy_ #[39, 39] ty #[.slice (some ⟨w.heap.size, i * 2, none⟩) (n + m - i) dc, .slice (some ⟨vb, 0, none⟩) m vc]).run Try.prog W = .ok (goInt m) (W.setCells w.heap.size (i * 2) vs) := fun W hWc hWf ty dc =>
    run_copy_z W _ _ ty 25 2 m w.heap.size (i * 2) (n + m - i) dc ⟨vb, 0, none⟩ m vc vs Try.underlying39 hsz (by simp only [Nat.min_def]; split <;> omega) hvl
      (fun j v hj => by rw [Addr.add_mid, hWc]; exact hOv _ v (hvs j v hj))
      (fun j hj => by rw [hWc, hWf]; exact there_at hN (m := vs.length) (by rw [hvl]; omega) j hj) h1v
  have hG63 : G ≤ 9223372036854775807 := by
    have := hGm
    unfold maxLen at this
    omega
  have hGi : ¬ (G = i) := by omega
  have hGim : ¬ (G = i + m) := by omega
  have hci : ¬ (c = i) := by omega
  have hbN : B ≠ w.heap.size := by omega
  have hdl : (cs.drop (i * 2)).length = (n - i) * 2 := by rw [List.length_drop, hcl]; omega
  have hcpB : ∀ (W : World), (∀ x, W.cell? x = (W1.setCells w.heap.size (i * 2) vs).cell? x) → (∀ x, W.frozen? x = (W1.setCells w.heap.size (i * 2) vs).frozen? x) → ∀ ty dc sc, (Builtin.copy_ #[39, 39] ty #[.slice (some ⟨w.heap.size, (i + m) * 2, none⟩) (n + m - (i + m)) dc, .slice (some ⟨B, i * 2, none⟩) (n - i) sc]).run Try.prog W = .ok (goInt (n - i : Nat)) (W.setCells w.heap.size ((i + m) * 2) (cs.drop (i * 2))) := fun W hWc hWf ty dc sc =>
    run_copy_z W _ _ ty 25 2 (n - i) w.heap.size ((i + m) * 2) (n + m - (i + m)) dc ⟨B, i * 2, none⟩ (n - i) sc (cs.drop (i * 2)) Try.underlying39 hsz (by simp only [Nat.min_def]; split <;> omega) hdl
      (fun j v hj => by
        rw [Addr.add_mid, hWc, World.cell?_setCells_out _ _ _ _ _ (fun h _ => absurd h hbN)]
        have := hcs (i * 2 + j) v (by rwa [List.getElem?_drop] at hj)
        rw [Nat.zero_add] at this
        exact hOb _ v this)
      (fun j hj => by rw [hWc, hWf]; exact there_at (isSome_set hN (by rw [hvl]; omega)) (m := (cs.drop (i * 2)).length) (by rw [hdl]; omega) j hj) (fun v hv => h1c v (List.mem_of_mem_drop hv))
  subst hW1
  have hE1 : ∀ x, ((w.alloc (.cells ROW 25)).drew).cell? x = (w.drew.alloc (.cells ROW 25)).cell? x := fun x => rfl
  have hE2 : ∀ x, ((w.alloc (.cells ROW 25)).drew).frozen? x = (w.drew.alloc (.cells ROW 25)).frozen? x := fun x => rfl
  have hF1 : ∀ x, (((w.alloc (.cells ROW 25)).drew.setCells w.heap.size (i * 2) vs).drew).cell? x = ((w.drew.alloc (.cells ROW 25)).setCells w.heap.size (i * 2) vs).cell? x := fun x => rfl
  have hF2 : ∀ x, (((w.alloc (.cells ROW 25)).drew.setCells w.heap.size (i * 2) vs).drew).frozen? x = ((w.drew.alloc (.cells ROW 25)).setCells w.heap.size (i * 2) vs).frozen? x := fun x => rfl
  have hw1 : IntKind.i64.wrap ((i : Int) + (m : Int)) = (i : Int) + (m : Int) := by rw [IntKind.wrap_i64]; omega
  have hw2 : IntKind.i64.wrap ((n : Int) + (m : Int)) = (n : Int) + (m : Int) := by rw [IntKind.wrap_i64]; omega
  have hw3 : IntKind.i64.wrap ((n : Int) + (m : Int) - (i : Int)) = (n : Int) + (m : Int) - (i : Int) := by rw [IntKind.wrap_i64]; omega
  have hb1 : (0 : Int) ≤ (i : Int) + (m : Int) := by omega
  have hin : i ≤ n := by omega
  have htn : ((i : Int) + (m : Int)).toNat = i + m := by omega
  have hb3 : (i : Int) ≤ (n : Int) := by omega
  clear hkk hik hold hROW hG hRt hRs hN hOb hOv hGm
  go_enter Try.func130, Try.ntmps130
  go_wp2_with (first
    | (at_builtin; refine Lib.wpList_append_run _ rfl _ _ _ _ rfl _ _ rfl rfl _ _ (hrz _) ?_)
    | (at_builtin; refine wpList_copy_runI _ rfl _ _ 39 39 rfl _ _ rfl rfl (hcpA _ hE1 hE2 _ _) ?_)
    | (at_builtin; refine wpList_copy_runI _ rfl _ _ 39 39 rfl _ _ rfl rfl (hcpB _ (fun _ => rfl) (fun _ => rfl) _ _ _) ?_))
  go_region_law_o (refine step_copy_runI rfl _ _ 39 39 rfl (.slice (some ⟨w.heap.size, (i + m) * 2, none⟩) (n + m - (i + m)) (G - (i + m))) (.slice (some ⟨B, i * 2, none⟩) (n - i) (c - i)) (by simp [Act.eval, Act.put]) (by simp [Act.eval, Act.put]) (hcpB _ hF1 hF2 3 (G - (i + m)) (c - i)) ?_)
  go_wp2
  go_ret
  exact ⟨G, ROW, rfl, HG.out, HGm.out, HRs.out, HRt.out, rfl⟩
end Go.Proofs.Ytbdicafambkhdaa

namespace Go.Proofs.Ytbdicafambkhdaa
open Go.RowKit Go.Lib
attribute [local irreducible] wpQuiet

theorem blk_shape {w : World} {B : Nat} {T : TypeId} {C : Array Value} (h : Blk w B T C) : w.shape? B = some (T, C.size) := by
  unfold Blk at h
  simp [World.shape?, h]
theorem rowC_mid (a : List Span) (x : Span) (d : List Span) : rowC (a ++ x :: d) = rowC a ++ (rowC [x] ++ rowC d) := by
  rw [rowC_append]
  rfl
theorem fit_mid {a d : List Span} {x : Span} (h : ∀ y ∈ a ++ d, FitSpan y) (hx : FitSpan x) : ∀ y ∈ a ++ x :: d, FitSpan y := by
  intro y hy
  rw [List.mem_append, List.mem_cons] at hy
  rcases hy with hy | rfl | hy
  · exact h y (List.mem_append.2 (.inl hy))
  · exact hx
  · exact h y (List.mem_append.2 (.inr hy))

theorem shift_own {a d : List Span} {x : Span} {T : TypeId} {w : World} {B c : Nat} {C : Array Value} (hB : Blk w B T C) (hC : C.size = c * 2) (hr : w.rangeAt B 0 (rowC (a ++ d))) (hroom : (a ++ d).length + 1 ≤ c) (hm : c ≤ maxLen) (hf : ∀ y ∈ a ++ d, FitSpan y) (hx : FitSpan x) :
    OwS OSpan T ((w.drew.setCells B ((a.length + 1) * 2) (rowC d)).setCells B (a.length * 2) (rowC [x])) (.slice (some ⟨B, 0, none⟩) ((a ++ d).length + 1) c) (a ++ x :: d) [B] := by
  have hlen : (a ++ x :: d).length = (a ++ d).length + 1 := by simp; omega
  have hl2 : (a ++ d).length = a.length + d.length := by simp
  have hd : Blk w.drew B T C := hB
  have hth : w.drew.there B 0 (c * 2) := cells_there hd (by rw [hC]; omega)
  obtain ⟨C1, h1, s1⟩ := blk_set hd ((a.length + 1) * 2) (rowC d)
  obtain ⟨C2, h2, s2⟩ := blk_set h1 (a.length * 2) (rowC [x])
  have hx2 : (rowC [x]).length = 2 := rfl
  rw [← hlen]
  refine row_own h2 (by rw [s2, s1, hC]) ?_ (by rw [hlen]; exact hroom) hm (fit_mid hf hx)
  rw [rowC_mid]
  rw [rowC_append] at hr
  have hr' : w.drew.rangeAt B 0 (rowC a ++ rowC d) := hr
  have ra := World.rangeAt_setCells_apart (World.rangeAt_setCells_apart (range_left hr') B ((a.length + 1) * 2) (rowC d) (.inr (.inl (by rw [rowC_length]; omega)))) B (a.length * 2) (rowC [x]) (.inr (.inl (by rw [rowC_length]; omega)))
  have rd := World.rangeAt_setCells_apart (World.rangeAt_setCells_same w.drew B ((a.length + 1) * 2) (rowC d) (there_at hth (by rw [rowC_length]; omega))) B (a.length * 2) (rowC [x]) (.inr (.inr (by rw [hx2]; omega)))
  have rx := World.rangeAt_setCells_same (w.drew.setCells B ((a.length + 1) * 2) (rowC d)) B (a.length * 2) (rowC [x]) (there_at (isSome_set hth (by rw [rowC_length]; omega)) (by rw [hx2]; omega))
  refine range_append ra ?_
  rw [rowC_length, Nat.zero_add]
  refine range_append rx ?_
  rw [hx2, show a.length * 2 + 2 = (a.length + 1) * 2 by omega]
  exact rd

theorem grow_own {a d : List Span} {x : Span} {T : TypeId} {w : World} {G : Nat} {ROW : Array Value} (hG : (a ++ d).length + 1 ≤ G) (hm : G ≤ maxLen) (hR : ROW.size = G * 2) (hRt : ∀ (j : Nat) (v : Value), (rowC a)[j]? = some v → ROW[j]? = some v) (hf : ∀ y ∈ a ++ d, FitSpan y) (hx : FitSpan x) :
    OwS OSpan T ((((w.alloc (.cells ROW T)).drew.setCells w.heap.size (a.length * 2) (rowC [x])).drew).setCells w.heap.size ((a.length + 1) * 2) (rowC d)) (.slice (some ⟨w.heap.size, 0, none⟩) ((a ++ d).length + 1) G) (a ++ x :: d) [w.heap.size] := by
  have hlen : (a ++ x :: d).length = (a ++ d).length + 1 := by simp; omega
  have hl2 : (a ++ d).length = a.length + d.length := by simp
  have h0 : Blk (w.alloc (.cells ROW T)).drew w.heap.size T ROW := Blk.new w T ROW
  have hth : (w.alloc (.cells ROW T)).drew.there w.heap.size 0 (G * 2) := cells_there h0 (by rw [hR]; omega)
  obtain ⟨C1, h1, s1⟩ := blk_set h0 (a.length * 2) (rowC [x])
  have h1' : Blk ((w.alloc (.cells ROW T)).drew.setCells w.heap.size (a.length * 2) (rowC [x])).drew w.heap.size T C1 := h1
  obtain ⟨C2, h2, s2⟩ := blk_set h1' ((a.length + 1) * 2) (rowC d)
  have hx2 : (rowC [x]).length = 2 := rfl
  rw [← hlen]
  refine row_own h2 (by rw [s2, s1, hR]) ?_ (by rw [hlen]; exact hG) hm (fit_mid hf hx)
  rw [rowC_mid]
  have r0 : (w.alloc (.cells ROW T)).drew.rangeAt w.heap.size 0 (rowC a) := fun j v hj => by rw [Nat.zero_add, h0.cell]; exact hRt j v hj
  have ra0 : ((w.alloc (.cells ROW T)).drew.setCells w.heap.size (a.length * 2) (rowC [x])).drew.rangeAt w.heap.size 0 (rowC a) := World.rangeAt_setCells_apart r0 w.heap.size (a.length * 2) (rowC [x]) (.inr (.inl (by rw [rowC_length]; omega)))
  have rx0 : ((w.alloc (.cells ROW T)).drew.setCells w.heap.size (a.length * 2) (rowC [x])).drew.rangeAt w.heap.size (a.length * 2) (rowC [x]) := World.rangeAt_setCells_same (w.alloc (.cells ROW T)).drew w.heap.size (a.length * 2) (rowC [x]) (there_at hth (by rw [hx2]; omega))
  have hth1 : ((w.alloc (.cells ROW T)).drew.setCells w.heap.size (a.length * 2) (rowC [x])).drew.there w.heap.size 0 (G * 2) := isSome_set hth (by rw [hx2]; omega)
  have ra := World.rangeAt_setCells_apart ra0 w.heap.size ((a.length + 1) * 2) (rowC d) (.inr (.inl (by rw [rowC_length]; omega)))
  have rx := World.rangeAt_setCells_apart rx0 w.heap.size ((a.length + 1) * 2) (rowC d) (.inr (.inl (by rw [hx2]; omega)))
  have rd := World.rangeAt_setCells_same ((w.alloc (.cells ROW T)).drew.setCells w.heap.size (a.length * 2) (rowC [x])).drew w.heap.size ((a.length + 1) * 2) (rowC d) (there_at hth1 (by rw [rowC_length]; omega))
  refine range_append ra ?_
  rw [rowC_length, Nat.zero_add]
  refine range_append rx ?_
  rw [hx2, show a.length * 2 + 2 = (a.length + 1) * 2 by omega]
  exact rd

def RetIns (l : List Span) (F : List Nat) (w : World) (e : Ending) (w' : World) : Prop := ∃ v' F', e = .returned v' ∧ OwS OSpan 25 w' v' l F' ∧ Kept F w w' ∧ ∀ b ∈ F', b ∈ F ∨ w.heap.size ≤ b

set_option maxHeartbeats 4000000 in
set_option maxRecDepth 100000 in
theorem insert_end (a : List Span) (x : Span) (v : Value) (F : List Nat) (w : World) (Bx : Nat) (h : OwS OSpan 25 w v a F) (hl : a.length ≤ 1000) (hb : Blk w Bx 25 #[.int .i64 x.from_, .int .i64 x.to_]) (hx : FitSpan x) :
    Calls Try.prog 130 #[v, .int .i64 a.length, .slice (some ⟨Bx, 0, none⟩) 1 1] w (RetIns (a ++ [x]) F w) := by
  have HO := Lib.hid h
  obtain ⟨A, c, rfl, h1, h2⟩ := h.form
  unfold maxLen at h2
  have HBx := Lib.hid hb
  have HX := Lib.hid hx
  clear hb hx
  have i5 : (a.length : Int) ≤ (c : Int) := by omega
  cases A with
  | none =>
    have h0 : a.length = 0 ∧ c = 0 := by
      rcases h with ⟨rfl, _, A, hv⟩ | ⟨B, _, _, _, hv, _⟩
      · injection hv with _ _ hh; exact ⟨rfl, hh⟩
      · injection hv with e1; cases e1
    obtain ⟨ha, rfl⟩ := h0
    obtain rfl := List.eq_nil_of_length_eq_zero ha
    clear h ha i5 h1 h2
    go_enter Try.func130, Try.ntmps130
    go_wp2_with (at_builtin; refine wpList_append_one (O := OSpan) (T := 25) (l := ([] : List Span)) (F := F) (G := []) (y := x) (cs := [.int .i64 x.from_, .int .i64 x.to_]) rfl _ _ 39 rfl (.agg #[.int .i64 0, .int .i64 0]) 2 16 Try.underlying39 (by kernel_rfl) rfl rfl rfl HO.out _ 0 1 rfl ⟨rel_Span HX.out, rfl⟩ (Blk.range HBx.out) (by simpa using HO.out.nodup) (by simp) (by decide) ?_; intro v' w9 F' how hkp hF'; have HOW := Lib.hid how; have HKP := Lib.hid hkp; have HFF := Lib.hid hF'; clear how hkp hF')
    go_ret
    exact ⟨_, F', rfl, HOW.out, HKP.out, fun b hb => by rcases HFF.out b hb with h | h | h; exact .inl h; cases h; exact .inr h⟩
  | some ad =>
    obtain ⟨b, o, sp⟩ := ad
    clear h
    have i1 : (0 : Int) ≤ (a.length : Int) := Int.natCast_nonneg _
    go_enter Try.func130, Try.ntmps130
    go_wp2_with (at_builtin; refine wpList_append_one (O := OSpan) (T := 25) (l := a) (F := F) (G := []) (y := x) (cs := [.int .i64 x.from_, .int .i64 x.to_]) rfl _ _ 39 rfl (.agg #[.int .i64 0, .int .i64 0]) 2 16 Try.underlying39 (by kernel_rfl) rfl rfl rfl HO.out _ 0 1 rfl ⟨rel_Span HX.out, rfl⟩ (Blk.range HBx.out) (by simpa using HO.out.nodup) (by omega) (by decide) ?_; intro v' w9 F' how hkp hF'; have HOW := Lib.hid how; have HKP := Lib.hid hkp; have HFF := Lib.hid hF'; clear how hkp hF')
    all_goals (go_ret; exact ⟨_, F', rfl, HOW.out, HKP.out, fun b hb => by rcases HFF.out b hb with h | h | h; exact .inl h; cases h; exact .inr h⟩)

theorem insert_Span (a d : List Span) (x : Span) (v : Value) (F : List Nat) (w : World) (Bx : Nat) (h : OwS OSpan 25 w v (a ++ d) F) (hl : (a ++ d).length ≤ 1000) (hb : Blk w Bx 25 #[.int .i64 x.from_, .int .i64 x.to_]) (hx : FitSpan x) (hBx : Bx ∉ F) :
    Calls Try.prog 130 #[v, .int .i64 a.length, .slice (some ⟨Bx, 0, none⟩) 1 1] w (RetIns (a ++ x :: d) F w) := by
  rcases d with _ | ⟨y, d⟩
  · rw [List.append_nil] at h hl
    exact insert_end a x v F w Bx h hl hb hx
  · generalize hd : y :: d = e at *
    have he : 0 < e.length := by rw [← hd]; simp
    clear hd
    have hl2 : (a ++ e).length = a.length + e.length := by simp
    obtain ⟨B, c, C, rfl, hB, hC, hlc, hcm, rfl, hr, hf⟩ := own_row h (by omega)
    have hdrop : (rowC (a ++ e)).drop (a.length * 2) = rowC e := by rw [rowC_append, ← rowC_length, List.drop_left]
    have htake : (rowC (a ++ e)).take (a.length * 2) = rowC a := by rw [rowC_append, ← rowC_length, List.take_left]
    have hxr : w.rangeAt Bx 0 (rowC [x]) := hb.range
    have hm : c ≤ maxLen := hcm
    unfold maxLen at hcm
    by_cases hroom : (a ++ e).length + 1 ≤ c
    · refine (ins_shift B (a ++ e).length c a.length Bx 1 1 (rowC (a ++ e)) (rowC [x]) w (by omega) (by decide) hroom (by omega) (by simpa using hBx) (rowC_length _) rfl hr (cells_there hB (by rw [hC]; omega)) hxr (rowC_one _) (rowC_one _) _ _ _ _ (blk_shape hb) (blk_shape hB) (by rw [hC]; omega) (hb.frozen _) (hb.frozen _)).mono ?_
      rintro r w' ⟨rfl, rfl⟩
      rw [hdrop]
      exact ⟨_, [B], rfl, shift_own hB hC hr hroom hm hf hx, Kept.setCells (by simp) _ _ _ (Kept.setCells (by simp) _ _ _ (Kept.of_ext (Ext.refl w).drew)), fun b hb => .inl hb⟩
    · refine (ins_grow B (a ++ e).length c a.length Bx 1 1 (rowC (a ++ e)) (rowC [x]) w (by omega) (by decide) hlc (by omega) (by omega) (rowC_length _) rfl hr hxr (rowC_one _) (rowC_one _)).mono ?_
      rintro r w' ⟨G, ROW, rfl, hG, hGm, hR, hRt, rfl⟩
      rw [hdrop]
      rw [htake] at hRt
      refine ⟨_, [w.heap.size], rfl, grow_own hG hGm hR hRt hf hx, ?_, fun b hb => .inr (by rw [List.mem_singleton.1 hb]; exact Nat.le_refl _)⟩
      exact Kept.of_ext (setCells_ext (Nat.le_refl _) _ _ _ (setCells_ext (Nat.le_refl _) _ _ _ ((Ext.refl w).alloc _).drew).drew)
end Go.Proofs.Ytbdicafambkhdaa

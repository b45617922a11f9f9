/- slices.Delete at spans: one element of a slice that lies in memory of its own is struck. -/
import Derived.Test.YtdhcbbbmajjehaaDelFn
namespace Go.Proofs.Ytdhcbbbmajjehaa
open Go.RowKit
attribute [local irreducible] wpQuiet

section
variable {α : Type} [Inhabited α] {E : Elem α} {T : TypeId} {w : World} {l ys : List α} {P : Program} {hfl : ∀ {S S' : Nat → Prop} {w w' : World} {cs x}, E.rel S w cs x → E.rel S' w' cs x}
/-- append(v, s...) in a slice that has room: it stays where it is. -/
theorem run_append_flat_room (t ty : TypeId) (i : TypeInfo) (z : Value) (ht : P.underlying t = some (.slice T)) (hi : P.info? T = some i) (hz : i.zero = some z) (hsz : i.size = E.size) (hzs : z.cells.size = E.size) {B cap : Nat} {F : List Nat} {S : Nat → Prop}
    (hown : OwS (OFlat E hfl) T w (.slice (some ⟨B, 0, none⟩) l.length cap) l F) (hcap : 0 < cap) (Bs os c : Nat) (hy : ∀ k, k < ys.length → ∃ cs, E.rel S w cs (nth ys k) ∧ w.rangeAt Bs (os + k * E.size) cs) (hroom : l.length + ys.length ≤ cap) (hs : cap ≤ maxLen) (hby : (l.length + ys.length) * i.bytes ≤ 140737488355328) :
    ∃ w' F', (Builtin.append_ #[t, t] ty #[.slice (some ⟨B, 0, none⟩) l.length cap, .slice (some ⟨Bs, os, none⟩) ys.length c]).run P w = .ok (.slice (some ⟨B, 0, none⟩) (l.length + ys.length) cap) w' ∧ OwS (OFlat E hfl) T w' (.slice (some ⟨B, 0, none⟩) (l.length + ys.length) cap) (l ++ ys) F' ∧ Kept F w w' ∧ (∀ b ∈ F', b ∈ F ∨ w.heap.size ≤ b) := by
  have hy' : ∀ k, k < ys.length → ∃ cs, (OFlat E hfl).own w cs (nth ys k) (nth (List.replicate ys.length []) k) ∧ w.rangeAt Bs (os + k * E.size) cs := fun k hk => by
    obtain ⟨cs, h1, h2⟩ := hy k hk
    exact ⟨cs, ⟨hfl h1, flat_list (α := α) hk⟩, h2⟩
  obtain ⟨v', w', F', hr, g2, g3, g4⟩ := run_append_ow (P := P) (Gs := List.replicate ys.length []) t ty i z ht hi hz hsz hzs hown Bs os c (by simp) hy' (by rw [flat_flatten, List.append_nil]; exact hown.nodup) (fun b hb => by rw [flat_flatten] at hb; cases hb) (Nat.le_trans hroom hs) hby
  rcases hown with ⟨_, _, A, hv⟩ | ⟨B', cap', C, Fs, hv, hB, h1, h2, h3, hl, _, _, hk⟩
  · injection hv with _ _ hh; omega
  · injection hv with e1 e2 e3
    cases e1
    subst e3
    obtain ⟨hnews, hone⟩ := rowOf_cell (cells_there_of hy')
    have hnl : (rowOf w Bs os (ys.length * E.size)).length = ys.length * i.size := by rw [rowOf_length, hsz]
    have hfit : l.length * i.size + (rowOf w Bs os (ys.length * E.size)).length ≤ C.size := by rw [hnl, h3, ← Nat.add_mul, hsz]; exact Nat.mul_le_mul_right _ hroom
    have hr2 := run_append_room (P := P) w t ty T i ht hi B l.length cap C hB ⟨Bs, os, none⟩ ys.length c _ hnl (fun j u hj => by rw [Addr.add_mid]; exact hnews j u hj) hone hroom hfit
    rw [hr] at hr2
    injection hr2 with e1 e2
    subst e1
    exact ⟨w', F', hr, g2, g3, fun b hb => by
      have := g4 b hb
      rw [flat_flatten] at this
      simpa using this⟩
theorem step_append_flat_room {ops : Array Oper} {o : Oper} {a : Act} {K : Act → World → Prop} {Q : Exit → Act → World → Prop} {X : Prop} (hgd : o.guard = none) (s x : Operand) (t : TypeId)
    (ho : o.op = .call { callee := .builtin .append, args := #[s, x], argTypes := #[t, t] })
    (z : Value) (size bytes : Nat) (ht : P.underlying t = some (.slice T)) (hi : (P.info? T).map (fun i => (i.zero, i.size, i.bytes)) = some (some z, size, bytes)) (hsz : size = E.size) (hzs : z.cells.size = E.size) {B cap n m : Nat} {F : List Nat} {S : Nat → Prop}
    (hn : l.length = n) (hm : ys.length = m) (hs : a.eval s = .slice (some ⟨B, 0, none⟩) n cap) (hown : OwS (OFlat E hfl) T w (.slice (some ⟨B, 0, none⟩) n cap) l F) (hcap : 0 < cap) (Bs os c : Nat) (hx : a.eval x = .slice (some ⟨Bs, os, none⟩) m c)
    (hy : ∀ k, k < m → ∃ cs, E.rel S w cs (nth ys k) ∧ w.rangeAt Bs (os + k * E.size) cs) (hroom : n + m ≤ cap) (hs' : cap ≤ maxLen) (hby : (n + m) * bytes ≤ 140737488355328)
    (h : ∀ w' F', OwS (OFlat E hfl) T w' (.slice (some ⟨B, 0, none⟩) (n + m) cap) (l ++ ys) F' → Kept F w w' → (∀ b ∈ F', b ∈ F ∨ w.heap.size ≤ b) → K (a.put o.dst (.slice (some ⟨B, 0, none⟩) (n + m) cap)) w') : if Region.wanted o (yielded ops a.tmps) = true then Oper.wp P o a w K Q else X := by
  have hw : Region.wanted o (yielded ops a.tmps) = true := by simp [Region.wanted, hgd]
  rw [if_pos hw]
  subst hn hm
  obtain ⟨i, h1, h2, h3, h4⟩ := info_parts hi
  obtain ⟨w', F', hr, g2, g3, g4⟩ := run_append_flat_room (P := P) t o.type i z ht h1 h2 (h3.trans hsz) hzs hown hcap Bs os c hy hroom hs' (by rw [h4]; exact hby)
  unfold Oper.wp execOp
  simp only [ho, resolve, invoke, builtin, Sem.run_bind, Sem.run_pure, Result.andThen_ok, List.map_toArray, List.map_cons, List.map_nil, hs, hx, hr]
  exact h w' F' g2 g3 g4
end
/-- The first elements of a row, when what stands behind them has been written. -/
theorem OwS.cut2 {α : Type} [Inhabited α] {E : Elem α} {hfl : ∀ {S S' : Nat → Prop} {w w' : World} {cs x}, E.rel S w cs x → E.rel S' w' cs x} {T : TypeId} {w w' : World} {l : List α} {B c m n : Nat} {F : List Nat}
    (h : OwS (OFlat E hfl) T w (.slice (some ⟨B, 0, none⟩) n c) l F) (hl : l.length = n) (hc : 0 < c) (hr : RowBut T B (n * E.size) m w w') : OwS (OFlat E hfl) T w' (.slice (some ⟨B, 0, none⟩) n c) l F := by
  subst hl
  rcases h with ⟨_, _, A, hv⟩ | ⟨B', c', C, Fs, hv, hB, h1, h2, h3, hlF, rfl, hnd, hall⟩
  · injection hv with _ _ hh; omega
  · cases hv
    obtain ⟨C0, C', g1, g2, g3, g4⟩ := hr
    rw [hB] at g1
    cases g1
    refine .inr ⟨B, c, C', Fs, rfl, g2, h1, h2, by rw [g3, h3], hlF, rfl, hnd, fun k hk => ?_⟩
    obtain ⟨cs, ho, hc'⟩ := hall k hk
    refine ⟨cs, ⟨hfl ho.1, ho.2⟩, fun i u hi => ?_⟩
    have hil : i < E.size := by have := (List.getElem?_eq_some_iff.1 hi).1; rwa [E.len ho.1] at this
    have hcell := hc' i u hi
    rw [cell_of_row w B _ C T (0, 0) hB] at hcell
    rw [cell_of_row w' B _ C' T (0, 0) g2, g4 _ (.inl (Nat.lt_of_lt_of_le (Nat.add_lt_add_left hil _) (by rw [← Nat.succ_mul]; exact Nat.mul_le_mul_right _ hk)))]
    exact hcell

theorem OwS.flat_blocks {α : Type} [Inhabited α] {E : Elem α} {hfl : ∀ {S S' : Nat → Prop} {w w' : World} {cs x}, E.rel S w cs x → E.rel S' w' cs x} {T : TypeId} {w : World} {l : List α} {B c n : Nat} {F : List Nat}
    (h : OwS (OFlat E hfl) T w (.slice (some ⟨B, 0, none⟩) n c) l F) (hc : 0 < c) : F = [B] := by
  rcases h with ⟨_, _, A, hv⟩ | ⟨B', c', C, Fs, hv, hB, h1, h2, h3, hlF, rfl, hnd, hall⟩
  · injection hv with _ _ hh; omega
  · cases hv
    have : Fs.flatten = [] := List.flatten_eq_nil_iff.2 fun G hG => by
      obtain ⟨i, hi, rfl⟩ := List.getElem_of_mem hG
      obtain ⟨cs, ho, _⟩ := hall i (by omega)
      rw [← nth_eq hi]
      exact ho.2
    rw [this]

set_option maxHeartbeats 8000000 in
set_option maxRecDepth 100000 in
theorem delete_Span (l : List Span) (k : Nat) (v : Value) (F : List Nat) (w : World) (h : OwS OSpan 38 w v l F) (hl : l.length ≤ 1000000) (hk : k < l.length) :
    Calls Try.prog 117 #[v, .int .i64 k, .int .i64 ((k : Int) + 1)] w fun e w' => ∃ v' F', e = .returned v' ∧ OwS OSpan 38 w' v' (l.eraseIdx k) F' ∧ (∀ b ∈ F', b ∈ F) ∧ Kept F w w' := by
  obtain ⟨A, c, rfl, h1, h2⟩ := h.form
  unfold maxLen at h2
  have HO := Lib.hid h
  obtain ⟨B, rfl⟩ : ∃ B, A = some ⟨B, 0, none⟩ := by
    rcases h with ⟨rfl, _⟩ | ⟨B, _, _, _, hv, _⟩
    · simp at hk
    · injection hv with e1; exact ⟨B, e1⟩
  clear h
  have i0 : (0 : Int) ≤ (k : Int) := Int.natCast_nonneg _
  have i1 : (k : Int) ≤ (l.length : Int) := by omega
  have i2 : (k : Int) + 1 ≤ (l.length : Int) := by omega
  have i3 : (k : Int) ≤ (k : Int) + 1 := by omega
  have i4 : ((k : Int) + 1).toNat = k + 1 := by omega
  have i5 : (l.length : Int) ≤ (c : Int) := by omega
  go_enter Try.func117, Try.ntmps117
  go_upto_region 5 with (fail)
  have i6 : (k : Int) ≤ (c : Int) := by omega
  have i7 : (k : Int) + 1 ≤ (c : Int) := by omega
  have i8 : (0 : Int) ≤ (k : Int) + 1 := by omega
  obtain ⟨F1, o1, f1⟩ := HO.out.take (n := k) (by omega) _ _ rfl
  have O1 := Lib.hid o1
  have HY : Hid (∀ j, j < l.length - (k + 1) → ∃ cs, ESpan.rel (fun b => b ∈ F) w cs (nth (l.drop (k + 1)) j) ∧ w.rangeAt B ((k + 1) * 2 + j * 2) cs) := Lib.hid fun j hj => by
    obtain ⟨A2, c2, hv2, _, _, hk2⟩ := HO.out.rd.open_
    obtain ⟨b, q, cs, hA2, _, hr2, hc2⟩ := hk2 (k + 1 + j) (by omega)
    injection hv2 with e1 e2 e3
    rw [← e1] at hA2
    cases hA2
    have e : nth (l.drop (k + 1)) j = nth l (k + 1 + j) := by rw [nth_eq (by rw [List.length_drop]; omega), nth_eq (by omega)]; simp
    rw [e]
    refine ⟨cs, hr2, ?_⟩
    have e2 : 0 + (k + 1 + j) * ESpan.size = (k + 1) * 2 + j * 2 := by simp [ESpan]; omega
    rwa [e2] at hc2
  have LT : Hid ((l.take k).length = k) := Lib.hid (by rw [List.length_take]; omega)
  have LD : Hid ((l.drop (k + 1)).length = l.length - (k + 1)) := Lib.hid (by rw [List.length_drop])
  clear o1
  have HC0 : Hid (0 < c) := Lib.hid (by omega)
  rcases Classical.em (c = k + 1) with rfl | hck
  · skip
    go_region_held3 (fun _ => True) (exact trivial) (first | (refine step_append_flat_room (E := ESpan) (T := 38) (hfl := fun h => h) (S := fun b => b ∈ F) (B := B) (cap := (k + 1)) (n := k) (m := 0) (F := F1) (l := l.take k) (ys := l.drop (k + 1)) (by rfl) _ _ 52 (by rfl) (.agg #[.int .i64 0, .int .i64 0]) 2 16 Try.underlying52 (by kernel_rfl) rfl rfl LT.out (by rw [LD.out]; omega) (by rfl) (O1.out.ext (by first | exact Ext.refl _ | exact (Ext.refl _).drew)) (by omega) B 0 0 (by rfl) (fun j hj => absurd hj (by omega)) (by omega) (by unfold maxLen; omega) (by omega) ?_; intro w1 F2 o2 k2 f2))
    have HO2 := Lib.hid o2
    have HK2 := Lib.hid k2
    have HF2 := Lib.hid f2
    clear o2 k2 f2
    have hlen : k + 0 = k := by omega
    have HO3 : Hid (OwS OSpan 38 w1 (.slice (some ⟨B, 0, none⟩) k (k + 1)) (l.take k ++ l.drop (k + 1)) F2) := Lib.hid (by have := HO2.out; rwa [hlen] at this)
    have HLA : Hid ((l.take k ++ l.drop (k + 1)).length = k) := Lib.hid (by rw [List.length_append, LT.out, LD.out]; omega)
    obtain ⟨C, hC, hCs⟩ : ∃ C : Array Value, w1.heap[B]? = some (.cells C 38 (0, 0)) ∧ C.size = (k + 1) * 2 := by
      rcases HO3.out with ⟨_, _, A', hv⟩ | ⟨B', c', C, Fs, hv, hB, _, _, h3, _⟩
      · injection hv with _ _ hh; omega
      · injection hv with e1 e2 e3; cases e1; subst e3; exact ⟨C, hB, by simpa [ESpan] using h3⟩
    have HBF : Hid (B ∈ F2) := Lib.hid (by
      rcases HO3.out with ⟨_, _, A', hv⟩ | ⟨B', c', C, Fs, hv, _, _, _, _, _, rfl, _⟩
      · injection hv with _ _ hh; omega
      · injection hv with e1 e2 e3; cases e1; exact List.mem_cons_self ..)
    have HTH : Hid (w1.there B (k * 2) 2) := Lib.hid (cells_there hC (by rw [hCs]; omega))
    have HRW : Hid (RowBut 38 B (k * 2) 2 w1 (w1.setCells B (k * 2) (Builtin.zeroCells (Value.agg #[.int .i64 0, .int .i64 0]).cells 1).toList)) := Lib.hid (RowBut.setCells _ _ _ (RowBut.refl hC) (Nat.le_refl _) (by rw [(zero_spans _).1]; exact Nat.le_refl _))
    have hclr := run_clear_row (P := Try.prog) w1 52 38 0 (.agg #[.int .i64 0, .int .i64 0]) 1 Try.underlying52 (by intro w; go_simp) (zero_spans _).2 B (k * 2) 1 (by omega) (by rw [(zero_spans _).1]; exact HTH.out)
    rw [hlen]
    have j1 : (k : Int) ≤ (l.length : Int) := by omega
    have j2 : (0 : Int) ≤ (k : Int) := Int.natCast_nonneg _
    have j3 : l.length - k = 1 := by omega
    have j4 : ¬ (k + 1) = k := by omega
    clear hC hCs i0 i1 i2 i3 i4 i6 i7 i8 hlen
    go_wp2_with fail
    go_ret
    have hE : l.take k ++ l.drop (k + 1) = l.eraseIdx k := (List.eraseIdx_eq_take_drop_succ ..).symm
    exact ⟨_, F2, rfl, by rw [← hE]; exact OwS.cut2 HO3.out HLA.out HC0.out HRW.out, fun b hb => by rw [HO3.out.flat_blocks HC0.out] at hb; rw [HO.out.flat_blocks HC0.out]; exact hb, (Kept.trans (Kept.of_ext (Ext.refl _).drew) (HK2.out.sub fun b _ hb => f1 b hb)).trans (Kept.setCells (by rw [HO.out.flat_blocks HC0.out]; simp) _ _ _ (Kept.refl _ _))⟩
  · skip
    go_region_held3 (fun _ => True) (exact trivial) (first | (refine step_append_flat_room (E := ESpan) (T := 38) (hfl := fun h => h) (S := fun b => b ∈ F) (B := B) (cap := c) (n := k) (m := l.length - (k + 1)) (F := F1) (l := l.take k) (ys := l.drop (k + 1)) (by rfl) _ _ 52 (by rfl) (.agg #[.int .i64 0, .int .i64 0]) 2 16 Try.underlying52 (by kernel_rfl) rfl rfl LT.out LD.out (by rfl) (O1.out.ext (by first | exact Ext.refl _ | exact (Ext.refl _).drew)) (by omega) B ((k + 1) * 2) (c - (k + 1)) (by rfl) (by first | exact HY.out | exact fun j hj => (let ⟨cs, a, b⟩ := HY.out j hj; ⟨cs, ESpan.keep ((Ext.refl _).drew.same _) a, (Ext.refl _).drew.range b⟩)) (by omega) (by unfold maxLen; omega) (by omega) ?_; intro w1 F2 o2 k2 f2))
    have HO2 := Lib.hid o2
    have HK2 := Lib.hid k2
    have HF2 := Lib.hid f2
    clear o2 k2 f2
    have hlen : k + (l.length - (k + 1)) = l.length - 1 := by omega
    have HO3 : Hid (OwS OSpan 38 w1 (.slice (some ⟨B, 0, none⟩) (l.length - 1) c) (l.take k ++ l.drop (k + 1)) F2) := Lib.hid (by have := HO2.out; rwa [hlen] at this)
    have HLA : Hid ((l.take k ++ l.drop (k + 1)).length = l.length - 1) := Lib.hid (by rw [List.length_append, LT.out, LD.out]; omega)
    obtain ⟨C, hC, hCs⟩ : ∃ C : Array Value, w1.heap[B]? = some (.cells C 38 (0, 0)) ∧ C.size = c * 2 := by
      rcases HO3.out with ⟨_, _, A', hv⟩ | ⟨B', c', C, Fs, hv, hB, _, _, h3, _⟩
      · injection hv with _ _ hh; omega
      · injection hv with e1 e2 e3; cases e1; subst e3; exact ⟨C, hB, by simpa [ESpan] using h3⟩
    have HBF : Hid (B ∈ F2) := Lib.hid (by
      rcases HO3.out with ⟨_, _, A', hv⟩ | ⟨B', c', C, Fs, hv, _, _, _, _, _, rfl, _⟩
      · injection hv with _ _ hh; omega
      · injection hv with e1 e2 e3; cases e1; exact List.mem_cons_self ..)
    have HTH : Hid (w1.there B ((l.length - 1) * 2) 2) := Lib.hid (cells_there hC (by rw [hCs]; omega))
    have HRW : Hid (RowBut 38 B ((l.length - 1) * 2) 2 w1 (w1.setCells B ((l.length - 1) * 2) (Builtin.zeroCells (Value.agg #[.int .i64 0, .int .i64 0]).cells 1).toList)) := Lib.hid (RowBut.setCells _ _ _ (RowBut.refl hC) (Nat.le_refl _) (by rw [(zero_spans _).1]; exact Nat.le_refl _))
    have hclr := run_clear_row (P := Try.prog) w1 52 38 0 (.agg #[.int .i64 0, .int .i64 0]) 1 Try.underlying52 (by intro w; go_simp) (zero_spans _).2 B ((l.length - 1) * 2) (c - (l.length - 1)) (by omega) (by rw [(zero_spans _).1]; exact HTH.out)
    rw [hlen]
    have j1 : ((l.length - 1 : Nat) : Int) ≤ (l.length : Int) := by omega
    have j2 : (0 : Int) ≤ ((l.length - 1 : Nat) : Int) := Int.natCast_nonneg _
    have j3 : l.length - (l.length - 1) = 1 := by omega
    have j4 : ¬ c = l.length - 1 := by omega
    clear hC hCs i0 i1 i2 i3 i4 i6 i7 i8 hlen
    go_wp2_with fail
    go_ret
    have hE : l.take k ++ l.drop (k + 1) = l.eraseIdx k := (List.eraseIdx_eq_take_drop_succ ..).symm
    exact ⟨_, F2, rfl, by rw [← hE]; exact OwS.cut2 HO3.out HLA.out HC0.out HRW.out, fun b hb => by rw [HO3.out.flat_blocks HC0.out] at hb; rw [HO.out.flat_blocks HC0.out]; exact hb, (Kept.trans (Kept.of_ext (Ext.refl _).drew) (HK2.out.sub fun b _ hb => f1 b hb)).trans (Kept.setCells (by rw [HO.out.flat_blocks HC0.out]; simp) _ _ _ (Kept.refl _ _))⟩
end Go.Proofs.Ytdhcbbbmajjehaa

/- The walk of the reference's UseAdd. Printed by wip/uadds.py. -/
import Derived.Test.YtbdicafambkhdaaUAddI
namespace Go.Proofs.Ytbdicafambkhdaa
open Go.RowKit
attribute [local irreducible] wpQuiet

theorem addAt_length (l : List Use) (k : Nat) (n : Int) : (addAt l k n).length = l.length := by simp [addAt]
theorem addAt_ne {l : List Use} {k j : Nat} {n : Int} (h : j ≠ k) (hj : j < l.length) : nth (addAt l k n) j = nth l j := nth_set_ne h hj
theorem less_before {l : List Use} {a : Label} {o : ByteArray} {kf k : Nat} (hu : usesRight l = true) (hkf : kf < l.length) (hq : isUse a o (nth l kf) = true) (hk : k < kf) (n : Int) : decide (cmpUses ⟨a, o, n⟩ (nth l k) < 0) = false := by
  have h1 := uses_lt hu hk hkf
  simp only [isUse, Bool.and_eq_true, decide_eq_true_eq] at hq
  have h2 : cmpUses ⟨a, o, n⟩ (nth l kf) = 0 := cmpUses_same hq.1.symm hq.2.symm
  have h4 := lin_uses.anti (nth l k) ⟨a, o, n⟩
  have h5 := lin_uses.anti ⟨a, o, n⟩ (nth l kf)
  have h7 := lin_uses.anti (nth l k) (nth l kf)
  have h8 := lin_uses.trans (nth l kf) ⟨a, o, n⟩ (nth l k)
  simp only [decide_eq_false_iff_not]
  omega
theorem addAt_at {l : List Use} {k : Nat} {a : Label} {o : ByteArray} {n : Int} (hk : k < l.length) (hq : isUse a o (nth l k) = true) : nth (addAt l k n) k = ⟨a, o, min 100000 ((nth l k).used + n)⟩ := by
  simp only [isUse, Bool.and_eq_true, decide_eq_true_eq] at hq
  rw [addAt, nth_set_eq hk, ← hq.1, ← hq.2]
theorem insU_length (l : List Use) (x : Use) : (insU l x).length = l.length + 1 := by
  have := insP_le l x
  simp [insU]
  omega
theorem insU_nth {l : List Use} {x : Use} {k : Nat} (h1 : insP l x ≤ k) (hk : k < l.length) : nth (insU l x) (k + 1) = nth l k := by
  rw [nth_eq (by rw [insU_length]; omega), nth_eq hk]
  have hl : (l.take (insP l x)).length = insP l x := by rw [List.length_take]; omega
  simp only [insU]
  rw [List.getElem_append_right (by omega)]
  simp only [hl]
  rw [List.getElem_cons, dif_neg (by omega), List.getElem_drop]
  congr 1
  omega
theorem insU_succ {l : List Use} {x : Use} {k : Nat} (h1 : insP l x ≤ k) (hk : k < l.length) : (insU l x).take (k + 1 + 1) = (insU l x).take (k + 1) ++ [nth l k] := by
  rw [take_succ_nth (by rw [insU_length]; omega), insU_nth h1 hk]
theorem insU_two {l : List Use} {x : Use} {p : Nat} (hp : insP l x = p) (hk : p < l.length) : (insU l x).take (p + 1 + 1) = l.take p ++ ([x] ++ [nth l p]) := by
  rw [insU_succ (by omega) hk]
  have hl : (l.take p).length = p := by rw [List.length_take]; omega
  have e : (insU l x).take (p + 1) = l.take p ++ [x] := by
    rw [insU, hp, List.take_append, hl, show p + 1 - p = 1 by omega, List.take_of_length_le (by omega)]; rfl
  rw [e, List.append_assoc]
theorem insU_end {l : List Use} {x : Use} (h : insP l x = l.length) : insU l x = l ++ [x] := by
  rw [insU, h, List.take_length, List.drop_length]
theorem l01Min2_any (a b : Int) (w : World) :
    Calls Try.prog 123 #[.int .i64 a, .int .i64 b] w fun e w' => e = .returned (.int .i64 (min a b)) ∧ w = w' := by
  go_enter Try.func123, Try.ntmps123
  go_wp2
  all_goals (go_ret; exact ⟨ret_int (by omega), rfl⟩)
theorem quiet2_ext {w0 w V : World} {n : Nat} (h : w.drewN n = V) (hx : Ext w0 w) : Ext w0 V := by subst h; exact hx.trans ⟨rfl, rfl, rfl, Nat.le_refl _, fun _ _ => rfl⟩

set_option maxHeartbeats 16000000 in
set_option maxRecDepth 100000 in
theorem specUseAdd_any {S : Nat → Prop} (l : List Use) (a : Label) (o : ByteArray) (n : Int) (v : Value) (w : World) (h : Rd EUse S w v l) (ha : FitLabel a) (ho : Str o) (hn : I64 n) :
    Calls Try.prog 41 #[v, .agg #[.int .i64 a.level, .int .i64 a.set], .string o, .int .i64 n] w (RetO OUse 124 (useAdd l a o n) w) := by
  have HR := Lib.hid h
  obtain ⟨A, c, rfl, h1, h2, hk⟩ := h.open_
  unfold maxLen at h2
  have HK := Lib.hid hk
  have HA := Lib.hid ha
  have HO : Hid (o.size ≤ maxLen) := Lib.hid ho
  have ho2 : o.size ≤ 9223372036854775807 := ho
  have HN := Lib.hid hn
  have HFX : Hid (FitUse ⟨a, o, n⟩) := Lib.hid ⟨ha.1, ha.2, ho, hn⟩
  clear h hk ha ho hn
  go_enter Try.func41, Try.ntmps41
  go_upto_region 1 with (fail)
  obtain ⟨W, B, hW, hB, hx0, b0⟩ : ∃ V B, V = w.alloc (.cells #[.int .i64 a.level, .int .i64 a.set] 46) ∧ B = w.heap.size ∧ Ext w V ∧ Blk V B 46 #[.int .i64 a.level, .int .i64 a.set] := ⟨_, _, rfl, rfl, (Ext.refl w).alloc _, Blk.new _ _ _⟩
  rw [← hW, ← hB]
  have B0 := Lib.hid b0
  have X0 := Lib.hid hx0
  clear hW hB hx0 b0
  go_upto_region 2 with (fail)
  obtain ⟨W1, BE, hW, hB, hx0, b0⟩ : ∃ V B, V = W.alloc (.cells #[] 124) ∧ B = W.heap.size ∧ Ext W V ∧ Blk V B 124 #[] := ⟨_, _, rfl, rfl, (Ext.refl W).alloc _, Blk.new _ _ _⟩
  rw [← hW, ← hB]
  have BE1 := Lib.hid b0
  have B1 := Lib.hid (B0.out.ext hx0)
  have X1 := Lib.hid (X0.out.trans hx0)
  have HBE : Hid (w.heap.size ≤ BE) := Lib.hid (by have := X0.out.size; omega)
  have HBB : Hid (BE ≠ B) := Lib.hid (by have := B0.out.lt; omega)
  clear hW hB hx0 b0
  by_cases hl : 400 < l.length
  · have HE : Hid (useAdd l a o n = []) := Lib.hid (by rw [useAdd, if_pos (.inl hl)])
    go_wp2_with fail
    go_ret
    exact ⟨_, [], rfl, by rw [HE.out]; exact OwS.nil _, fun b hb => (by cases hb), X1.out⟩
  by_cases h8 : 8000 < o.size
  · have HE : Hid (useAdd l a o n = []) := Lib.hid (by rw [useAdd, if_pos (.inr h8)])
    go_wp2_with fail
    go_ret
    exact ⟨_, [], rfl, by rw [HE.out]; exact OwS.nil _, fun b hb => (by cases hb), X1.out⟩
  have HLO : Hid (¬ (400 < l.length ∨ 8000 < o.size)) := Lib.hid (by omega)
  have hl2 : l.length ≤ 400 := by omega
  have p0 : W1.cell? ⟨B, 0, none⟩ = some (.int .i64 a.level) := B1.out.cell 0
  have p1 : W1.cell? ⟨B, 1, none⟩ = some (.int .i64 a.set) := B1.out.cell 1
  go_upto_region 5 with (fail)
  obtain ⟨W2, N, hW, hB, hx0, b0⟩ : ∃ V B, V = W1.alloc (.cells #[.int .i64 a.level, .int .i64 a.set, .string o, .int .i64 n] 124) ∧ B = W1.heap.size ∧ Ext W1 V ∧ Blk V B 124 #[.int .i64 a.level, .int .i64 a.set, .string o, .int .i64 n] := ⟨_, _, rfl, rfl, (Ext.refl W1).alloc _, Blk.new _ _ _⟩
  rw [← hW, ← hB]
  have N2 := Lib.hid b0
  have BE2 := Lib.hid (BE1.out.ext hx0)
  have B2 := Lib.hid (B1.out.ext hx0)
  have X2 := Lib.hid (X1.out.trans hx0)
  have HNW : Hid (w.heap.size ≤ N) := Lib.hid (by have := X1.out.size; omega)
  have HBN : Hid (B ≠ N ∧ BE ≠ N) := Lib.hid (by have h1 := B1.out.lt; have h2 := BE1.out.lt; omega)
  clear hW hB hx0 b0 p0 p1 hl h8
  go_wp2_with fail
  go_loopw [11, 12, 13] (fun m fd i w' => ∃ k : Nat, k ≤ l.length ∧ i = .int .i64 k ∧ m = .int .i64 (ownersOf (l.take k) a : Nat) ∧ fd = .bool ((l.take k).any (isUse a o)) ∧ Ext W2 w') (fun _ _ i _ => l.length - (intOf i).toNat)
  case atStart => exact ⟨0, by omega, rfl, rfl, rfl, Ext.refl _⟩
  case round =>
    obtain ⟨k, hk1, rfl, rfl, rfl, hx⟩ := hrel
    have HX := Lib.hid hx
    have p0 : wr.cell? ⟨B, 0, none⟩ = some (.int .i64 a.level) := Ext.some hx (B2.out.cell 0)
    have p1 : wr.cell? ⟨B, 1, none⟩ = some (.int .i64 a.set) := Ext.some hx (B2.out.cell 1)
    by_cases hlt : k < l.length
    · obtain ⟨b, q, cs, rfl, _, ⟨rfl, hfit⟩, hc⟩ := HK.out k hlt
      have XW := Lib.hid (X2.out.trans hx)
      have c0 := Ext.some XW.out (hc 0 _ rfl)
      have c1 := Ext.some XW.out (hc 1 _ rfl)
      have c2 := Ext.some XW.out (hc 2 _ rfl)
      simp only [EUse, Nat.add_zero] at c0 c1 c2
      have HOS := Lib.hid (ownersOf_succ (a := a) hlt)
      have HTS := Lib.hid (take_succ_nth hlt)
      have hkl : (k : Int) < (l.length : Int) := by omega
      have hk0 : (0 : Int) ≤ (k : Int) := Int.natCast_nonneg _
      clear hc hfit hx
      generalize hfd : (l.take k).any (isUse a o) = fd at *
      have HFD := Lib.hid hfd
      clear hfd
      have HAny : Hid ((l.take (k + 1)).any (isUse a o) = (fd || isUse a o (nth l k))) := Lib.hid (by rw [HTS.out, List.any_append, HFD.out]; simp)
      have hob : ownersOf (l.take k) a ≤ 400 := by have h1 := ownersOf_le (l.take k) a; rw [List.length_take] at h1; omega
      by_cases hq : (nth l k).label = a
      · have q0 : (nth l k).label.level = a.level := by rw [hq]
        have q1 : (nth l k).label.set = a.set := by rw [hq]
        rw [q0] at c0
        rw [q1] at c1
        go_wp2_with fail
        go_quiet (fail)
        generalize hV : wr.drewN _ = V
        have XV := Lib.hid (quiet2_ext hV (Ext.refl wr))
        clear hV
        have p0b := Ext.some XV.out p0
        have p1b := Ext.some XV.out p1
        have c0b := Ext.some XV.out c0
        have c1b := Ext.some XV.out c1
        have c2b := Ext.some XV.out c2
        clear p0 p1 c0 c1 c2
        cases fd with
        | true =>
          go_wp2_with fail
          go_quiet (fail)
          generalize hV : World.drewN V _ = V2
          have XV2 := Lib.hid (quiet2_ext hV (HX.out.trans XV.out))
          clear hV
          go_wp2_with fail
          refine ⟨⟨k + 1, by omega, by go_num, by rw [HOS.out, if_pos hq]; first | rfl | (congr 1; omega), by rw [HAny.out]; rfl, XV2.out⟩, ?_⟩
          simp [intOf]
          omega
        | false =>
          go_wp2_with fail
          go_quiet (fail)
          generalize hV : World.drewN V _ = V2
          have XV2 := Lib.hid (quiet2_ext hV (HX.out.trans XV.out))
          clear hV
          go_wp2_with fail
          refine ⟨⟨k + 1, by omega, by go_num, by rw [HOS.out, if_pos hq]; first | rfl | (congr 1; omega), by rw [HAny.out, isUse_iff]; simp_all <;> (rw [Bool.eq_iff_iff]; simp), XV2.out⟩, ?_⟩
          simp [intOf]
          omega
      by_cases hv : (nth l k).label.level = a.level
      rotate_left
      · have z0 : ((nth l k).label.level == a.level) = false := by simpa using hv
        go_wp2_with fail
        go_quiet (fail)
        generalize hV : wr.drewN _ = V
        have XV := Lib.hid (quiet2_ext hV (Ext.refl wr))
        clear hV
        have p0b := Ext.some XV.out p0
        have p1b := Ext.some XV.out p1
        have c0b := Ext.some XV.out c0
        have c1b := Ext.some XV.out c1
        have c2b := Ext.some XV.out c2
        clear p0 p1 c0 c1 c2
        cases fd with
        | true =>
          go_wp2_with fail
          go_quiet (fail)
          generalize hV : World.drewN V _ = V2
          have XV2 := Lib.hid (quiet2_ext hV (HX.out.trans XV.out))
          clear hV
          go_wp2_with fail
          refine ⟨⟨k + 1, by omega, by go_num, by rw [HOS.out, if_neg hq]; first | rfl | (congr 1; omega), by rw [HAny.out]; rfl, XV2.out⟩, ?_⟩
          simp [intOf]
          omega
        | false =>
          go_wp2_with fail
          go_quiet (fail)
          generalize hV : World.drewN V _ = V2
          have XV2 := Lib.hid (quiet2_ext hV (HX.out.trans XV.out))
          clear hV
          go_wp2_with fail
          refine ⟨⟨k + 1, by omega, by go_num, by rw [HOS.out, if_neg hq]; first | rfl | (congr 1; omega), by rw [HAny.out, isUse_iff]; simp_all <;> (rw [Bool.eq_iff_iff]; simp), XV2.out⟩, ?_⟩
          simp [intOf]
          omega
      · have z1 : ((nth l k).label.set == a.set) = false := by simp; exact fun e => hq (Label.ext hv e)
        rw [hv] at c0
        go_wp2_with fail
        go_quiet (fail)
        generalize hV : wr.drewN _ = V
        have XV := Lib.hid (quiet2_ext hV (Ext.refl wr))
        clear hV
        have p0b := Ext.some XV.out p0
        have p1b := Ext.some XV.out p1
        have c0b := Ext.some XV.out c0
        have c1b := Ext.some XV.out c1
        have c2b := Ext.some XV.out c2
        clear p0 p1 c0 c1 c2
        cases fd with
        | true =>
          go_wp2_with fail
          go_quiet (fail)
          generalize hV : World.drewN V _ = V2
          have XV2 := Lib.hid (quiet2_ext hV (HX.out.trans XV.out))
          clear hV
          go_wp2_with fail
          refine ⟨⟨k + 1, by omega, by go_num, by rw [HOS.out, if_neg hq]; first | rfl | (congr 1; omega), by rw [HAny.out]; rfl, XV2.out⟩, ?_⟩
          simp [intOf]
          omega
        | false =>
          go_wp2_with fail
          go_quiet (fail)
          generalize hV : World.drewN V _ = V2
          have XV2 := Lib.hid (quiet2_ext hV (HX.out.trans XV.out))
          clear hV
          go_wp2_with fail
          refine ⟨⟨k + 1, by omega, by go_num, by rw [HOS.out, if_neg hq]; first | rfl | (congr 1; omega), by rw [HAny.out, isUse_iff]; simp_all <;> (rw [Bool.eq_iff_iff]; simp), XV2.out⟩, ?_⟩
          simp [intOf]
          omega
    · obtain rfl : k = l.length := by omega
      obtain ⟨Wq, rfl⟩ : ∃ V, V = wr := ⟨_, rfl⟩
      have XQ := Lib.hid (X2.out.trans hx)
      have BQ := Lib.hid (B2.out.ext hx)
      have NQ := Lib.hid (N2.out.ext hx)
      have EQ := Lib.hid (BE2.out.ext hx)
      rw [List.take_length]
      clear p0 p1 hx
      have p0 : Wq.cell? ⟨B, 0, none⟩ = some (.int .i64 a.level) := BQ.out.cell 0
      have p1 : Wq.cell? ⟨B, 1, none⟩ = some (.int .i64 a.set) := BQ.out.cell 1
      have hob : ownersOf l a ≤ 400 := by have h1 := ownersOf_le l a; omega
      cases hu : usesRight l with
      | false =>
        have HE : Hid (useAdd l a o n = l) := Lib.hid (by rw [useAdd, if_neg HLO.out, if_pos (by simp [hu])])
        go_wp2_with (first | (go_at_call 43; (with_reducible refine (specUsesRight_any (S := S) l _ _ (HR.out.ext XQ.out)).mono ?_); rintro e y1 ⟨rfl, hx1⟩; have H1 := Lib.hid hx1; have XV1 := Lib.hid (XQ.out.trans hx1); have p0a := Ext.some hx1 p0; have p1a := Ext.some hx1 p1; clear hx1 p0 p1) | (at_builtin; refine wpList_append_flat (E := EUse) (T := 124) (hfl := fun h => h) (l := []) (ys := l) (F := []) (S := S) rfl _ _ 66 rfl (.agg #[.int .i64 0, .int .i64 0, .string ⟨#[]⟩, .int .i64 0]) 4 40 Try.underlying66 (by kernel_rfl) rfl rfl rfl (OwS.nil _) rfl (HR.out.ext XV1.out) (by simp only [List.length_nil]; unfold maxLen; omega) (by simp only [List.length_nil]; omega) ?_; intro v9 w9 F9 how hkp hF9; have HOW := Lib.hid how; have HKP := Lib.hid hkp; have HFF := Lib.hid hF9; clear how hkp hF9))
        go_ret
        exact ⟨_, F9, rfl, by rw [HE.out]; exact HOW.out, fun b hb => by rcases HFF.out b hb with h | h; cases h; exact Nat.le_trans XV1.out.size h, HKP.out.ext XV1.out (fun b hb => by cases hb)⟩
      | true =>
      cases hla : labelRight a with
      | false =>
        have HE : Hid (useAdd l a o n = l) := Lib.hid (by rw [useAdd, if_neg HLO.out, if_pos (by simp [hla])])
        go_wp2_with (first | (go_at_call 43; (with_reducible refine (specUsesRight_any (S := S) l _ _ (HR.out.ext XQ.out)).mono ?_); rintro e y1 ⟨rfl, hx1⟩; have H1 := Lib.hid hx1; have XV1 := Lib.hid (XQ.out.trans hx1); have p0a := Ext.some hx1 p0; have p1a := Ext.some hx1 p1; clear hx1 p0 p1) | (go_at_call 48; (with_reducible refine (specLabelRight_any (S := S) a [.int .i64 a.level, .int .i64 a.set] _ (rel_Label HA.out)).mono ?_); rintro e y2 ⟨rfl, hx2⟩; have H2 := Lib.hid (H1.out.trans hx2); have XV2 := Lib.hid (XV1.out.trans hx2); clear hx2) | (at_builtin; refine wpList_append_flat (E := EUse) (T := 124) (hfl := fun h => h) (l := []) (ys := l) (F := []) (S := S) rfl _ _ 66 rfl (.agg #[.int .i64 0, .int .i64 0, .string ⟨#[]⟩, .int .i64 0]) 4 40 Try.underlying66 (by kernel_rfl) rfl rfl rfl (OwS.nil _) rfl (HR.out.ext XV2.out) (by simp only [List.length_nil]; unfold maxLen; omega) (by simp only [List.length_nil]; omega) ?_; intro v9 w9 F9 how hkp hF9; have HOW := Lib.hid how; have HKP := Lib.hid hkp; have HFF := Lib.hid hF9; clear how hkp hF9))
        go_ret
        exact ⟨_, F9, rfl, by rw [HE.out]; exact HOW.out, fun b hb => by rcases HFF.out b hb with h | h; cases h; exact Nat.le_trans XV2.out.size h, HKP.out.ext XV2.out (fun b hb => by cases hb)⟩
      | true =>
      cases hna : nameRight o with
      | false =>
        have HE : Hid (useAdd l a o n = l) := Lib.hid (by rw [useAdd, if_neg HLO.out, if_pos (by simp [hna])])
        go_wp2_with (first | (go_at_call 43; (with_reducible refine (specUsesRight_any (S := S) l _ _ (HR.out.ext XQ.out)).mono ?_); rintro e y1 ⟨rfl, hx1⟩; have H1 := Lib.hid hx1; have XV1 := Lib.hid (XQ.out.trans hx1); have p0a := Ext.some hx1 p0; have p1a := Ext.some hx1 p1; clear hx1 p0 p1) | (go_at_call 48; (with_reducible refine (specLabelRight_any (S := S) a [.int .i64 a.level, .int .i64 a.set] _ (rel_Label HA.out)).mono ?_); rintro e y2 ⟨rfl, hx2⟩; have H2 := Lib.hid (H1.out.trans hx2); have XV2 := Lib.hid (XV1.out.trans hx2); clear hx2) | (go_at_call 49; refine (specNameRight_any _ _ HO.out).mono ?_; rintro e w' ⟨rfl, rfl⟩) | (at_builtin; refine wpList_append_flat (E := EUse) (T := 124) (hfl := fun h => h) (l := []) (ys := l) (F := []) (S := S) rfl _ _ 66 rfl (.agg #[.int .i64 0, .int .i64 0, .string ⟨#[]⟩, .int .i64 0]) 4 40 Try.underlying66 (by kernel_rfl) rfl rfl rfl (OwS.nil _) rfl (HR.out.ext XV2.out) (by simp only [List.length_nil]; unfold maxLen; omega) (by simp only [List.length_nil]; omega) ?_; intro v9 w9 F9 how hkp hF9; have HOW := Lib.hid how; have HKP := Lib.hid hkp; have HFF := Lib.hid hF9; clear how hkp hF9))
        go_ret
        exact ⟨_, F9, rfl, by rw [HE.out]; exact HOW.out, fun b hb => by rcases HFF.out b hb with h | h; cases h; exact Nat.le_trans XV2.out.size h, HKP.out.ext XV2.out (fun b hb => by cases hb)⟩
      | true =>
      cases hwi : isB n 1 100000 with
      | false =>
        have HE : Hid (useAdd l a o n = l) := Lib.hid (by rw [useAdd, if_neg HLO.out, if_pos (by simp [hwi])])
        go_wp2_with (first | (go_at_call 43; (with_reducible refine (specUsesRight_any (S := S) l _ _ (HR.out.ext XQ.out)).mono ?_); rintro e y1 ⟨rfl, hx1⟩; have H1 := Lib.hid hx1; have XV1 := Lib.hid (XQ.out.trans hx1); have p0a := Ext.some hx1 p0; have p1a := Ext.some hx1 p1; clear hx1 p0 p1) | (go_at_call 48; (with_reducible refine (specLabelRight_any (S := S) a [.int .i64 a.level, .int .i64 a.set] _ (rel_Label HA.out)).mono ?_); rintro e y2 ⟨rfl, hx2⟩; have H2 := Lib.hid (H1.out.trans hx2); have XV2 := Lib.hid (XV1.out.trans hx2); clear hx2) | (go_at_call 49; refine (specNameRight_any _ _ HO.out).mono ?_; rintro e w' ⟨rfl, rfl⟩) | (go_at_call 89; refine (l02Is_any _ _ _ _).mono ?_; rintro e w' ⟨rfl, rfl⟩) | (at_builtin; refine wpList_append_flat (E := EUse) (T := 124) (hfl := fun h => h) (l := []) (ys := l) (F := []) (S := S) rfl _ _ 66 rfl (.agg #[.int .i64 0, .int .i64 0, .string ⟨#[]⟩, .int .i64 0]) 4 40 Try.underlying66 (by kernel_rfl) rfl rfl rfl (OwS.nil _) rfl (HR.out.ext XV2.out) (by simp only [List.length_nil]; unfold maxLen; omega) (by simp only [List.length_nil]; omega) ?_; intro v9 w9 F9 how hkp hF9; have HOW := Lib.hid how; have HKP := Lib.hid hkp; have HFF := Lib.hid hF9; clear how hkp hF9))
        go_ret
        exact ⟨_, F9, rfl, by rw [HE.out]; exact HOW.out, fun b hb => by rcases HFF.out b hb with h | h; cases h; exact Nat.le_trans XV2.out.size h, HKP.out.ext XV2.out (fun b hb => by cases hb)⟩
      | true =>
      have HU := Lib.hid hu
      have HLA := Lib.hid hla
      have hn2 := isB_true hwi
      have HN2 := Lib.hid hn2
      have HOK : Hid (¬ (usesRight l && labelRight a && nameRight o && isB n 1 100000) = false) := Lib.hid (by rw [hu, hla, hna, hwi]; decide)
      have h6l := owners_six hu a l.length (Nat.le_refl _)
      rw [List.take_length] at h6l
      have hl48 : l.length ≤ 48 := by simp only [usesRight, Bool.and_eq_true, decide_eq_true_eq] at hu; exact hu.1
      rcases idxOf_cases (isUse a o) l with ⟨hi, hnone⟩ | ⟨kf, hkf, hi, hq, hlow⟩
      · have hany : l.any (isUse a o) = false := by rw [List.any_eq_false]; intro y hy; obtain ⟨i, hi2, rfl⟩ := List.getElem_of_mem hy; have := hnone i hi2; rw [nth_eq hi2] at this; simp [this]
        rw [hany]
        by_cases h6 : ownersOf l a = 6
        · have h6b : (6 : Int) ≤ ((ownersOf l a : Nat) : Int) := by omega
          have HE : Hid (useAdd l a o n = l) := Lib.hid (by rw [useAdd, if_neg HLO.out, if_neg HOK.out, if_neg (by rw [hi]; decide), if_pos (.inr h6)])
          clear h6
          go_wp2_with (first | (go_at_call 43; (with_reducible refine (specUsesRight_any (S := S) l _ _ (HR.out.ext XQ.out)).mono ?_); rintro e y1 ⟨rfl, hx1⟩; have H1 := Lib.hid hx1; have XV1 := Lib.hid (XQ.out.trans hx1); have p0a := Ext.some hx1 p0; have p1a := Ext.some hx1 p1; clear hx1 p0 p1) | (go_at_call 48; (with_reducible refine (specLabelRight_any (S := S) a [.int .i64 a.level, .int .i64 a.set] _ (rel_Label HA.out)).mono ?_); rintro e y2 ⟨rfl, hx2⟩; have H2 := Lib.hid (H1.out.trans hx2); have XV2 := Lib.hid (XV1.out.trans hx2); clear hx2) | (go_at_call 49; refine (specNameRight_any _ _ HO.out).mono ?_; rintro e w' ⟨rfl, rfl⟩) | (go_at_call 89; refine (l02Is_any _ _ _ _).mono ?_; rintro e w' ⟨rfl, rfl⟩) | (at_builtin; refine wpList_append_flat (E := EUse) (T := 124) (hfl := fun h => h) (l := []) (ys := l) (F := []) (S := S) rfl _ _ 66 rfl (.agg #[.int .i64 0, .int .i64 0, .string ⟨#[]⟩, .int .i64 0]) 4 40 Try.underlying66 (by kernel_rfl) rfl rfl rfl (OwS.nil _) rfl (HR.out.ext XV2.out) (by simp only [List.length_nil]; unfold maxLen; omega) (by simp only [List.length_nil]; omega) ?_; intro v9 w9 F9 how hkp hF9; have HOW := Lib.hid how; have HKP := Lib.hid hkp; have HFF := Lib.hid hF9; clear how hkp hF9))
          go_ret
          exact ⟨_, F9, rfl, by rw [HE.out]; exact HOW.out, fun b hb => by rcases HFF.out b hb with h | h; cases h; exact Nat.le_trans XV2.out.size h, HKP.out.ext XV2.out (fun b hb => by cases hb)⟩
        have h6b : ¬ (6 : Int) ≤ ((ownersOf l a : Nat) : Int) := by omega
        by_cases h48 : l.length = 48
        · have h48b : (48 : Int) ≤ (l.length : Int) := by omega
          have HE : Hid (useAdd l a o n = l) := Lib.hid (by rw [useAdd, if_neg HLO.out, if_neg HOK.out, if_neg (by rw [hi]; decide), if_pos (.inl h48)])
          clear h48
          go_wp2_with (first | (go_at_call 43; (with_reducible refine (specUsesRight_any (S := S) l _ _ (HR.out.ext XQ.out)).mono ?_); rintro e y1 ⟨rfl, hx1⟩; have H1 := Lib.hid hx1; have XV1 := Lib.hid (XQ.out.trans hx1); have p0a := Ext.some hx1 p0; have p1a := Ext.some hx1 p1; clear hx1 p0 p1) | (go_at_call 48; (with_reducible refine (specLabelRight_any (S := S) a [.int .i64 a.level, .int .i64 a.set] _ (rel_Label HA.out)).mono ?_); rintro e y2 ⟨rfl, hx2⟩; have H2 := Lib.hid (H1.out.trans hx2); have XV2 := Lib.hid (XV1.out.trans hx2); clear hx2) | (go_at_call 49; refine (specNameRight_any _ _ HO.out).mono ?_; rintro e w' ⟨rfl, rfl⟩) | (go_at_call 89; refine (l02Is_any _ _ _ _).mono ?_; rintro e w' ⟨rfl, rfl⟩) | (at_builtin; refine wpList_append_flat (E := EUse) (T := 124) (hfl := fun h => h) (l := []) (ys := l) (F := []) (S := S) rfl _ _ 66 rfl (.agg #[.int .i64 0, .int .i64 0, .string ⟨#[]⟩, .int .i64 0]) 4 40 Try.underlying66 (by kernel_rfl) rfl rfl rfl (OwS.nil _) rfl (HR.out.ext XV2.out) (by simp only [List.length_nil]; unfold maxLen; omega) (by simp only [List.length_nil]; omega) ?_; intro v9 w9 F9 how hkp hF9; have HOW := Lib.hid how; have HKP := Lib.hid hkp; have HFF := Lib.hid hF9; clear how hkp hF9))
          go_ret
          exact ⟨_, F9, rfl, by rw [HE.out]; exact HOW.out, fun b hb => by rcases HFF.out b hb with h | h; cases h; exact Nat.le_trans XV2.out.size h, HKP.out.ext XV2.out (fun b hb => by cases hb)⟩
        have h48b : ¬ (48 : Int) ≤ (l.length : Int) := by omega
        have HE : Hid (useAdd l a o n = insU l ⟨a, o, n⟩) := Lib.hid (by rw [useAdd, if_neg HLO.out, if_neg HOK.out, if_neg (by rw [hi]; decide), if_neg (by omega)])
        have HNO := Lib.hid hnone
        clear hi hnone hany h6
        go_upto_region 16 with (first | (go_at_call 43; (with_reducible refine (specUsesRight_any (S := S) l _ _ (HR.out.ext XQ.out)).mono ?_); rintro e y1 ⟨rfl, hx1⟩; have H1 := Lib.hid hx1; have XV1 := Lib.hid (XQ.out.trans hx1); have p0a := Ext.some hx1 p0; have p1a := Ext.some hx1 p1; clear hx1 p0 p1) | (go_at_call 48; (with_reducible refine (specLabelRight_any (S := S) a [.int .i64 a.level, .int .i64 a.set] _ (rel_Label HA.out)).mono ?_); rintro e y2 ⟨rfl, hx2⟩; have H2 := Lib.hid (H1.out.trans hx2); have XV2 := Lib.hid (XV1.out.trans hx2); clear hx2) | (go_at_call 49; refine (specNameRight_any _ _ HO.out).mono ?_; rintro e w' ⟨rfl, rfl⟩) | (go_at_call 89; refine (l02Is_any _ _ _ _).mono ?_; rintro e w' ⟨rfl, rfl⟩))
        have NY := Lib.hid (NQ.out.ext H2.out)
        have HPI := Lib.hid (insP_le l ⟨a, o, n⟩)
        generalize hp : insP l ⟨a, o, n⟩ = p at *
        have HP := Lib.hid hp
        go_loopw [9, 14, 15] (fun ov pv i w' => ∃ (k : Nat) (F : List Nat), k ≤ l.length ∧ i = .int .i64 k ∧ pv = .bool (decide (p < k)) ∧ OwS OUse 124 w' ov (if k ≤ p then l.take k else (insU l ⟨a, o, n⟩).take (k + 1)) F ∧ (∀ b ∈ F, w.heap.size ≤ b ∧ b ≠ N ∧ b ≠ B) ∧ Blk w' N 124 #[.int .i64 a.level, .int .i64 a.set, .string o, .int .i64 (n)] ∧ Blk w' B 46 #[.int .i64 a.level, .int .i64 a.set] ∧ Ext w w') (fun _ _ i _ => l.length - (intOf i).toNat)
        case atStart => exact ⟨0, [BE], Nat.zero_le _, rfl, by simp, by rw [if_pos (Nat.zero_le _)]; simp only [List.take_zero]; exact .inr ⟨BE, 0, #[], [], rfl, EQ.out.ext H2.out, Nat.le_refl _, Nat.zero_le _, rfl, rfl, rfl, by simp, fun k hk => absurd hk (Nat.not_lt_zero _)⟩, fun b hb => by rw [List.mem_singleton.1 hb]; exact ⟨HBE.out, HBN.out.2, HBB.out⟩, by exact NY.out, BQ.out.ext H2.out, XV2.out⟩
        case round =>
          obtain ⟨k, F, hk1, rfl, rfl, hown, hF, hN, hB, hx⟩ := hrel
          have HO2 := Lib.hid hown
          have HF2 := Lib.hid hF
          have HNB := Lib.hid hN
          have HBB2 := Lib.hid hB
          have XR := Lib.hid hx
          clear hown hF hN hB
          by_cases hlt : k < l.length
          · obtain ⟨b, q, cs, rfl, _, ⟨rfl, hfit⟩, hc⟩ := HK.out k hlt
            have c0 := Ext.some hx (hc 0 _ rfl)
            have c1 := Ext.some hx (hc 1 _ rfl)
            have c2 := Ext.some hx (hc 2 _ rfl)
            have c3 := Ext.some hx (hc 3 _ rfl)
            simp only [EUse, Nat.add_zero] at c0 c1 c2 c3
            have p0 : wr.cell? ⟨B, 0, none⟩ = some (.int .i64 a.level) := HBB2.out.cell 0
            have p1 : wr.cell? ⟨B, 1, none⟩ = some (.int .i64 a.set) := HBB2.out.cell 1
            have HFT := Lib.hid hfit
            have HTS := Lib.hid (take_succ_nth hlt)
            have HUT : Hid (labelRight (nth l k).label = true ∧ 1 ≤ (nth l k).used ∧ (nth l k).used ≤ 100000) := Lib.hid (by have h1 := useOk_true HU.out hlt; simp only [useOk, Bool.and_eq_true] at h1; have h2 := isB_true h1.2; exact ⟨h1.1.1, h2⟩)
            have hkl : (k : Int) < (l.length : Int) := by omega
            have hk0 : (0 : Int) ≤ (k : Int) := Int.natCast_nonneg _
            clear hc hfit hx
            by_cases hkp : k < p
            · have hd : decide (p < k) = false := by simp; omega
              rw [hd]
              have HLS : Hid (decide (cmpUses ⟨a, o, n⟩ (nth l k) < 0) = false) := Lib.hid (by simp only [decide_eq_false_iff_not]; rw [← HP.out] at hkp; exact insP_low l _ k hkp)
              have hnu : isUse a o (nth l k) = false := HNO.out k hlt
              have NV0 : Hid (Blk wr N 124 #[.int .i64 a.level, .int .i64 a.set, .string o, .int .i64 n]) := Lib.hid (by exact HNB.out)
              have HKP := Lib.hid hkp
              clear hd hkp
              have C0 := Lib.hid c0
              have C1 := Lib.hid c1
              have C2 := Lib.hid c2
              have C3 := Lib.hid c3
              by_cases hq : (nth l k).label = a
              · have q0 : (nth l k).label.level = a.level := by rw [hq]
                have q1 : (nth l k).label.set = a.set := by rw [hq]
                have z2 : ((nth l k).owner.toList == o.toList) = false := by rw [isUse_iff] at hnu; simpa [q0, q1] using hnu
                rw [q0] at c0
                rw [q1] at c1
                clear hq q0 q1 hnu
                go_wp2_with fail
                go_quiet (fail)
                generalize hV : wr.drewN _ = V1
                have QV := Lib.hid (quiet2_ext hV (Ext.refl wr))
                clear hV
                have NV1 := Lib.hid (NV0.out.ext QV.out)
                have BV1 := Lib.hid (HBB2.out.ext QV.out)
                have XV1 := Lib.hid (XR.out.trans QV.out)
                have OV1 := Lib.hid (HO2.out.ext QV.out)
                have D0 := Lib.hid (Ext.some QV.out C0.out)
                have D1 := Lib.hid (Ext.some QV.out C1.out)
                have D2 := Lib.hid (Ext.some QV.out C2.out)
                have D3 := Lib.hid (Ext.some QV.out C3.out)
                clear c0 c1 c2 c3 p0 p1
                go_wp2_with fail
                have al0 : ∀ V, Ext V1 V → V.cell? ⟨N, 0, none⟩ = some (.int .i64 a.level) := fun V hV => Ext.some hV (NV1.out.cell 0)
                have al1 : ∀ V, Ext V1 V → V.cell? ⟨N, 1, none⟩ = some (.int .i64 a.set) := fun V hV => Ext.some hV (NV1.out.cell 1)
                have al2 : ∀ V, Ext V1 V → V.cell? ⟨N, 2, none⟩ = some (.string o) := fun V hV => Ext.some hV (NV1.out.cell 2)
                have al3 : ∀ V, Ext V1 V → V.cell? ⟨N, 3, none⟩ = some (.int .i64 n) := fun V hV => Ext.some hV (NV1.out.cell 3)
                have ac0 : ∀ V, Ext V1 V → V.cell? ⟨b, q + k * 4, none⟩ = some (.int .i64 (nth l k).label.level) := fun V hV => Ext.some hV D0.out
                have ac1 : ∀ V, Ext V1 V → V.cell? ⟨b, q + k * 4 + 1, none⟩ = some (.int .i64 (nth l k).label.set) := fun V hV => Ext.some hV D1.out
                have ac2 : ∀ V, Ext V1 V → V.cell? ⟨b, q + k * 4 + 2, none⟩ = some (.string (nth l k).owner) := fun V hV => Ext.some hV D2.out
                have ac3 : ∀ V, Ext V1 V → V.cell? ⟨b, q + k * 4 + 3, none⟩ = some (.int .i64 (nth l k).used) := fun V hV => Ext.some hV D3.out
                go_region_held3 (fun V => Ext V1 V) (first | exact Ext.refl _ | exact (Ext.refl _).drew | assumption | exact Ext.trans (by assumption) HL.out) (first | (go_at_call 124; (with_reducible refine (l11Less_any (S := S) (S' := S) ⟨a, o, n⟩ (nth l k) [.int .i64 a.level, .int .i64 a.set, .string o, .int .i64 n] [.int .i64 (nth l k).label.level, .int .i64 (nth l k).label.set, .string (nth l k).owner, .int .i64 (nth l k).used] _ (rel_Use HFX.out) (rel_Use HFT.out) HLA.out HUT.out.1).mono ?_); rw [HLS.out]; rintro e y ⟨rfl, hxl⟩; have HL := Lib.hid hxl; have HV : Hid (Ext V1 y) := Lib.hid (Ext.trans (by assumption) hxl); clear hxl))
                have NV := Lib.hid (NV1.out.ext HV.out)
                have BV := Lib.hid (BV1.out.ext HV.out)
                have XY := Lib.hid (XV1.out.trans HV.out)
                have OY := Lib.hid (OV1.out.ext HV.out)
                clear al0 al1 al2 al3 ac0 ac1 ac2 ac3
                have d0 := Ext.some HV.out D0.out
                have d1 := Ext.some HV.out D1.out
                have d2 := Ext.some HV.out D2.out
                have d3 := Ext.some HV.out D3.out
                go_upto_region 17 with (at_builtin; refine wpList_append_one (O := OUse) (T := 124) (l := (if k ≤ p then l.take k else (insU l ⟨a, o, n⟩).take (k + 1))) (F := F) (G := []) (y := nth l k) (cs := [.int .i64 (nth l k).label.level, .int .i64 (nth l k).label.set, .string (nth l k).owner, .int .i64 (nth l k).used]) rfl _ _ 66 rfl (.agg #[.int .i64 0, .int .i64 0, .string ⟨#[]⟩, .int .i64 0]) 4 40 Try.underlying66 (by kernel_rfl) rfl rfl rfl (OY.out.ext ((Ext.refl _).alloc _)) _ 0 1 rfl ⟨⟨rfl, HFT.out⟩, rfl⟩ (Blk.new _ _ _).range (by simpa using (OY.out).nodup) (by split <;> simp only [List.length_take] <;> omega) (by decide) ?_; intro vw9 w9 F9 how hkp hF9; have OWw9 := Lib.hid how; have KPw9 := Lib.hid hkp; have FFw9 := Lib.hid hF9; clear how hkp hF9)
                have HA9 : Hid (∀ b ∈ F9, w.heap.size ≤ b ∧ b ≠ N ∧ b ≠ B) := Lib.hid (fun b hb => by
                  rcases FFw9.out b hb with h | h | h
                  · exact HF2.out b h
                  · cases h
                  · have h1 := NV.out.lt
                    have h2 := BV.out.lt
                    have h3 := ((Ext.refl y).alloc (.cells #[] 124)).size
                    have h4 := XY.out.size
                    have h5 : y.heap.size + 1 ≤ b := by simpa using h
                    omega)
                go_wp2_with fail
                refine ⟨⟨k + 1, F9, by omega, by go_num, by have := HKP.out; congr 1; simp; omega, by have h := OWw9.out; rw [if_pos (by have := HKP.out; omega)] at h; rw [if_pos (by have := HKP.out; omega), HTS.out]; exact h, HA9.out, ?_, ?_, ?_⟩, ?_⟩
                · exact (KPw9.out.block N (NV.out.ext ((Ext.refl _).alloc _)).lt (fun h => (HF2.out _ h).2.1 rfl)).trans (NV.out.ext ((Ext.refl _).alloc _))
                · exact (KPw9.out.block B (BV.out.ext ((Ext.refl _).alloc _)).lt (fun h => (HF2.out _ h).2.2 rfl)).trans (BV.out.ext ((Ext.refl _).alloc _))
                · exact KPw9.out.ext (XY.out.alloc _) (fun b hb => (HF2.out b hb).1)
                · simp [intOf]
                  omega
              by_cases hv : (nth l k).label.level = a.level
              rotate_left
              · have z0 : ((nth l k).label.level == a.level) = false := by simpa using hv
                clear hq hv hnu
                go_wp2_with fail
                go_quiet (fail)
                generalize hV : wr.drewN _ = V1
                have QV := Lib.hid (quiet2_ext hV (Ext.refl wr))
                clear hV
                have NV1 := Lib.hid (NV0.out.ext QV.out)
                have BV1 := Lib.hid (HBB2.out.ext QV.out)
                have XV1 := Lib.hid (XR.out.trans QV.out)
                have OV1 := Lib.hid (HO2.out.ext QV.out)
                have D0 := Lib.hid (Ext.some QV.out C0.out)
                have D1 := Lib.hid (Ext.some QV.out C1.out)
                have D2 := Lib.hid (Ext.some QV.out C2.out)
                have D3 := Lib.hid (Ext.some QV.out C3.out)
                clear c0 c1 c2 c3 p0 p1
                go_wp2_with fail
                have al0 : ∀ V, Ext V1 V → V.cell? ⟨N, 0, none⟩ = some (.int .i64 a.level) := fun V hV => Ext.some hV (NV1.out.cell 0)
                have al1 : ∀ V, Ext V1 V → V.cell? ⟨N, 1, none⟩ = some (.int .i64 a.set) := fun V hV => Ext.some hV (NV1.out.cell 1)
                have al2 : ∀ V, Ext V1 V → V.cell? ⟨N, 2, none⟩ = some (.string o) := fun V hV => Ext.some hV (NV1.out.cell 2)
                have al3 : ∀ V, Ext V1 V → V.cell? ⟨N, 3, none⟩ = some (.int .i64 n) := fun V hV => Ext.some hV (NV1.out.cell 3)
                have ac0 : ∀ V, Ext V1 V → V.cell? ⟨b, q + k * 4, none⟩ = some (.int .i64 (nth l k).label.level) := fun V hV => Ext.some hV D0.out
                have ac1 : ∀ V, Ext V1 V → V.cell? ⟨b, q + k * 4 + 1, none⟩ = some (.int .i64 (nth l k).label.set) := fun V hV => Ext.some hV D1.out
                have ac2 : ∀ V, Ext V1 V → V.cell? ⟨b, q + k * 4 + 2, none⟩ = some (.string (nth l k).owner) := fun V hV => Ext.some hV D2.out
                have ac3 : ∀ V, Ext V1 V → V.cell? ⟨b, q + k * 4 + 3, none⟩ = some (.int .i64 (nth l k).used) := fun V hV => Ext.some hV D3.out
                go_region_held3 (fun V => Ext V1 V) (first | exact Ext.refl _ | exact (Ext.refl _).drew | assumption | exact Ext.trans (by assumption) HL.out) (first | (go_at_call 124; (with_reducible refine (l11Less_any (S := S) (S' := S) ⟨a, o, n⟩ (nth l k) [.int .i64 a.level, .int .i64 a.set, .string o, .int .i64 n] [.int .i64 (nth l k).label.level, .int .i64 (nth l k).label.set, .string (nth l k).owner, .int .i64 (nth l k).used] _ (rel_Use HFX.out) (rel_Use HFT.out) HLA.out HUT.out.1).mono ?_); rw [HLS.out]; rintro e y ⟨rfl, hxl⟩; have HL := Lib.hid hxl; have HV : Hid (Ext V1 y) := Lib.hid (Ext.trans (by assumption) hxl); clear hxl))
                have NV := Lib.hid (NV1.out.ext HV.out)
                have BV := Lib.hid (BV1.out.ext HV.out)
                have XY := Lib.hid (XV1.out.trans HV.out)
                have OY := Lib.hid (OV1.out.ext HV.out)
                clear al0 al1 al2 al3 ac0 ac1 ac2 ac3
                have d0 := Ext.some HV.out D0.out
                have d1 := Ext.some HV.out D1.out
                have d2 := Ext.some HV.out D2.out
                have d3 := Ext.some HV.out D3.out
                go_upto_region 17 with (at_builtin; refine wpList_append_one (O := OUse) (T := 124) (l := (if k ≤ p then l.take k else (insU l ⟨a, o, n⟩).take (k + 1))) (F := F) (G := []) (y := nth l k) (cs := [.int .i64 (nth l k).label.level, .int .i64 (nth l k).label.set, .string (nth l k).owner, .int .i64 (nth l k).used]) rfl _ _ 66 rfl (.agg #[.int .i64 0, .int .i64 0, .string ⟨#[]⟩, .int .i64 0]) 4 40 Try.underlying66 (by kernel_rfl) rfl rfl rfl (OY.out.ext ((Ext.refl _).alloc _)) _ 0 1 rfl ⟨⟨rfl, HFT.out⟩, rfl⟩ (Blk.new _ _ _).range (by simpa using (OY.out).nodup) (by split <;> simp only [List.length_take] <;> omega) (by decide) ?_; intro vw9 w9 F9 how hkp hF9; have OWw9 := Lib.hid how; have KPw9 := Lib.hid hkp; have FFw9 := Lib.hid hF9; clear how hkp hF9)
                have HA9 : Hid (∀ b ∈ F9, w.heap.size ≤ b ∧ b ≠ N ∧ b ≠ B) := Lib.hid (fun b hb => by
                  rcases FFw9.out b hb with h | h | h
                  · exact HF2.out b h
                  · cases h
                  · have h1 := NV.out.lt
                    have h2 := BV.out.lt
                    have h3 := ((Ext.refl y).alloc (.cells #[] 124)).size
                    have h4 := XY.out.size
                    have h5 : y.heap.size + 1 ≤ b := by simpa using h
                    omega)
                go_wp2_with fail
                refine ⟨⟨k + 1, F9, by omega, by go_num, by have := HKP.out; congr 1; simp; omega, by have h := OWw9.out; rw [if_pos (by have := HKP.out; omega)] at h; rw [if_pos (by have := HKP.out; omega), HTS.out]; exact h, HA9.out, ?_, ?_, ?_⟩, ?_⟩
                · exact (KPw9.out.block N (NV.out.ext ((Ext.refl _).alloc _)).lt (fun h => (HF2.out _ h).2.1 rfl)).trans (NV.out.ext ((Ext.refl _).alloc _))
                · exact (KPw9.out.block B (BV.out.ext ((Ext.refl _).alloc _)).lt (fun h => (HF2.out _ h).2.2 rfl)).trans (BV.out.ext ((Ext.refl _).alloc _))
                · exact KPw9.out.ext (XY.out.alloc _) (fun b hb => (HF2.out b hb).1)
                · simp [intOf]
                  omega
              · have z1 : ((nth l k).label.set == a.set) = false := by simp; exact fun e => hq (Label.ext hv e)
                rw [hv] at c0
                clear hq hv hnu
                go_wp2_with fail
                go_quiet (fail)
                generalize hV : wr.drewN _ = V1
                have QV := Lib.hid (quiet2_ext hV (Ext.refl wr))
                clear hV
                have NV1 := Lib.hid (NV0.out.ext QV.out)
                have BV1 := Lib.hid (HBB2.out.ext QV.out)
                have XV1 := Lib.hid (XR.out.trans QV.out)
                have OV1 := Lib.hid (HO2.out.ext QV.out)
                have D0 := Lib.hid (Ext.some QV.out C0.out)
                have D1 := Lib.hid (Ext.some QV.out C1.out)
                have D2 := Lib.hid (Ext.some QV.out C2.out)
                have D3 := Lib.hid (Ext.some QV.out C3.out)
                clear c0 c1 c2 c3 p0 p1
                go_wp2_with fail
                have al0 : ∀ V, Ext V1 V → V.cell? ⟨N, 0, none⟩ = some (.int .i64 a.level) := fun V hV => Ext.some hV (NV1.out.cell 0)
                have al1 : ∀ V, Ext V1 V → V.cell? ⟨N, 1, none⟩ = some (.int .i64 a.set) := fun V hV => Ext.some hV (NV1.out.cell 1)
                have al2 : ∀ V, Ext V1 V → V.cell? ⟨N, 2, none⟩ = some (.string o) := fun V hV => Ext.some hV (NV1.out.cell 2)
                have al3 : ∀ V, Ext V1 V → V.cell? ⟨N, 3, none⟩ = some (.int .i64 n) := fun V hV => Ext.some hV (NV1.out.cell 3)
                have ac0 : ∀ V, Ext V1 V → V.cell? ⟨b, q + k * 4, none⟩ = some (.int .i64 (nth l k).label.level) := fun V hV => Ext.some hV D0.out
                have ac1 : ∀ V, Ext V1 V → V.cell? ⟨b, q + k * 4 + 1, none⟩ = some (.int .i64 (nth l k).label.set) := fun V hV => Ext.some hV D1.out
                have ac2 : ∀ V, Ext V1 V → V.cell? ⟨b, q + k * 4 + 2, none⟩ = some (.string (nth l k).owner) := fun V hV => Ext.some hV D2.out
                have ac3 : ∀ V, Ext V1 V → V.cell? ⟨b, q + k * 4 + 3, none⟩ = some (.int .i64 (nth l k).used) := fun V hV => Ext.some hV D3.out
                go_region_held3 (fun V => Ext V1 V) (first | exact Ext.refl _ | exact (Ext.refl _).drew | assumption | exact Ext.trans (by assumption) HL.out) (first | (go_at_call 124; (with_reducible refine (l11Less_any (S := S) (S' := S) ⟨a, o, n⟩ (nth l k) [.int .i64 a.level, .int .i64 a.set, .string o, .int .i64 n] [.int .i64 (nth l k).label.level, .int .i64 (nth l k).label.set, .string (nth l k).owner, .int .i64 (nth l k).used] _ (rel_Use HFX.out) (rel_Use HFT.out) HLA.out HUT.out.1).mono ?_); rw [HLS.out]; rintro e y ⟨rfl, hxl⟩; have HL := Lib.hid hxl; have HV : Hid (Ext V1 y) := Lib.hid (Ext.trans (by assumption) hxl); clear hxl))
                have NV := Lib.hid (NV1.out.ext HV.out)
                have BV := Lib.hid (BV1.out.ext HV.out)
                have XY := Lib.hid (XV1.out.trans HV.out)
                have OY := Lib.hid (OV1.out.ext HV.out)
                clear al0 al1 al2 al3 ac0 ac1 ac2 ac3
                have d0 := Ext.some HV.out D0.out
                have d1 := Ext.some HV.out D1.out
                have d2 := Ext.some HV.out D2.out
                have d3 := Ext.some HV.out D3.out
                go_upto_region 17 with (at_builtin; refine wpList_append_one (O := OUse) (T := 124) (l := (if k ≤ p then l.take k else (insU l ⟨a, o, n⟩).take (k + 1))) (F := F) (G := []) (y := nth l k) (cs := [.int .i64 (nth l k).label.level, .int .i64 (nth l k).label.set, .string (nth l k).owner, .int .i64 (nth l k).used]) rfl _ _ 66 rfl (.agg #[.int .i64 0, .int .i64 0, .string ⟨#[]⟩, .int .i64 0]) 4 40 Try.underlying66 (by kernel_rfl) rfl rfl rfl (OY.out.ext ((Ext.refl _).alloc _)) _ 0 1 rfl ⟨⟨rfl, HFT.out⟩, rfl⟩ (Blk.new _ _ _).range (by simpa using (OY.out).nodup) (by split <;> simp only [List.length_take] <;> omega) (by decide) ?_; intro vw9 w9 F9 how hkp hF9; have OWw9 := Lib.hid how; have KPw9 := Lib.hid hkp; have FFw9 := Lib.hid hF9; clear how hkp hF9)
                have HA9 : Hid (∀ b ∈ F9, w.heap.size ≤ b ∧ b ≠ N ∧ b ≠ B) := Lib.hid (fun b hb => by
                  rcases FFw9.out b hb with h | h | h
                  · exact HF2.out b h
                  · cases h
                  · have h1 := NV.out.lt
                    have h2 := BV.out.lt
                    have h3 := ((Ext.refl y).alloc (.cells #[] 124)).size
                    have h4 := XY.out.size
                    have h5 : y.heap.size + 1 ≤ b := by simpa using h
                    omega)
                go_wp2_with fail
                refine ⟨⟨k + 1, F9, by omega, by go_num, by have := HKP.out; congr 1; simp; omega, by have h := OWw9.out; rw [if_pos (by have := HKP.out; omega)] at h; rw [if_pos (by have := HKP.out; omega), HTS.out]; exact h, HA9.out, ?_, ?_, ?_⟩, ?_⟩
                · exact (KPw9.out.block N (NV.out.ext ((Ext.refl _).alloc _)).lt (fun h => (HF2.out _ h).2.1 rfl)).trans (NV.out.ext ((Ext.refl _).alloc _))
                · exact (KPw9.out.block B (BV.out.ext ((Ext.refl _).alloc _)).lt (fun h => (HF2.out _ h).2.2 rfl)).trans (BV.out.ext ((Ext.refl _).alloc _))
                · exact KPw9.out.ext (XY.out.alloc _) (fun b hb => (HF2.out b hb).1)
                · simp [intOf]
                  omega
            by_cases hkq : p < k
            · have hd : decide (p < k) = true := by simp; omega
              rw [hd]
              have C0 := Lib.hid c0
              have C1 := Lib.hid c1
              have C2 := Lib.hid c2
              have C3 := Lib.hid c3
              have HKP := Lib.hid hkq
              have NV0 := HNB
              clear hd hkp hkq
              go_wp2_with fail
              go_quiet (fail)
              generalize hV : wr.drewN _ = V1
              have QV := Lib.hid (quiet2_ext hV (Ext.refl wr))
              clear hV
              have NV1 := Lib.hid (NV0.out.ext QV.out)
              have BV1 := Lib.hid (HBB2.out.ext QV.out)
              have XV1 := Lib.hid (XR.out.trans QV.out)
              have OV1 := Lib.hid (HO2.out.ext QV.out)
              have D0 := Lib.hid (Ext.some QV.out C0.out)
              have D1 := Lib.hid (Ext.some QV.out C1.out)
              have D2 := Lib.hid (Ext.some QV.out C2.out)
              have D3 := Lib.hid (Ext.some QV.out C3.out)
              clear c0 c1 c2 c3 p0 p1
              go_wp2_with fail
              go_quiet (fail)
              generalize hV : V1.drewN _ = y
              have QY := Lib.hid (quiet2_ext hV (Ext.refl V1))
              clear hV
              have NV := Lib.hid (NV1.out.ext QY.out)
              have BV := Lib.hid (BV1.out.ext QY.out)
              have XY := Lib.hid (XV1.out.trans QY.out)
              have OY := Lib.hid (OV1.out.ext QY.out)
              have d0 := Ext.some QY.out D0.out
              have d1 := Ext.some QY.out D1.out
              have d2 := Ext.some QY.out D2.out
              have d3 := Ext.some QY.out D3.out
              go_upto_region 17 with (at_builtin; refine wpList_append_one (O := OUse) (T := 124) (l := (if k ≤ p then l.take k else (insU l ⟨a, o, n⟩).take (k + 1))) (F := F) (G := []) (y := nth l k) (cs := [.int .i64 (nth l k).label.level, .int .i64 (nth l k).label.set, .string (nth l k).owner, .int .i64 (nth l k).used]) rfl _ _ 66 rfl (.agg #[.int .i64 0, .int .i64 0, .string ⟨#[]⟩, .int .i64 0]) 4 40 Try.underlying66 (by kernel_rfl) rfl rfl rfl (OY.out.ext ((Ext.refl _).alloc _)) _ 0 1 rfl ⟨⟨rfl, HFT.out⟩, rfl⟩ (Blk.new _ _ _).range (by simpa using (OY.out).nodup) (by split <;> simp only [List.length_take] <;> omega) (by decide) ?_; intro vw9 w9 F9 how hkp hF9; have OWw9 := Lib.hid how; have KPw9 := Lib.hid hkp; have FFw9 := Lib.hid hF9; clear how hkp hF9)
              have HA9 : Hid (∀ b ∈ F9, w.heap.size ≤ b ∧ b ≠ N ∧ b ≠ B) := Lib.hid (fun b hb => by
                rcases FFw9.out b hb with h | h | h
                · exact HF2.out b h
                · cases h
                · have h1 := NV.out.lt
                  have h2 := BV.out.lt
                  have h3 := ((Ext.refl y).alloc (.cells #[] 124)).size
                  have h4 := XY.out.size
                  have h5 : y.heap.size + 1 ≤ b := by simpa using h
                  omega)
              go_wp2_with fail
              refine ⟨⟨k + 1, F9, by omega, by go_num, by have := HKP.out; congr 1; simp; omega, by have h := OWw9.out; rw [if_neg (by have := HKP.out; omega)] at h; rw [if_neg (by have := HKP.out; omega), insU_succ (by rw [HP.out]; have := HKP.out; omega) hlt]; exact h, HA9.out, ?_, ?_, ?_⟩, ?_⟩
              · exact (KPw9.out.block N (NV.out.ext ((Ext.refl _).alloc _)).lt (fun h => (HF2.out _ h).2.1 rfl)).trans (NV.out.ext ((Ext.refl _).alloc _))
              · exact (KPw9.out.block B (BV.out.ext ((Ext.refl _).alloc _)).lt (fun h => (HF2.out _ h).2.2 rfl)).trans (BV.out.ext ((Ext.refl _).alloc _))
              · exact KPw9.out.ext (XY.out.alloc _) (fun b hb => (HF2.out b hb).1)
              · simp [intOf]
                omega
            obtain rfl : k = p := by omega
            have hd : decide (k < k) = false := by simp
            rw [hd]
            have C0 := Lib.hid c0
            have C1 := Lib.hid c1
            have C2 := Lib.hid c2
            have C3 := Lib.hid c3
            clear hd hkp hkq
            have HLS : Hid (decide (cmpUses ⟨a, o, n⟩ (nth l k) < 0) = true) := Lib.hid (by have h := insP_at l ⟨a, o, n⟩ (by rw [HP.out]; exact hlt); rw [HP.out] at h; simpa using h)
            have hnu : isUse a o (nth l k) = false := HNO.out k hlt
            have NV0 := HNB
            have C0 := Lib.hid c0
            have C1 := Lib.hid c1
            have C2 := Lib.hid c2
            have C3 := Lib.hid c3
            by_cases hq : (nth l k).label = a
            · have q0 : (nth l k).label.level = a.level := by rw [hq]
              have q1 : (nth l k).label.set = a.set := by rw [hq]
              have z2 : ((nth l k).owner.toList == o.toList) = false := by rw [isUse_iff] at hnu; simpa [q0, q1] using hnu
              rw [q0] at c0
              rw [q1] at c1
              clear hq q0 q1 hnu
              go_wp2_with fail
              go_quiet (fail)
              generalize hV : wr.drewN _ = V1
              have QV := Lib.hid (quiet2_ext hV (Ext.refl wr))
              clear hV
              have NV1 := Lib.hid (NV0.out.ext QV.out)
              have BV1 := Lib.hid (HBB2.out.ext QV.out)
              have XV1 := Lib.hid (XR.out.trans QV.out)
              have OV1 := Lib.hid (HO2.out.ext QV.out)
              have D0 := Lib.hid (Ext.some QV.out C0.out)
              have D1 := Lib.hid (Ext.some QV.out C1.out)
              have D2 := Lib.hid (Ext.some QV.out C2.out)
              have D3 := Lib.hid (Ext.some QV.out C3.out)
              clear c0 c1 c2 c3 p0 p1
              go_wp2_with fail
              have al0 : ∀ V, Ext V1 V → V.cell? ⟨N, 0, none⟩ = some (.int .i64 a.level) := fun V hV => Ext.some hV (NV1.out.cell 0)
              have al1 : ∀ V, Ext V1 V → V.cell? ⟨N, 1, none⟩ = some (.int .i64 a.set) := fun V hV => Ext.some hV (NV1.out.cell 1)
              have al2 : ∀ V, Ext V1 V → V.cell? ⟨N, 2, none⟩ = some (.string o) := fun V hV => Ext.some hV (NV1.out.cell 2)
              have al3 : ∀ V, Ext V1 V → V.cell? ⟨N, 3, none⟩ = some (.int .i64 n) := fun V hV => Ext.some hV (NV1.out.cell 3)
              have ac0 : ∀ V, Ext V1 V → V.cell? ⟨b, q + k * 4, none⟩ = some (.int .i64 (nth l k).label.level) := fun V hV => Ext.some hV D0.out
              have ac1 : ∀ V, Ext V1 V → V.cell? ⟨b, q + k * 4 + 1, none⟩ = some (.int .i64 (nth l k).label.set) := fun V hV => Ext.some hV D1.out
              have ac2 : ∀ V, Ext V1 V → V.cell? ⟨b, q + k * 4 + 2, none⟩ = some (.string (nth l k).owner) := fun V hV => Ext.some hV D2.out
              have ac3 : ∀ V, Ext V1 V → V.cell? ⟨b, q + k * 4 + 3, none⟩ = some (.int .i64 (nth l k).used) := fun V hV => Ext.some hV D3.out
              go_region_held3 (fun V => Ext V1 V) (first | exact Ext.refl _ | exact (Ext.refl _).drew | assumption | exact Ext.trans (by assumption) HL.out) (first | (go_at_call 124; (with_reducible refine (l11Less_any (S := S) (S' := S) ⟨a, o, n⟩ (nth l k) [.int .i64 a.level, .int .i64 a.set, .string o, .int .i64 n] [.int .i64 (nth l k).label.level, .int .i64 (nth l k).label.set, .string (nth l k).owner, .int .i64 (nth l k).used] _ (rel_Use HFX.out) (rel_Use HFT.out) HLA.out HUT.out.1).mono ?_); rw [HLS.out]; rintro e y ⟨rfl, hxl⟩; have HL := Lib.hid hxl; have HV : Hid (Ext V1 y) := Lib.hid (Ext.trans (by assumption) hxl); clear hxl))
              have NV := Lib.hid (NV1.out.ext HV.out)
              have BV := Lib.hid (BV1.out.ext HV.out)
              have XY := Lib.hid (XV1.out.trans HV.out)
              have OY := Lib.hid (OV1.out.ext HV.out)
              clear al0 al1 al2 al3 ac0 ac1 ac2 ac3
              have d0 := Ext.some HV.out D0.out
              have d1 := Ext.some HV.out D1.out
              have d2 := Ext.some HV.out D2.out
              have d3 := Ext.some HV.out D3.out
              have n0 : y.cell? ⟨N, 0, none⟩ = some (.int .i64 a.level) := NV.out.cell 0
              have n1 : y.cell? ⟨N, 1, none⟩ = some (.int .i64 a.set) := NV.out.cell 1
              have n2 : y.cell? ⟨N, 2, none⟩ = some (.string o) := NV.out.cell 2
              have n3 : y.cell? ⟨N, 3, none⟩ = some (.int .i64 n) := NV.out.cell 3
              go_upto_region 25 with (at_builtin; refine wpList_append_one (O := OUse) (T := 124) (l := (if k ≤ k then l.take k else (insU l ⟨a, o, n⟩).take (k + 1))) (F := F) (G := []) (y := ⟨a, o, n⟩) (cs := [.int .i64 a.level, .int .i64 a.set, .string o, .int .i64 n]) rfl _ _ 66 rfl (.agg #[.int .i64 0, .int .i64 0, .string ⟨#[]⟩, .int .i64 0]) 4 40 Try.underlying66 (by kernel_rfl) rfl rfl rfl (OY.out.ext ((Ext.refl _).alloc _)) _ 0 1 rfl ⟨⟨rfl, HFX.out⟩, rfl⟩ (Blk.new _ _ _).range (by simpa using (OY.out).nodup) (by split <;> simp only [List.length_take] <;> omega) (by decide) ?_; intro vw8 w8 F8 how hkp hF9; have OWw8 := Lib.hid how; have KPw8 := Lib.hid hkp; have FFw8 := Lib.hid hF9; clear how hkp hF9)
              have XA8 : Hid (Ext y w8 ∨ True) := Lib.hid (.inr trivial)
              have LB : Hid (b < w.heap.size) := Lib.hid (by obtain ⟨b2, q2, cs2, hb2, _, ⟨rfl, _⟩, hc2⟩ := HK.out k hlt; cases hb2; exact World.block_lt_of_cell? w _ (hc2 0 _ rfl))
              have HBF8 : Hid (b ∉ F) := Lib.hid (fun h => by have h1 := (HF2.out b h).1; have h2 := LB.out; omega)
              have NV8 := Lib.hid ((KPw8.out.block N (NV.out.ext ((Ext.refl _).alloc _)).lt (fun h => (HF2.out _ h).2.1 rfl)).trans (NV.out.ext ((Ext.refl _).alloc _)))
              have BV8 := Lib.hid ((KPw8.out.block B (BV.out.ext ((Ext.refl _).alloc _)).lt (fun h => (HF2.out _ h).2.2 rfl)).trans (BV.out.ext ((Ext.refl _).alloc _)))
              have X8 := Lib.hid (KPw8.out.ext (XY.out.alloc _) (fun b hb => (HF2.out b hb).1))
              have g0 := KPw8.out.cell HBF8.out (Ext.some ((Ext.refl y).alloc _) d0)
              have g1 := KPw8.out.cell HBF8.out (Ext.some ((Ext.refl y).alloc _) d1)
              have g2 := KPw8.out.cell HBF8.out (Ext.some ((Ext.refl y).alloc _) d2)
              have g3 := KPw8.out.cell HBF8.out (Ext.some ((Ext.refl y).alloc _) d3)
              have HF8 : Hid (∀ b ∈ F8, w.heap.size ≤ b ∧ b ≠ N ∧ b ≠ B) := Lib.hid (fun b hb => by
                rcases FFw8.out b hb with h | h | h
                · exact HF2.out b h
                · cases h
                · have h1 := NV.out.lt
                  have h2 := BV.out.lt
                  have h4 := XY.out.size
                  have h5 : y.heap.size + 1 ≤ b := by simpa using h
                  omega)
              clear d0 d1 d2 d3 n0 n1 n2 n3
              go_upto_region 17 with (at_builtin; refine wpList_append_one (O := OUse) (T := 124) (l := (if k ≤ k then l.take k else (insU l ⟨a, o, n⟩).take (k + 1)) ++ [⟨a, o, n⟩]) (F := F8) (G := []) (y := nth l k) (cs := [.int .i64 (nth l k).label.level, .int .i64 (nth l k).label.set, .string (nth l k).owner, .int .i64 (nth l k).used]) rfl _ _ 66 rfl (.agg #[.int .i64 0, .int .i64 0, .string ⟨#[]⟩, .int .i64 0]) 4 40 Try.underlying66 (by kernel_rfl) rfl rfl rfl (OWw8.out.ext ((Ext.refl _).alloc _)) _ 0 1 rfl ⟨⟨rfl, HFT.out⟩, rfl⟩ (Blk.new _ _ _).range (by simpa using (OWw8.out).nodup) (by rw [List.length_append]; split <;> simp only [List.length_take, List.length_cons, List.length_nil] <;> omega) (by decide) ?_; intro vw9 w9 F9 how hkp hF9; have OWw9 := Lib.hid how; have KPw9 := Lib.hid hkp; have FFw9 := Lib.hid hF9; clear how hkp hF9)
              have NV := Lib.hid (show Blk w8 N _ _ from NV8.out)
              have BV := Lib.hid (show Blk w8 B _ _ from BV8.out)
              have HF2 := HF8
              have HA9 : Hid (∀ b ∈ F9, w.heap.size ≤ b ∧ b ≠ N ∧ b ≠ B) := Lib.hid (fun b hb => by
                rcases FFw9.out b hb with h | h | h
                · exact HF2.out b h
                · cases h
                · have h1 := NV.out.lt
                  have h2 := BV.out.lt
                  have h3 := ((Ext.refl w8).alloc (.cells #[] 124)).size
                  have h4 := X8.out.size
                  have h5 : w8.heap.size + 1 ≤ b := by simpa using h
                  omega)
              go_wp2_with fail
              refine ⟨⟨k + 1, F9, by omega, by go_num, by congr 1; simp, by have h := OWw9.out; rw [if_pos (Nat.le_refl _)] at h; rw [if_neg (by omega), insU_two HP.out hlt]; rwa [List.append_assoc] at h, HA9.out, ?_, ?_, ?_⟩, ?_⟩
              · exact (KPw9.out.block N (NV.out.ext ((Ext.refl _).alloc _)).lt (fun h => (HF2.out _ h).2.1 rfl)).trans (NV.out.ext ((Ext.refl _).alloc _))
              · exact (KPw9.out.block B (BV.out.ext ((Ext.refl _).alloc _)).lt (fun h => (HF2.out _ h).2.2 rfl)).trans (BV.out.ext ((Ext.refl _).alloc _))
              · exact KPw9.out.ext (X8.out.alloc _) (fun b hb => (HF2.out b hb).1)
              · simp [intOf]
                omega
            by_cases hv : (nth l k).label.level = a.level
            rotate_left
            · have z0 : ((nth l k).label.level == a.level) = false := by simpa using hv
              clear hq hv hnu
              go_wp2_with fail
              go_quiet (fail)
              generalize hV : wr.drewN _ = V1
              have QV := Lib.hid (quiet2_ext hV (Ext.refl wr))
              clear hV
              have NV1 := Lib.hid (NV0.out.ext QV.out)
              have BV1 := Lib.hid (HBB2.out.ext QV.out)
              have XV1 := Lib.hid (XR.out.trans QV.out)
              have OV1 := Lib.hid (HO2.out.ext QV.out)
              have D0 := Lib.hid (Ext.some QV.out C0.out)
              have D1 := Lib.hid (Ext.some QV.out C1.out)
              have D2 := Lib.hid (Ext.some QV.out C2.out)
              have D3 := Lib.hid (Ext.some QV.out C3.out)
              clear c0 c1 c2 c3 p0 p1
              go_wp2_with fail
              have al0 : ∀ V, Ext V1 V → V.cell? ⟨N, 0, none⟩ = some (.int .i64 a.level) := fun V hV => Ext.some hV (NV1.out.cell 0)
              have al1 : ∀ V, Ext V1 V → V.cell? ⟨N, 1, none⟩ = some (.int .i64 a.set) := fun V hV => Ext.some hV (NV1.out.cell 1)
              have al2 : ∀ V, Ext V1 V → V.cell? ⟨N, 2, none⟩ = some (.string o) := fun V hV => Ext.some hV (NV1.out.cell 2)
              have al3 : ∀ V, Ext V1 V → V.cell? ⟨N, 3, none⟩ = some (.int .i64 n) := fun V hV => Ext.some hV (NV1.out.cell 3)
              have ac0 : ∀ V, Ext V1 V → V.cell? ⟨b, q + k * 4, none⟩ = some (.int .i64 (nth l k).label.level) := fun V hV => Ext.some hV D0.out
              have ac1 : ∀ V, Ext V1 V → V.cell? ⟨b, q + k * 4 + 1, none⟩ = some (.int .i64 (nth l k).label.set) := fun V hV => Ext.some hV D1.out
              have ac2 : ∀ V, Ext V1 V → V.cell? ⟨b, q + k * 4 + 2, none⟩ = some (.string (nth l k).owner) := fun V hV => Ext.some hV D2.out
              have ac3 : ∀ V, Ext V1 V → V.cell? ⟨b, q + k * 4 + 3, none⟩ = some (.int .i64 (nth l k).used) := fun V hV => Ext.some hV D3.out
              go_region_held3 (fun V => Ext V1 V) (first | exact Ext.refl _ | exact (Ext.refl _).drew | assumption | exact Ext.trans (by assumption) HL.out) (first | (go_at_call 124; (with_reducible refine (l11Less_any (S := S) (S' := S) ⟨a, o, n⟩ (nth l k) [.int .i64 a.level, .int .i64 a.set, .string o, .int .i64 n] [.int .i64 (nth l k).label.level, .int .i64 (nth l k).label.set, .string (nth l k).owner, .int .i64 (nth l k).used] _ (rel_Use HFX.out) (rel_Use HFT.out) HLA.out HUT.out.1).mono ?_); rw [HLS.out]; rintro e y ⟨rfl, hxl⟩; have HL := Lib.hid hxl; have HV : Hid (Ext V1 y) := Lib.hid (Ext.trans (by assumption) hxl); clear hxl))
              have NV := Lib.hid (NV1.out.ext HV.out)
              have BV := Lib.hid (BV1.out.ext HV.out)
              have XY := Lib.hid (XV1.out.trans HV.out)
              have OY := Lib.hid (OV1.out.ext HV.out)
              clear al0 al1 al2 al3 ac0 ac1 ac2 ac3
              have d0 := Ext.some HV.out D0.out
              have d1 := Ext.some HV.out D1.out
              have d2 := Ext.some HV.out D2.out
              have d3 := Ext.some HV.out D3.out
              have n0 : y.cell? ⟨N, 0, none⟩ = some (.int .i64 a.level) := NV.out.cell 0
              have n1 : y.cell? ⟨N, 1, none⟩ = some (.int .i64 a.set) := NV.out.cell 1
              have n2 : y.cell? ⟨N, 2, none⟩ = some (.string o) := NV.out.cell 2
              have n3 : y.cell? ⟨N, 3, none⟩ = some (.int .i64 n) := NV.out.cell 3
              go_upto_region 25 with (at_builtin; refine wpList_append_one (O := OUse) (T := 124) (l := (if k ≤ k then l.take k else (insU l ⟨a, o, n⟩).take (k + 1))) (F := F) (G := []) (y := ⟨a, o, n⟩) (cs := [.int .i64 a.level, .int .i64 a.set, .string o, .int .i64 n]) rfl _ _ 66 rfl (.agg #[.int .i64 0, .int .i64 0, .string ⟨#[]⟩, .int .i64 0]) 4 40 Try.underlying66 (by kernel_rfl) rfl rfl rfl (OY.out.ext ((Ext.refl _).alloc _)) _ 0 1 rfl ⟨⟨rfl, HFX.out⟩, rfl⟩ (Blk.new _ _ _).range (by simpa using (OY.out).nodup) (by split <;> simp only [List.length_take] <;> omega) (by decide) ?_; intro vw8 w8 F8 how hkp hF9; have OWw8 := Lib.hid how; have KPw8 := Lib.hid hkp; have FFw8 := Lib.hid hF9; clear how hkp hF9)
              have XA8 : Hid (Ext y w8 ∨ True) := Lib.hid (.inr trivial)
              have LB : Hid (b < w.heap.size) := Lib.hid (by obtain ⟨b2, q2, cs2, hb2, _, ⟨rfl, _⟩, hc2⟩ := HK.out k hlt; cases hb2; exact World.block_lt_of_cell? w _ (hc2 0 _ rfl))
              have HBF8 : Hid (b ∉ F) := Lib.hid (fun h => by have h1 := (HF2.out b h).1; have h2 := LB.out; omega)
              have NV8 := Lib.hid ((KPw8.out.block N (NV.out.ext ((Ext.refl _).alloc _)).lt (fun h => (HF2.out _ h).2.1 rfl)).trans (NV.out.ext ((Ext.refl _).alloc _)))
              have BV8 := Lib.hid ((KPw8.out.block B (BV.out.ext ((Ext.refl _).alloc _)).lt (fun h => (HF2.out _ h).2.2 rfl)).trans (BV.out.ext ((Ext.refl _).alloc _)))
              have X8 := Lib.hid (KPw8.out.ext (XY.out.alloc _) (fun b hb => (HF2.out b hb).1))
              have g0 := KPw8.out.cell HBF8.out (Ext.some ((Ext.refl y).alloc _) d0)
              have g1 := KPw8.out.cell HBF8.out (Ext.some ((Ext.refl y).alloc _) d1)
              have g2 := KPw8.out.cell HBF8.out (Ext.some ((Ext.refl y).alloc _) d2)
              have g3 := KPw8.out.cell HBF8.out (Ext.some ((Ext.refl y).alloc _) d3)
              have HF8 : Hid (∀ b ∈ F8, w.heap.size ≤ b ∧ b ≠ N ∧ b ≠ B) := Lib.hid (fun b hb => by
                rcases FFw8.out b hb with h | h | h
                · exact HF2.out b h
                · cases h
                · have h1 := NV.out.lt
                  have h2 := BV.out.lt
                  have h4 := XY.out.size
                  have h5 : y.heap.size + 1 ≤ b := by simpa using h
                  omega)
              clear d0 d1 d2 d3 n0 n1 n2 n3
              go_upto_region 17 with (at_builtin; refine wpList_append_one (O := OUse) (T := 124) (l := (if k ≤ k then l.take k else (insU l ⟨a, o, n⟩).take (k + 1)) ++ [⟨a, o, n⟩]) (F := F8) (G := []) (y := nth l k) (cs := [.int .i64 (nth l k).label.level, .int .i64 (nth l k).label.set, .string (nth l k).owner, .int .i64 (nth l k).used]) rfl _ _ 66 rfl (.agg #[.int .i64 0, .int .i64 0, .string ⟨#[]⟩, .int .i64 0]) 4 40 Try.underlying66 (by kernel_rfl) rfl rfl rfl (OWw8.out.ext ((Ext.refl _).alloc _)) _ 0 1 rfl ⟨⟨rfl, HFT.out⟩, rfl⟩ (Blk.new _ _ _).range (by simpa using (OWw8.out).nodup) (by rw [List.length_append]; split <;> simp only [List.length_take, List.length_cons, List.length_nil] <;> omega) (by decide) ?_; intro vw9 w9 F9 how hkp hF9; have OWw9 := Lib.hid how; have KPw9 := Lib.hid hkp; have FFw9 := Lib.hid hF9; clear how hkp hF9)
              have NV := Lib.hid (show Blk w8 N _ _ from NV8.out)
              have BV := Lib.hid (show Blk w8 B _ _ from BV8.out)
              have HF2 := HF8
              have HA9 : Hid (∀ b ∈ F9, w.heap.size ≤ b ∧ b ≠ N ∧ b ≠ B) := Lib.hid (fun b hb => by
                rcases FFw9.out b hb with h | h | h
                · exact HF2.out b h
                · cases h
                · have h1 := NV.out.lt
                  have h2 := BV.out.lt
                  have h3 := ((Ext.refl w8).alloc (.cells #[] 124)).size
                  have h4 := X8.out.size
                  have h5 : w8.heap.size + 1 ≤ b := by simpa using h
                  omega)
              go_wp2_with fail
              refine ⟨⟨k + 1, F9, by omega, by go_num, by congr 1; simp, by have h := OWw9.out; rw [if_pos (Nat.le_refl _)] at h; rw [if_neg (by omega), insU_two HP.out hlt]; rwa [List.append_assoc] at h, HA9.out, ?_, ?_, ?_⟩, ?_⟩
              · exact (KPw9.out.block N (NV.out.ext ((Ext.refl _).alloc _)).lt (fun h => (HF2.out _ h).2.1 rfl)).trans (NV.out.ext ((Ext.refl _).alloc _))
              · exact (KPw9.out.block B (BV.out.ext ((Ext.refl _).alloc _)).lt (fun h => (HF2.out _ h).2.2 rfl)).trans (BV.out.ext ((Ext.refl _).alloc _))
              · exact KPw9.out.ext (X8.out.alloc _) (fun b hb => (HF2.out b hb).1)
              · simp [intOf]
                omega
            · have z1 : ((nth l k).label.set == a.set) = false := by simp; exact fun e => hq (Label.ext hv e)
              rw [hv] at c0
              clear hq hv hnu
              go_wp2_with fail
              go_quiet (fail)
              generalize hV : wr.drewN _ = V1
              have QV := Lib.hid (quiet2_ext hV (Ext.refl wr))
              clear hV
              have NV1 := Lib.hid (NV0.out.ext QV.out)
              have BV1 := Lib.hid (HBB2.out.ext QV.out)
              have XV1 := Lib.hid (XR.out.trans QV.out)
              have OV1 := Lib.hid (HO2.out.ext QV.out)
              have D0 := Lib.hid (Ext.some QV.out C0.out)
              have D1 := Lib.hid (Ext.some QV.out C1.out)
              have D2 := Lib.hid (Ext.some QV.out C2.out)
              have D3 := Lib.hid (Ext.some QV.out C3.out)
              clear c0 c1 c2 c3 p0 p1
              go_wp2_with fail
              have al0 : ∀ V, Ext V1 V → V.cell? ⟨N, 0, none⟩ = some (.int .i64 a.level) := fun V hV => Ext.some hV (NV1.out.cell 0)
              have al1 : ∀ V, Ext V1 V → V.cell? ⟨N, 1, none⟩ = some (.int .i64 a.set) := fun V hV => Ext.some hV (NV1.out.cell 1)
              have al2 : ∀ V, Ext V1 V → V.cell? ⟨N, 2, none⟩ = some (.string o) := fun V hV => Ext.some hV (NV1.out.cell 2)
              have al3 : ∀ V, Ext V1 V → V.cell? ⟨N, 3, none⟩ = some (.int .i64 n) := fun V hV => Ext.some hV (NV1.out.cell 3)
              have ac0 : ∀ V, Ext V1 V → V.cell? ⟨b, q + k * 4, none⟩ = some (.int .i64 (nth l k).label.level) := fun V hV => Ext.some hV D0.out
              have ac1 : ∀ V, Ext V1 V → V.cell? ⟨b, q + k * 4 + 1, none⟩ = some (.int .i64 (nth l k).label.set) := fun V hV => Ext.some hV D1.out
              have ac2 : ∀ V, Ext V1 V → V.cell? ⟨b, q + k * 4 + 2, none⟩ = some (.string (nth l k).owner) := fun V hV => Ext.some hV D2.out
              have ac3 : ∀ V, Ext V1 V → V.cell? ⟨b, q + k * 4 + 3, none⟩ = some (.int .i64 (nth l k).used) := fun V hV => Ext.some hV D3.out
              go_region_held3 (fun V => Ext V1 V) (first | exact Ext.refl _ | exact (Ext.refl _).drew | assumption | exact Ext.trans (by assumption) HL.out) (first | (go_at_call 124; (with_reducible refine (l11Less_any (S := S) (S' := S) ⟨a, o, n⟩ (nth l k) [.int .i64 a.level, .int .i64 a.set, .string o, .int .i64 n] [.int .i64 (nth l k).label.level, .int .i64 (nth l k).label.set, .string (nth l k).owner, .int .i64 (nth l k).used] _ (rel_Use HFX.out) (rel_Use HFT.out) HLA.out HUT.out.1).mono ?_); rw [HLS.out]; rintro e y ⟨rfl, hxl⟩; have HL := Lib.hid hxl; have HV : Hid (Ext V1 y) := Lib.hid (Ext.trans (by assumption) hxl); clear hxl))
              have NV := Lib.hid (NV1.out.ext HV.out)
              have BV := Lib.hid (BV1.out.ext HV.out)
              have XY := Lib.hid (XV1.out.trans HV.out)
              have OY := Lib.hid (OV1.out.ext HV.out)
              clear al0 al1 al2 al3 ac0 ac1 ac2 ac3
              have d0 := Ext.some HV.out D0.out
              have d1 := Ext.some HV.out D1.out
              have d2 := Ext.some HV.out D2.out
              have d3 := Ext.some HV.out D3.out
              have n0 : y.cell? ⟨N, 0, none⟩ = some (.int .i64 a.level) := NV.out.cell 0
              have n1 : y.cell? ⟨N, 1, none⟩ = some (.int .i64 a.set) := NV.out.cell 1
              have n2 : y.cell? ⟨N, 2, none⟩ = some (.string o) := NV.out.cell 2
              have n3 : y.cell? ⟨N, 3, none⟩ = some (.int .i64 n) := NV.out.cell 3
              go_upto_region 25 with (at_builtin; refine wpList_append_one (O := OUse) (T := 124) (l := (if k ≤ k then l.take k else (insU l ⟨a, o, n⟩).take (k + 1))) (F := F) (G := []) (y := ⟨a, o, n⟩) (cs := [.int .i64 a.level, .int .i64 a.set, .string o, .int .i64 n]) rfl _ _ 66 rfl (.agg #[.int .i64 0, .int .i64 0, .string ⟨#[]⟩, .int .i64 0]) 4 40 Try.underlying66 (by kernel_rfl) rfl rfl rfl (OY.out.ext ((Ext.refl _).alloc _)) _ 0 1 rfl ⟨⟨rfl, HFX.out⟩, rfl⟩ (Blk.new _ _ _).range (by simpa using (OY.out).nodup) (by split <;> simp only [List.length_take] <;> omega) (by decide) ?_; intro vw8 w8 F8 how hkp hF9; have OWw8 := Lib.hid how; have KPw8 := Lib.hid hkp; have FFw8 := Lib.hid hF9; clear how hkp hF9)
              have XA8 : Hid (Ext y w8 ∨ True) := Lib.hid (.inr trivial)
              have LB : Hid (b < w.heap.size) := Lib.hid (by obtain ⟨b2, q2, cs2, hb2, _, ⟨rfl, _⟩, hc2⟩ := HK.out k hlt; cases hb2; exact World.block_lt_of_cell? w _ (hc2 0 _ rfl))
              have HBF8 : Hid (b ∉ F) := Lib.hid (fun h => by have h1 := (HF2.out b h).1; have h2 := LB.out; omega)
              have NV8 := Lib.hid ((KPw8.out.block N (NV.out.ext ((Ext.refl _).alloc _)).lt (fun h => (HF2.out _ h).2.1 rfl)).trans (NV.out.ext ((Ext.refl _).alloc _)))
              have BV8 := Lib.hid ((KPw8.out.block B (BV.out.ext ((Ext.refl _).alloc _)).lt (fun h => (HF2.out _ h).2.2 rfl)).trans (BV.out.ext ((Ext.refl _).alloc _)))
              have X8 := Lib.hid (KPw8.out.ext (XY.out.alloc _) (fun b hb => (HF2.out b hb).1))
              have g0 := KPw8.out.cell HBF8.out (Ext.some ((Ext.refl y).alloc _) d0)
              have g1 := KPw8.out.cell HBF8.out (Ext.some ((Ext.refl y).alloc _) d1)
              have g2 := KPw8.out.cell HBF8.out (Ext.some ((Ext.refl y).alloc _) d2)
              have g3 := KPw8.out.cell HBF8.out (Ext.some ((Ext.refl y).alloc _) d3)
              have HF8 : Hid (∀ b ∈ F8, w.heap.size ≤ b ∧ b ≠ N ∧ b ≠ B) := Lib.hid (fun b hb => by
                rcases FFw8.out b hb with h | h | h
                · exact HF2.out b h
                · cases h
                · have h1 := NV.out.lt
                  have h2 := BV.out.lt
                  have h4 := XY.out.size
                  have h5 : y.heap.size + 1 ≤ b := by simpa using h
                  omega)
              clear d0 d1 d2 d3 n0 n1 n2 n3
              go_upto_region 17 with (at_builtin; refine wpList_append_one (O := OUse) (T := 124) (l := (if k ≤ k then l.take k else (insU l ⟨a, o, n⟩).take (k + 1)) ++ [⟨a, o, n⟩]) (F := F8) (G := []) (y := nth l k) (cs := [.int .i64 (nth l k).label.level, .int .i64 (nth l k).label.set, .string (nth l k).owner, .int .i64 (nth l k).used]) rfl _ _ 66 rfl (.agg #[.int .i64 0, .int .i64 0, .string ⟨#[]⟩, .int .i64 0]) 4 40 Try.underlying66 (by kernel_rfl) rfl rfl rfl (OWw8.out.ext ((Ext.refl _).alloc _)) _ 0 1 rfl ⟨⟨rfl, HFT.out⟩, rfl⟩ (Blk.new _ _ _).range (by simpa using (OWw8.out).nodup) (by rw [List.length_append]; split <;> simp only [List.length_take, List.length_cons, List.length_nil] <;> omega) (by decide) ?_; intro vw9 w9 F9 how hkp hF9; have OWw9 := Lib.hid how; have KPw9 := Lib.hid hkp; have FFw9 := Lib.hid hF9; clear how hkp hF9)
              have NV := Lib.hid (show Blk w8 N _ _ from NV8.out)
              have BV := Lib.hid (show Blk w8 B _ _ from BV8.out)
              have HF2 := HF8
              have HA9 : Hid (∀ b ∈ F9, w.heap.size ≤ b ∧ b ≠ N ∧ b ≠ B) := Lib.hid (fun b hb => by
                rcases FFw9.out b hb with h | h | h
                · exact HF2.out b h
                · cases h
                · have h1 := NV.out.lt
                  have h2 := BV.out.lt
                  have h3 := ((Ext.refl w8).alloc (.cells #[] 124)).size
                  have h4 := X8.out.size
                  have h5 : w8.heap.size + 1 ≤ b := by simpa using h
                  omega)
              go_wp2_with fail
              refine ⟨⟨k + 1, F9, by omega, by go_num, by congr 1; simp, by have h := OWw9.out; rw [if_pos (Nat.le_refl _)] at h; rw [if_neg (by omega), insU_two HP.out hlt]; rwa [List.append_assoc] at h, HA9.out, ?_, ?_, ?_⟩, ?_⟩
              · exact (KPw9.out.block N (NV.out.ext ((Ext.refl _).alloc _)).lt (fun h => (HF2.out _ h).2.1 rfl)).trans (NV.out.ext ((Ext.refl _).alloc _))
              · exact (KPw9.out.block B (BV.out.ext ((Ext.refl _).alloc _)).lt (fun h => (HF2.out _ h).2.2 rfl)).trans (BV.out.ext ((Ext.refl _).alloc _))
              · exact KPw9.out.ext (X8.out.alloc _) (fun b hb => (HF2.out b hb).1)
              · simp [intOf]
                omega
          · have hke : k = l.length := by omega
            by_cases hpk : p < k
            · have hd : decide (p < k) = true := by simp; omega
              rw [hd]
              have HT : Hid ((if k ≤ p then l.take k else (insU l ⟨a, o, n⟩).take (k + 1)) = insU l ⟨a, o, n⟩) := Lib.hid (by rw [if_neg (by omega)]; exact List.take_of_length_le (by rw [insU_length]; omega))
              clear hx hd
              go_wp2_with fail
              go_ret
              exact ⟨_, F, rfl, by rw [HE.out, ← HT.out]; exact HO2.out, fun b hb => (HF2.out b hb).1, XR.out⟩
            · have hd : decide (p < k) = false := by simp; omega
              rw [hd]
              have HPE : Hid (p = l.length) := Lib.hid (by have := HPI.out; omega)
              have HT : Hid ((if k ≤ p then l.take k else (insU l ⟨a, o, n⟩).take (k + 1)) = l) := Lib.hid (by rw [if_pos (by omega)]; exact List.take_of_length_le (by omega))
              have HO3 := HO2
              rw [HT.out] at HO3
              have n0 : wr.cell? ⟨N, 0, none⟩ = some (.int .i64 a.level) := HNB.out.cell 0
              have n1 : wr.cell? ⟨N, 1, none⟩ = some (.int .i64 a.set) := HNB.out.cell 1
              have n2 : wr.cell? ⟨N, 2, none⟩ = some (.string o) := HNB.out.cell 2
              have n3 : wr.cell? ⟨N, 3, none⟩ = some (.int .i64 n) := HNB.out.cell 3
              clear hx hd
              go_wp2_with (at_builtin; refine wpList_append_one (O := OUse) (T := 124) (l := l) (F := F) (G := []) (y := ⟨a, o, n⟩) (cs := [.int .i64 a.level, .int .i64 a.set, .string o, .int .i64 n]) rfl _ _ 66 rfl (.agg #[.int .i64 0, .int .i64 0, .string ⟨#[]⟩, .int .i64 0]) 4 40 Try.underlying66 (by kernel_rfl) rfl rfl rfl (HO3.out.ext ((Ext.refl _).alloc _)) _ 0 1 rfl ⟨⟨rfl, HFX.out⟩, rfl⟩ (Blk.new _ _ _).range (by simpa using (HO3.out).nodup) (by omega) (by decide) ?_; intro vw9 w9 F9 how hkp hF9; have OWw9 := Lib.hid how; have KPw9 := Lib.hid hkp; have FFw9 := Lib.hid hF9; clear how hkp hF9)
              go_ret
              exact ⟨_, F9, rfl, by rw [HE.out, insU_end (by rw [HP.out]; exact HPE.out)]; exact OWw9.out, fun b hb => by
                rcases FFw9.out b hb with h | h | h
                · exact (HF2.out b h).1
                · cases h
                · exact Nat.le_trans (XR.out.alloc _).size h, KPw9.out.ext (XR.out.alloc _) (fun b hb => (HF2.out b hb).1)⟩
      · have hany : l.any (isUse a o) = true := List.any_eq_true.2 ⟨_, nth_mem hkf, hq⟩
        rw [hany]
        have HE : Hid (useAdd l a o n = addAt l kf n) := Lib.hid (by rw [useAdd, if_neg HLO.out, if_neg HOK.out, if_pos (by rw [hi]; omega), hi, Int.toNat_natCast])
        have HLOW := Lib.hid hlow
        have HQ := Lib.hid hq
        clear hi hlow hany hq
        go_upto_region 16 with (first | (go_at_call 43; (with_reducible refine (specUsesRight_any (S := S) l _ _ (HR.out.ext XQ.out)).mono ?_); rintro e y1 ⟨rfl, hx1⟩; have H1 := Lib.hid hx1; have XV1 := Lib.hid (XQ.out.trans hx1); have p0a := Ext.some hx1 p0; have p1a := Ext.some hx1 p1; clear hx1 p0 p1) | (go_at_call 48; (with_reducible refine (specLabelRight_any (S := S) a [.int .i64 a.level, .int .i64 a.set] _ (rel_Label HA.out)).mono ?_); rintro e y2 ⟨rfl, hx2⟩; have H2 := Lib.hid (H1.out.trans hx2); have XV2 := Lib.hid (XV1.out.trans hx2); clear hx2) | (go_at_call 49; refine (specNameRight_any _ _ HO.out).mono ?_; rintro e w' ⟨rfl, rfl⟩) | (go_at_call 89; refine (l02Is_any _ _ _ _).mono ?_; rintro e w' ⟨rfl, rfl⟩))
        have NY := Lib.hid (NQ.out.ext H2.out)
        have HPI := Lib.hid (insP_le l ⟨a, o, n⟩)
        go_loopw [9, 14, 15] (fun ov pv i w' => ∃ (k : Nat) (F : List Nat), k ≤ l.length ∧ i = .int .i64 k ∧ pv = .bool (decide (kf < k)) ∧ OwS OUse 124 w' ov ((addAt l kf n).take k) F ∧ (∀ b ∈ F, w.heap.size ≤ b ∧ b ≠ N ∧ b ≠ B) ∧ Blk w' N 124 #[.int .i64 a.level, .int .i64 a.set, .string o, .int .i64 (if kf < k then min 100000 ((nth l kf).used + n) else n)] ∧ Blk w' B 46 #[.int .i64 a.level, .int .i64 a.set] ∧ Ext w w') (fun _ _ i _ => l.length - (intOf i).toNat)
        case atStart => exact ⟨0, [BE], Nat.zero_le _, rfl, by simp, by simp only [List.take_zero]; exact .inr ⟨BE, 0, #[], [], rfl, EQ.out.ext H2.out, Nat.le_refl _, Nat.zero_le _, rfl, rfl, rfl, by simp, fun k hk => absurd hk (Nat.not_lt_zero _)⟩, fun b hb => by rw [List.mem_singleton.1 hb]; exact ⟨HBE.out, HBN.out.2, HBB.out⟩, by simpa using NY.out, BQ.out.ext H2.out, XV2.out⟩
        case round =>
          obtain ⟨k, F, hk1, rfl, rfl, hown, hF, hN, hB, hx⟩ := hrel
          have HO2 := Lib.hid hown
          have HF2 := Lib.hid hF
          have HNB := Lib.hid hN
          have HBB2 := Lib.hid hB
          have XR := Lib.hid hx
          clear hown hF hN hB
          by_cases hlt : k < l.length
          · obtain ⟨b, q, cs, rfl, _, ⟨rfl, hfit⟩, hc⟩ := HK.out k hlt
            have c0 := Ext.some hx (hc 0 _ rfl)
            have c1 := Ext.some hx (hc 1 _ rfl)
            have c2 := Ext.some hx (hc 2 _ rfl)
            have c3 := Ext.some hx (hc 3 _ rfl)
            simp only [EUse, Nat.add_zero] at c0 c1 c2 c3
            have p0 : wr.cell? ⟨B, 0, none⟩ = some (.int .i64 a.level) := HBB2.out.cell 0
            have p1 : wr.cell? ⟨B, 1, none⟩ = some (.int .i64 a.set) := HBB2.out.cell 1
            have HFT := Lib.hid hfit
            have HTS := Lib.hid (take_succ_nth hlt)
            have HUT : Hid (labelRight (nth l k).label = true ∧ 1 ≤ (nth l k).used ∧ (nth l k).used ≤ 100000) := Lib.hid (by have h1 := useOk_true HU.out hlt; simp only [useOk, Bool.and_eq_true] at h1; have h2 := isB_true h1.2; exact ⟨h1.1.1, h2⟩)
            have hkl : (k : Int) < (l.length : Int) := by omega
            have hk0 : (0 : Int) ≤ (k : Int) := Int.natCast_nonneg _
            clear hc hfit hx
            by_cases hkp : k < kf
            · have hd : decide (kf < k) = false := by simp; omega
              rw [hd]
              have HLS : Hid (decide (cmpUses ⟨a, o, n⟩ (nth l k) < 0) = false) := Lib.hid (by exact less_before HU.out hkf HQ.out hkp n)
              have hnu : isUse a o (nth l k) = false := HLOW.out k hkp
              have NV0 : Hid (Blk wr N 124 #[.int .i64 a.level, .int .i64 a.set, .string o, .int .i64 n]) := Lib.hid (by have h := HNB.out; rwa [if_neg (by omega)] at h)
              have HKP := Lib.hid hkp
              clear hd hkp
              have C0 := Lib.hid c0
              have C1 := Lib.hid c1
              have C2 := Lib.hid c2
              have C3 := Lib.hid c3
              by_cases hq : (nth l k).label = a
              · have q0 : (nth l k).label.level = a.level := by rw [hq]
                have q1 : (nth l k).label.set = a.set := by rw [hq]
                have z2 : ((nth l k).owner.toList == o.toList) = false := by rw [isUse_iff] at hnu; simpa [q0, q1] using hnu
                rw [q0] at c0
                rw [q1] at c1
                clear hq q0 q1 hnu
                go_wp2_with fail
                go_quiet (fail)
                generalize hV : wr.drewN _ = V1
                have QV := Lib.hid (quiet2_ext hV (Ext.refl wr))
                clear hV
                have NV1 := Lib.hid (NV0.out.ext QV.out)
                have BV1 := Lib.hid (HBB2.out.ext QV.out)
                have XV1 := Lib.hid (XR.out.trans QV.out)
                have OV1 := Lib.hid (HO2.out.ext QV.out)
                have D0 := Lib.hid (Ext.some QV.out C0.out)
                have D1 := Lib.hid (Ext.some QV.out C1.out)
                have D2 := Lib.hid (Ext.some QV.out C2.out)
                have D3 := Lib.hid (Ext.some QV.out C3.out)
                clear c0 c1 c2 c3 p0 p1
                go_wp2_with fail
                have al0 : ∀ V, Ext V1 V → V.cell? ⟨N, 0, none⟩ = some (.int .i64 a.level) := fun V hV => Ext.some hV (NV1.out.cell 0)
                have al1 : ∀ V, Ext V1 V → V.cell? ⟨N, 1, none⟩ = some (.int .i64 a.set) := fun V hV => Ext.some hV (NV1.out.cell 1)
                have al2 : ∀ V, Ext V1 V → V.cell? ⟨N, 2, none⟩ = some (.string o) := fun V hV => Ext.some hV (NV1.out.cell 2)
                have al3 : ∀ V, Ext V1 V → V.cell? ⟨N, 3, none⟩ = some (.int .i64 n) := fun V hV => Ext.some hV (NV1.out.cell 3)
                have ac0 : ∀ V, Ext V1 V → V.cell? ⟨b, q + k * 4, none⟩ = some (.int .i64 (nth l k).label.level) := fun V hV => Ext.some hV D0.out
                have ac1 : ∀ V, Ext V1 V → V.cell? ⟨b, q + k * 4 + 1, none⟩ = some (.int .i64 (nth l k).label.set) := fun V hV => Ext.some hV D1.out
                have ac2 : ∀ V, Ext V1 V → V.cell? ⟨b, q + k * 4 + 2, none⟩ = some (.string (nth l k).owner) := fun V hV => Ext.some hV D2.out
                have ac3 : ∀ V, Ext V1 V → V.cell? ⟨b, q + k * 4 + 3, none⟩ = some (.int .i64 (nth l k).used) := fun V hV => Ext.some hV D3.out
                go_region_held3 (fun V => Ext V1 V) (first | exact Ext.refl _ | exact (Ext.refl _).drew | assumption | exact Ext.trans (by assumption) HL.out) (first | (go_at_call 124; (with_reducible refine (l11Less_any (S := S) (S' := S) ⟨a, o, n⟩ (nth l k) [.int .i64 a.level, .int .i64 a.set, .string o, .int .i64 n] [.int .i64 (nth l k).label.level, .int .i64 (nth l k).label.set, .string (nth l k).owner, .int .i64 (nth l k).used] _ (rel_Use HFX.out) (rel_Use HFT.out) HLA.out HUT.out.1).mono ?_); rw [HLS.out]; rintro e y ⟨rfl, hxl⟩; have HL := Lib.hid hxl; have HV : Hid (Ext V1 y) := Lib.hid (Ext.trans (by assumption) hxl); clear hxl))
                have NV := Lib.hid (NV1.out.ext HV.out)
                have BV := Lib.hid (BV1.out.ext HV.out)
                have XY := Lib.hid (XV1.out.trans HV.out)
                have OY := Lib.hid (OV1.out.ext HV.out)
                clear al0 al1 al2 al3 ac0 ac1 ac2 ac3
                have d0 := Ext.some HV.out D0.out
                have d1 := Ext.some HV.out D1.out
                have d2 := Ext.some HV.out D2.out
                have d3 := Ext.some HV.out D3.out
                go_upto_region 17 with (at_builtin; refine wpList_append_one (O := OUse) (T := 124) (l := (addAt l kf n).take k) (F := F) (G := []) (y := nth l k) (cs := [.int .i64 (nth l k).label.level, .int .i64 (nth l k).label.set, .string (nth l k).owner, .int .i64 (nth l k).used]) rfl _ _ 66 rfl (.agg #[.int .i64 0, .int .i64 0, .string ⟨#[]⟩, .int .i64 0]) 4 40 Try.underlying66 (by kernel_rfl) rfl rfl rfl (OY.out.ext ((Ext.refl _).alloc _)) _ 0 1 rfl ⟨⟨rfl, HFT.out⟩, rfl⟩ (Blk.new _ _ _).range (by simpa using (OY.out).nodup) (by simp only [List.length_take]; omega) (by decide) ?_; intro vw9 w9 F9 how hkp hF9; have OWw9 := Lib.hid how; have KPw9 := Lib.hid hkp; have FFw9 := Lib.hid hF9; clear how hkp hF9)
                have HA9 : Hid (∀ b ∈ F9, w.heap.size ≤ b ∧ b ≠ N ∧ b ≠ B) := Lib.hid (fun b hb => by
                  rcases FFw9.out b hb with h | h | h
                  · exact HF2.out b h
                  · cases h
                  · have h1 := NV.out.lt
                    have h2 := BV.out.lt
                    have h3 := ((Ext.refl y).alloc (.cells #[] 124)).size
                    have h4 := XY.out.size
                    have h5 : y.heap.size + 1 ≤ b := by simpa using h
                    omega)
                go_wp2_with fail
                refine ⟨⟨k + 1, F9, by omega, by go_num, by have := HKP.out; congr 1; simp; omega, by rw [take_succ_nth (by rw [addAt_length]; exact hlt), addAt_ne (by have := HKP.out; omega) hlt]; exact OWw9.out, HA9.out, ?_, ?_, ?_⟩, ?_⟩
                · rw [if_neg (show ¬ kf < k + 1 by have := HKP.out; omega)]; exact (KPw9.out.block N (NV.out.ext ((Ext.refl _).alloc _)).lt (fun h => (HF2.out _ h).2.1 rfl)).trans (NV.out.ext ((Ext.refl _).alloc _))
                · exact (KPw9.out.block B (BV.out.ext ((Ext.refl _).alloc _)).lt (fun h => (HF2.out _ h).2.2 rfl)).trans (BV.out.ext ((Ext.refl _).alloc _))
                · exact KPw9.out.ext (XY.out.alloc _) (fun b hb => (HF2.out b hb).1)
                · simp [intOf]
                  omega
              by_cases hv : (nth l k).label.level = a.level
              rotate_left
              · have z0 : ((nth l k).label.level == a.level) = false := by simpa using hv
                clear hq hv hnu
                go_wp2_with fail
                go_quiet (fail)
                generalize hV : wr.drewN _ = V1
                have QV := Lib.hid (quiet2_ext hV (Ext.refl wr))
                clear hV
                have NV1 := Lib.hid (NV0.out.ext QV.out)
                have BV1 := Lib.hid (HBB2.out.ext QV.out)
                have XV1 := Lib.hid (XR.out.trans QV.out)
                have OV1 := Lib.hid (HO2.out.ext QV.out)
                have D0 := Lib.hid (Ext.some QV.out C0.out)
                have D1 := Lib.hid (Ext.some QV.out C1.out)
                have D2 := Lib.hid (Ext.some QV.out C2.out)
                have D3 := Lib.hid (Ext.some QV.out C3.out)
                clear c0 c1 c2 c3 p0 p1
                go_wp2_with fail
                have al0 : ∀ V, Ext V1 V → V.cell? ⟨N, 0, none⟩ = some (.int .i64 a.level) := fun V hV => Ext.some hV (NV1.out.cell 0)
                have al1 : ∀ V, Ext V1 V → V.cell? ⟨N, 1, none⟩ = some (.int .i64 a.set) := fun V hV => Ext.some hV (NV1.out.cell 1)
                have al2 : ∀ V, Ext V1 V → V.cell? ⟨N, 2, none⟩ = some (.string o) := fun V hV => Ext.some hV (NV1.out.cell 2)
                have al3 : ∀ V, Ext V1 V → V.cell? ⟨N, 3, none⟩ = some (.int .i64 n) := fun V hV => Ext.some hV (NV1.out.cell 3)
                have ac0 : ∀ V, Ext V1 V → V.cell? ⟨b, q + k * 4, none⟩ = some (.int .i64 (nth l k).label.level) := fun V hV => Ext.some hV D0.out
                have ac1 : ∀ V, Ext V1 V → V.cell? ⟨b, q + k * 4 + 1, none⟩ = some (.int .i64 (nth l k).label.set) := fun V hV => Ext.some hV D1.out
                have ac2 : ∀ V, Ext V1 V → V.cell? ⟨b, q + k * 4 + 2, none⟩ = some (.string (nth l k).owner) := fun V hV => Ext.some hV D2.out
                have ac3 : ∀ V, Ext V1 V → V.cell? ⟨b, q + k * 4 + 3, none⟩ = some (.int .i64 (nth l k).used) := fun V hV => Ext.some hV D3.out
                go_region_held3 (fun V => Ext V1 V) (first | exact Ext.refl _ | exact (Ext.refl _).drew | assumption | exact Ext.trans (by assumption) HL.out) (first | (go_at_call 124; (with_reducible refine (l11Less_any (S := S) (S' := S) ⟨a, o, n⟩ (nth l k) [.int .i64 a.level, .int .i64 a.set, .string o, .int .i64 n] [.int .i64 (nth l k).label.level, .int .i64 (nth l k).label.set, .string (nth l k).owner, .int .i64 (nth l k).used] _ (rel_Use HFX.out) (rel_Use HFT.out) HLA.out HUT.out.1).mono ?_); rw [HLS.out]; rintro e y ⟨rfl, hxl⟩; have HL := Lib.hid hxl; have HV : Hid (Ext V1 y) := Lib.hid (Ext.trans (by assumption) hxl); clear hxl))
                have NV := Lib.hid (NV1.out.ext HV.out)
                have BV := Lib.hid (BV1.out.ext HV.out)
                have XY := Lib.hid (XV1.out.trans HV.out)
                have OY := Lib.hid (OV1.out.ext HV.out)
                clear al0 al1 al2 al3 ac0 ac1 ac2 ac3
                have d0 := Ext.some HV.out D0.out
                have d1 := Ext.some HV.out D1.out
                have d2 := Ext.some HV.out D2.out
                have d3 := Ext.some HV.out D3.out
                go_upto_region 17 with (at_builtin; refine wpList_append_one (O := OUse) (T := 124) (l := (addAt l kf n).take k) (F := F) (G := []) (y := nth l k) (cs := [.int .i64 (nth l k).label.level, .int .i64 (nth l k).label.set, .string (nth l k).owner, .int .i64 (nth l k).used]) rfl _ _ 66 rfl (.agg #[.int .i64 0, .int .i64 0, .string ⟨#[]⟩, .int .i64 0]) 4 40 Try.underlying66 (by kernel_rfl) rfl rfl rfl (OY.out.ext ((Ext.refl _).alloc _)) _ 0 1 rfl ⟨⟨rfl, HFT.out⟩, rfl⟩ (Blk.new _ _ _).range (by simpa using (OY.out).nodup) (by simp only [List.length_take]; omega) (by decide) ?_; intro vw9 w9 F9 how hkp hF9; have OWw9 := Lib.hid how; have KPw9 := Lib.hid hkp; have FFw9 := Lib.hid hF9; clear how hkp hF9)
                have HA9 : Hid (∀ b ∈ F9, w.heap.size ≤ b ∧ b ≠ N ∧ b ≠ B) := Lib.hid (fun b hb => by
                  rcases FFw9.out b hb with h | h | h
                  · exact HF2.out b h
                  · cases h
                  · have h1 := NV.out.lt
                    have h2 := BV.out.lt
                    have h3 := ((Ext.refl y).alloc (.cells #[] 124)).size
                    have h4 := XY.out.size
                    have h5 : y.heap.size + 1 ≤ b := by simpa using h
                    omega)
                go_wp2_with fail
                refine ⟨⟨k + 1, F9, by omega, by go_num, by have := HKP.out; congr 1; simp; omega, by rw [take_succ_nth (by rw [addAt_length]; exact hlt), addAt_ne (by have := HKP.out; omega) hlt]; exact OWw9.out, HA9.out, ?_, ?_, ?_⟩, ?_⟩
                · rw [if_neg (show ¬ kf < k + 1 by have := HKP.out; omega)]; exact (KPw9.out.block N (NV.out.ext ((Ext.refl _).alloc _)).lt (fun h => (HF2.out _ h).2.1 rfl)).trans (NV.out.ext ((Ext.refl _).alloc _))
                · exact (KPw9.out.block B (BV.out.ext ((Ext.refl _).alloc _)).lt (fun h => (HF2.out _ h).2.2 rfl)).trans (BV.out.ext ((Ext.refl _).alloc _))
                · exact KPw9.out.ext (XY.out.alloc _) (fun b hb => (HF2.out b hb).1)
                · simp [intOf]
                  omega
              · have z1 : ((nth l k).label.set == a.set) = false := by simp; exact fun e => hq (Label.ext hv e)
                rw [hv] at c0
                clear hq hv hnu
                go_wp2_with fail
                go_quiet (fail)
                generalize hV : wr.drewN _ = V1
                have QV := Lib.hid (quiet2_ext hV (Ext.refl wr))
                clear hV
                have NV1 := Lib.hid (NV0.out.ext QV.out)
                have BV1 := Lib.hid (HBB2.out.ext QV.out)
                have XV1 := Lib.hid (XR.out.trans QV.out)
                have OV1 := Lib.hid (HO2.out.ext QV.out)
                have D0 := Lib.hid (Ext.some QV.out C0.out)
                have D1 := Lib.hid (Ext.some QV.out C1.out)
                have D2 := Lib.hid (Ext.some QV.out C2.out)
                have D3 := Lib.hid (Ext.some QV.out C3.out)
                clear c0 c1 c2 c3 p0 p1
                go_wp2_with fail
                have al0 : ∀ V, Ext V1 V → V.cell? ⟨N, 0, none⟩ = some (.int .i64 a.level) := fun V hV => Ext.some hV (NV1.out.cell 0)
                have al1 : ∀ V, Ext V1 V → V.cell? ⟨N, 1, none⟩ = some (.int .i64 a.set) := fun V hV => Ext.some hV (NV1.out.cell 1)
                have al2 : ∀ V, Ext V1 V → V.cell? ⟨N, 2, none⟩ = some (.string o) := fun V hV => Ext.some hV (NV1.out.cell 2)
                have al3 : ∀ V, Ext V1 V → V.cell? ⟨N, 3, none⟩ = some (.int .i64 n) := fun V hV => Ext.some hV (NV1.out.cell 3)
                have ac0 : ∀ V, Ext V1 V → V.cell? ⟨b, q + k * 4, none⟩ = some (.int .i64 (nth l k).label.level) := fun V hV => Ext.some hV D0.out
                have ac1 : ∀ V, Ext V1 V → V.cell? ⟨b, q + k * 4 + 1, none⟩ = some (.int .i64 (nth l k).label.set) := fun V hV => Ext.some hV D1.out
                have ac2 : ∀ V, Ext V1 V → V.cell? ⟨b, q + k * 4 + 2, none⟩ = some (.string (nth l k).owner) := fun V hV => Ext.some hV D2.out
                have ac3 : ∀ V, Ext V1 V → V.cell? ⟨b, q + k * 4 + 3, none⟩ = some (.int .i64 (nth l k).used) := fun V hV => Ext.some hV D3.out
                go_region_held3 (fun V => Ext V1 V) (first | exact Ext.refl _ | exact (Ext.refl _).drew | assumption | exact Ext.trans (by assumption) HL.out) (first | (go_at_call 124; (with_reducible refine (l11Less_any (S := S) (S' := S) ⟨a, o, n⟩ (nth l k) [.int .i64 a.level, .int .i64 a.set, .string o, .int .i64 n] [.int .i64 (nth l k).label.level, .int .i64 (nth l k).label.set, .string (nth l k).owner, .int .i64 (nth l k).used] _ (rel_Use HFX.out) (rel_Use HFT.out) HLA.out HUT.out.1).mono ?_); rw [HLS.out]; rintro e y ⟨rfl, hxl⟩; have HL := Lib.hid hxl; have HV : Hid (Ext V1 y) := Lib.hid (Ext.trans (by assumption) hxl); clear hxl))
                have NV := Lib.hid (NV1.out.ext HV.out)
                have BV := Lib.hid (BV1.out.ext HV.out)
                have XY := Lib.hid (XV1.out.trans HV.out)
                have OY := Lib.hid (OV1.out.ext HV.out)
                clear al0 al1 al2 al3 ac0 ac1 ac2 ac3
                have d0 := Ext.some HV.out D0.out
                have d1 := Ext.some HV.out D1.out
                have d2 := Ext.some HV.out D2.out
                have d3 := Ext.some HV.out D3.out
                go_upto_region 17 with (at_builtin; refine wpList_append_one (O := OUse) (T := 124) (l := (addAt l kf n).take k) (F := F) (G := []) (y := nth l k) (cs := [.int .i64 (nth l k).label.level, .int .i64 (nth l k).label.set, .string (nth l k).owner, .int .i64 (nth l k).used]) rfl _ _ 66 rfl (.agg #[.int .i64 0, .int .i64 0, .string ⟨#[]⟩, .int .i64 0]) 4 40 Try.underlying66 (by kernel_rfl) rfl rfl rfl (OY.out.ext ((Ext.refl _).alloc _)) _ 0 1 rfl ⟨⟨rfl, HFT.out⟩, rfl⟩ (Blk.new _ _ _).range (by simpa using (OY.out).nodup) (by simp only [List.length_take]; omega) (by decide) ?_; intro vw9 w9 F9 how hkp hF9; have OWw9 := Lib.hid how; have KPw9 := Lib.hid hkp; have FFw9 := Lib.hid hF9; clear how hkp hF9)
                have HA9 : Hid (∀ b ∈ F9, w.heap.size ≤ b ∧ b ≠ N ∧ b ≠ B) := Lib.hid (fun b hb => by
                  rcases FFw9.out b hb with h | h | h
                  · exact HF2.out b h
                  · cases h
                  · have h1 := NV.out.lt
                    have h2 := BV.out.lt
                    have h3 := ((Ext.refl y).alloc (.cells #[] 124)).size
                    have h4 := XY.out.size
                    have h5 : y.heap.size + 1 ≤ b := by simpa using h
                    omega)
                go_wp2_with fail
                refine ⟨⟨k + 1, F9, by omega, by go_num, by have := HKP.out; congr 1; simp; omega, by rw [take_succ_nth (by rw [addAt_length]; exact hlt), addAt_ne (by have := HKP.out; omega) hlt]; exact OWw9.out, HA9.out, ?_, ?_, ?_⟩, ?_⟩
                · rw [if_neg (show ¬ kf < k + 1 by have := HKP.out; omega)]; exact (KPw9.out.block N (NV.out.ext ((Ext.refl _).alloc _)).lt (fun h => (HF2.out _ h).2.1 rfl)).trans (NV.out.ext ((Ext.refl _).alloc _))
                · exact (KPw9.out.block B (BV.out.ext ((Ext.refl _).alloc _)).lt (fun h => (HF2.out _ h).2.2 rfl)).trans (BV.out.ext ((Ext.refl _).alloc _))
                · exact KPw9.out.ext (XY.out.alloc _) (fun b hb => (HF2.out b hb).1)
                · simp [intOf]
                  omega
            by_cases hkq : kf < k
            · have hd : decide (kf < k) = true := by simp; omega
              rw [hd]
              have C0 := Lib.hid c0
              have C1 := Lib.hid c1
              have C2 := Lib.hid c2
              have C3 := Lib.hid c3
              have HKP := Lib.hid hkq
              have NV0 := Lib.hid (by have h := HNB.out; rwa [if_pos hkq] at h)
              clear hd hkp hkq
              go_wp2_with fail
              go_quiet (fail)
              generalize hV : wr.drewN _ = V1
              have QV := Lib.hid (quiet2_ext hV (Ext.refl wr))
              clear hV
              have NV1 := Lib.hid (NV0.out.ext QV.out)
              have BV1 := Lib.hid (HBB2.out.ext QV.out)
              have XV1 := Lib.hid (XR.out.trans QV.out)
              have OV1 := Lib.hid (HO2.out.ext QV.out)
              have D0 := Lib.hid (Ext.some QV.out C0.out)
              have D1 := Lib.hid (Ext.some QV.out C1.out)
              have D2 := Lib.hid (Ext.some QV.out C2.out)
              have D3 := Lib.hid (Ext.some QV.out C3.out)
              clear c0 c1 c2 c3 p0 p1
              go_wp2_with fail
              go_quiet (fail)
              generalize hV : V1.drewN _ = y
              have QY := Lib.hid (quiet2_ext hV (Ext.refl V1))
              clear hV
              have NV := Lib.hid (NV1.out.ext QY.out)
              have BV := Lib.hid (BV1.out.ext QY.out)
              have XY := Lib.hid (XV1.out.trans QY.out)
              have OY := Lib.hid (OV1.out.ext QY.out)
              have d0 := Ext.some QY.out D0.out
              have d1 := Ext.some QY.out D1.out
              have d2 := Ext.some QY.out D2.out
              have d3 := Ext.some QY.out D3.out
              go_upto_region 17 with (at_builtin; refine wpList_append_one (O := OUse) (T := 124) (l := (addAt l kf n).take k) (F := F) (G := []) (y := nth l k) (cs := [.int .i64 (nth l k).label.level, .int .i64 (nth l k).label.set, .string (nth l k).owner, .int .i64 (nth l k).used]) rfl _ _ 66 rfl (.agg #[.int .i64 0, .int .i64 0, .string ⟨#[]⟩, .int .i64 0]) 4 40 Try.underlying66 (by kernel_rfl) rfl rfl rfl (OY.out.ext ((Ext.refl _).alloc _)) _ 0 1 rfl ⟨⟨rfl, HFT.out⟩, rfl⟩ (Blk.new _ _ _).range (by simpa using (OY.out).nodup) (by simp only [List.length_take]; omega) (by decide) ?_; intro vw9 w9 F9 how hkp hF9; have OWw9 := Lib.hid how; have KPw9 := Lib.hid hkp; have FFw9 := Lib.hid hF9; clear how hkp hF9)
              have HA9 : Hid (∀ b ∈ F9, w.heap.size ≤ b ∧ b ≠ N ∧ b ≠ B) := Lib.hid (fun b hb => by
                rcases FFw9.out b hb with h | h | h
                · exact HF2.out b h
                · cases h
                · have h1 := NV.out.lt
                  have h2 := BV.out.lt
                  have h3 := ((Ext.refl y).alloc (.cells #[] 124)).size
                  have h4 := XY.out.size
                  have h5 : y.heap.size + 1 ≤ b := by simpa using h
                  omega)
              go_wp2_with fail
              refine ⟨⟨k + 1, F9, by omega, by go_num, by have := HKP.out; congr 1; simp; omega, by rw [take_succ_nth (by rw [addAt_length]; exact hlt), addAt_ne (by have := HKP.out; omega) hlt]; exact OWw9.out, HA9.out, ?_, ?_, ?_⟩, ?_⟩
              · rw [if_pos (show kf < k + 1 by have := HKP.out; omega)]; exact (KPw9.out.block N (NV.out.ext ((Ext.refl _).alloc _)).lt (fun h => (HF2.out _ h).2.1 rfl)).trans (NV.out.ext ((Ext.refl _).alloc _))
              · exact (KPw9.out.block B (BV.out.ext ((Ext.refl _).alloc _)).lt (fun h => (HF2.out _ h).2.2 rfl)).trans (BV.out.ext ((Ext.refl _).alloc _))
              · exact KPw9.out.ext (XY.out.alloc _) (fun b hb => (HF2.out b hb).1)
              · simp [intOf]
                omega
            obtain rfl : k = kf := by omega
            have hd : decide (k < k) = false := by simp
            rw [hd]
            have C0 := Lib.hid c0
            have C1 := Lib.hid c1
            have C2 := Lib.hid c2
            have C3 := Lib.hid c3
            clear hd hkp hkq
            have HLB := Lib.hid (HQ.out)
            have hlab : (nth l k).label = a ∧ (nth l k).owner = o := by have h := HQ.out; simp only [isUse, Bool.and_eq_true, decide_eq_true_eq] at h; exact h
            have NV0 := Lib.hid (by have h := HNB.out; rwa [if_neg (Nat.lt_irrefl _)] at h)
            rw [show (nth l k).label.level = a.level by rw [hlab.1]] at c0
            rw [show (nth l k).label.set = a.set by rw [hlab.1]] at c1
            rw [hlab.2] at c2
            clear hlab
            go_wp2_with fail
            go_quiet (fail)
            generalize hV : wr.drewN _ = V1
            have QV := Lib.hid (quiet2_ext hV (Ext.refl wr))
            clear hV
            have NV1 := Lib.hid (NV0.out.ext QV.out)
            have BV1 := Lib.hid (HBB2.out.ext QV.out)
            have XV1 := Lib.hid (XR.out.trans QV.out)
            have OV1 := Lib.hid (HO2.out.ext QV.out)
            have d3 := Ext.some QV.out c3
            have n3 : V1.cell? ⟨N, 3, none⟩ = some (.int .i64 n) := NV1.out.cell 3
            have nq := NV1.out.frozen 3
            clear c0 c1 c2 c3 p0 p1
            have hub := HUT.out.2
            have hwr : IntKind.i64.wrap ((nth l k).used + n) = (nth l k).used + n := IntWalk.i64_in _ (by have := HN2.out; omega)
            go_upto_region 20 with (go_at_call 123; refine (l01Min2_any _ _ _).mono ?_; rintro e w' ⟨rfl, rfl⟩)
            obtain ⟨m, hm⟩ : ∃ m, m = min 100000 ((nth l k).used + n) := ⟨_, rfl⟩
            have HM := Lib.hid hm
            have hmm : min ((nth l k).used + n) 100000 = m := by rw [hm]; omega
            rw [hmm]
            have HMI : Hid (I64 m) := Lib.hid (by rw [hm]; unfold I64; have := HN2.out; omega)
            clear hm hmm hub
            obtain ⟨y, hy⟩ : ∃ y, y = V1.setCell ⟨N, 3, none⟩ (.int .i64 m) := ⟨_, rfl⟩
            have NV : Hid (Blk y N 124 #[.int .i64 a.level, .int .i64 a.set, .string o, .int .i64 m]) := Lib.hid (by rw [hy]; simpa using NV1.out.set_ 3 (.int .i64 m))
            have BV : Hid (Blk y B 46 #[.int .i64 a.level, .int .i64 a.set]) := Lib.hid (by rw [hy]; exact Blk.far (p := ⟨N, 3, none⟩) BV1.out HBN.out.1 _)
            have XY : Hid (Ext w y) := Lib.hid (by rw [hy]; exact XV1.out.setCell HNW.out _)
            have OY := Lib.hid (OV1.out.kept (G := [N]) (Kept.setCell (p := ⟨N, 3, none⟩) (Kept.refl _ _) (by simp) (.int .i64 m)) (fun b hb => by simp; exact (HF2.out b hb).2.1))
            rw [← hy] at OY ⊢
            clear hy d3 n3 nq
            have n0 : y.cell? ⟨N, 0, none⟩ = some (.int .i64 a.level) := NV.out.cell 0
            have n1 : y.cell? ⟨N, 1, none⟩ = some (.int .i64 a.set) := NV.out.cell 1
            have n2 : y.cell? ⟨N, 2, none⟩ = some (.string o) := NV.out.cell 2
            have n3 : y.cell? ⟨N, 3, none⟩ = some (.int .i64 m) := NV.out.cell 3
            go_upto_region 17 with (at_builtin; refine wpList_append_one (O := OUse) (T := 124) (l := (addAt l k n).take k) (F := F) (G := []) (y := ⟨a, o, m⟩) (cs := [.int .i64 a.level, .int .i64 a.set, .string o, .int .i64 m]) rfl _ _ 66 rfl (.agg #[.int .i64 0, .int .i64 0, .string ⟨#[]⟩, .int .i64 0]) 4 40 Try.underlying66 (by kernel_rfl) rfl rfl rfl (OY.out.ext ((Ext.refl _).alloc _)) _ 0 1 rfl ⟨⟨rfl, ⟨HFX.out.1, HFX.out.2.1, HFX.out.2.2.1, HMI.out⟩⟩, rfl⟩ (Blk.new _ _ _).range (by simpa using (OY.out).nodup) (by simp only [List.length_take]; omega) (by decide) ?_; intro vw9 w9 F9 how hkp hF9; have OWw9 := Lib.hid how; have KPw9 := Lib.hid hkp; have FFw9 := Lib.hid hF9; clear how hkp hF9)
            have HA9 : Hid (∀ b ∈ F9, w.heap.size ≤ b ∧ b ≠ N ∧ b ≠ B) := Lib.hid (fun b hb => by
              rcases FFw9.out b hb with h | h | h
              · exact HF2.out b h
              · cases h
              · have h1 := NV.out.lt
                have h2 := BV.out.lt
                have h3 := ((Ext.refl y).alloc (.cells #[] 124)).size
                have h4 := XY.out.size
                have h5 : y.heap.size + 1 ≤ b := by simpa using h
                omega)
            go_wp2_with fail
            refine ⟨⟨k + 1, F9, by omega, by go_num, by congr 1; simp, by rw [take_succ_nth (by rw [addAt_length]; exact hlt), addAt_at hlt HQ.out, ← HM.out]; exact OWw9.out, HA9.out, ?_, ?_, ?_⟩, ?_⟩
            · rw [if_pos (Nat.lt_succ_self _), ← HM.out]; exact (KPw9.out.block N (NV.out.ext ((Ext.refl _).alloc _)).lt (fun h => (HF2.out _ h).2.1 rfl)).trans (NV.out.ext ((Ext.refl _).alloc _))
            · exact (KPw9.out.block B (BV.out.ext ((Ext.refl _).alloc _)).lt (fun h => (HF2.out _ h).2.2 rfl)).trans (BV.out.ext ((Ext.refl _).alloc _))
            · exact KPw9.out.ext (XY.out.alloc _) (fun b hb => (HF2.out b hb).1)
            · simp [intOf]
              omega
          · have hke : k = l.length := by omega
            have hd : decide (kf < k) = true := by simp; omega
            rw [hd]
            have HT : Hid ((addAt l kf n).take k = addAt l kf n) := Lib.hid (List.take_of_length_le (by rw [addAt_length]; omega))
            clear hx hd
            go_wp2_with fail
            go_ret
            exact ⟨_, F, rfl, by rw [HE.out, ← HT.out]; exact HO2.out, fun b hb => (HF2.out b hb).1, XR.out⟩
end Go.Proofs.Ytbdicafambkhdaa

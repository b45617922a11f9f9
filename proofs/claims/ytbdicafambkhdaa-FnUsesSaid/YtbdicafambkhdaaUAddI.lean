/- The walk of the program's UseAdd. -/
import Derived.Test.YtbdicafambkhdaaSortU
import Derived.Test.YtbdicafambkhdaaClones
namespace Go.Proofs.Ytbdicafambkhdaa
open Go.RowKit
attribute [local irreducible] wpQuiet

theorem longText2_any (t : ByteArray) (w : World) (_ht : t.size ≤ maxLen) : Calls Try.prog 117 #[.string t] w fun e w' => e = .returned (.bool (decide (8000 < t.size))) ∧ w = w' := by
  unfold maxLen at _ht
  go_enter Try.func117, Try.ntmps117
  go_wp2_with fail
  go_ret
  exact ⟨ret_bool (by rw [Bool.eq_iff_iff]; simp; omega), rfl⟩

set_option maxHeartbeats 8000000 in
set_option maxRecDepth 100000 in
theorem useAdd_any {S : Nat → Prop} (l : List Use) (a : Label) (o : ByteArray) (n : Int) (v : Value) (w : World) (h : Rd EUse S w v l) (ha : FitLabel a) (ho : Str o) (hn : I64 n) :
    Calls Try.prog 39 #[v, .agg #[.int .i64 a.level, .int .i64 a.set], .string o, .int .i64 n] w (RetO OUse 124 (useAdd l a o n) w) := by
  have HR := Lib.hid h
  obtain ⟨A, c, rfl, h1, h2⟩ := h.form
  unfold maxLen at h2
  have HA := Lib.hid ha
  have HO : Hid (o.size ≤ maxLen) := Lib.hid ho
  have HN := Lib.hid hn
  clear h ha ho hn
  go_enter Try.func39, Try.ntmps39
  go_upto_region 1 with (fail)
  obtain ⟨W, B, hW, hB, hx0, b0⟩ : ∃ V B, V = w.alloc (.cells #[.int .i64 a.level, .int .i64 a.set] 46) ∧ B = w.heap.size ∧ Ext w V ∧ Blk V B 46 #[.int .i64 a.level, .int .i64 a.set] := ⟨_, _, rfl, rfl, (Ext.refl w).alloc _, Blk.new _ _ _⟩
  rw [← hW, ← hB]
  have B0 := Lib.hid b0
  have X0 := Lib.hid hx0
  have p0 : W.cell? ⟨B, 0, none⟩ = some (.int .i64 a.level) := B0.out.cell 0
  have p1 : W.cell? ⟨B, 1, none⟩ = some (.int .i64 a.set) := B0.out.cell 1
  clear hW hB hx0 b0
  by_cases hl : 400 < l.length
  · have HE : Hid (useAdd l a o n = []) := Lib.hid (by rw [useAdd, if_pos (.inl hl)])
    go_wp2_with fail
    go_ret
    exact ⟨_, [], rfl, by rw [HE.out]; exact OwS.nil _, fun b hb => (by cases hb), X0.out⟩
  by_cases h8 : 8000 < o.size
  · have HE : Hid (useAdd l a o n = []) := Lib.hid (by rw [useAdd, if_pos (.inr h8)])
    have h8b : decide (8000 < o.size) = true := by simpa using h8
    go_wp2_with (go_at_call 117; refine (longText2_any _ _ HO.out).mono ?_; rintro e w' ⟨rfl, rfl⟩)
    go_ret
    exact ⟨_, [], rfl, by rw [HE.out]; exact OwS.nil _, fun b hb => (by cases hb), X0.out⟩
  have h8b : decide (8000 < o.size) = false := by simpa using h8
  have hlo : ¬ (400 < l.length ∨ 8000 < o.size) := by omega
  have HLO := Lib.hid hlo
  have hl2 : l.length ≤ 400 := by omega
  clear hlo
  go_upto_region 4 with (first | (go_at_call 117; refine (longText2_any _ _ HO.out).mono ?_; rintro e w' ⟨rfl, rfl⟩) | (go_at_call 118; (with_reducible refine (cloneUse_any (S := S) l _ _ (HR.out.ext X0.out) (by omega)).mono ?_); rintro e w1 ⟨v1, F1, rfl, o1, f1, hx1⟩; obtain ⟨A1, c1, rfl, -⟩ := o1.form; have O1 := Lib.hid o1; have G1 : Hid (∀ b ∈ F1, w.heap.size ≤ b) := Lib.hid (fun b hb => Nat.le_trans X0.out.size (f1 b hb)); have X1 := Lib.hid (X0.out.trans hx1); have B1 := Lib.hid (B0.out.ext hx1); have p0b : w1.cell? ⟨B, 0, none⟩ = some (.int .i64 a.level) := B1.out.cell 0; have p1b : w1.cell? ⟨B, 1, none⟩ = some (.int .i64 a.set) := B1.out.cell 1; clear o1 f1 hx1 p0 p1))
  cases hu : usesRight l with
  | false =>
    have HE : Hid (useAdd l a o n = l) := Lib.hid (by rw [useAdd, if_neg HLO.out, if_pos (by simp [hu])])
    go_wp2_with (go_at_call 42; (with_reducible refine (usesRight_any (S := S) l _ _ (HR.out.ext X1.out)).mono ?_); rw [hu]; rintro e w2 ⟨rfl, hx2⟩; have H2 := Lib.hid hx2; clear hx2)
    go_ret
    exact ⟨_, F1, rfl, by rw [HE.out]; exact O1.out.ext H2.out, G1.out, X1.out.trans H2.out⟩
  | true =>
  have HU := Lib.hid hu
  clear hu
  cases hla : labelRight a with
  | false =>
    have HE : Hid (useAdd l a o n = l) := Lib.hid (by rw [useAdd, if_neg HLO.out, if_pos (by simp [hla])])
    go_wp2_with (first | (go_at_call 42; (with_reducible refine (usesRight_any (S := S) l _ _ (HR.out.ext X1.out)).mono ?_); rw [HU.out]; rintro e w2 ⟨rfl, hx2⟩; have H2 := Lib.hid hx2; have B2 := Lib.hid (B1.out.ext hx2); have p0c : w2.cell? ⟨B, 0, none⟩ = some (.int .i64 a.level) := B2.out.cell 0; have p1c : w2.cell? ⟨B, 1, none⟩ = some (.int .i64 a.set) := B2.out.cell 1; clear hx2 p0b p1b) | (go_at_call 93; (with_reducible refine (labelRight_any (S := S) a [.int .i64 a.level, .int .i64 a.set] _ (rel_Label HA.out)).mono ?_); rw [hla]; rintro e w3 ⟨rfl, hx3⟩; have H3 := Lib.hid (H2.out.trans hx3); clear hx3))
    go_ret
    exact ⟨_, F1, rfl, by rw [HE.out]; exact O1.out.ext H3.out, G1.out, X1.out.trans H3.out⟩
  | true =>
  have HLA := Lib.hid hla
  clear hla
  cases hna : nameRight o with
  | false =>
    have HE : Hid (useAdd l a o n = l) := Lib.hid (by rw [useAdd, if_neg HLO.out, if_pos (by simp [hna])])
    go_wp2_with (first | (go_at_call 42; (with_reducible refine (usesRight_any (S := S) l _ _ (HR.out.ext X1.out)).mono ?_); rw [HU.out]; rintro e w2 ⟨rfl, hx2⟩; have H2 := Lib.hid hx2; have B2 := Lib.hid (B1.out.ext hx2); have p0c : w2.cell? ⟨B, 0, none⟩ = some (.int .i64 a.level) := B2.out.cell 0; have p1c : w2.cell? ⟨B, 1, none⟩ = some (.int .i64 a.set) := B2.out.cell 1; clear hx2 p0b p1b) | (go_at_call 93; (with_reducible refine (labelRight_any (S := S) a [.int .i64 a.level, .int .i64 a.set] _ (rel_Label HA.out)).mono ?_); rw [HLA.out]; rintro e w3 ⟨rfl, hx3⟩; have H3 := Lib.hid (H2.out.trans hx3); clear hx3) | (go_at_call 94; refine (nameRight_any _ _ HO.out).mono ?_; rintro e w' ⟨rfl, rfl⟩))
    go_ret
    exact ⟨_, F1, rfl, by rw [HE.out]; exact O1.out.ext H3.out, G1.out, X1.out.trans H3.out⟩
  | true =>
  have HNA := Lib.hid hna
  cases hwi : isB n 1 100000 with
  | false =>
    have HE : Hid (useAdd l a o n = l) := Lib.hid (by rw [useAdd, if_neg HLO.out, if_pos (by simp [hwi])])
    go_wp2_with (first | (go_at_call 42; (with_reducible refine (usesRight_any (S := S) l _ _ (HR.out.ext X1.out)).mono ?_); rw [HU.out]; rintro e w2 ⟨rfl, hx2⟩; have H2 := Lib.hid hx2; have B2 := Lib.hid (B1.out.ext hx2); have p0c : w2.cell? ⟨B, 0, none⟩ = some (.int .i64 a.level) := B2.out.cell 0; have p1c : w2.cell? ⟨B, 1, none⟩ = some (.int .i64 a.set) := B2.out.cell 1; clear hx2 p0b p1b) | (go_at_call 93; (with_reducible refine (labelRight_any (S := S) a [.int .i64 a.level, .int .i64 a.set] _ (rel_Label HA.out)).mono ?_); rw [HLA.out]; rintro e w3 ⟨rfl, hx3⟩; have H3 := Lib.hid (H2.out.trans hx3); clear hx3) | (go_at_call 94; refine (nameRight_any _ _ HO.out).mono ?_; rintro e w' ⟨rfl, rfl⟩) | (go_at_call 71; refine (within_any _ _ _ _).mono ?_; rintro e w' ⟨rfl, rfl⟩))
    go_ret
    exact ⟨_, F1, rfl, by rw [HE.out]; exact O1.out.ext H3.out, G1.out, X1.out.trans H3.out⟩
  | true =>
  have HWI := Lib.hid hwi
  have hn2 := isB_true hwi
  have HOK : Hid (¬ (usesRight l && labelRight a && nameRight o && isB n 1 100000) = false) := Lib.hid (by rw [HU.out, HLA.out, hna, hwi]; decide)
  go_upto_region 6 with (first | (go_at_call 42; (with_reducible refine (usesRight_any (S := S) l _ _ (HR.out.ext X1.out)).mono ?_); rw [HU.out]; rintro e w2 ⟨rfl, hx2⟩; have H2 := Lib.hid hx2; have B2 := Lib.hid (B1.out.ext hx2); have p0c : w2.cell? ⟨B, 0, none⟩ = some (.int .i64 a.level) := B2.out.cell 0; have p1c : w2.cell? ⟨B, 1, none⟩ = some (.int .i64 a.set) := B2.out.cell 1; clear hx2 p0b p1b) | (go_at_call 93; (with_reducible refine (labelRight_any (S := S) a [.int .i64 a.level, .int .i64 a.set] _ (rel_Label HA.out)).mono ?_); rw [HLA.out]; rintro e w3 ⟨rfl, hx3⟩; have H3 := Lib.hid (H2.out.trans hx3); have B3 := Lib.hid (B2.out.ext hx3); have p0d : w3.cell? ⟨B, 0, none⟩ = some (.int .i64 a.level) := B3.out.cell 0; have p1d : w3.cell? ⟨B, 1, none⟩ = some (.int .i64 a.set) := B3.out.cell 1; clear hx3 p0c p1c) | (go_at_call 94; refine (nameRight_any _ _ HO.out).mono ?_; rintro e w' ⟨rfl, rfl⟩) | (go_at_call 71; refine (within_any _ _ _ _).mono ?_; rintro e w' ⟨rfl, rfl⟩))
  clear hna hwi
  have X3 := Lib.hid (X1.out.trans H3.out)
  go_upto_region 7 with (go_at_call 119; (with_reducible refine (useAt_any (S := S) l a o _ _ (HR.out.ext X3.out)).mono ?_); rintro e w4 ⟨rfl, hx4⟩; have X4 := Lib.hid (X3.out.trans hx4); have O4 := Lib.hid (O1.out.ext (H3.out.trans hx4)); have B4 := Lib.hid (B3.out.ext hx4); clear hx4)
  clear p0d p1d
  have p0e : w4.cell? ⟨B, 0, none⟩ = some (.int .i64 a.level) := B4.out.cell 0
  have p1e : w4.cell? ⟨B, 1, none⟩ = some (.int .i64 a.set) := B4.out.cell 1
  rcases idxOf_cases (isUse a o) l with ⟨hi, hnone⟩ | ⟨k, hk, hi, hq, hlow⟩
  · have HI : Hid (useIx l a o = -1) := Lib.hid hi
    have HNO := Lib.hid hnone
    rw [HI.out]
    by_cases h48 : l.length = 48
    · have HE : Hid (useAdd l a o n = l) := Lib.hid (by rw [useAdd, if_neg HLO.out, if_neg HOK.out, if_neg (by rw [hi]; decide), if_pos (.inl h48)])
      clear hi hnone
      go_wp2_with fail
      go_ret
      exact ⟨_, F1, rfl, by rw [HE.out]; exact O4.out, G1.out, X4.out⟩
    by_cases h6 : ownersOf l a = 6
    · have h48b : ((l.length : Int) == 48) = false := by simp; omega
      have HE : Hid (useAdd l a o n = l) := Lib.hid (by rw [useAdd, if_neg HLO.out, if_neg HOK.out, if_neg (by rw [hi]; decide), if_pos (.inr h6)])
      have H6 := Lib.hid h6
      clear hi hnone h6
      go_wp2_with (go_at_call 120; (with_reducible refine (ownersOf_any (S := S) (S' := S) l a _ [.int .i64 a.level, .int .i64 a.set] _ (HR.out.ext X4.out) (rel_Label HA.out)).mono ?_); rw [H6.out]; rintro e w5 ⟨rfl, hx5⟩; have H5 := Lib.hid hx5; clear hx5)
      go_ret
      exact ⟨_, F1, rfl, by rw [HE.out]; exact O4.out.ext H5.out, G1.out, X4.out.trans H5.out⟩
    have HE : Hid (useAdd l a o n = insU l ⟨a, o, n⟩) := Lib.hid (by rw [useAdd, if_neg HLO.out, if_neg HOK.out, if_neg (by rw [hi]; decide), if_neg (by omega)])
    have h6b : (((ownersOf l a : Nat) : Int) == 6) = false := by simp; omega
    have h48b : ((l.length : Int) == 48) = false := by simp; omega
    clear hi hnone
    go_wp2_with (first | (go_at_call 120; (with_reducible refine (ownersOf_any (S := S) (S' := S) l a _ [.int .i64 a.level, .int .i64 a.set] _ (HR.out.ext X4.out) (rel_Label HA.out)).mono ?_); rintro e w5 ⟨rfl, hx5⟩; have O5 := Lib.hid (O4.out.ext hx5); have X5 := Lib.hid (X4.out.trans hx5); have B5 := Lib.hid (B4.out.ext hx5); have p0f : w5.cell? ⟨B, 0, none⟩ = some (.int .i64 a.level) := B5.out.cell 0; have p1f : w5.cell? ⟨B, 1, none⟩ = some (.int .i64 a.set) := B5.out.cell 1; clear hx5 p0e p1e) | (at_builtin; refine wpList_append_one (O := OUse) (T := 124) (l := l) (F := F1) (G := []) (y := ⟨a, o, n⟩) (cs := [.int .i64 a.level, .int .i64 a.set, .string o, .int .i64 n]) rfl _ _ 66 rfl (.agg #[.int .i64 0, .int .i64 0, .string ⟨#[]⟩, .int .i64 0]) 4 40 Try.underlying66 (by kernel_rfl) rfl rfl rfl (O5.out.ext ((Ext.refl _).alloc _)) _ 0 1 rfl ⟨⟨rfl, ⟨HA.out.1, HA.out.2, HO.out, HN.out⟩⟩, rfl⟩ (Blk.new _ _ _).range (by simpa using O5.out.nodup) (by omega) (by decide) ?_; intro v9 w9 F9 how hkp hF9; have HOW := Lib.hid how; have HKP := Lib.hid hkp; have HFF := Lib.hid hF9; clear how hkp hF9) | (go_at_call 121; (with_reducible refine (sortUses_any (l ++ [⟨a, o, n⟩]) _ F9 _ HOW.out (by simp) (by simp; omega)).mono ?_); rintro e w6 ⟨rfl, m, om, hp, hs, km⟩; have OM := Lib.hid om; have HPM := Lib.hid hp; have HSM := Lib.hid hs; have KM := Lib.hid km; clear om hp hs km))
    go_ret
    have hG9 : ∀ b ∈ F9, w.heap.size ≤ b := fun b hb => by
      rcases HFF.out b hb with h | h | h
      · exact G1.out b h
      · cases h
      · exact Nat.le_trans (X5.out.alloc _).size h
    exact ⟨_, F9, rfl, by rw [HE.out, ← sort_eq HU.out (fun j hj => isUse_cmp (HNO.out j hj)) HPM.out HSM.out]; exact OM.out, hG9, KM.out.ext (HKP.out.ext (X5.out.alloc _) G1.out) hG9⟩
  · have HI : Hid (useIx l a o = (k : Int)) := Lib.hid hi
    have HE : Hid (useAdd l a o n = addAt l k n) := Lib.hid (by rw [useAdd, if_neg HLO.out, if_neg HOK.out, if_pos (by rw [hi]; omega), hi, Int.toNat_natCast])
    have hu1 := useOk_true HU.out hk
    simp only [useOk, Bool.and_eq_true] at hu1
    have hu2 := isB_true hu1.2
    have HU2 := Lib.hid hu2
    clear hi hq hlow hu1
    rw [HI.out]
    obtain ⟨B2, cc, G, cs, hv, hBF, hBG, hGF, ho2, hc, hfz, hth, hrow, hset⟩ := O4.out.at hk
    injection hv with e1 e2 e3
    subst e1
    subst e3
    clear e2
    obtain ⟨⟨rfl, hfit⟩, rfl⟩ := ho2
    have e3 := hc 3 _ rfl
    have e3' : w4.cell? ⟨B2, k * 4 + 3, none⟩ = some (.int .i64 (nth l k).used) := e3
    have q3 := hfz (k * 4 + 3)
    have hkl : (k : Int) < (l.length : Int) := by omega
    have hk0 : (0 : Int) ≤ (k : Int) := Int.natCast_nonneg _
    have hwr : IntKind.i64.wrap ((nth l k).used + n) = (nth l k).used + n := IntWalk.i64_in _ (by omega)
    have HR2 := Lib.hid hrow
    have HC := Lib.hid hc
    have HSET := Lib.hid hset
    have HBF := Lib.hid hBF
    have HN2 := Lib.hid hn2
    clear hc hset hrow hth hfz hBF hBG hGF e3
    go_wp2_with fail
    go_ret
    obtain ⟨W5, hW5⟩ : ∃ W5, W5 = w4.setCell ⟨B2, k * 4 + 3, none⟩ (.int .i64 (min 100000 ((nth l k).used + n))) := ⟨_, rfl⟩
    rw [← hW5]
    have hown : OwS OUse 124 W5 (.slice (some ⟨B2, 0, none⟩) l.length c1) (addAt l k n) F1 := by
      rw [hW5]
      refine HSET.out _ { nth l k with used := min 100000 ((nth l k).used + n) } [.int .i64 (nth l k).label.level, .int .i64 (nth l k).label.set, .string (nth l k).owner, .int .i64 (min 100000 ((nth l k).used + n))] (Kept.setCell (p := ⟨B2, k * 4 + 3, none⟩) (Kept.refl _ _) (by simp) _) (RowBut.setCell HR2.out (by simp [EUse]) (by simp [EUse]) _) ⟨⟨rfl, hfit.1, hfit.2.1, hfit.2.2.1, by have h1 := HU2.out; have h2 := HN2.out; unfold I64; simp only; omega⟩, rfl⟩ ?_
      have hc3 : w4.rangeAt B2 (k * 4) ([.int .i64 (nth l k).label.level, .int .i64 (nth l k).label.set, .string (nth l k).owner] ++ [.int .i64 (nth l k).used]) := HC.out
      exact range_back (a := [.int .i64 (nth l k).label.level, .int .i64 (nth l k).label.set, .string (nth l k).owner]) hc3 (fun j hj => ⟨(by obtain rfl : j = 0 := (by simpa using hj); have h3 := hc3 3 _ rfl; exact by rw [show k * 4 + [Value.int IntKind.i64 (nth l k).label.level, Value.int IntKind.i64 (nth l k).label.set, Value.string (nth l k).owner].length + 0 = k * 4 + 3 from rfl, h3]; rfl), HR2.out.frozen _⟩)
    exact ⟨_, F1, rfl, by rw [HE.out]; exact hown, G1.out, by rw [hW5]; exact X4.out.setCell (G1.out _ HBF.out) _⟩
end Go.Proofs.Ytbdicafambkhdaa

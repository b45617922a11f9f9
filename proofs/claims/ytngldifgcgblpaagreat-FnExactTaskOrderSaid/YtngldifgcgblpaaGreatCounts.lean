/- The text that stands for a number. The walk of markText. Data that bear numbers in a row. Printed by wip/gen2.py. The walks of mark... Printed by wip/gen2.py. The walks of held... Printed by wip/gen2.py. The walk of mark.. for uses. Printed by wip/gen2.py. The walk of held.. for uses. Printed by wip/gen2.py. The walk of mark.. for tasks. Printed by wip/gen2.py. The walk of held.. for tasks. Printed by wip/gen2.py. The walk of markConfig; a struct in memory of its own when memory grows. The walks of mark.. and held.. at structs that lead to one row. Printed by wip/gen2.py. The generated words of types that are new with this seat. Printed by wip/genx.py. What a configuration, a yard, a yard's result lead to is marked, and the marks are held. Printed by wip/yardm.py. How many numbers small data take. -/
import Derived.Test.YtngldifgcgblpaaGreatOwn
import Derived.Test.YtngldifgcgblpaaGreatRows
import Derived.Laws.IdiomStrings
import Derived.Laws.BytesArg
import Derived.Test.YtngldifgcgblpaaGreatOwn2
import Derived.Test.YtngldifgcgblpaaGreatClones
import Derived.Test.YtngldifgcgblpaaGreatGElems
import Derived.Test.YtngldifgcgblpaaGreatGSmall
import Derived.Test.YtngldifgcgblpaaGreatGYardT
namespace Go.Proofs.YtngldifgcgblpaaGreat
/-- The decimal digits of a number; of 0: none. -/
def digs (n : Nat) : List UInt8 := if _h : n = 0 then [] else digs (n / 10) ++ [UInt8.ofNat (48 + n % 10)]
termination_by n
decreasing_by omega
theorem digs_zero : digs 0 = [] := by rw [digs]; simp
theorem digs_pos {n : Nat} (h : 0 < n) : digs n = digs (n / 10) ++ [UInt8.ofNat (48 + n % 10)] := by rw [digs, dif_neg (by omega)]
theorem digs_length (n : Nat) : (digs n).length ≤ n := by
  induction n using Nat.strongRecOn with
  | _ n ih =>
    rcases Nat.eq_zero_or_pos n with rfl | h
    · rw [digs_zero]; simp
    · have := ih (n / 10) (by omega)
      rw [digs_pos h, List.length_append, List.length_singleton]
      omega
def mtext (q : Int) : ByteArray := ⟨(109 :: (if q ≤ 0 then [48] else digs q.toNat)).toArray⟩
theorem mtext_str (q : Int) (h : q ≤ 1125899906842624) : Str (mtext q) := by
  have h1 : (mtext q).size = (109 :: (if q ≤ 0 then [48] else digs q.toNat)).length := rfl
  unfold Str maxLen
  rw [h1]
  split
  · simp
  · have := digs_length q.toNat
    simp only [List.length_cons]
    omega
end Go.Proofs.YtngldifgcgblpaaGreat
namespace Go.Proofs.YtngldifgcgblpaaGreat
open Go.RowKit
attribute [local irreducible] wpQuiet
theorem append_bytes (a b : List UInt8) : (⟨a.toArray⟩ : ByteArray) ++ ⟨b.toArray⟩ = ⟨(a ++ b).toArray⟩ := by
  apply ByteArray.ext
  simp
theorem num_bytes (x : Nat) (b : List UInt8) : strOfNums [(48 : Int) + (x : Int) % 10] ++ ⟨b.toArray⟩ = ⟨(UInt8.ofNat (48 + x % 10) :: b).toArray⟩ := by
  have h : strOfNums [(48 : Int) + (x : Int) % 10] = ⟨[UInt8.ofNat (48 + x % 10)].toArray⟩ := by
    unfold strOfNums
    have e : ((48 : Int) + (x : Int) % 10).toNat = 48 + x % 10 := by omega
    simp [e]
  rw [h, append_bytes]
  rfl
theorem conv_one (W : World) (x : Int) : (convert 201 9 (.slice (some ⟨W.heap.size, 0, none⟩) 1 1)).run Tryz.prog (W.alloc (.cells #[.int .u8 x] 5)) = .ok (.string (strOfNums [x])) (W.alloc (.cells #[.int .u8 x] 5)) :=
  run_convert_bytes_arg _ 201 5 Tryz.underlying201 Tryz.underlying5 W.heap.size 0 1 1 [x] rfl (fun i hi => by
    obtain rfl : i = 0 := by omega
    rw [(Blk.new W _ _).cell]
    rfl) 9 Tryz.underlying9
set_option maxHeartbeats 4000000 in
set_option maxRecDepth 100000 in
theorem markText_any (q : Int) (w : World) (h0 : 0 ≤ q) (h1 : q ≤ 1125899906842624) :
    Calls Tryz.prog 99 #[.int .i64 q] w fun e w' => e = .returned (.string (mtext q)) ∧ Ext w w' := by
  by_cases hz : q ≤ 0
  · have HE : Hid (mtext q = ⟨#[109, 48]⟩) := Lib.hid (by unfold mtext; rw [if_pos hz])
    go_enter Tryz.func99, Tryz.ntmps99
    go_wp2_with fail
    go_ret
    exact ⟨by rw [HE.out]; rfl, Ext.refl _⟩
  · have hq : 0 < q := by omega
    have hcv := conv_one
    have hs1 := fun x : Int => strOfNums_size [x]
    have H1 := Lib.hid h1
    clear hz h0 h1
    go_enter Tryz.func99, Tryz.ntmps99
    go_wp2_with fail
    go_loopw [0, 3] (fun k t w' => ∃ (n : Nat) (acc : List UInt8), k = .int .i64 n ∧ t = .string ⟨acc.toArray⟩ ∧ n ≤ q.toNat ∧ digs n ++ acc = digs q.toNat ∧ Ext w w') (fun k _ _ => (intOf k).toNat)
    case atStart => exact ⟨q.toNat, [], by rw [Int.toNat_of_nonneg (by omega)], rfl, Nat.le_refl _, by simp, Ext.refl _⟩
    case round =>
      obtain ⟨n, acc, rfl, rfl, hn, hd, hx⟩ := hrel
      have HD := Lib.hid hd
      have HX := Lib.hid hx
      have hl : acc.length < 9223372036854775806 := by
        have a := congrArg List.length hd
        rw [List.length_append] at a
        have b := digs_length q.toNat
        have c := H1.out
        omega
      have hn2 : n ≤ 9223372036854775806 := by have := H1.out; omega
      have HN := Lib.hid hn
      clear hd hx hn
      by_cases hp : 0 < n
      · go_wp2_with fail
        go_roundw
        case rel => exact ⟨n / 10, UInt8.ofNat (48 + n % 10) :: acc, by go_num, by rw [num_bytes], by have := HN.out; omega, by rw [← HD.out, digs_pos hp, List.append_assoc]; rfl, HX.out.alloc _⟩
        case measure => simp [intOf]; omega
      · obtain rfl : n = 0 := by omega
        have HE : Hid (mtext q = ⟨#[109]⟩ ++ ⟨acc.toArray⟩) := Lib.hid (by
          have h := HD.out
          rw [digs_zero, List.nil_append] at h
          have e := append_bytes [109] acc
          unfold mtext
          rw [if_neg (by omega), ← h]
          exact e.symm)
        simp only [Int.natCast_zero]
        go_wp2_with fail
        go_ret
        exact ⟨by rw [HE.out]; rfl, HX.out⟩
end Go.Proofs.YtngldifgcgblpaaGreat
namespace Go.Proofs.YtngldifgcgblpaaGreat
def cntInt (_x : Int) : Nat := 1
def mkInt (q : Int) (_x : Int) : Int := q
def cntSpan (_x : Span) : Nat := 2
def mkSpan (q : Int) (_x : Span) : Span := ⟨q, (q + 1)⟩
def cntLabel (_x : Label) : Nat := 2
def mkLabel (q : Int) (_x : Label) : Label := ⟨q, (q + 1)⟩
def cntNode (x : Node) : Nat := 1 + (cntL cntSpan x.books)
def mkNode (q : Int) (x : Node) : Node := ⟨q, markL mkSpan cntSpan (q + 1) x.books⟩
def cntUse (_x : Use) : Nat := 4
def mkUse (q : Int) (_x : Use) : Use := ⟨⟨q, (q + 1)⟩, mtext (q + 1 + 1), (q + 1 + 1 + 1)⟩
def cntTask (x : Task) : Nat := 13 + (cntL cntInt x.nodes)
def mkTask (q : Int) (x : Task) : Task := ⟨⟨q, (q + 1)⟩, (q + 1 + 1), mtext (q + 1 + 1 + 1), (q + 1 + 1 + 1 + 1), (q + 1 + 1 + 1 + 1 + 1), (q + 1 + 1 + 1 + 1 + 1 + 1), ⟨(q + 1 + 1 + 1 + 1 + 1 + 1 + 1), (q + 1 + 1 + 1 + 1 + 1 + 1 + 1 + 1)⟩, (q + 1 + 1 + 1 + 1 + 1 + 1 + 1 + 1 + 1), (q + 1 + 1 + 1 + 1 + 1 + 1 + 1 + 1 + 1 + 1), (q + 1 + 1 + 1 + 1 + 1 + 1 + 1 + 1 + 1 + 1 + 1), (q + 1 + 1 + 1 + 1 + 1 + 1 + 1 + 1 + 1 + 1 + 1 + 1), markL mkInt cntInt (q + 1 + 1 + 1 + 1 + 1 + 1 + 1 + 1 + 1 + 1 + 1 + 1 + 1) x.nodes⟩
def cntPair (_x : Pair) : Nat := 5
def mkPair (q : Int) (_x : Pair) : Pair := ⟨⟨q, (q + 1)⟩, ⟨(q + 1 + 1), (q + 1 + 1 + 1)⟩, (q + 1 + 1 + 1 + 1)⟩
def cntQuota (_x : Quota) : Nat := 3
def mkQuota (q : Int) (_x : Quota) : Quota := ⟨⟨q, (q + 1)⟩, (q + 1 + 1)⟩
end Go.Proofs.YtngldifgcgblpaaGreat
namespace Go.Proofs.YtngldifgcgblpaaGreat
open Go.RowKit
attribute [local irreducible] wpQuiet
set_option maxHeartbeats 8000000 in
set_option maxRecDepth 50000 in
theorem markInt64S_any (l : List Int) (v : Value) (F : List Nat) (q : Int) (w : World) (h : OwS OInt 2 w v l F) (h0 : 0 ≤ q) (h1 : q + cntL cntInt l ≤ 1125899906842624) :
    Calls Tryz.prog 100 #[v, .int .i64 q] w fun e w' => e = .returned (.int .i64 (q + cntL cntInt l)) ∧ OwS OInt 2 w' v (markL mkInt cntInt q l) F ∧ Kept F w w' := by
  obtain ⟨A, c, rfl, g1, g2⟩ := h.form
  unfold maxLen at g2
  have H := Lib.hid h
  have H1 := Lib.hid h1
  clear h h1
  go_enter Tryz.func100, Tryz.ntmps100
  go_wp2_with fail
  go_loopw [1, 5] (fun kk i w' => ∃ j : Nat, j ≤ l.length ∧ i = .int .i64 j ∧ kk = .int .i64 (q + cntL cntInt (l.take j)) ∧ OwS OInt 2 w' (.slice A l.length c) (mixL mkInt cntInt q l j) F ∧ Kept F w w') (fun _ i _ => l.length - (intOf i).toNat)
  case atStart => exact ⟨0, Nat.zero_le _, rfl, by simp [cntL], by rw [mixL_zero]; exact H.out, Kept.refl _ _⟩
  case round =>
    obtain ⟨j, hj, rfl, rfl, hown, hkp⟩ := hrel
    by_cases hlt : j < l.length
    · obtain ⟨B, c', G, cs, hv, hBF, hBG, hGF, ho, hc, hfz, hth, hrow, hset⟩ := hown.at (k := j) (by rw [mixL_length _ _ _ hj]; exact hlt)
      rw [mixL_length _ _ _ hj] at hv
      rw [mixL_nth hlt] at ho
      obtain ⟨⟨rfl, hfit⟩, rfl⟩ := ho
      injection hv with hA _ hcc
      subst hA hcc
      have c0 := hc 0 _ rfl
      have f0 := hfz (j * 1 + 0)
      simp only [EInt, Nat.add_zero, Nat.mul_one] at c0 f0
      have HC := Lib.hid (cntL_at (n := cntInt) hlt)
      have HS := Lib.hid (cntL_succ (n := cntInt) hlt)
      have HO := Lib.hid hset
      have HT := Lib.hid hth
      have HR := Lib.hid hrow
      have HB := Lib.hid hBF
      have HK := Lib.hid hkp
      have HG := Lib.hid hGF
      have HX := Lib.hid hBG
      have HRG := Lib.hid hc
      have hb : 0 ≤ q + (cntL cntInt (l.take j) : Int) ∧ q + (cntL cntInt (l.take j) : Int) + cntInt (nth l j) ≤ 1125899906842624 := by have := H1.out; have := HC.out; omega
      simp only [cntInt] at hb
      clear hc hfz hset hth hrow hkp hown hfit hBG hGF hBF
      generalize hq : q + (cntL cntInt (l.take j) : Int) = Q at *
      have HQ := Lib.hid hq
      clear hq
      obtain ⟨hb0, hb1⟩ := hb
      go_wp2_with fail
      go_roundw
      case rel =>
        refine ⟨j + 1, by omega, by go_num, by rw [HS.out, ← HQ.out]; push_cast; simp only [cntInt]; go_num, ?_, ?_⟩
        · have hs := HO.out (wr.setCells B (j * 1) ([.int .i64 Q])) (mkInt Q (nth l j)) _ (Kept.setCells (List.mem_cons_self ..) _ _ _ (Kept.refl _ _)) (RowBut.setCells _ _ _ HR.out (Nat.le_refl _) (Nat.le_refl _)) ⟨⟨rfl, by unfold I64 mkInt; omega⟩, rfl⟩ (World.rangeAt_setCells_same _ _ _ _ HT.out)
          rw [← HQ.out, mixL_set hlt, HQ.out] at hs
          simpa [World.setCells, mkInt] using hs
        · exact (HK.out.setCell HB.out _)
      case measure => simp [intOf]; omega
    · obtain rfl : j = l.length := by omega
      rw [mixL_full] at hown
      have HO := Lib.hid hown
      clear hown
      go_wp2_with fail
      go_ret
      exact ⟨ret_int (by rw [List.take_length]), HO.out, hkp⟩
set_option maxHeartbeats 8000000 in
set_option maxRecDepth 50000 in
theorem markLabelS_any (l : List Label) (v : Value) (F : List Nat) (q : Int) (w : World) (h : OwS OLabel 49 w v l F) (h0 : 0 ≤ q) (h1 : q + cntL cntLabel l ≤ 1125899906842624) :
    Calls Tryz.prog 221 #[v, .int .i64 q] w fun e w' => e = .returned (.int .i64 (q + cntL cntLabel l)) ∧ OwS OLabel 49 w' v (markL mkLabel cntLabel q l) F ∧ Kept F w w' := by
  obtain ⟨A, c, rfl, g1, g2⟩ := h.form
  unfold maxLen at g2
  have H := Lib.hid h
  have H1 := Lib.hid h1
  clear h h1
  go_enter Tryz.func221, Tryz.ntmps221
  go_wp2_with fail
  go_loopw [1, 5] (fun kk i w' => ∃ j : Nat, j ≤ l.length ∧ i = .int .i64 j ∧ kk = .int .i64 (q + cntL cntLabel (l.take j)) ∧ OwS OLabel 49 w' (.slice A l.length c) (mixL mkLabel cntLabel q l j) F ∧ Kept F w w') (fun _ i _ => l.length - (intOf i).toNat)
  case atStart => exact ⟨0, Nat.zero_le _, rfl, by simp [cntL], by rw [mixL_zero]; exact H.out, Kept.refl _ _⟩
  case round =>
    obtain ⟨j, hj, rfl, rfl, hown, hkp⟩ := hrel
    by_cases hlt : j < l.length
    · obtain ⟨B, c', G, cs, hv, hBF, hBG, hGF, ho, hc, hfz, hth, hrow, hset⟩ := hown.at (k := j) (by rw [mixL_length _ _ _ hj]; exact hlt)
      rw [mixL_length _ _ _ hj] at hv
      rw [mixL_nth hlt] at ho
      obtain ⟨⟨rfl, hfit⟩, rfl⟩ := ho
      injection hv with hA _ hcc
      subst hA hcc
      have c0 := hc 0 _ rfl
      have f0 := hfz (j * 2 + 0)
      have c1 := hc 1 _ rfl
      have f1 := hfz (j * 2 + 1)
      simp only [ELabel, Nat.add_zero] at c0 f0 c1 f1
      have HC := Lib.hid (cntL_at (n := cntLabel) hlt)
      have HS := Lib.hid (cntL_succ (n := cntLabel) hlt)
      have HO := Lib.hid hset
      have HT := Lib.hid hth
      have HR := Lib.hid hrow
      have HB := Lib.hid hBF
      have HK := Lib.hid hkp
      have HG := Lib.hid hGF
      have HX := Lib.hid hBG
      have HRG := Lib.hid hc
      have hb : 0 ≤ q + (cntL cntLabel (l.take j) : Int) ∧ q + (cntL cntLabel (l.take j) : Int) + cntLabel (nth l j) ≤ 1125899906842624 := by have := H1.out; have := HC.out; omega
      simp only [cntLabel] at hb
      clear hc hfz hset hth hrow hkp hown hfit hBG hGF hBF
      generalize hq : q + (cntL cntLabel (l.take j) : Int) = Q at *
      have HQ := Lib.hid hq
      clear hq
      obtain ⟨hb0, hb1⟩ := hb
      go_wp2_with fail
      go_roundw
      case rel =>
        refine ⟨j + 1, by omega, by go_num, by rw [HS.out, ← HQ.out]; push_cast; simp only [cntLabel]; go_num, ?_, ?_⟩
        · have hs := fun (W2 : World) k r g => HO.out W2 (mkLabel Q (nth l j)) (cellsLabel (mkLabel Q (nth l j))) k r ⟨⟨rfl, (by simp only [FitLabel, mkLabel, I64]; omega)⟩, rfl⟩ g
          rw [← HQ.out, mixL_set hlt, HQ.out] at hs
          exact hs _ (by repeat (first | with_reducible exact Kept.refl _ _ | refine Kept.setCell ?_ (by simp) _)) (by repeat (first | with_reducible exact HR.out | refine RowBut.setCell ?_ (by show j * 2 ≤ _; omega) (by show _ < j * 2 + 2; omega) _)) (show World.rangeAt _ B (j * 2) (cellsLabel (mkLabel Q (nth l j))) from by intro i u hi; rcases i with _ | _ | i <;> simp [cellsLabel, mkLabel] at hi <;> (try subst hi) <;> (go_simp; try omega))
        · exact HK.out.trans (Kept.sub (F := [B]) (by repeat (first | with_reducible exact Kept.refl _ _ | refine Kept.setCell ?_ (by simp) _)) (fun b _ hb => by rw [List.mem_singleton.1 hb]; exact HB.out))
      case measure => simp [intOf]; omega
    · obtain rfl : j = l.length := by omega
      rw [mixL_full] at hown
      have HO := Lib.hid hown
      clear hown
      go_wp2_with fail
      go_ret
      exact ⟨ret_int (by rw [List.take_length]), HO.out, hkp⟩
set_option maxHeartbeats 8000000 in
set_option maxRecDepth 50000 in
theorem markPairS_any (l : List Pair) (v : Value) (F : List Nat) (q : Int) (w : World) (h : OwS OPair 214 w v l F) (h0 : 0 ≤ q) (h1 : q + cntL cntPair l ≤ 1125899906842624) :
    Calls Tryz.prog 137 #[v, .int .i64 q] w fun e w' => e = .returned (.int .i64 (q + cntL cntPair l)) ∧ OwS OPair 214 w' v (markL mkPair cntPair q l) F ∧ Kept F w w' := by
  obtain ⟨A, c, rfl, g1, g2⟩ := h.form
  unfold maxLen at g2
  have H := Lib.hid h
  have H1 := Lib.hid h1
  clear h h1
  go_enter Tryz.func137, Tryz.ntmps137
  go_wp2_with fail
  go_loopw [1, 5] (fun kk i w' => ∃ j : Nat, j ≤ l.length ∧ i = .int .i64 j ∧ kk = .int .i64 (q + cntL cntPair (l.take j)) ∧ OwS OPair 214 w' (.slice A l.length c) (mixL mkPair cntPair q l j) F ∧ Kept F w w') (fun _ i _ => l.length - (intOf i).toNat)
  case atStart => exact ⟨0, Nat.zero_le _, rfl, by simp [cntL], by rw [mixL_zero]; exact H.out, Kept.refl _ _⟩
  case round =>
    obtain ⟨j, hj, rfl, rfl, hown, hkp⟩ := hrel
    by_cases hlt : j < l.length
    · obtain ⟨B, c', G, cs, hv, hBF, hBG, hGF, ho, hc, hfz, hth, hrow, hset⟩ := hown.at (k := j) (by rw [mixL_length _ _ _ hj]; exact hlt)
      rw [mixL_length _ _ _ hj] at hv
      rw [mixL_nth hlt] at ho
      obtain ⟨⟨rfl, hfit⟩, rfl⟩ := ho
      injection hv with hA _ hcc
      subst hA hcc
      have c0 := hc 0 _ rfl
      have f0 := hfz (j * 5 + 0)
      have c1 := hc 1 _ rfl
      have f1 := hfz (j * 5 + 1)
      have c2 := hc 2 _ rfl
      have f2 := hfz (j * 5 + 2)
      have c3 := hc 3 _ rfl
      have f3 := hfz (j * 5 + 3)
      have c4 := hc 4 _ rfl
      have f4 := hfz (j * 5 + 4)
      simp only [EPair, Nat.add_zero] at c0 f0 c1 f1 c2 f2 c3 f3 c4 f4
      have HC := Lib.hid (cntL_at (n := cntPair) hlt)
      have HS := Lib.hid (cntL_succ (n := cntPair) hlt)
      have HO := Lib.hid hset
      have HT := Lib.hid hth
      have HR := Lib.hid hrow
      have HB := Lib.hid hBF
      have HK := Lib.hid hkp
      have HG := Lib.hid hGF
      have HX := Lib.hid hBG
      have HRG := Lib.hid hc
      have hb : 0 ≤ q + (cntL cntPair (l.take j) : Int) ∧ q + (cntL cntPair (l.take j) : Int) + cntPair (nth l j) ≤ 1125899906842624 := by have := H1.out; have := HC.out; omega
      simp only [cntPair] at hb
      clear hc hfz hset hth hrow hkp hown hfit hBG hGF hBF
      generalize hq : q + (cntL cntPair (l.take j) : Int) = Q at *
      have HQ := Lib.hid hq
      clear hq
      obtain ⟨hb0, hb1⟩ := hb
      go_wp2_with fail
      go_roundw
      case rel =>
        refine ⟨j + 1, by omega, by go_num, by rw [HS.out, ← HQ.out]; push_cast; simp only [cntPair]; go_num, ?_, ?_⟩
        · have hs := fun (W2 : World) k r g => HO.out W2 (mkPair Q (nth l j)) (cellsPair (mkPair Q (nth l j))) k r ⟨⟨rfl, (by simp only [FitPair, mkPair, I64]; omega)⟩, rfl⟩ g
          rw [← HQ.out, mixL_set hlt, HQ.out] at hs
          exact hs _ (by repeat (first | with_reducible exact Kept.refl _ _ | refine Kept.setCell ?_ (by simp) _)) (by repeat (first | with_reducible exact HR.out | refine RowBut.setCell ?_ (by show j * 5 ≤ _; omega) (by show _ < j * 5 + 5; omega) _)) (show World.rangeAt _ B (j * 5) (cellsPair (mkPair Q (nth l j))) from by intro i u hi; rcases i with _ | _ | _ | _ | _ | i <;> simp [cellsPair, mkPair] at hi <;> (try subst hi) <;> (go_simp; try omega))
        · exact HK.out.trans (Kept.sub (F := [B]) (by repeat (first | with_reducible exact Kept.refl _ _ | refine Kept.setCell ?_ (by simp) _)) (fun b _ hb => by rw [List.mem_singleton.1 hb]; exact HB.out))
      case measure => simp [intOf]; omega
    · obtain rfl : j = l.length := by omega
      rw [mixL_full] at hown
      have HO := Lib.hid hown
      clear hown
      go_wp2_with fail
      go_ret
      exact ⟨ret_int (by rw [List.take_length]), HO.out, hkp⟩
set_option maxHeartbeats 8000000 in
set_option maxRecDepth 50000 in
theorem markQuotaS_any (l : List Quota) (v : Value) (F : List Nat) (q : Int) (w : World) (h : OwS OQuota 205 w v l F) (h0 : 0 ≤ q) (h1 : q + cntL cntQuota l ≤ 1125899906842624) :
    Calls Tryz.prog 138 #[v, .int .i64 q] w fun e w' => e = .returned (.int .i64 (q + cntL cntQuota l)) ∧ OwS OQuota 205 w' v (markL mkQuota cntQuota q l) F ∧ Kept F w w' := by
  obtain ⟨A, c, rfl, g1, g2⟩ := h.form
  unfold maxLen at g2
  have H := Lib.hid h
  have H1 := Lib.hid h1
  clear h h1
  go_enter Tryz.func138, Tryz.ntmps138
  go_wp2_with fail
  go_loopw [1, 5] (fun kk i w' => ∃ j : Nat, j ≤ l.length ∧ i = .int .i64 j ∧ kk = .int .i64 (q + cntL cntQuota (l.take j)) ∧ OwS OQuota 205 w' (.slice A l.length c) (mixL mkQuota cntQuota q l j) F ∧ Kept F w w') (fun _ i _ => l.length - (intOf i).toNat)
  case atStart => exact ⟨0, Nat.zero_le _, rfl, by simp [cntL], by rw [mixL_zero]; exact H.out, Kept.refl _ _⟩
  case round =>
    obtain ⟨j, hj, rfl, rfl, hown, hkp⟩ := hrel
    by_cases hlt : j < l.length
    · obtain ⟨B, c', G, cs, hv, hBF, hBG, hGF, ho, hc, hfz, hth, hrow, hset⟩ := hown.at (k := j) (by rw [mixL_length _ _ _ hj]; exact hlt)
      rw [mixL_length _ _ _ hj] at hv
      rw [mixL_nth hlt] at ho
      obtain ⟨⟨rfl, hfit⟩, rfl⟩ := ho
      injection hv with hA _ hcc
      subst hA hcc
      have c0 := hc 0 _ rfl
      have f0 := hfz (j * 3 + 0)
      have c1 := hc 1 _ rfl
      have f1 := hfz (j * 3 + 1)
      have c2 := hc 2 _ rfl
      have f2 := hfz (j * 3 + 2)
      simp only [EQuota, Nat.add_zero] at c0 f0 c1 f1 c2 f2
      have HC := Lib.hid (cntL_at (n := cntQuota) hlt)
      have HS := Lib.hid (cntL_succ (n := cntQuota) hlt)
      have HO := Lib.hid hset
      have HT := Lib.hid hth
      have HR := Lib.hid hrow
      have HB := Lib.hid hBF
      have HK := Lib.hid hkp
      have HG := Lib.hid hGF
      have HX := Lib.hid hBG
      have HRG := Lib.hid hc
      have hb : 0 ≤ q + (cntL cntQuota (l.take j) : Int) ∧ q + (cntL cntQuota (l.take j) : Int) + cntQuota (nth l j) ≤ 1125899906842624 := by have := H1.out; have := HC.out; omega
      simp only [cntQuota] at hb
      clear hc hfz hset hth hrow hkp hown hfit hBG hGF hBF
      generalize hq : q + (cntL cntQuota (l.take j) : Int) = Q at *
      have HQ := Lib.hid hq
      clear hq
      obtain ⟨hb0, hb1⟩ := hb
      go_wp2_with fail
      go_roundw
      case rel =>
        refine ⟨j + 1, by omega, by go_num, by rw [HS.out, ← HQ.out]; push_cast; simp only [cntQuota]; go_num, ?_, ?_⟩
        · have hs := fun (W2 : World) k r g => HO.out W2 (mkQuota Q (nth l j)) (cellsQuota (mkQuota Q (nth l j))) k r ⟨⟨rfl, (by simp only [FitQuota, mkQuota, I64]; omega)⟩, rfl⟩ g
          rw [← HQ.out, mixL_set hlt, HQ.out] at hs
          exact hs _ (by repeat (first | with_reducible exact Kept.refl _ _ | refine Kept.setCell ?_ (by simp) _)) (by repeat (first | with_reducible exact HR.out | refine RowBut.setCell ?_ (by show j * 3 ≤ _; omega) (by show _ < j * 3 + 3; omega) _)) (show World.rangeAt _ B (j * 3) (cellsQuota (mkQuota Q (nth l j))) from by intro i u hi; rcases i with _ | _ | _ | i <;> simp [cellsQuota, mkQuota] at hi <;> (try subst hi) <;> (go_simp; try omega))
        · exact HK.out.trans (Kept.sub (F := [B]) (by repeat (first | with_reducible exact Kept.refl _ _ | refine Kept.setCell ?_ (by simp) _)) (fun b _ hb => by rw [List.mem_singleton.1 hb]; exact HB.out))
      case measure => simp [intOf]; omega
    · obtain rfl : j = l.length := by omega
      rw [mixL_full] at hown
      have HO := Lib.hid hown
      clear hown
      go_wp2_with fail
      go_ret
      exact ⟨ret_int (by rw [List.take_length]), HO.out, hkp⟩
set_option maxHeartbeats 8000000 in
set_option maxRecDepth 50000 in
theorem markLabelSS_any (l : List (List Label)) (v : Value) (F : List Nat) (q : Int) (w : World) (h : OwS (ORow OLabel 49) 167 w v l F) (h0 : 0 ≤ q) (h1 : q + cntL (cntL cntLabel) l ≤ 1125899906842624) :
    Calls Tryz.prog 136 #[v, .int .i64 q] w fun e w' => e = .returned (.int .i64 (q + cntL (cntL cntLabel) l)) ∧ OwS (ORow OLabel 49) 167 w' v (markL (markL mkLabel cntLabel) (cntL cntLabel) q l) F ∧ Kept F w w' := by
  obtain ⟨A, c, rfl, g1, g2⟩ := h.form
  unfold maxLen at g2
  have H := Lib.hid h
  have H1 := Lib.hid h1
  clear h h1
  go_enter Tryz.func136, Tryz.ntmps136
  go_wp2_with fail
  go_loopw [1, 5] (fun kk i w' => ∃ j : Nat, j ≤ l.length ∧ i = .int .i64 j ∧ kk = .int .i64 (q + cntL (cntL cntLabel) (l.take j)) ∧ OwS (ORow OLabel 49) 167 w' (.slice A l.length c) (mixL (markL mkLabel cntLabel) (cntL cntLabel) q l j) F ∧ Kept F w w') (fun _ i _ => l.length - (intOf i).toNat)
  case atStart => exact ⟨0, Nat.zero_le _, rfl, by simp [cntL], by rw [mixL_zero]; exact H.out, Kept.refl _ _⟩
  case round =>
    obtain ⟨j, hj, rfl, rfl, hown, hkp⟩ := hrel
    by_cases hlt : j < l.length
    · obtain ⟨B, c', G, cs, hv, hBF, hBG, hGF, ho, hc, hfz, hth, hrow, hset⟩ := hown.at (k := j) (by rw [mixL_length _ _ _ hj]; exact hlt)
      rw [mixL_length _ _ _ hj] at hv
      rw [mixL_nth hlt] at ho
      obtain ⟨u1, rfl, o1⟩ := ho
      obtain ⟨A1, k1, rfl, n1, m1⟩ := o1.form
      have O1 := Lib.hid o1
      clear o1
      injection hv with hA _ hcc
      subst hA hcc
      have c0 := hc 0 _ rfl
      simp only [ERow, Nat.add_zero, Nat.mul_one] at c0
      have HC := Lib.hid (cntL_at (n := (cntL cntLabel)) hlt)
      have HS := Lib.hid (cntL_succ (n := (cntL cntLabel)) hlt)
      have HO := Lib.hid hset
      have HT := Lib.hid hth
      have HR := Lib.hid hrow
      have HB := Lib.hid hBF
      have HK := Lib.hid hkp
      have HG := Lib.hid hGF
      have HX := Lib.hid hBG
      have HRG := Lib.hid hc
      have hb : 0 ≤ q + (cntL (cntL cntLabel) (l.take j) : Int) ∧ q + (cntL (cntL cntLabel) (l.take j) : Int) + (cntL cntLabel) (nth l j) ≤ 1125899906842624 := by have := H1.out; have := HC.out; omega
      clear hc hfz hset hth hrow hkp hown hBG hGF hBF
      generalize hq : q + (cntL (cntL cntLabel) (l.take j) : Int) = Q at *
      have HQ := Lib.hid hq
      clear hq
      obtain ⟨hb0, hb1⟩ := hb
      have hn0 : (0 : Int) ≤ ((cntL cntLabel (nth l j)) : Nat) := Int.natCast_nonneg _
      have hb2 := hb1
      have RNG := HRG
      go_wp2_with fail
      refine (markLabelS_any (nth l j) _ G _ _ (O1.out.kept (G := [B]) (by repeat (first | with_reducible exact Kept.refl _ _ | refine Kept.setCell ?_ (by simp) _)) (fun b hb hm => HX.out (by rw [← List.mem_singleton.1 hm]; exact hb))) (by omega) (by omega)).mono ?_
      rintro e w2 ⟨rfl, p, hk⟩
      have P1 := Lib.hid p
      have K1 := Lib.hid hk
      clear p hk
      go_wp2_with fail
      go_roundw
      case rel =>
        have hkk : Kept (B :: G) wr w2 := (Kept.trans (by repeat (first | with_reducible exact Kept.refl _ _ | refine Kept.setCell ?_ (by simp) _)) (K1.out.sub (fun b _ hb => List.mem_cons_of_mem _ hb)))
        refine ⟨j + 1, by omega, by go_num, by rw [HS.out, ← HQ.out]; push_cast; go_num, ?_, HK.out.trans (hkk.sub fun b _ hb => by rcases List.mem_cons.1 hb with rfl | hb; exact HB.out; exact HG.out b hb)⟩
        have hs := HO.out w2 ((markL mkLabel cntLabel) Q (nth l j)) ([.slice A1 (nth l j).length k1]) hkk (RowBut.kept (by repeat (first | with_reducible exact HR.out | refine RowBut.setCell ?_ (by show j * 1 ≤ _; omega) (by show _ < j * 1 + 1; omega) _)) K1.out (fun hm => HX.out (hm))) ⟨_, rfl, (P1.out.cast_mark (by first | rfl | omega | (push_cast; omega)))⟩ (fun i u hi => K1.out.cell HX.out (RNG.out i u hi))
        rw [← HQ.out, mixL_set hlt] at hs
        exact hs
      case measure => simp [intOf]; omega
    · obtain rfl : j = l.length := by omega
      rw [mixL_full] at hown
      have HO := Lib.hid hown
      clear hown
      go_wp2_with fail
      go_ret
      exact ⟨ret_int (by rw [List.take_length]), HO.out, hkp⟩
end Go.Proofs.YtngldifgcgblpaaGreat
namespace Go.Proofs.YtngldifgcgblpaaGreat
open Go.RowKit
attribute [local irreducible] wpQuiet
set_option maxHeartbeats 8000000 in
set_option maxRecDepth 50000 in
theorem heldInt64S_any {S : Nat → Prop} (l : List Int) (v : Value) (q : Int) (w : World) (h : Rd EInt S w v (markL mkInt cntInt q l)) (h0 : 0 ≤ q) (h1 : q + cntL cntInt l ≤ 1125899906842624) :
    Calls Tryz.prog 101 #[v, .int .i64 q] w fun e w' => e = .returned (.int .i64 (q + cntL cntInt l)) ∧ Ext w w' := by
  obtain ⟨A, c, rfl, g1, g2, hk⟩ := h.open_
  rw [markL_length] at g1 hk ⊢
  unfold maxLen at g2
  have H := Lib.hid hk
  clear hk
  have H1 := Lib.hid h1
  clear h h1
  go_enter Tryz.func101, Tryz.ntmps101
  go_wp2_with fail
  go_loopw [1, 5] (fun kk i w' => ∃ j : Nat, j ≤ l.length ∧ i = .int .i64 j ∧ kk = .int .i64 (q + cntL cntInt (l.take j)) ∧ Ext w w') (fun _ i _ => l.length - (intOf i).toNat)
  case atStart => exact ⟨0, Nat.zero_le _, rfl, by simp [cntL], Ext.refl _⟩
  case round =>
    obtain ⟨j, hj, rfl, rfl, hx⟩ := hrel
    by_cases hlt : j < l.length
    · obtain ⟨B, o, cs, rfl, _, hr, hc⟩ := H.out j hlt
      rw [markL_nth q hlt] at hr
      obtain ⟨rfl, hfit⟩ := hr
      have c0 := Ext.some hx (hc 0 _ rfl)
      simp only [EInt, Nat.add_zero, Nat.mul_one] at c0
      have HC := Lib.hid (cntL_at (n := cntInt) hlt)
      have HS := Lib.hid (cntL_succ (n := cntInt) hlt)
      have HX := Lib.hid hx
      have hb : 0 ≤ q + (cntL cntInt (l.take j) : Int) ∧ q + (cntL cntInt (l.take j) : Int) + cntInt (nth l j) ≤ 1125899906842624 := by have := H1.out; have := HC.out; omega
      simp only [cntInt] at hb
      clear hc hx hfit
      generalize hq : q + (cntL cntInt (l.take j) : Int) = Q at *
      have HQ := Lib.hid hq
      clear hq
      obtain ⟨hb0, hb1⟩ := hb
      try simp only [mkInt] at c0
      go_wp2_with fail
      first
        | (go_roundw
           case rel => exact ⟨j + 1, by omega, by go_num, by rw [HS.out, ← HQ.out]; push_cast; simp only [cntInt]; go_num, HX.out⟩
           case measure => simp [intOf]; omega)
        | (refine ⟨⟨j + 1, by omega, by go_num, by rw [HS.out, ← HQ.out]; push_cast; simp only [cntInt]; go_num, HX.out⟩, ?_⟩
           simp [intOf]
           omega)
    · obtain rfl : j = l.length := by omega
      go_wp2_with fail
      go_ret
      exact ⟨ret_int (by rw [List.take_length]), hx⟩
end Go.Proofs.YtngldifgcgblpaaGreat
namespace Go.Proofs.YtngldifgcgblpaaGreat
open Go.RowKit
attribute [local irreducible] wpQuiet
end Go.Proofs.YtngldifgcgblpaaGreat
namespace Go.Proofs.YtngldifgcgblpaaGreat
open Go.RowKit
attribute [local irreducible] wpQuiet
end Go.Proofs.YtngldifgcgblpaaGreat
namespace Go.Proofs.YtngldifgcgblpaaGreat
open Go.RowKit
attribute [local irreducible] wpQuiet
end Go.Proofs.YtngldifgcgblpaaGreat
namespace Go.Proofs.YtngldifgcgblpaaGreat
open Go.RowKit
attribute [local irreducible] wpQuiet
end Go.Proofs.YtngldifgcgblpaaGreat
namespace Go.Proofs.YtngldifgcgblpaaGreat
open Go.RowKit
attribute [local irreducible] wpQuiet
theorem ownx {α : Type} {E : Elem α} {O : Own E} {w w' : World} {cs : List Value} {x : α} {F : List Nat} (h : O.own w cs x F) (hx : Ext w w') : O.own w' cs x F := O.keep (fun b hb => Below.block hx b (O.lt h b hb)) h
theorem ownk {α : Type} {E : Elem α} {O : Own E} {w w' : World} {cs : List Value} {x : α} {F G : List Nat} (h : O.own w cs x F) (hk : Kept G w w') (hd : ∀ b ∈ F, b ∉ G) : O.own w' cs x F := O.keep (fun b hb => hk.block b (O.lt h b hb) (hd b hb)) h
theorem apart3 {F1 F2 F3 : List Nat} (h : (F1 ++ (F2 ++ F3)).Nodup) : (∀ b ∈ F2, b ∉ F1) ∧ (∀ b ∈ F3, b ∉ F1) ∧ (∀ b ∈ F3, b ∉ F2) := by
  obtain ⟨_, h2, h3⟩ := List.nodup_append.1 h
  obtain ⟨_, _, h4⟩ := List.nodup_append.1 h2
  exact ⟨fun b hb hc => h3 b hc b (List.mem_append_left _ hb) rfl, fun b hb hc => h3 b hc b (List.mem_append_right _ hb) rfl, fun b hb hc => h4 b hc b hb rfl⟩
end Go.Proofs.YtngldifgcgblpaaGreat
namespace Go.Proofs.YtngldifgcgblpaaGreat
open Go.RowKit
attribute [local irreducible] wpQuiet
end Go.Proofs.YtngldifgcgblpaaGreat
namespace Go.Proofs.YtngldifgcgblpaaGreat
open Go.RowKit
attribute [local irreducible] wpQuiet
/-- What a struct leads to is marked, not the struct itself. -/
def cntsYardOut (x : YardOut) : Nat := 0 + (cntL (cntL cntLabel) x.yard.config.nodes) + (cntL cntPair x.yard.config.pairs) + (cntL cntQuota x.yard.config.quotas) + (cntL cntNode x.yard.nodes) + (cntL cntTask x.yard.tasks) + (cntL cntUse x.yard.uses)
def mksYardOut (q : Int) (x : YardOut) : YardOut := ⟨⟨⟨markL (markL mkLabel cntLabel) (cntL cntLabel) q x.yard.config.nodes, markL mkPair cntPair (q + (cntL (cntL cntLabel) x.yard.config.nodes : Nat)) x.yard.config.pairs, markL mkQuota cntQuota (q + (cntL (cntL cntLabel) x.yard.config.nodes : Nat) + (cntL cntPair x.yard.config.pairs : Nat)) x.yard.config.quotas, x.yard.config.half⟩, markL mkNode cntNode (q + (cntL (cntL cntLabel) x.yard.config.nodes : Nat) + (cntL cntPair x.yard.config.pairs : Nat) + (cntL cntQuota x.yard.config.quotas : Nat)) x.yard.nodes, markL mkTask cntTask (q + (cntL (cntL cntLabel) x.yard.config.nodes : Nat) + (cntL cntPair x.yard.config.pairs : Nat) + (cntL cntQuota x.yard.config.quotas : Nat) + (cntL cntNode x.yard.nodes : Nat)) x.yard.tasks, markL mkUse cntUse (q + (cntL (cntL cntLabel) x.yard.config.nodes : Nat) + (cntL cntPair x.yard.config.pairs : Nat) + (cntL cntQuota x.yard.config.quotas : Nat) + (cntL cntNode x.yard.nodes : Nat) + (cntL cntTask x.yard.tasks : Nat)) x.yard.uses, x.yard.now⟩, x.id, x.code⟩
set_option maxHeartbeats 8000000 in
set_option maxRecDepth 50000 in
theorem markSpanS_any (l : List Span) (v : Value) (F : List Nat) (q : Int) (w : World) (h : OwS OSpan 63 w v l F) (h0 : 0 ≤ q) (h1 : q + cntL cntSpan l ≤ 1125899906842624) :
    Calls Tryz.prog 139 #[v, .int .i64 q] w fun e w' => e = .returned (.int .i64 (q + cntL cntSpan l)) ∧ OwS OSpan 63 w' v (markL mkSpan cntSpan q l) F ∧ Kept F w w' := by
  obtain ⟨A, c, rfl, g1, g2⟩ := h.form
  unfold maxLen at g2
  have H := Lib.hid h
  have H1 := Lib.hid h1
  clear h h1
  go_enter Tryz.func139, Tryz.ntmps139
  go_wp2_with fail
  go_loopw [1, 5] (fun kk i w' => ∃ j : Nat, j ≤ l.length ∧ i = .int .i64 j ∧ kk = .int .i64 (q + cntL cntSpan (l.take j)) ∧ OwS OSpan 63 w' (.slice A l.length c) (mixL mkSpan cntSpan q l j) F ∧ Kept F w w') (fun _ i _ => l.length - (intOf i).toNat)
  case atStart => exact ⟨0, Nat.zero_le _, rfl, by simp [cntL], by rw [mixL_zero]; exact H.out, Kept.refl _ _⟩
  case round =>
    obtain ⟨j, hj, rfl, rfl, hown, hkp⟩ := hrel
    by_cases hlt : j < l.length
    · obtain ⟨B, c', G, cs, hv, hBF, hBG, hGF, ho, hc, hfz, hth, hrow, hset⟩ := hown.at (k := j) (by rw [mixL_length _ _ _ hj]; exact hlt)
      rw [mixL_length _ _ _ hj] at hv
      rw [mixL_nth hlt] at ho
      obtain ⟨⟨rfl, hfit⟩, rfl⟩ := ho
      injection hv with hA _ hcc
      subst hA hcc
      have c0 := hc 0 _ rfl
      have f0 := hfz (j * 2 + 0)
      have c1 := hc 1 _ rfl
      have f1 := hfz (j * 2 + 1)
      simp only [ESpan, Nat.add_zero] at c0 f0 c1 f1
      have HC := Lib.hid (cntL_at (n := cntSpan) hlt)
      have HS := Lib.hid (cntL_succ (n := cntSpan) hlt)
      have HO := Lib.hid hset
      have HT := Lib.hid hth
      have HR := Lib.hid hrow
      have HB := Lib.hid hBF
      have HK := Lib.hid hkp
      have HG := Lib.hid hGF
      have HX := Lib.hid hBG
      have HRG := Lib.hid hc
      have hb : 0 ≤ q + (cntL cntSpan (l.take j) : Int) ∧ q + (cntL cntSpan (l.take j) : Int) + cntSpan (nth l j) ≤ 1125899906842624 := by have := H1.out; have := HC.out; omega
      simp only [cntSpan] at hb
      clear hc hfz hset hth hrow hkp hown hfit hBG hGF hBF
      generalize hq : q + (cntL cntSpan (l.take j) : Int) = Q at *
      have HQ := Lib.hid hq
      clear hq
      obtain ⟨hb0, hb1⟩ := hb
      go_wp2_with fail
      go_roundw
      case rel =>
        refine ⟨j + 1, by omega, by go_num, by rw [HS.out, ← HQ.out]; push_cast; simp only [cntSpan]; go_num, ?_, ?_⟩
        · have hs := fun (W2 : World) k r g => HO.out W2 (mkSpan Q (nth l j)) (cellsSpan (mkSpan Q (nth l j))) k r ⟨⟨rfl, (by simp only [FitSpan, mkSpan, I64]; omega)⟩, rfl⟩ g
          rw [← HQ.out, mixL_set hlt, HQ.out] at hs
          exact hs _ (by repeat (first | with_reducible exact Kept.refl _ _ | refine Kept.setCell ?_ (by simp) _)) (by repeat (first | with_reducible exact HR.out | refine RowBut.setCell ?_ (by show j * 2 ≤ _; omega) (by show _ < j * 2 + 2; omega) _)) (show World.rangeAt _ B (j * 2) (cellsSpan (mkSpan Q (nth l j))) from by intro i u hi; rcases i with _ | _ | i <;> simp [cellsSpan, mkSpan] at hi <;> (try subst hi) <;> (go_simp; try omega))
        · exact HK.out.trans (Kept.sub (F := [B]) (by repeat (first | with_reducible exact Kept.refl _ _ | refine Kept.setCell ?_ (by simp) _)) (fun b _ hb => by rw [List.mem_singleton.1 hb]; exact HB.out))
      case measure => simp [intOf]; omega
    · obtain rfl : j = l.length := by omega
      rw [mixL_full] at hown
      have HO := Lib.hid hown
      clear hown
      go_wp2_with fail
      go_ret
      exact ⟨ret_int (by rw [List.take_length]), HO.out, hkp⟩
set_option maxHeartbeats 8000000 in
set_option maxRecDepth 50000 in
theorem markNodeS_any (l : List Node) (v : Value) (F : List Nat) (q : Int) (w : World) (h : OwS ONode 151 w v l F) (h0 : 0 ≤ q) (h1 : q + cntL cntNode l ≤ 1125899906842624) :
    Calls Tryz.prog 67 #[v, .int .i64 q] w fun e w' => e = .returned (.int .i64 (q + cntL cntNode l)) ∧ OwS ONode 151 w' v (markL mkNode cntNode q l) F ∧ Kept F w w' := by
  obtain ⟨A, c, rfl, g1, g2⟩ := h.form
  unfold maxLen at g2
  have H := Lib.hid h
  have H1 := Lib.hid h1
  clear h h1
  go_enter Tryz.func67, Tryz.ntmps67
  go_wp2_with fail
  go_loopw [1, 5] (fun kk i w' => ∃ j : Nat, j ≤ l.length ∧ i = .int .i64 j ∧ kk = .int .i64 (q + cntL cntNode (l.take j)) ∧ OwS ONode 151 w' (.slice A l.length c) (mixL mkNode cntNode q l j) F ∧ Kept F w w') (fun _ i _ => l.length - (intOf i).toNat)
  case atStart => exact ⟨0, Nat.zero_le _, rfl, by simp [cntL], by rw [mixL_zero]; exact H.out, Kept.refl _ _⟩
  case round =>
    obtain ⟨j, hj, rfl, rfl, hown, hkp⟩ := hrel
    by_cases hlt : j < l.length
    · obtain ⟨B, c', G, cs, hv, hBF, hBG, hGF, ho, hc, hfz, hth, hrow, hset⟩ := hown.at (k := j) (by rw [mixL_length _ _ _ hj]; exact hlt)
      rw [mixL_length _ _ _ hj] at hv
      rw [mixL_nth hlt] at ho
      obtain ⟨u1, rfl, hfit, o1⟩ := ho
      obtain ⟨A1, k1, rfl, n1, m1⟩ := o1.form
      have O1 := Lib.hid o1
      clear o1
      injection hv with hA _ hcc
      subst hA hcc
      have c0 := hc 0 _ rfl
      have f0 := hfz (j * 2 + 0)
      have c1 := hc 1 _ rfl
      simp only [ENode, Nat.add_zero] at c0 f0 c1
      have HC := Lib.hid (cntL_at (n := cntNode) hlt)
      have HS := Lib.hid (cntL_succ (n := cntNode) hlt)
      have HO := Lib.hid hset
      have HT := Lib.hid hth
      have HR := Lib.hid hrow
      have HB := Lib.hid hBF
      have HK := Lib.hid hkp
      have HG := Lib.hid hGF
      have HX := Lib.hid hBG
      have HRG := Lib.hid hc
      have hb : 0 ≤ q + (cntL cntNode (l.take j) : Int) ∧ q + (cntL cntNode (l.take j) : Int) + cntNode (nth l j) ≤ 1125899906842624 := by have := H1.out; have := HC.out; omega
      simp only [cntNode] at hb
      clear hc hfz hset hth hrow hkp hown hfit hBG hGF hBF
      generalize hq : q + (cntL cntNode (l.take j) : Int) = Q at *
      have HQ := Lib.hid hq
      clear hq
      obtain ⟨hb0, hb1⟩ := hb
      have hn0 : (0 : Int) ≤ ((cntL cntSpan (nth l j).books) : Nat) := Int.natCast_nonneg _
      have hb2 := hb1
      push_cast at hb2
      have RNG : Hid ((wr.setCells B (j * 2) [.int .i64 Q]).rangeAt B (j * 2) ([.int .i64 Q] ++ [.slice A1 (nth l j).books.length k1])) := Lib.hid (range_front (a := [.int .i64 (nth l j).state]) HRG.out rfl (fun i hi => HT.out i (Nat.lt_of_lt_of_le hi (show (1 : Nat) ≤ 2 by decide))))
      go_wp2_with fail
      refine (markSpanS_any (nth l j).books _ G _ _ (O1.out.kept (G := [B]) (by repeat (first | with_reducible exact Kept.refl _ _ | refine Kept.setCell ?_ (by simp) _)) (fun b hb hm => HX.out (by rw [← List.mem_singleton.1 hm]; exact hb))) (by omega) (by omega)).mono ?_
      rintro e w2 ⟨rfl, p, hk⟩
      have P1 := Lib.hid p
      have K1 := Lib.hid hk
      clear p hk
      go_wp2_with fail
      go_roundw
      case rel =>
        have hkk : Kept (B :: G) wr w2 := (Kept.trans (by repeat (first | with_reducible exact Kept.refl _ _ | refine Kept.setCell ?_ (by simp) _)) (K1.out.sub (fun b _ hb => List.mem_cons_of_mem _ hb)))
        refine ⟨j + 1, by omega, by go_num, by rw [HS.out, ← HQ.out]; push_cast; simp only [cntNode]; push_cast; go_num, ?_, HK.out.trans (hkk.sub fun b _ hb => by rcases List.mem_cons.1 hb with rfl | hb; exact HB.out; exact HG.out b hb)⟩
        have hs := HO.out w2 (mkNode Q (nth l j)) (cellsNode (mkNode Q (nth l j)) (.slice A1 (nth l j).books.length k1)) hkk (RowBut.kept (by repeat (first | with_reducible exact HR.out | refine RowBut.setCell ?_ (by show j * 2 ≤ _; omega) (by show _ < j * 2 + 2; omega) _)) K1.out (fun hm => HX.out (hm))) ⟨_, rfl, (by simp only [FitNode, mkNode, I64]; omega), (P1.out.cast_mark (by first | rfl | omega | (push_cast; omega)))⟩ (fun i u hi => K1.out.cell HX.out ((show World.rangeAt _ B (j * 2) (cellsNode (mkNode Q (nth l j)) (.slice A1 (nth l j).books.length k1)) from by have h := RNG.out; simpa [World.setCells, cellsNode, mkNode] using h) i u hi))
        rw [← HQ.out, mixL_set hlt] at hs
        exact hs
      case measure => simp [intOf]; omega
    · obtain rfl : j = l.length := by omega
      rw [mixL_full] at hown
      have HO := Lib.hid hown
      clear hown
      go_wp2_with fail
      go_ret
      exact ⟨ret_int (by rw [List.take_length]), HO.out, hkp⟩
set_option maxHeartbeats 8000000 in
set_option maxRecDepth 50000 in
theorem heldSpanS_any {S : Nat → Prop} (l : List Span) (v : Value) (q : Int) (w : World) (h : Rd ESpan S w v (markL mkSpan cntSpan q l)) (h0 : 0 ≤ q) (h1 : q + cntL cntSpan l ≤ 1125899906842624) :
    Calls Tryz.prog 225 #[v, .int .i64 q] w fun e w' => e = .returned (.int .i64 (q + cntL cntSpan l)) ∧ Ext w w' := by
  obtain ⟨A, c, rfl, g1, g2, hk⟩ := h.open_
  rw [markL_length] at g1 hk ⊢
  unfold maxLen at g2
  have H := Lib.hid hk
  clear hk
  have H1 := Lib.hid h1
  clear h h1
  go_enter Tryz.func225, Tryz.ntmps225
  go_wp2_with fail
  go_loopw [1, 5] (fun kk i w' => ∃ j : Nat, j ≤ l.length ∧ i = .int .i64 j ∧ kk = .int .i64 (q + cntL cntSpan (l.take j)) ∧ Ext w w') (fun _ i _ => l.length - (intOf i).toNat)
  case atStart => exact ⟨0, Nat.zero_le _, rfl, by simp [cntL], Ext.refl _⟩
  case round =>
    obtain ⟨j, hj, rfl, rfl, hx⟩ := hrel
    by_cases hlt : j < l.length
    · obtain ⟨B, o, cs, rfl, _, hr, hc⟩ := H.out j hlt
      rw [markL_nth q hlt] at hr
      obtain ⟨rfl, hfit⟩ := hr
      have c0 := Ext.some hx (hc 0 _ rfl)
      have c1 := Ext.some hx (hc 1 _ rfl)
      simp only [ESpan, Nat.add_zero] at c0 c1
      have HC := Lib.hid (cntL_at (n := cntSpan) hlt)
      have HS := Lib.hid (cntL_succ (n := cntSpan) hlt)
      have HX := Lib.hid hx
      have hb : 0 ≤ q + (cntL cntSpan (l.take j) : Int) ∧ q + (cntL cntSpan (l.take j) : Int) + cntSpan (nth l j) ≤ 1125899906842624 := by have := H1.out; have := HC.out; omega
      simp only [cntSpan] at hb
      clear hc hx hfit
      generalize hq : q + (cntL cntSpan (l.take j) : Int) = Q at *
      have HQ := Lib.hid hq
      clear hq
      obtain ⟨hb0, hb1⟩ := hb
      try simp only [mkSpan] at c0 c1
      go_wp2_with fail
      first
        | (go_roundw
           case rel => exact ⟨j + 1, by omega, by go_num, by rw [HS.out, ← HQ.out]; push_cast; simp only [cntSpan]; go_num, HX.out⟩
           case measure => simp [intOf]; omega)
        | (refine ⟨⟨j + 1, by omega, by go_num, by rw [HS.out, ← HQ.out]; push_cast; simp only [cntSpan]; go_num, HX.out⟩, ?_⟩
           simp [intOf]
           omega)
    · obtain rfl : j = l.length := by omega
      go_wp2_with fail
      go_ret
      exact ⟨ret_int (by rw [List.take_length]), hx⟩
set_option maxHeartbeats 8000000 in
set_option maxRecDepth 50000 in
theorem heldLabelS_any {S : Nat → Prop} (l : List Label) (v : Value) (q : Int) (w : World) (h : Rd ELabel S w v (markL mkLabel cntLabel q l)) (h0 : 0 ≤ q) (h1 : q + cntL cntLabel l ≤ 1125899906842624) :
    Calls Tryz.prog 272 #[v, .int .i64 q] w fun e w' => e = .returned (.int .i64 (q + cntL cntLabel l)) ∧ Ext w w' := by
  obtain ⟨A, c, rfl, g1, g2, hk⟩ := h.open_
  rw [markL_length] at g1 hk ⊢
  unfold maxLen at g2
  have H := Lib.hid hk
  clear hk
  have H1 := Lib.hid h1
  clear h h1
  go_enter Tryz.func272, Tryz.ntmps272
  go_wp2_with fail
  go_loopw [1, 5] (fun kk i w' => ∃ j : Nat, j ≤ l.length ∧ i = .int .i64 j ∧ kk = .int .i64 (q + cntL cntLabel (l.take j)) ∧ Ext w w') (fun _ i _ => l.length - (intOf i).toNat)
  case atStart => exact ⟨0, Nat.zero_le _, rfl, by simp [cntL], Ext.refl _⟩
  case round =>
    obtain ⟨j, hj, rfl, rfl, hx⟩ := hrel
    by_cases hlt : j < l.length
    · obtain ⟨B, o, cs, rfl, _, hr, hc⟩ := H.out j hlt
      rw [markL_nth q hlt] at hr
      obtain ⟨rfl, hfit⟩ := hr
      have c0 := Ext.some hx (hc 0 _ rfl)
      have c1 := Ext.some hx (hc 1 _ rfl)
      simp only [ELabel, Nat.add_zero] at c0 c1
      have HC := Lib.hid (cntL_at (n := cntLabel) hlt)
      have HS := Lib.hid (cntL_succ (n := cntLabel) hlt)
      have HX := Lib.hid hx
      have hb : 0 ≤ q + (cntL cntLabel (l.take j) : Int) ∧ q + (cntL cntLabel (l.take j) : Int) + cntLabel (nth l j) ≤ 1125899906842624 := by have := H1.out; have := HC.out; omega
      simp only [cntLabel] at hb
      clear hc hx hfit
      generalize hq : q + (cntL cntLabel (l.take j) : Int) = Q at *
      have HQ := Lib.hid hq
      clear hq
      obtain ⟨hb0, hb1⟩ := hb
      try simp only [mkLabel] at c0 c1
      go_wp2_with fail
      first
        | (go_roundw
           case rel => exact ⟨j + 1, by omega, by go_num, by rw [HS.out, ← HQ.out]; push_cast; simp only [cntLabel]; go_num, HX.out⟩
           case measure => simp [intOf]; omega)
        | (refine ⟨⟨j + 1, by omega, by go_num, by rw [HS.out, ← HQ.out]; push_cast; simp only [cntLabel]; go_num, HX.out⟩, ?_⟩
           simp [intOf]
           omega)
    · obtain rfl : j = l.length := by omega
      go_wp2_with fail
      go_ret
      exact ⟨ret_int (by rw [List.take_length]), hx⟩
set_option maxHeartbeats 8000000 in
set_option maxRecDepth 50000 in
theorem heldPairS_any {S : Nat → Prop} (l : List Pair) (v : Value) (q : Int) (w : World) (h : Rd EPair S w v (markL mkPair cntPair q l)) (h0 : 0 ≤ q) (h1 : q + cntL cntPair l ≤ 1125899906842624) :
    Calls Tryz.prog 223 #[v, .int .i64 q] w fun e w' => e = .returned (.int .i64 (q + cntL cntPair l)) ∧ Ext w w' := by
  obtain ⟨A, c, rfl, g1, g2, hk⟩ := h.open_
  rw [markL_length] at g1 hk ⊢
  unfold maxLen at g2
  have H := Lib.hid hk
  clear hk
  have H1 := Lib.hid h1
  clear h h1
  go_enter Tryz.func223, Tryz.ntmps223
  go_wp2_with fail
  go_loopw [1, 5] (fun kk i w' => ∃ j : Nat, j ≤ l.length ∧ i = .int .i64 j ∧ kk = .int .i64 (q + cntL cntPair (l.take j)) ∧ Ext w w') (fun _ i _ => l.length - (intOf i).toNat)
  case atStart => exact ⟨0, Nat.zero_le _, rfl, by simp [cntL], Ext.refl _⟩
  case round =>
    obtain ⟨j, hj, rfl, rfl, hx⟩ := hrel
    by_cases hlt : j < l.length
    · obtain ⟨B, o, cs, rfl, _, hr, hc⟩ := H.out j hlt
      rw [markL_nth q hlt] at hr
      obtain ⟨rfl, hfit⟩ := hr
      have c0 := Ext.some hx (hc 0 _ rfl)
      have c1 := Ext.some hx (hc 1 _ rfl)
      have c2 := Ext.some hx (hc 2 _ rfl)
      have c3 := Ext.some hx (hc 3 _ rfl)
      have c4 := Ext.some hx (hc 4 _ rfl)
      simp only [EPair, Nat.add_zero] at c0 c1 c2 c3 c4
      have HC := Lib.hid (cntL_at (n := cntPair) hlt)
      have HS := Lib.hid (cntL_succ (n := cntPair) hlt)
      have HX := Lib.hid hx
      have hb : 0 ≤ q + (cntL cntPair (l.take j) : Int) ∧ q + (cntL cntPair (l.take j) : Int) + cntPair (nth l j) ≤ 1125899906842624 := by have := H1.out; have := HC.out; omega
      simp only [cntPair] at hb
      clear hc hx hfit
      generalize hq : q + (cntL cntPair (l.take j) : Int) = Q at *
      have HQ := Lib.hid hq
      clear hq
      obtain ⟨hb0, hb1⟩ := hb
      try simp only [mkPair] at c0 c1 c2 c3 c4
      go_wp2_with fail
      first
        | (go_roundw
           case rel => exact ⟨j + 1, by omega, by go_num, by rw [HS.out, ← HQ.out]; push_cast; simp only [cntPair]; go_num, HX.out⟩
           case measure => simp [intOf]; omega)
        | (refine ⟨⟨j + 1, by omega, by go_num, by rw [HS.out, ← HQ.out]; push_cast; simp only [cntPair]; go_num, HX.out⟩, ?_⟩
           simp [intOf]
           omega)
    · obtain rfl : j = l.length := by omega
      go_wp2_with fail
      go_ret
      exact ⟨ret_int (by rw [List.take_length]), hx⟩
set_option maxHeartbeats 8000000 in
set_option maxRecDepth 50000 in
theorem heldQuotaS_any {S : Nat → Prop} (l : List Quota) (v : Value) (q : Int) (w : World) (h : Rd EQuota S w v (markL mkQuota cntQuota q l)) (h0 : 0 ≤ q) (h1 : q + cntL cntQuota l ≤ 1125899906842624) :
    Calls Tryz.prog 224 #[v, .int .i64 q] w fun e w' => e = .returned (.int .i64 (q + cntL cntQuota l)) ∧ Ext w w' := by
  obtain ⟨A, c, rfl, g1, g2, hk⟩ := h.open_
  rw [markL_length] at g1 hk ⊢
  unfold maxLen at g2
  have H := Lib.hid hk
  clear hk
  have H1 := Lib.hid h1
  clear h h1
  go_enter Tryz.func224, Tryz.ntmps224
  go_wp2_with fail
  go_loopw [1, 5] (fun kk i w' => ∃ j : Nat, j ≤ l.length ∧ i = .int .i64 j ∧ kk = .int .i64 (q + cntL cntQuota (l.take j)) ∧ Ext w w') (fun _ i _ => l.length - (intOf i).toNat)
  case atStart => exact ⟨0, Nat.zero_le _, rfl, by simp [cntL], Ext.refl _⟩
  case round =>
    obtain ⟨j, hj, rfl, rfl, hx⟩ := hrel
    by_cases hlt : j < l.length
    · obtain ⟨B, o, cs, rfl, _, hr, hc⟩ := H.out j hlt
      rw [markL_nth q hlt] at hr
      obtain ⟨rfl, hfit⟩ := hr
      have c0 := Ext.some hx (hc 0 _ rfl)
      have c1 := Ext.some hx (hc 1 _ rfl)
      have c2 := Ext.some hx (hc 2 _ rfl)
      simp only [EQuota, Nat.add_zero] at c0 c1 c2
      have HC := Lib.hid (cntL_at (n := cntQuota) hlt)
      have HS := Lib.hid (cntL_succ (n := cntQuota) hlt)
      have HX := Lib.hid hx
      have hb : 0 ≤ q + (cntL cntQuota (l.take j) : Int) ∧ q + (cntL cntQuota (l.take j) : Int) + cntQuota (nth l j) ≤ 1125899906842624 := by have := H1.out; have := HC.out; omega
      simp only [cntQuota] at hb
      clear hc hx hfit
      generalize hq : q + (cntL cntQuota (l.take j) : Int) = Q at *
      have HQ := Lib.hid hq
      clear hq
      obtain ⟨hb0, hb1⟩ := hb
      try simp only [mkQuota] at c0 c1 c2
      go_wp2_with fail
      first
        | (go_roundw
           case rel => exact ⟨j + 1, by omega, by go_num, by rw [HS.out, ← HQ.out]; push_cast; simp only [cntQuota]; go_num, HX.out⟩
           case measure => simp [intOf]; omega)
        | (refine ⟨⟨j + 1, by omega, by go_num, by rw [HS.out, ← HQ.out]; push_cast; simp only [cntQuota]; go_num, HX.out⟩, ?_⟩
           simp [intOf]
           omega)
    · obtain rfl : j = l.length := by omega
      go_wp2_with fail
      go_ret
      exact ⟨ret_int (by rw [List.take_length]), hx⟩
set_option maxHeartbeats 8000000 in
set_option maxRecDepth 50000 in
theorem heldNodeS_any {S : Nat → Prop} (l : List Node) (v : Value) (q : Int) (w : World) (h : Rd ENode S w v (markL mkNode cntNode q l)) (h0 : 0 ≤ q) (h1 : q + cntL cntNode l ≤ 1125899906842624) :
    Calls Tryz.prog 141 #[v, .int .i64 q] w fun e w' => e = .returned (.int .i64 (q + cntL cntNode l)) ∧ Ext w w' := by
  obtain ⟨A, c, rfl, g1, g2, hk⟩ := h.open_
  rw [markL_length] at g1 hk ⊢
  unfold maxLen at g2
  have H := Lib.hid hk
  clear hk
  have H1 := Lib.hid h1
  clear h h1
  go_enter Tryz.func141, Tryz.ntmps141
  go_wp2_with fail
  go_loopw [1, 5] (fun kk i w' => ∃ j : Nat, j ≤ l.length ∧ i = .int .i64 j ∧ kk = .int .i64 (q + cntL cntNode (l.take j)) ∧ Ext w w') (fun _ i _ => l.length - (intOf i).toNat)
  case atStart => exact ⟨0, Nat.zero_le _, rfl, by simp [cntL], Ext.refl _⟩
  case round =>
    obtain ⟨j, hj, rfl, rfl, hx⟩ := hrel
    by_cases hlt : j < l.length
    · obtain ⟨B, o, cs, rfl, _, hr, hc⟩ := H.out j hlt
      rw [markL_nth q hlt] at hr
      obtain ⟨u1, rfl, hfit, o1⟩ := hr
      have c0 := Ext.some hx (hc 0 _ rfl)
      have c1 := Ext.some hx (hc 1 _ rfl)
      simp only [ENode, Nat.add_zero] at c0 c1
      have HC := Lib.hid (cntL_at (n := cntNode) hlt)
      have HS := Lib.hid (cntL_succ (n := cntNode) hlt)
      have HX := Lib.hid hx
      have O1 := Lib.hid (o1.ext hx)
      clear o1
      have hb : 0 ≤ q + (cntL cntNode (l.take j) : Int) ∧ q + (cntL cntNode (l.take j) : Int) + cntNode (nth l j) ≤ 1125899906842624 := by have := H1.out; have := HC.out; omega
      simp only [cntNode] at hb
      clear hc hx hfit
      generalize hq : q + (cntL cntNode (l.take j) : Int) = Q at *
      have HQ := Lib.hid hq
      clear hq
      obtain ⟨hb0, hb1⟩ := hb
      try simp only [mkNode] at c0 c1
      have hn0 : (0 : Int) ≤ ((cntL cntSpan (nth l j).books) : Nat) := Int.natCast_nonneg _
      have hb2 := hb1
      push_cast at hb2
      go_wp2_with fail
      refine (heldSpanS_any (S := S) (nth l j).books _ _ _ (O1.out.cast_mark (by first | rfl | omega | (push_cast; omega))) (by omega) (by omega)).mono ?_
      rintro e w2 ⟨rfl, hx⟩
      have Y1 := Lib.hid hx
      clear hx
      go_wp2_with fail
      first
        | (go_roundw
           case rel => exact ⟨j + 1, by omega, by go_num, by rw [HS.out, ← HQ.out]; push_cast; simp only [cntNode]; push_cast; go_num, (HX.out.trans Y1.out)⟩
           case measure => simp [intOf]; omega)
        | (refine ⟨⟨j + 1, by omega, by go_num, by rw [HS.out, ← HQ.out]; push_cast; simp only [cntNode]; push_cast; go_num, (HX.out.trans Y1.out)⟩, ?_⟩
           simp [intOf]
           omega)
    · obtain rfl : j = l.length := by omega
      go_wp2_with fail
      go_ret
      exact ⟨ret_int (by rw [List.take_length]), hx⟩
set_option maxHeartbeats 8000000 in
set_option maxRecDepth 50000 in
theorem heldLabelSS_any {S : Nat → Prop} (l : List (List Label)) (v : Value) (q : Int) (w : World) (h : Rd (ERow ELabel) S w v (markL (markL mkLabel cntLabel) (cntL cntLabel) q l)) (h0 : 0 ≤ q) (h1 : q + cntL (cntL cntLabel) l ≤ 1125899906842624) :
    Calls Tryz.prog 222 #[v, .int .i64 q] w fun e w' => e = .returned (.int .i64 (q + cntL (cntL cntLabel) l)) ∧ Ext w w' := by
  obtain ⟨A, c, rfl, g1, g2, hk⟩ := h.open_
  rw [markL_length] at g1 hk ⊢
  unfold maxLen at g2
  have H := Lib.hid hk
  clear hk
  have H1 := Lib.hid h1
  clear h h1
  go_enter Tryz.func222, Tryz.ntmps222
  go_wp2_with fail
  go_loopw [1, 5] (fun kk i w' => ∃ j : Nat, j ≤ l.length ∧ i = .int .i64 j ∧ kk = .int .i64 (q + cntL (cntL cntLabel) (l.take j)) ∧ Ext w w') (fun _ i _ => l.length - (intOf i).toNat)
  case atStart => exact ⟨0, Nat.zero_le _, rfl, by simp [cntL], Ext.refl _⟩
  case round =>
    obtain ⟨j, hj, rfl, rfl, hx⟩ := hrel
    by_cases hlt : j < l.length
    · obtain ⟨B, o, cs, rfl, _, hr, hc⟩ := H.out j hlt
      rw [markL_nth q hlt] at hr
      obtain ⟨u1, rfl, o1⟩ := hr
      have c0 := Ext.some hx (hc 0 _ rfl)
      simp only [ERow, Nat.add_zero, Nat.mul_one] at c0
      have HC := Lib.hid (cntL_at (n := (cntL cntLabel)) hlt)
      have HS := Lib.hid (cntL_succ (n := (cntL cntLabel)) hlt)
      have HX := Lib.hid hx
      have O1 := Lib.hid (o1.ext hx)
      clear o1
      have hb : 0 ≤ q + (cntL (cntL cntLabel) (l.take j) : Int) ∧ q + (cntL (cntL cntLabel) (l.take j) : Int) + (cntL cntLabel) (nth l j) ≤ 1125899906842624 := by have := H1.out; have := HC.out; omega
      clear hc hx
      generalize hq : q + (cntL (cntL cntLabel) (l.take j) : Int) = Q at *
      have HQ := Lib.hid hq
      clear hq
      obtain ⟨hb0, hb1⟩ := hb
      have hn0 : (0 : Int) ≤ ((cntL cntLabel (nth l j)) : Nat) := Int.natCast_nonneg _
      have hb2 := hb1
      go_wp2_with fail
      refine (heldLabelS_any (S := S) (nth l j) _ _ _ (O1.out.cast_mark (by first | rfl | omega | (push_cast; omega))) (by omega) (by omega)).mono ?_
      rintro e w2 ⟨rfl, hx⟩
      have Y1 := Lib.hid hx
      clear hx
      go_wp2_with fail
      first
        | (go_roundw
           case rel => exact ⟨j + 1, by omega, by go_num, by rw [HS.out, ← HQ.out]; push_cast; go_num, (HX.out.trans Y1.out)⟩
           case measure => simp [intOf]; omega)
        | (refine ⟨⟨j + 1, by omega, by go_num, by rw [HS.out, ← HQ.out]; push_cast; go_num, (HX.out.trans Y1.out)⟩, ?_⟩
           simp [intOf]
           omega)
    · obtain rfl : j = l.length := by omega
      go_wp2_with fail
      go_ret
      exact ⟨ret_int (by rw [List.take_length]), hx⟩
set_option maxHeartbeats 8000000 in
set_option maxRecDepth 50000 in
theorem markUseS_any (l : List Use) (v : Value) (F : List Nat) (q : Int) (w : World) (h : OwS OUse 155 w v l F) (h0 : 0 ≤ q) (h1 : q + cntL cntUse l ≤ 1125899906842624) :
    Calls Tryz.prog 68 #[v, .int .i64 q] w fun e w' => e = .returned (.int .i64 (q + cntL cntUse l)) ∧ OwS OUse 155 w' v (markL mkUse cntUse q l) F ∧ Kept F w w' := by
  obtain ⟨A, c, rfl, g1, g2⟩ := h.form
  unfold maxLen at g2
  have H := Lib.hid h
  have H1 := Lib.hid h1
  clear h h1
  go_enter Tryz.func68, Tryz.ntmps68
  go_wp2_with fail
  go_loopw [1, 5] (fun kk i w' => ∃ j : Nat, j ≤ l.length ∧ i = .int .i64 j ∧ kk = .int .i64 (q + cntL cntUse (l.take j)) ∧ OwS OUse 155 w' (.slice A l.length c) (mixL mkUse cntUse q l j) F ∧ Kept F w w') (fun _ i _ => l.length - (intOf i).toNat)
  case atStart => exact ⟨0, Nat.zero_le _, rfl, by simp [cntL], by rw [mixL_zero]; exact H.out, Kept.refl _ _⟩
  case round =>
    obtain ⟨j, hj, rfl, rfl, hown, hkp⟩ := hrel
    by_cases hlt : j < l.length
    · obtain ⟨B, c', G, cs, hv, hBF, hBG, hGF, ho, hc, hfz, hth, hrow, hset⟩ := hown.at (k := j) (by rw [mixL_length _ _ _ hj]; exact hlt)
      rw [mixL_length _ _ _ hj] at hv
      rw [mixL_nth hlt] at ho
      obtain ⟨⟨rfl, hfit⟩, rfl⟩ := ho
      injection hv with hA _ hcc
      subst hA hcc
      have c0 := hc 0 _ rfl
      have f0 := hfz (j * 4 + 0)
      have c1 := hc 1 _ rfl
      have f1 := hfz (j * 4 + 1)
      have c2 := hc 2 _ rfl
      have f2 := hfz (j * 4 + 2)
      have c3 := hc 3 _ rfl
      have f3 := hfz (j * 4 + 3)
      simp only [EUse, Nat.add_zero] at c0 f0 c1 f1 c2 f2 c3 f3
      have HC := Lib.hid (cntL_at (n := cntUse) hlt)
      have HS := Lib.hid (cntL_succ (n := cntUse) hlt)
      have HO := Lib.hid hset
      have HT := Lib.hid hth
      have HR := Lib.hid hrow
      have HB := Lib.hid hBF
      have HK := Lib.hid hkp
      have HG := Lib.hid hGF
      have HX := Lib.hid hBG
      have HRG := Lib.hid hc
      have hb : 0 ≤ q + (cntL cntUse (l.take j) : Int) ∧ q + (cntL cntUse (l.take j) : Int) + cntUse (nth l j) ≤ 1125899906842624 := by have := H1.out; have := HC.out; omega
      simp only [cntUse] at hb
      clear hc hfz hset hth hrow hkp hown hfit hBG hGF hBF
      generalize hq : q + (cntL cntUse (l.take j) : Int) = Q at *
      have HQ := Lib.hid hq
      clear hq
      obtain ⟨hb0, hb1⟩ := hb
      go_wp2_with fail
      refine (markText_any _ _ (by omega) (by omega)).mono ?_
      rintro e wt ⟨rfl, hxt⟩
      have y0 := Ext.some hxt (show World.cell? _ ⟨B, j * 4, none⟩ = some (.int .i64 Q) by go_simp)
      have y1 := Ext.some hxt (show World.cell? _ ⟨B, j * 4 + 1, none⟩ = some (.int .i64 (Q + 1)) by go_simp)
      have y2 := Ext.some hxt (show World.cell? _ ⟨B, j * 4 + 2, none⟩ = some (.string (nth l j).owner) by go_simp)
      have y3 := Ext.some hxt (show World.cell? _ ⟨B, j * 4 + 3, none⟩ = some (.int .i64 (nth l j).used) by go_simp)
      have KT : Hid (Kept [B] wr wt) := Lib.hid (Kept.trans (by repeat (first | with_reducible exact Kept.refl _ _ | refine Kept.setCell ?_ (by simp) _)) (Kept.of_ext hxt))
      have RT : Hid (RowBut 155 B (j * EUse.size) EUse.size wr wt) := Lib.hid (RowBut.kept (by repeat (first | with_reducible exact HR.out | refine RowBut.setCell ?_ (by show j * 4 ≤ _; omega) (by show _ < j * 4 + 4; omega) _)) (Kept.of_ext (F := []) hxt) (by simp))
      clear f0
      clear f1
      replace f2 := RT.out.frozen (j * 4 + 2)
      replace f3 := RT.out.frozen (j * 4 + 3)
      clear hxt c0 c1 c2 c3
      have c0 := y0
      have c1 := y1
      have c2 := y2
      have c3 := y3
      clear y0 y1 y2 y3
      go_wp2_with fail
      go_roundw
      case rel =>
        refine ⟨j + 1, by omega, by go_num, by rw [HS.out, ← HQ.out]; push_cast; simp only [cntUse]; go_num, ?_, ?_⟩
        · have hs := fun (W2 : World) k r g => HO.out W2 (mkUse Q (nth l j)) (cellsUse (mkUse Q (nth l j))) k r ⟨⟨rfl, (by have hm := mtext_str (Q + 1 + 1) (by omega); simp only [FitUse, mkUse, I64]; (repeat' apply And.intro); all_goals first | exact hm | omega)⟩, rfl⟩ g
          rw [← HQ.out, mixL_set hlt, HQ.out] at hs
          exact hs _ (by repeat (first | with_reducible exact KT.out | refine Kept.setCell ?_ (by simp) _)) (by repeat (first | with_reducible exact RT.out | refine RowBut.setCell ?_ (by show j * 4 ≤ _; omega) (by show _ < j * 4 + 4; omega) _)) (show World.rangeAt _ B (j * 4) (cellsUse (mkUse Q (nth l j))) from by intro i u hi; rcases i with _ | _ | _ | _ | i <;> simp [cellsUse, mkUse] at hi <;> (try subst hi) <;> (go_simp; try omega))
        · exact HK.out.trans (Kept.sub (F := [B]) (by repeat (first | with_reducible exact KT.out | refine Kept.setCell ?_ (by simp) _)) (fun b _ hb => by rw [List.mem_singleton.1 hb]; exact HB.out))
      case measure => simp [intOf]; omega
    · obtain rfl : j = l.length := by omega
      rw [mixL_full] at hown
      have HO := Lib.hid hown
      clear hown
      go_wp2_with fail
      go_ret
      exact ⟨ret_int (by rw [List.take_length]), HO.out, hkp⟩
set_option maxHeartbeats 8000000 in
set_option maxRecDepth 50000 in
theorem heldUseS_any {S : Nat → Prop} (l : List Use) (v : Value) (q : Int) (w : World) (h : Rd EUse S w v (markL mkUse cntUse q l)) (h0 : 0 ≤ q) (h1 : q + cntL cntUse l ≤ 1125899906842624) :
    Calls Tryz.prog 142 #[v, .int .i64 q] w fun e w' => e = .returned (.int .i64 (q + cntL cntUse l)) ∧ Ext w w' := by
  obtain ⟨A, c, rfl, g1, g2, hk⟩ := h.open_
  rw [markL_length] at g1 hk ⊢
  unfold maxLen at g2
  have H := Lib.hid hk
  clear hk
  have H1 := Lib.hid h1
  clear h h1
  go_enter Tryz.func142, Tryz.ntmps142
  go_wp2_with fail
  go_loopw [1, 5] (fun kk i w' => ∃ j : Nat, j ≤ l.length ∧ i = .int .i64 j ∧ kk = .int .i64 (q + cntL cntUse (l.take j)) ∧ Ext w w') (fun _ i _ => l.length - (intOf i).toNat)
  case atStart => exact ⟨0, Nat.zero_le _, rfl, by simp [cntL], Ext.refl _⟩
  case round =>
    obtain ⟨j, hj, rfl, rfl, hx⟩ := hrel
    by_cases hlt : j < l.length
    · obtain ⟨B, o, cs, rfl, _, hr, hc⟩ := H.out j hlt
      rw [markL_nth q hlt] at hr
      obtain ⟨rfl, hfit⟩ := hr
      have c0 := Ext.some hx (hc 0 _ rfl)
      have c1 := Ext.some hx (hc 1 _ rfl)
      have c2 := Ext.some hx (hc 2 _ rfl)
      have c3 := Ext.some hx (hc 3 _ rfl)
      simp only [EUse, Nat.add_zero] at c0 c1 c2 c3
      have HC := Lib.hid (cntL_at (n := cntUse) hlt)
      have HS := Lib.hid (cntL_succ (n := cntUse) hlt)
      have HX := Lib.hid hx
      have hb : 0 ≤ q + (cntL cntUse (l.take j) : Int) ∧ q + (cntL cntUse (l.take j) : Int) + cntUse (nth l j) ≤ 1125899906842624 := by have := H1.out; have := HC.out; omega
      simp only [cntUse] at hb
      clear hc hx hfit
      generalize hq : q + (cntL cntUse (l.take j) : Int) = Q at *
      have HQ := Lib.hid hq
      clear hq
      obtain ⟨hb0, hb1⟩ := hb
      try simp only [mkUse] at c0 c1 c2 c3
      go_wp2_with fail
      refine wp_region_ext (by kernel_rfl) (by kernel_rfl) ?_
      repeat (
        (refine wpQuiet_step (fun K hK => ?_)
         go_simp
         first
          | (refine hK _ ?_; clear hK K)
          | (apply Exists.intro
             refine ⟨fun w__ hx__ => ?_, hK _ ?_⟩
             · have c2__ := Ext.some hx__ c2; first | exact rfl | (go_simp; done) | (go_simp; exact rfl) | (go_at_call 99; exact ext_of hx__ (markText_any _ _ (by omega) (by omega)))
             clear hK K)))
      refine wpQuiet_nil ?_
      intro w1 hx1
      replace c3 := Ext.some hx1 c3
      replace HX := Lib.hid (HX.out.trans hx1)
      clear hx1 c0 c1 c2
      go_wp2_with fail
      first
        | (go_roundw
           case rel => exact ⟨j + 1, by omega, by go_num, by rw [HS.out, ← HQ.out]; push_cast; simp only [cntUse]; go_num, HX.out⟩
           case measure => simp [intOf]; omega)
        | (refine ⟨⟨j + 1, by omega, by go_num, by rw [HS.out, ← HQ.out]; push_cast; simp only [cntUse]; go_num, HX.out⟩, ?_⟩
           simp [intOf]
           omega)
    · obtain rfl : j = l.length := by omega
      go_wp2_with fail
      go_ret
      exact ⟨ret_int (by rw [List.take_length]), hx⟩
set_option maxHeartbeats 8000000 in
set_option maxRecDepth 50000 in
theorem markTaskS_any (l : List Task) (v : Value) (F : List Nat) (q : Int) (w : World) (h : OwS OTask 87 w v l F) (h0 : 0 ≤ q) (h1 : q + cntL cntTask l ≤ 1125899906842624) :
    Calls Tryz.prog 41 #[v, .int .i64 q] w fun e w' => e = .returned (.int .i64 (q + cntL cntTask l)) ∧ OwS OTask 87 w' v (markL mkTask cntTask q l) F ∧ Kept F w w' := by
  obtain ⟨A, c, rfl, g1, g2⟩ := h.form
  unfold maxLen at g2
  have H := Lib.hid h
  have H1 := Lib.hid h1
  clear h h1
  go_enter Tryz.func41, Tryz.ntmps41
  go_wp2_with fail
  go_loopw [1, 5] (fun kk i w' => ∃ j : Nat, j ≤ l.length ∧ i = .int .i64 j ∧ kk = .int .i64 (q + cntL cntTask (l.take j)) ∧ OwS OTask 87 w' (.slice A l.length c) (mixL mkTask cntTask q l j) F ∧ Kept F w w') (fun _ i _ => l.length - (intOf i).toNat)
  case atStart => exact ⟨0, Nat.zero_le _, rfl, by simp [cntL], by rw [mixL_zero]; exact H.out, Kept.refl _ _⟩
  case round =>
    obtain ⟨j, hj, rfl, rfl, hown, hkp⟩ := hrel
    by_cases hlt : j < l.length
    · obtain ⟨B, c', G, cs, hv, hBF, hBG, hGF, ho, hc, hfz, hth, hrow, hset⟩ := hown.at (k := j) (by rw [mixL_length _ _ _ hj]; exact hlt)
      rw [mixL_length _ _ _ hj] at hv
      rw [mixL_nth hlt] at ho
      obtain ⟨u1, rfl, hfit, o1⟩ := ho
      obtain ⟨A1, k1, rfl, n1, m1⟩ := o1.form
      have O1 := Lib.hid o1
      clear o1
      injection hv with hA _ hcc
      subst hA hcc
      have c0 := hc 0 _ rfl
      have f0 := hfz (j * 14 + 0)
      have c1 := hc 1 _ rfl
      have f1 := hfz (j * 14 + 1)
      have c2 := hc 2 _ rfl
      have f2 := hfz (j * 14 + 2)
      have c3 := hc 3 _ rfl
      have f3 := hfz (j * 14 + 3)
      have c4 := hc 4 _ rfl
      have f4 := hfz (j * 14 + 4)
      have c5 := hc 5 _ rfl
      have f5 := hfz (j * 14 + 5)
      have c6 := hc 6 _ rfl
      have f6 := hfz (j * 14 + 6)
      have c7 := hc 7 _ rfl
      have f7 := hfz (j * 14 + 7)
      have c8 := hc 8 _ rfl
      have f8 := hfz (j * 14 + 8)
      have c9 := hc 9 _ rfl
      have f9 := hfz (j * 14 + 9)
      have c10 := hc 10 _ rfl
      have f10 := hfz (j * 14 + 10)
      have c11 := hc 11 _ rfl
      have f11 := hfz (j * 14 + 11)
      have c12 := hc 12 _ rfl
      have f12 := hfz (j * 14 + 12)
      have c13 := hc 13 _ rfl
      simp only [ETask, Nat.add_zero] at c0 f0 c1 f1 c2 f2 c3 f3 c4 f4 c5 f5 c6 f6 c7 f7 c8 f8 c9 f9 c10 f10 c11 f11 c12 f12 c13
      have HC := Lib.hid (cntL_at (n := cntTask) hlt)
      have HS := Lib.hid (cntL_succ (n := cntTask) hlt)
      have HO := Lib.hid hset
      have HT := Lib.hid hth
      have HR := Lib.hid hrow
      have HB := Lib.hid hBF
      have HK := Lib.hid hkp
      have HG := Lib.hid hGF
      have HX := Lib.hid hBG
      have HRG := Lib.hid hc
      have hb : 0 ≤ q + (cntL cntTask (l.take j) : Int) ∧ q + (cntL cntTask (l.take j) : Int) + cntTask (nth l j) ≤ 1125899906842624 := by have := H1.out; have := HC.out; omega
      simp only [cntTask] at hb
      clear hc hfz hset hth hrow hkp hown hfit hBG hGF hBF
      generalize hq : q + (cntL cntTask (l.take j) : Int) = Q at *
      have HQ := Lib.hid hq
      clear hq
      obtain ⟨hb0, hb1⟩ := hb
      have hn0 : (0 : Int) ≤ ((cntL cntInt (nth l j).nodes) : Nat) := Int.natCast_nonneg _
      have hb2 := hb1
      push_cast at hb2
      go_wp2_with fail
      refine (markText_any _ _ (by omega) (by omega)).mono ?_
      rintro e wt ⟨rfl, hxt⟩
      have y0 := Ext.some hxt (show World.cell? _ ⟨B, j * 14, none⟩ = some (.int .i64 Q) by go_simp)
      have y1 := Ext.some hxt (show World.cell? _ ⟨B, j * 14 + 1, none⟩ = some (.int .i64 (Q + 1)) by go_simp)
      have y2 := Ext.some hxt (show World.cell? _ ⟨B, j * 14 + 2, none⟩ = some (.int .i64 (Q + 1 + 1)) by go_simp)
      have y3 := Ext.some hxt (show World.cell? _ ⟨B, j * 14 + 3, none⟩ = some (.string (nth l j).owner) by go_simp)
      have y4 := Ext.some hxt (show World.cell? _ ⟨B, j * 14 + 4, none⟩ = some (.int .i64 (nth l j).need) by go_simp)
      have y5 := Ext.some hxt (show World.cell? _ ⟨B, j * 14 + 5, none⟩ = some (.int .i64 (nth l j).long) by go_simp)
      have y6 := Ext.some hxt (show World.cell? _ ⟨B, j * 14 + 6, none⟩ = some (.int .i64 (nth l j).prio) by go_simp)
      have y7 := Ext.some hxt (show World.cell? _ ⟨B, j * 14 + 7, none⟩ = some (.int .i64 (nth l j).under.level) by go_simp)
      have y8 := Ext.some hxt (show World.cell? _ ⟨B, j * 14 + 8, none⟩ = some (.int .i64 (nth l j).under.set) by go_simp)
      have y9 := Ext.some hxt (show World.cell? _ ⟨B, j * 14 + 9, none⟩ = some (.int .i64 (nth l j).after) by go_simp)
      have y10 := Ext.some hxt (show World.cell? _ ⟨B, j * 14 + 10, none⟩ = some (.int .i64 (nth l j).born) by go_simp)
      have y11 := Ext.some hxt (show World.cell? _ ⟨B, j * 14 + 11, none⟩ = some (.int .i64 (nth l j).state) by go_simp)
      have y12 := Ext.some hxt (show World.cell? _ ⟨B, j * 14 + 12, none⟩ = some (.int .i64 (nth l j).start) by go_simp)
      have y13 := Ext.some hxt (show World.cell? _ ⟨B, j * 14 + 13, none⟩ = some (.slice A1 (nth l j).nodes.length k1) by go_simp)
      have KT : Hid (Kept [B] wr wt) := Lib.hid (Kept.trans (by repeat (first | with_reducible exact Kept.refl _ _ | refine Kept.setCell ?_ (by simp) _)) (Kept.of_ext hxt))
      have RT : Hid (RowBut 87 B (j * ETask.size) ETask.size wr wt) := Lib.hid (RowBut.kept (by repeat (first | with_reducible exact HR.out | refine RowBut.setCell ?_ (by show j * 14 ≤ _; omega) (by show _ < j * 14 + 14; omega) _)) (Kept.of_ext (F := []) hxt) (by simp))
      clear f0
      clear f1
      clear f2
      replace f3 := RT.out.frozen (j * 14 + 3)
      replace f4 := RT.out.frozen (j * 14 + 4)
      replace f5 := RT.out.frozen (j * 14 + 5)
      replace f6 := RT.out.frozen (j * 14 + 6)
      replace f7 := RT.out.frozen (j * 14 + 7)
      replace f8 := RT.out.frozen (j * 14 + 8)
      replace f9 := RT.out.frozen (j * 14 + 9)
      replace f10 := RT.out.frozen (j * 14 + 10)
      replace f11 := RT.out.frozen (j * 14 + 11)
      replace f12 := RT.out.frozen (j * 14 + 12)
      clear hxt c0 c1 c2 c3 c4 c5 c6 c7 c8 c9 c10 c11 c12 c13
      have c0 := y0
      have c1 := y1
      have c2 := y2
      have c3 := y3
      have c4 := y4
      have c5 := y5
      have c6 := y6
      have c7 := y7
      have c8 := y8
      have c9 := y9
      have c10 := y10
      have c11 := y11
      have c12 := y12
      have c13 := y13
      clear y0 y1 y2 y3 y4 y5 y6 y7 y8 y9 y10 y11 y12 y13
      go_wp2_with fail
      refine (markInt64S_any (nth l j).nodes _ G _ _ (O1.out.kept (G := [B]) (by repeat (first | with_reducible exact KT.out | refine Kept.setCell ?_ (by simp) _)) (fun b hb hm => HX.out (by rw [← List.mem_singleton.1 hm]; exact hb))) (by omega) (by omega)).mono ?_
      rintro e w2 ⟨rfl, p, hk⟩
      have P1 := Lib.hid p
      have K1 := Lib.hid hk
      clear p hk
      go_wp2_with fail
      go_roundw
      case rel =>
        have hkk : Kept (B :: G) wr w2 := (Kept.trans (by repeat (first | with_reducible exact KT.out.sub (fun b _ hb => by simp at hb ⊢; exact .inl hb) | refine Kept.setCell ?_ (by simp) _)) (K1.out.sub (fun b _ hb => List.mem_cons_of_mem _ hb)))
        refine ⟨j + 1, by omega, by go_num, by rw [HS.out, ← HQ.out]; push_cast; simp only [cntTask]; push_cast; go_num, ?_, HK.out.trans (hkk.sub fun b _ hb => by rcases List.mem_cons.1 hb with rfl | hb; exact HB.out; exact HG.out b hb)⟩
        have hs := HO.out w2 (mkTask Q (nth l j)) (cellsTask (mkTask Q (nth l j)) (.slice A1 (nth l j).nodes.length k1)) hkk (RowBut.kept (by repeat (first | with_reducible exact RT.out | refine RowBut.setCell ?_ (by show j * 14 ≤ _; omega) (by show _ < j * 14 + 14; omega) _)) K1.out (fun hm => HX.out (hm))) ⟨_, rfl, (by have hm := mtext_str (Q + 1 + 1 + 1) (by omega); simp only [FitTask, mkTask, I64]; (repeat' apply And.intro); all_goals first | exact hm | omega), (P1.out.cast_mark (by first | rfl | omega | (push_cast; omega)))⟩ (fun i u hi => K1.out.cell HX.out ((show World.rangeAt _ B (j * 14) (cellsTask (mkTask Q (nth l j)) (.slice A1 (nth l j).nodes.length k1)) from by intro i u hi; rcases i with _ | _ | _ | _ | _ | _ | _ | _ | _ | _ | _ | _ | _ | _ | i <;> simp [cellsTask, mkTask] at hi <;> (try subst hi) <;> (go_simp; try omega)) i u hi))
        rw [← HQ.out, mixL_set hlt] at hs
        exact hs
      case measure => simp [intOf]; omega
    · obtain rfl : j = l.length := by omega
      rw [mixL_full] at hown
      have HO := Lib.hid hown
      clear hown
      go_wp2_with fail
      go_ret
      exact ⟨ret_int (by rw [List.take_length]), HO.out, hkp⟩
set_option maxHeartbeats 8000000 in
set_option maxRecDepth 50000 in
theorem heldTaskS_any {S : Nat → Prop} (l : List Task) (v : Value) (q : Int) (w : World) (h : Rd ETask S w v (markL mkTask cntTask q l)) (h0 : 0 ≤ q) (h1 : q + cntL cntTask l ≤ 1125899906842624) :
    Calls Tryz.prog 42 #[v, .int .i64 q] w fun e w' => e = .returned (.int .i64 (q + cntL cntTask l)) ∧ Ext w w' := by
  obtain ⟨A, c, rfl, g1, g2, hk⟩ := h.open_
  rw [markL_length] at g1 hk ⊢
  unfold maxLen at g2
  have H := Lib.hid hk
  clear hk
  have H1 := Lib.hid h1
  clear h h1
  go_enter Tryz.func42, Tryz.ntmps42
  go_wp2_with fail
  go_loopw [1, 5] (fun kk i w' => ∃ j : Nat, j ≤ l.length ∧ i = .int .i64 j ∧ kk = .int .i64 (q + cntL cntTask (l.take j)) ∧ Ext w w') (fun _ i _ => l.length - (intOf i).toNat)
  case atStart => exact ⟨0, Nat.zero_le _, rfl, by simp [cntL], Ext.refl _⟩
  case round =>
    obtain ⟨j, hj, rfl, rfl, hx⟩ := hrel
    by_cases hlt : j < l.length
    · obtain ⟨B, o, cs, rfl, _, hr, hc⟩ := H.out j hlt
      rw [markL_nth q hlt] at hr
      obtain ⟨u1, rfl, hfit, o1⟩ := hr
      have c0 := Ext.some hx (hc 0 _ rfl)
      have c1 := Ext.some hx (hc 1 _ rfl)
      have c2 := Ext.some hx (hc 2 _ rfl)
      have c3 := Ext.some hx (hc 3 _ rfl)
      have c4 := Ext.some hx (hc 4 _ rfl)
      have c5 := Ext.some hx (hc 5 _ rfl)
      have c6 := Ext.some hx (hc 6 _ rfl)
      have c7 := Ext.some hx (hc 7 _ rfl)
      have c8 := Ext.some hx (hc 8 _ rfl)
      have c9 := Ext.some hx (hc 9 _ rfl)
      have c10 := Ext.some hx (hc 10 _ rfl)
      have c11 := Ext.some hx (hc 11 _ rfl)
      have c12 := Ext.some hx (hc 12 _ rfl)
      have c13 := Ext.some hx (hc 13 _ rfl)
      simp only [ETask, Nat.add_zero] at c0 c1 c2 c3 c4 c5 c6 c7 c8 c9 c10 c11 c12 c13
      have HC := Lib.hid (cntL_at (n := cntTask) hlt)
      have HS := Lib.hid (cntL_succ (n := cntTask) hlt)
      have HX := Lib.hid hx
      have O1 := Lib.hid (o1.ext hx)
      clear o1
      have hb : 0 ≤ q + (cntL cntTask (l.take j) : Int) ∧ q + (cntL cntTask (l.take j) : Int) + cntTask (nth l j) ≤ 1125899906842624 := by have := H1.out; have := HC.out; omega
      simp only [cntTask] at hb
      clear hc hx hfit
      generalize hq : q + (cntL cntTask (l.take j) : Int) = Q at *
      have HQ := Lib.hid hq
      clear hq
      obtain ⟨hb0, hb1⟩ := hb
      try simp only [mkTask] at c0 c1 c2 c3 c4 c5 c6 c7 c8 c9 c10 c11 c12 c13
      have hn0 : (0 : Int) ≤ ((cntL cntInt (nth l j).nodes) : Nat) := Int.natCast_nonneg _
      have hb2 := hb1
      push_cast at hb2
      go_wp2_with fail
      refine wp_region_ext (by kernel_rfl) (by kernel_rfl) ?_
      repeat (
        (refine wpQuiet_step (fun K hK => ?_)
         go_simp
         first
          | (refine hK _ ?_; clear hK K)
          | (apply Exists.intro
             refine ⟨fun w__ hx__ => ?_, hK _ ?_⟩
             · have c3__ := Ext.some hx__ c3; first | exact rfl | (go_simp; done) | (go_simp; exact rfl) | (go_at_call 99; exact ext_of hx__ (markText_any _ _ (by omega) (by omega)))
             clear hK K)))
      refine wpQuiet_nil ?_
      intro w1 hx1
      replace c4 := Ext.some hx1 c4
      replace c5 := Ext.some hx1 c5
      replace c6 := Ext.some hx1 c6
      replace c7 := Ext.some hx1 c7
      replace c8 := Ext.some hx1 c8
      replace c9 := Ext.some hx1 c9
      replace c10 := Ext.some hx1 c10
      replace c11 := Ext.some hx1 c11
      replace c12 := Ext.some hx1 c12
      replace c13 := Ext.some hx1 c13
      replace HX := Lib.hid (HX.out.trans hx1)
      replace O1 := Lib.hid (O1.out.ext hx1)
      clear hx1 c0 c1 c2 c3
      go_wp2_with fail
      refine (heldInt64S_any (S := S) (nth l j).nodes _ _ _ (O1.out.cast_mark (by first | rfl | omega | (push_cast; omega))) (by omega) (by omega)).mono ?_
      rintro e w2 ⟨rfl, hx⟩
      have Y1 := Lib.hid hx
      clear hx
      go_wp2_with fail
      first
        | (go_roundw
           case rel => exact ⟨j + 1, by omega, by go_num, by rw [HS.out, ← HQ.out]; push_cast; simp only [cntTask]; push_cast; go_num, (HX.out.trans Y1.out)⟩
           case measure => simp [intOf]; omega)
        | (refine ⟨⟨j + 1, by omega, by go_num, by rw [HS.out, ← HQ.out]; push_cast; simp only [cntTask]; push_cast; go_num, (HX.out.trans Y1.out)⟩, ?_⟩
           simp [intOf]
           omega)
    · obtain rfl : j = l.length := by omega
      go_wp2_with fail
      go_ret
      exact ⟨ret_int (by rw [List.take_length]), hx⟩
end Go.Proofs.YtngldifgcgblpaaGreat
namespace Go.Proofs.YtngldifgcgblpaaGreat
open Go.RowKit
attribute [local irreducible] wpQuiet
theorem app_apart {A B : List Nat} (h : (A ++ B).Nodup) : A.Nodup ∧ B.Nodup ∧ (∀ b ∈ B, b ∉ A) := by
  obtain ⟨h1, h2, h3⟩ := List.nodup_append.1 h
  exact ⟨h1, h2, fun b hb hc => h3 b hc b hb rfl⟩
set_option maxHeartbeats 4000000 in
set_option maxRecDepth 50000 in
theorem markConfig_own (x : Config) (v1 v2 v3 : Value) (F1 F2 F3 : List Nat) (n1 n2 n3 : Nat) (q : Int) (w : World) (o1 : OwS (ORow OLabel 49) 167 w v1 x.nodes F1) (o2 : OwS OPair 214 w v2 x.pairs F2) (o3 : OwS OQuota 205 w v3 x.quotas F3) (e1 : cntL (cntL cntLabel) x.nodes = n1) (e2 : cntL cntPair x.pairs = n2) (e3 : cntL cntQuota x.quotas = n3) (hd : (F1 ++ (F2 ++ F3)).Nodup) (h0 : 0 ≤ q) (hb : (q + (n1 : Int) + (n2 : Int) + (n3 : Int)) ≤ 1125899906842624) :
    Calls Tryz.prog 66 #[.agg #[v1, v2, v3, .int .i64 x.half], .int .i64 q] w fun e w' => e = .returned (.int .i64 (q + (n1 : Int) + (n2 : Int) + (n3 : Int))) ∧ OwS (ORow OLabel 49) 167 w' v1 (markL (markL mkLabel cntLabel) (cntL cntLabel) q x.nodes) F1 ∧ OwS OPair 214 w' v2 (markL mkPair cntPair (q + (n1 : Int)) x.pairs) F2 ∧ OwS OQuota 205 w' v3 (markL mkQuota cntQuota (q + (n1 : Int) + (n2 : Int)) x.quotas) F3 ∧ Kept (F1 ++ (F2 ++ F3)) w w' := by
  obtain ⟨A1, c1, rfl, -⟩ := o1.form
  obtain ⟨A2, c2, rfl, -⟩ := o2.form
  obtain ⟨A3, c3, rfl, -⟩ := o3.form
  have O1 := Lib.hid o1
  have O2 := Lib.hid o2
  have O3 := Lib.hid o3
  have N1 := Lib.hid e1
  have N2 := Lib.hid e2
  have N3 := Lib.hid e3
  obtain ⟨_, hd2, d1⟩ := app_apart hd
  obtain ⟨_, _, d2⟩ := app_apart hd2
  have D12 : Hid (∀ b ∈ F2, b ∉ F1) := Lib.hid (fun b hb => d1 b (List.mem_append_left _ hb))
  have D13 : Hid (∀ b ∈ F3, b ∉ F1) := Lib.hid (fun b hb => d1 b (List.mem_append_right _ hb))
  have D23 : Hid (∀ b ∈ F3, b ∉ F2) := Lib.hid d2
  have D21 : Hid (∀ b ∈ F1, b ∉ F2) := Lib.hid (fun b h1 h2 => D12.out b h2 h1)
  have D31 : Hid (∀ b ∈ F1, b ∉ F3) := Lib.hid (fun b h1 h2 => D13.out b h2 h1)
  have D32 : Hid (∀ b ∈ F2, b ∉ F3) := Lib.hid (fun b h1 h2 => D23.out b h2 h1)
  clear o1 o2 o3 e1 e2 e3 hd hd2 d1 d2
  go_enter Tryz.func66, Tryz.ntmps66
  go_upto_region 1 with (fail)
  obtain ⟨W, B, hW, hB, hx0, b0⟩ : ∃ W B, W = w.alloc (.cells #[.slice A1 x.nodes.length c1, .slice A2 x.pairs.length c2, .slice A3 x.quotas.length c3, .int .i64 x.half] 39) ∧ B = w.heap.size ∧ Ext w W ∧ Blk W B 39 #[.slice A1 x.nodes.length c1, .slice A2 x.pairs.length c2, .slice A3 x.quotas.length c3, .int .i64 x.half] := ⟨_, _, rfl, rfl, (Ext.refl w).alloc _, Blk.new _ _ _⟩
  have HN1 : Hid (B ∉ F1) := Lib.hid (fun hb => absurd (O1.out.lt B hb) (by omega))
  have HN2 : Hid (B ∉ F2) := Lib.hid (fun hb => absurd (O2.out.lt B hb) (by omega))
  rw [← hW, ← hB]
  have Q := Lib.hid b0
  have X := Lib.hid hx0
  clear hW hB hx0 b0
  have q0 := Q.out.cell 0
  go_upto_region 2 with (go_at_call 136; (with_reducible refine (markLabelSS_any x.nodes _ F1 q _ (O1.out.ext X.out) h0 (by have := N1.out; omega)).mono ?_); rw [N1.out]; rintro e w1 ⟨rfl, p1, k1⟩; have P1 := Lib.hid p1; have K1 := Lib.hid k1; have Q1 : Hid (Blk w1 B 39 #[.slice A1 x.nodes.length c1, .slice A2 x.pairs.length c2, .slice A3 x.quotas.length c3, .int .i64 x.half]) := Lib.hid ((k1.block B Q.out.lt HN1.out).trans Q.out); clear p1 k1)
  clear q0
  have q1 := Q1.out.cell 1
  go_upto_region 3 with (go_at_call 137; (with_reducible refine (markPairS_any x.pairs _ F2 _ _ ((O2.out.ext X.out).kept K1.out D12.out) (by omega) (by have := N2.out; omega)).mono ?_); rw [N2.out]; rintro e w2 ⟨rfl, p2, k2⟩; have P2 := Lib.hid p2; have K2 := Lib.hid k2; have Q2 : Hid (Blk w2 B 39 #[.slice A1 x.nodes.length c1, .slice A2 x.pairs.length c2, .slice A3 x.quotas.length c3, .int .i64 x.half]) := Lib.hid ((k2.block B Q1.out.lt HN2.out).trans Q1.out); clear p2 k2)
  clear q1
  have q2 := Q2.out.cell 2
  go_wp2_with (go_at_call 138; (with_reducible refine (markQuotaS_any x.quotas _ F3 _ _ (((O3.out.ext X.out).kept K1.out D13.out).kept K2.out D23.out) (by omega) (by have := N3.out; omega)).mono ?_); rw [N3.out]; rintro e w3 ⟨rfl, p3, k3⟩; have P3 := Lib.hid p3; have K3 := Lib.hid k3; clear p3 k3)
  go_ret
  exact ⟨rfl, (P1.out.kept K2.out D21.out).kept K3.out D31.out, P2.out.kept K3.out D32.out, P3.out, (((Kept.of_ext X.out).trans (K1.out.sub (G := F1 ++ (F2 ++ F3)) (fun b _ hm => by simp [hm]))).trans (K2.out.sub (G := F1 ++ (F2 ++ F3)) (fun b _ hm => by simp [hm]))).trans (K3.out.sub (G := F1 ++ (F2 ++ F3)) (fun b _ hm => by simp [hm]))⟩
set_option maxHeartbeats 8000000 in
set_option maxRecDepth 50000 in
theorem markYard_own (x : Yard) (v1 v2 v3 v4 v5 v6 : Value) (F1 F2 F3 F4 F5 F6 : List Nat) (n1 n2 n3 n4 n5 n6 : Nat) (q : Int) (w : World) (o1 : OwS (ORow OLabel 49) 167 w v1 x.config.nodes F1) (o2 : OwS OPair 214 w v2 x.config.pairs F2) (o3 : OwS OQuota 205 w v3 x.config.quotas F3) (o4 : OwS ONode 151 w v4 x.nodes F4) (o5 : OwS OTask 87 w v5 x.tasks F5) (o6 : OwS OUse 155 w v6 x.uses F6) (e1 : cntL (cntL cntLabel) x.config.nodes = n1) (e2 : cntL cntPair x.config.pairs = n2) (e3 : cntL cntQuota x.config.quotas = n3) (e4 : cntL cntNode x.nodes = n4) (e5 : cntL cntTask x.tasks = n5) (e6 : cntL cntUse x.uses = n6) (hd : (F1 ++ (F2 ++ (F3 ++ (F4 ++ (F5 ++ F6))))).Nodup) (h0 : 0 ≤ q) (hb : (q + (n1 : Int) + (n2 : Int) + (n3 : Int) + (n4 : Int) + (n5 : Int) + (n6 : Int)) ≤ 1125899906842624) :
    Calls Tryz.prog 20 #[.agg #[v1, v2, v3, .int .i64 x.config.half, v4, v5, v6, .int .i64 x.now], .int .i64 q] w fun e w' => e = .returned (.int .i64 (q + (n1 : Int) + (n2 : Int) + (n3 : Int) + (n4 : Int) + (n5 : Int) + (n6 : Int))) ∧ OwS (ORow OLabel 49) 167 w' v1 (markL (markL mkLabel cntLabel) (cntL cntLabel) q x.config.nodes) F1 ∧ OwS OPair 214 w' v2 (markL mkPair cntPair (q + (n1 : Int)) x.config.pairs) F2 ∧ OwS OQuota 205 w' v3 (markL mkQuota cntQuota (q + (n1 : Int) + (n2 : Int)) x.config.quotas) F3 ∧ OwS ONode 151 w' v4 (markL mkNode cntNode (q + (n1 : Int) + (n2 : Int) + (n3 : Int)) x.nodes) F4 ∧ OwS OTask 87 w' v5 (markL mkTask cntTask (q + (n1 : Int) + (n2 : Int) + (n3 : Int) + (n4 : Int)) x.tasks) F5 ∧ OwS OUse 155 w' v6 (markL mkUse cntUse (q + (n1 : Int) + (n2 : Int) + (n3 : Int) + (n4 : Int) + (n5 : Int)) x.uses) F6 ∧ Kept (F1 ++ (F2 ++ (F3 ++ (F4 ++ (F5 ++ F6))))) w w' := by
  obtain ⟨A1, c1, rfl, -⟩ := o1.form
  have O1 := Lib.hid o1
  have N1 := Lib.hid e1
  obtain ⟨A2, c2, rfl, -⟩ := o2.form
  have O2 := Lib.hid o2
  have N2 := Lib.hid e2
  obtain ⟨A3, c3, rfl, -⟩ := o3.form
  have O3 := Lib.hid o3
  have N3 := Lib.hid e3
  obtain ⟨A4, c4, rfl, -⟩ := o4.form
  have O4 := Lib.hid o4
  have N4 := Lib.hid e4
  obtain ⟨A5, c5, rfl, -⟩ := o5.form
  have O5 := Lib.hid o5
  have N5 := Lib.hid e5
  obtain ⟨A6, c6, rfl, -⟩ := o6.form
  have O6 := Lib.hid o6
  have N6 := Lib.hid e6
  have hd' : ((F1 ++ (F2 ++ F3)) ++ (F4 ++ (F5 ++ F6))).Nodup := by
    have h := hd
    simp only [List.append_assoc] at h ⊢
    exact h
  obtain ⟨da, db, dc⟩ := app_apart hd'
  obtain ⟨_, db2, d4⟩ := app_apart db
  obtain ⟨_, _, d5⟩ := app_apart db2
  have HD := Lib.hid da
  have DG4 : Hid (∀ b ∈ F4, b ∉ (F1 ++ (F2 ++ F3))) := Lib.hid (fun b hb => dc b (List.mem_append_left _ hb))
  have DG5 : Hid (∀ b ∈ F5, b ∉ (F1 ++ (F2 ++ F3))) := Lib.hid (fun b hb => dc b (List.mem_append_right _ (List.mem_append_left _ hb)))
  have DG6 : Hid (∀ b ∈ F6, b ∉ (F1 ++ (F2 ++ F3))) := Lib.hid (fun b hb => dc b (List.mem_append_right _ (List.mem_append_right _ hb)))
  have D45 : Hid (∀ b ∈ F5, b ∉ F4) := Lib.hid (fun b hb => d4 b (List.mem_append_left _ hb))
  have D46 : Hid (∀ b ∈ F6, b ∉ F4) := Lib.hid (fun b hb => d4 b (List.mem_append_right _ hb))
  have D56 : Hid (∀ b ∈ F6, b ∉ F5) := Lib.hid d5
  have R14 : Hid (∀ b ∈ F1, b ∉ F4) := Lib.hid (fun b h1 h2 => DG4.out b h2 (List.mem_append_left _ h1))
  have R15 : Hid (∀ b ∈ F1, b ∉ F5) := Lib.hid (fun b h1 h2 => DG5.out b h2 (List.mem_append_left _ h1))
  have R16 : Hid (∀ b ∈ F1, b ∉ F6) := Lib.hid (fun b h1 h2 => DG6.out b h2 (List.mem_append_left _ h1))
  have R24 : Hid (∀ b ∈ F2, b ∉ F4) := Lib.hid (fun b h1 h2 => DG4.out b h2 (List.mem_append_right _ (List.mem_append_left _ h1)))
  have R25 : Hid (∀ b ∈ F2, b ∉ F5) := Lib.hid (fun b h1 h2 => DG5.out b h2 (List.mem_append_right _ (List.mem_append_left _ h1)))
  have R26 : Hid (∀ b ∈ F2, b ∉ F6) := Lib.hid (fun b h1 h2 => DG6.out b h2 (List.mem_append_right _ (List.mem_append_left _ h1)))
  have R34 : Hid (∀ b ∈ F3, b ∉ F4) := Lib.hid (fun b h1 h2 => DG4.out b h2 (List.mem_append_right _ (List.mem_append_right _ h1)))
  have R35 : Hid (∀ b ∈ F3, b ∉ F5) := Lib.hid (fun b h1 h2 => DG5.out b h2 (List.mem_append_right _ (List.mem_append_right _ h1)))
  have R36 : Hid (∀ b ∈ F3, b ∉ F6) := Lib.hid (fun b h1 h2 => DG6.out b h2 (List.mem_append_right _ (List.mem_append_right _ h1)))
  have R45 : Hid (∀ b ∈ F4, b ∉ F5) := Lib.hid (fun b h1 h2 => D45.out b h2 h1)
  have R46 : Hid (∀ b ∈ F4, b ∉ F6) := Lib.hid (fun b h1 h2 => D46.out b h2 h1)
  have R56 : Hid (∀ b ∈ F5, b ∉ F6) := Lib.hid (fun b h1 h2 => D56.out b h2 h1)
  clear o1 o2 o3 o4 o5 o6 e1 e2 e3 e4 e5 e6 hd hd' da db dc db2 d4 d5
  go_enter Tryz.func20, Tryz.ntmps20
  go_upto_region 1 with (fail)
  obtain ⟨W, B, hW, hB, hx0, b0⟩ : ∃ W B, W = w.alloc (.cells #[.slice A1 x.config.nodes.length c1, .slice A2 x.config.pairs.length c2, .slice A3 x.config.quotas.length c3, .int .i64 x.config.half, .slice A4 x.nodes.length c4, .slice A5 x.tasks.length c5, .slice A6 x.uses.length c6, .int .i64 x.now] 44) ∧ B = w.heap.size ∧ Ext w W ∧ Blk W B 44 #[.slice A1 x.config.nodes.length c1, .slice A2 x.config.pairs.length c2, .slice A3 x.config.quotas.length c3, .int .i64 x.config.half, .slice A4 x.nodes.length c4, .slice A5 x.tasks.length c5, .slice A6 x.uses.length c6, .int .i64 x.now] := ⟨_, _, rfl, rfl, (Ext.refl w).alloc _, Blk.new _ _ _⟩
  have HG : Hid (B ∉ (F1 ++ (F2 ++ F3))) := Lib.hid (fun hb => by
    simp only [List.mem_append] at hb
    rcases hb with hb | hb | hb
    · exact absurd (O1.out.lt B hb) (by omega)
    · exact absurd (O2.out.lt B hb) (by omega)
    · exact absurd (O3.out.lt B hb) (by omega))
  have HN4 : Hid (B ∉ F4) := Lib.hid (fun hb => absurd (O4.out.lt B hb) (by omega))
  have HN5 : Hid (B ∉ F5) := Lib.hid (fun hb => absurd (O5.out.lt B hb) (by omega))
  rw [← hW, ← hB]
  have Q := Lib.hid b0
  have X := Lib.hid hx0
  clear hW hB hx0 b0
  have qa := Q.out.cell
  go_upto_region 2 with (go_at_call 66; (with_reducible refine (markConfig_own x.config _ _ _ F1 F2 F3 n1 n2 n3 q _ (O1.out.ext X.out) (O2.out.ext X.out) (O3.out.ext X.out) N1.out N2.out N3.out HD.out h0 (by omega)).mono ?_); rintro e w1 ⟨rfl, p1, p2, p3, k1⟩; have P1 := Lib.hid p1; have P2 := Lib.hid p2; have P3 := Lib.hid p3; have K1 := Lib.hid k1; have Q1 : Hid (Blk w1 B 44 #[.slice A1 x.config.nodes.length c1, .slice A2 x.config.pairs.length c2, .slice A3 x.config.quotas.length c3, .int .i64 x.config.half, .slice A4 x.nodes.length c4, .slice A5 x.tasks.length c5, .slice A6 x.uses.length c6, .int .i64 x.now]) := Lib.hid ((k1.block B Q.out.lt HG.out).trans Q.out); clear p1 p2 p3 k1 qa)
  have q1 : w1.cell? ⟨B, 4, none⟩ = some (.slice A4 x.nodes.length c4) := Q1.out.cell 4
  go_upto_region 3 with (go_at_call 67; (with_reducible refine (markNodeS_any x.nodes _ F4 _ _ ((O4.out.ext X.out).kept K1.out DG4.out) (by omega) (by have := N4.out; omega)).mono ?_); rw [N4.out]; rintro e w2 ⟨rfl, p4, k2⟩; have P4 := Lib.hid p4; have K2 := Lib.hid k2; have Q2 : Hid (Blk w2 B 44 #[.slice A1 x.config.nodes.length c1, .slice A2 x.config.pairs.length c2, .slice A3 x.config.quotas.length c3, .int .i64 x.config.half, .slice A4 x.nodes.length c4, .slice A5 x.tasks.length c5, .slice A6 x.uses.length c6, .int .i64 x.now]) := Lib.hid ((k2.block B Q1.out.lt HN4.out).trans Q1.out); clear p4 k2 q1)
  have q2 : w2.cell? ⟨B, 5, none⟩ = some (.slice A5 x.tasks.length c5) := Q2.out.cell 5
  go_upto_region 4 with (go_at_call 41; (with_reducible refine (markTaskS_any x.tasks _ F5 _ _ (((O5.out.ext X.out).kept K1.out DG5.out).kept K2.out D45.out) (by omega) (by have := N5.out; omega)).mono ?_); rw [N5.out]; rintro e w3 ⟨rfl, p5, k3⟩; have P5 := Lib.hid p5; have K3 := Lib.hid k3; have Q3 : Hid (Blk w3 B 44 #[.slice A1 x.config.nodes.length c1, .slice A2 x.config.pairs.length c2, .slice A3 x.config.quotas.length c3, .int .i64 x.config.half, .slice A4 x.nodes.length c4, .slice A5 x.tasks.length c5, .slice A6 x.uses.length c6, .int .i64 x.now]) := Lib.hid ((k3.block B Q2.out.lt HN5.out).trans Q2.out); clear p5 k3 q2)
  have q3 : w3.cell? ⟨B, 6, none⟩ = some (.slice A6 x.uses.length c6) := Q3.out.cell 6
  go_wp2_with (go_at_call 68; (with_reducible refine (markUseS_any x.uses _ F6 _ _ ((((O6.out.ext X.out).kept K1.out DG6.out).kept K2.out D46.out).kept K3.out D56.out) (by omega) (by have := N6.out; omega)).mono ?_); rw [N6.out]; rintro e w4 ⟨rfl, p6, k4⟩; have P6 := Lib.hid p6; have K4 := Lib.hid k4; clear p6 k4 q3)
  go_ret
  exact ⟨rfl, ((P1.out.kept K2.out R14.out).kept K3.out R15.out).kept K4.out R16.out, ((P2.out.kept K2.out R24.out).kept K3.out R25.out).kept K4.out R26.out, ((P3.out.kept K2.out R34.out).kept K3.out R35.out).kept K4.out R36.out, (P4.out.kept K3.out R45.out).kept K4.out R46.out, P5.out.kept K4.out R56.out, P6.out,
    ((((Kept.of_ext X.out).trans (K1.out.sub (G := F1 ++ (F2 ++ (F3 ++ (F4 ++ (F5 ++ F6))))) (fun b _ hm => by simp only [List.mem_append] at hm ⊢; rcases hm with h | h | h <;> simp [h]))).trans (K2.out.sub (G := F1 ++ (F2 ++ (F3 ++ (F4 ++ (F5 ++ F6))))) (fun b _ hm => by simp [hm]))).trans (K3.out.sub (G := F1 ++ (F2 ++ (F3 ++ (F4 ++ (F5 ++ F6))))) (fun b _ hm => by simp [hm]))).trans (K4.out.sub (G := F1 ++ (F2 ++ (F3 ++ (F4 ++ (F5 ++ F6))))) (fun b _ hm => by simp [hm]))⟩
theorem rel_ext {α : Type} {E : Elem α} {S : Nat → Prop} {w w' : World} {cs : List Value} {x : α} (h : E.rel S w cs x) (hx : Ext w w') : E.rel S w' cs x := E.keep (hx.same S) h
set_option maxHeartbeats 8000000 in
set_option maxRecDepth 50000 in
theorem markYardOut_is (x : YardOut) (cs : List Value) (F : List Nat) (n : Nat) (q : Int) (w : World) (h : OYardOut.own w cs x F) (hn : cntsYardOut x = n) (h0 : 0 ≤ q) (hb : q + (n : Int) ≤ 1125899906842624) :
    Calls Tryz.prog 21 #[.agg cs.toArray, .int .i64 q] w fun e w' => e = .returned (.int .i64 (q + (n : Int))) ∧ EYardOut.rel (fun b => b ∈ F) w' cs (mksYardOut q x) ∧ Kept F w w' := by
  obtain ⟨v1, v2, v3, v4, v5, v6, F1, F2, F3, F4, F5, F6, rfl, hf, o1, o2, o3, o4, o5, o6, rfl, hd⟩ := h

  obtain ⟨A1, c1, rfl, -⟩ := o1.form
  have O1 := Lib.hid o1
  obtain ⟨n1, hn1⟩ : ∃ n, cntL (cntL cntLabel) x.yard.config.nodes = n := ⟨_, rfl⟩
  have N1 := Lib.hid hn1
  obtain ⟨A2, c2, rfl, -⟩ := o2.form
  have O2 := Lib.hid o2
  obtain ⟨n2, hn2⟩ : ∃ n, cntL cntPair x.yard.config.pairs = n := ⟨_, rfl⟩
  have N2 := Lib.hid hn2
  obtain ⟨A3, c3, rfl, -⟩ := o3.form
  have O3 := Lib.hid o3
  obtain ⟨n3, hn3⟩ : ∃ n, cntL cntQuota x.yard.config.quotas = n := ⟨_, rfl⟩
  have N3 := Lib.hid hn3
  obtain ⟨A4, c4, rfl, -⟩ := o4.form
  have O4 := Lib.hid o4
  obtain ⟨n4, hn4⟩ : ∃ n, cntL cntNode x.yard.nodes = n := ⟨_, rfl⟩
  have N4 := Lib.hid hn4
  obtain ⟨A5, c5, rfl, -⟩ := o5.form
  have O5 := Lib.hid o5
  obtain ⟨n5, hn5⟩ : ∃ n, cntL cntTask x.yard.tasks = n := ⟨_, rfl⟩
  have N5 := Lib.hid hn5
  obtain ⟨A6, c6, rfl, -⟩ := o6.form
  have O6 := Lib.hid o6
  obtain ⟨n6, hn6⟩ : ∃ n, cntL cntUse x.yard.uses = n := ⟨_, rfl⟩
  have N6 := Lib.hid hn6
  have hs : (n : Int) = (n1 : Int) + n2 + n3 + n4 + n5 + n6 := by
    rw [← hn, cntsYardOut, hn1, hn2, hn3, hn4, hn5, hn6]; push_cast; omega
  have HS := Lib.hid hs
  have HD := Lib.hid hd
  have HF := Lib.hid hf
  have HB0 : Hid ((q + (n1 : Int) + (n2 : Int) + (n3 : Int) + (n4 : Int) + (n5 : Int) + (n6 : Int)) ≤ 1125899906842624) := Lib.hid (by omega)
  have H0 := Lib.hid h0
  clear o1 o2 o3 o4 o5 o6 hn hn1 hn2 hn3 hn4 hn5 hn6 hs hd hf hb h0
  simp only [cellsYardOut]
  go_enter Tryz.func21, Tryz.ntmps21
  go_upto_region 1 with (fail)
  obtain ⟨W, B, hW, hB, hx0, b0⟩ : ∃ W B, W = w.alloc (.cells #[.slice A1 x.yard.config.nodes.length c1, .slice A2 x.yard.config.pairs.length c2, .slice A3 x.yard.config.quotas.length c3, .int .i64 x.yard.config.half, .slice A4 x.yard.nodes.length c4, .slice A5 x.yard.tasks.length c5, .slice A6 x.yard.uses.length c6, .int .i64 x.yard.now, .int .i64 x.id, .int .i64 x.code] 46) ∧ B = w.heap.size ∧ Ext w W ∧ Blk W B 46 #[.slice A1 x.yard.config.nodes.length c1, .slice A2 x.yard.config.pairs.length c2, .slice A3 x.yard.config.quotas.length c3, .int .i64 x.yard.config.half, .slice A4 x.yard.nodes.length c4, .slice A5 x.yard.tasks.length c5, .slice A6 x.yard.uses.length c6, .int .i64 x.yard.now, .int .i64 x.id, .int .i64 x.code] := ⟨_, _, rfl, rfl, (Ext.refl w).alloc _, Blk.new _ _ _⟩
  rw [← hW, ← hB]
  have Q := Lib.hid b0
  have X := Lib.hid hx0
  clear hW hB hx0 b0
  have qa := Q.out.cell
  go_wp2_with (go_at_call 20; (with_reducible refine (markYard_own x.yard _ _ _ _ _ _ F1 F2 F3 F4 F5 F6 n1 n2 n3 n4 n5 n6 q _ (O1.out.ext X.out) (O2.out.ext X.out) (O3.out.ext X.out) (O4.out.ext X.out) (O5.out.ext X.out) (O6.out.ext X.out) N1.out N2.out N3.out N4.out N5.out N6.out HD.out H0.out HB0.out).mono ?_); rintro e w1 ⟨rfl, p1, p2, p3, p4, p5, p6, k1⟩; have P1 := Lib.hid p1; have P2 := Lib.hid p2; have P3 := Lib.hid p3; have P4 := Lib.hid p4; have P5 := Lib.hid p5; have P6 := Lib.hid p6; have K1 := Lib.hid k1; clear p1 p2 p3 p4 p5 p6 k1 qa)
  go_ret
  refine ⟨ret_int (by rw [HS.out]; omega), ⟨_, _, _, _, _, _, rfl, HF.out, ?_, ?_, ?_, ?_, ?_, ?_⟩, (Kept.of_ext X.out).trans K1.out⟩

  · exact P1.out.rd.sub (S' := fun b => b ∈ F1 ++ (F2 ++ (F3 ++ (F4 ++ (F5 ++ F6))))) (fun b hb => by simp [hb])
  · have h := P2.out.rd.sub (S' := fun b => b ∈ F1 ++ (F2 ++ (F3 ++ (F4 ++ (F5 ++ F6))))) (fun b hb => by simp [hb])
    simp only [mksYardOut, N1.out]
    exact h
  · have h := P3.out.rd.sub (S' := fun b => b ∈ F1 ++ (F2 ++ (F3 ++ (F4 ++ (F5 ++ F6))))) (fun b hb => by simp [hb])
    simp only [mksYardOut, N1.out, N2.out]
    exact h
  · have h := P4.out.rd.sub (S' := fun b => b ∈ F1 ++ (F2 ++ (F3 ++ (F4 ++ (F5 ++ F6))))) (fun b hb => by simp [hb])
    simp only [mksYardOut, N1.out, N2.out, N3.out]
    exact h
  · have h := P5.out.rd.sub (S' := fun b => b ∈ F1 ++ (F2 ++ (F3 ++ (F4 ++ (F5 ++ F6))))) (fun b hb => by simp [hb])
    simp only [mksYardOut, N1.out, N2.out, N3.out, N4.out]
    exact h
  · have h := P6.out.rd.sub (S' := fun b => b ∈ F1 ++ (F2 ++ (F3 ++ (F4 ++ (F5 ++ F6))))) (fun b hb => by simp [hb])
    simp only [mksYardOut, N1.out, N2.out, N3.out, N4.out, N5.out]
    exact h
set_option maxHeartbeats 4000000 in
set_option maxRecDepth 50000 in
theorem heldConfig_own {S1 : Nat → Prop} (x : Config) (hh : Int) (v1 v2 v3 : Value) (n1 n2 n3 : Nat) (q : Int) (w : World) (o1 : Rd (ERow ELabel) S1 w v1 (markL (markL mkLabel cntLabel) (cntL cntLabel) q x.nodes)) (o2 : Rd EPair S1 w v2 (markL mkPair cntPair (q + (n1 : Int)) x.pairs)) (o3 : Rd EQuota S1 w v3 (markL mkQuota cntQuota (q + (n1 : Int) + (n2 : Int)) x.quotas)) (e1 : cntL (cntL cntLabel) x.nodes = n1) (e2 : cntL cntPair x.pairs = n2) (e3 : cntL cntQuota x.quotas = n3) (h0 : 0 ≤ q) (hb : (q + (n1 : Int) + (n2 : Int) + (n3 : Int)) ≤ 1125899906842624) :
    Calls Tryz.prog 140 #[.agg #[v1, v2, v3, .int .i64 hh], .int .i64 q] w fun e w' => e = .returned (.int .i64 (q + (n1 : Int) + (n2 : Int) + (n3 : Int))) ∧ Ext w w' := by
  have O1 := Lib.hid o1
  have O2 := Lib.hid o2
  have O3 := Lib.hid o3
  obtain ⟨A1, c1, rfl, -⟩ := o1.form
  obtain ⟨A2, c2, rfl, -⟩ := o2.form
  obtain ⟨A3, c3, rfl, -⟩ := o3.form
  simp only [markL_length] at O1 O2 O3
  simp only [markL_length]
  have N1 := Lib.hid e1
  have N2 := Lib.hid e2
  have N3 := Lib.hid e3
  have g1 : ¬ (q + (n1 : Int) < 0) := by omega
  have g2 : ¬ (q + (n1 : Int) + (n2 : Int) < 0) := by omega
  have g3 : ¬ (q + (n1 : Int) + (n2 : Int) + (n3 : Int) < 0) := by omega
  clear o1 o2 o3 e1 e2 e3
  go_enter Tryz.func140, Tryz.ntmps140
  go_upto_region 1 with (fail)
  obtain ⟨W, B, hW, hB, hx0, b0⟩ : ∃ W B, W = w.alloc (.cells #[.slice A1 x.nodes.length c1, .slice A2 x.pairs.length c2, .slice A3 x.quotas.length c3, .int .i64 hh] 39) ∧ B = w.heap.size ∧ Ext w W ∧ Blk W B 39 #[.slice A1 x.nodes.length c1, .slice A2 x.pairs.length c2, .slice A3 x.quotas.length c3, .int .i64 hh] := ⟨_, _, rfl, rfl, (Ext.refl w).alloc _, Blk.new _ _ _⟩
  rw [← hW, ← hB]
  have Q := Lib.hid b0
  have X := Lib.hid hx0
  clear hW hB hx0 b0
  have qa := Q.out.cell
  go_wp2_with (first
    | (go_at_call 222; (with_reducible refine (heldLabelSS_any (S := S1) x.nodes _ q _ (O1.out.ext X.out) h0 (by have := N1.out; omega)).mono ?_); rw [N1.out]; rintro e w1 ⟨rfl, hx1⟩; have X1 := Lib.hid (X.out.trans hx1); have Q1 := Lib.hid (Q.out.ext hx1); clear hx1 qa; have q1 := Q1.out.cell)
    | (go_at_call 223; (with_reducible refine (heldPairS_any (S := S1) x.pairs _ _ _ (O2.out.ext X1.out) (by omega) (by have := N2.out; omega)).mono ?_); rw [N2.out]; rintro e w2 ⟨rfl, hx2⟩; have X2 := Lib.hid (X1.out.trans hx2); have Q2 := Lib.hid (Q1.out.ext hx2); clear hx2 q1; have q2 := Q2.out.cell)
    | (go_at_call 224; (with_reducible refine (heldQuotaS_any (S := S1) x.quotas _ _ _ (O3.out.ext X2.out) (by omega) (by have := N3.out; omega)).mono ?_); rw [N3.out]; rintro e w3 ⟨rfl, hx3⟩; have X3 := Lib.hid (X2.out.trans hx3); clear hx3 q2))
  go_ret
  exact ⟨rfl, X3.out⟩
set_option maxHeartbeats 8000000 in
set_option maxRecDepth 50000 in
theorem heldYard_own {S1 : Nat → Prop} (x : Yard) (hh hw : Int) (v1 v2 v3 v4 v5 v6 : Value) (n1 n2 n3 n4 n5 n6 : Nat) (q : Int) (w : World) (o1 : Rd (ERow ELabel) S1 w v1 (markL (markL mkLabel cntLabel) (cntL cntLabel) q x.config.nodes)) (o2 : Rd EPair S1 w v2 (markL mkPair cntPair (q + (n1 : Int)) x.config.pairs)) (o3 : Rd EQuota S1 w v3 (markL mkQuota cntQuota (q + (n1 : Int) + (n2 : Int)) x.config.quotas)) (o4 : Rd ENode S1 w v4 (markL mkNode cntNode (q + (n1 : Int) + (n2 : Int) + (n3 : Int)) x.nodes)) (o5 : Rd ETask S1 w v5 (markL mkTask cntTask (q + (n1 : Int) + (n2 : Int) + (n3 : Int) + (n4 : Int)) x.tasks)) (o6 : Rd EUse S1 w v6 (markL mkUse cntUse (q + (n1 : Int) + (n2 : Int) + (n3 : Int) + (n4 : Int) + (n5 : Int)) x.uses)) (e1 : cntL (cntL cntLabel) x.config.nodes = n1) (e2 : cntL cntPair x.config.pairs = n2) (e3 : cntL cntQuota x.config.quotas = n3) (e4 : cntL cntNode x.nodes = n4) (e5 : cntL cntTask x.tasks = n5) (e6 : cntL cntUse x.uses = n6) (h0 : 0 ≤ q) (hb : (q + (n1 : Int) + (n2 : Int) + (n3 : Int) + (n4 : Int) + (n5 : Int) + (n6 : Int)) ≤ 1125899906842624) :
    Calls Tryz.prog 69 #[.agg #[v1, v2, v3, .int .i64 hh, v4, v5, v6, .int .i64 hw], .int .i64 q] w fun e w' => e = .returned (.int .i64 (q + (n1 : Int) + (n2 : Int) + (n3 : Int) + (n4 : Int) + (n5 : Int) + (n6 : Int))) ∧ Ext w w' := by
  have O1 := Lib.hid o1
  obtain ⟨A1, c1, rfl, -⟩ := o1.form
  have N1 := Lib.hid e1
  have O2 := Lib.hid o2
  obtain ⟨A2, c2, rfl, -⟩ := o2.form
  have N2 := Lib.hid e2
  have O3 := Lib.hid o3
  obtain ⟨A3, c3, rfl, -⟩ := o3.form
  have N3 := Lib.hid e3
  have O4 := Lib.hid o4
  obtain ⟨A4, c4, rfl, -⟩ := o4.form
  have N4 := Lib.hid e4
  have O5 := Lib.hid o5
  obtain ⟨A5, c5, rfl, -⟩ := o5.form
  have N5 := Lib.hid e5
  have O6 := Lib.hid o6
  obtain ⟨A6, c6, rfl, -⟩ := o6.form
  have N6 := Lib.hid e6
  simp only [markL_length] at O1 O2 O3 O4 O5 O6
  simp only [markL_length]
  have g3 : ¬ (q + (n1 : Int) + (n2 : Int) + (n3 : Int)) < 0 := by omega
  have g4 : ¬ (q + (n1 : Int) + (n2 : Int) + (n3 : Int) + (n4 : Int)) < 0 := by omega
  have g5 : ¬ (q + (n1 : Int) + (n2 : Int) + (n3 : Int) + (n4 : Int) + (n5 : Int)) < 0 := by omega
  have g6 : ¬ (q + (n1 : Int) + (n2 : Int) + (n3 : Int) + (n4 : Int) + (n5 : Int) + (n6 : Int)) < 0 := by omega
  clear o1 o2 o3 o4 o5 o6 e1 e2 e3 e4 e5 e6
  go_enter Tryz.func69, Tryz.ntmps69
  go_upto_region 1 with (fail)
  obtain ⟨W, B, hW, hB, hx0, b0⟩ : ∃ W B, W = w.alloc (.cells #[.slice A1 x.config.nodes.length c1, .slice A2 x.config.pairs.length c2, .slice A3 x.config.quotas.length c3, .int .i64 hh, .slice A4 x.nodes.length c4, .slice A5 x.tasks.length c5, .slice A6 x.uses.length c6, .int .i64 hw] 44) ∧ B = w.heap.size ∧ Ext w W ∧ Blk W B 44 #[.slice A1 x.config.nodes.length c1, .slice A2 x.config.pairs.length c2, .slice A3 x.config.quotas.length c3, .int .i64 hh, .slice A4 x.nodes.length c4, .slice A5 x.tasks.length c5, .slice A6 x.uses.length c6, .int .i64 hw] := ⟨_, _, rfl, rfl, (Ext.refl w).alloc _, Blk.new _ _ _⟩
  rw [← hW, ← hB]
  have Q := Lib.hid b0
  have X := Lib.hid hx0
  clear hW hB hx0 b0
  have qa := Q.out.cell
  go_wp2_with (first
    | (go_at_call 140; (with_reducible refine (heldConfig_own (S1 := S1) x.config hh _ _ _ n1 n2 n3 q _ (O1.out.ext X.out) (O2.out.ext X.out) (O3.out.ext X.out) N1.out N2.out N3.out h0 (by omega)).mono ?_); rintro e w1 ⟨rfl, hx1⟩; have X1 := Lib.hid (X.out.trans hx1); have Q1 := Lib.hid (Q.out.ext hx1); clear hx1 qa; have q1 := Q1.out.cell)
    | (go_at_call 141; (with_reducible refine (heldNodeS_any (S := S1) x.nodes _ _ _ (O4.out.ext X1.out) (by omega) (by have := N4.out; omega)).mono ?_); rw [N4.out]; rintro e w2 ⟨rfl, hx2⟩; have X2 := Lib.hid (X1.out.trans hx2); have Q2 := Lib.hid (Q1.out.ext hx2); clear hx2 q1; have q2 := Q2.out.cell)
    | (go_at_call 42; (with_reducible refine (heldTaskS_any (S := S1) x.tasks _ _ _ (O5.out.ext X2.out) (by omega) (by have := N5.out; omega)).mono ?_); rw [N5.out]; rintro e w3 ⟨rfl, hx3⟩; have X3 := Lib.hid (X2.out.trans hx3); have Q3 := Lib.hid (Q2.out.ext hx3); clear hx3 q2; have q3 := Q3.out.cell)
    | (go_at_call 142; (with_reducible refine (heldUseS_any (S := S1) x.uses _ _ _ (O6.out.ext X3.out) (by omega) (by have := N6.out; omega)).mono ?_); rw [N6.out]; rintro e w4 ⟨rfl, hx4⟩; have X4 := Lib.hid (X3.out.trans hx4); clear hx4 q3))
  go_ret
  exact ⟨rfl, X4.out⟩
set_option maxHeartbeats 8000000 in
set_option maxRecDepth 50000 in
theorem heldYardOut_is {S1 : Nat → Prop} (x : YardOut) (cs : List Value) (n : Nat) (q : Int) (w : World) (h : EYardOut.rel S1 w cs (mksYardOut q x)) (hn : cntsYardOut x = n) (h0 : 0 ≤ q) (hb : q + (n : Int) ≤ 1125899906842624) :
    Calls Tryz.prog 22 #[.agg cs.toArray, .int .i64 q] w fun e w' => e = .returned (.int .i64 (q + (n : Int))) ∧ Ext w w' := by
  obtain ⟨v1, v2, v3, v4, v5, v6, rfl, -, o1, o2, o3, o4, o5, o6⟩ := h
  obtain ⟨n1, hn1⟩ : ∃ n, cntL (cntL cntLabel) x.yard.config.nodes = n := ⟨_, rfl⟩
  have N1 := Lib.hid hn1
  obtain ⟨n2, hn2⟩ : ∃ n, cntL cntPair x.yard.config.pairs = n := ⟨_, rfl⟩
  have N2 := Lib.hid hn2
  obtain ⟨n3, hn3⟩ : ∃ n, cntL cntQuota x.yard.config.quotas = n := ⟨_, rfl⟩
  have N3 := Lib.hid hn3
  obtain ⟨n4, hn4⟩ : ∃ n, cntL cntNode x.yard.nodes = n := ⟨_, rfl⟩
  have N4 := Lib.hid hn4
  obtain ⟨n5, hn5⟩ : ∃ n, cntL cntTask x.yard.tasks = n := ⟨_, rfl⟩
  have N5 := Lib.hid hn5
  obtain ⟨n6, hn6⟩ : ∃ n, cntL cntUse x.yard.uses = n := ⟨_, rfl⟩
  have N6 := Lib.hid hn6
  have hs : (n : Int) = (n1 : Int) + n2 + n3 + n4 + n5 + n6 := by
    rw [← hn, cntsYardOut, hn1, hn2, hn3, hn4, hn5, hn6]; push_cast; omega
  have p1 : Rd (ERow ELabel) S1 w v1 (markL (markL mkLabel cntLabel) (cntL cntLabel) q x.yard.config.nodes) := by
    have h := o1
    simp only [mksYardOut] at h
    exact h
  have O1 := Lib.hid p1
  obtain ⟨A1, c1, rfl, -⟩ := p1.form

  have p2 : Rd EPair S1 w v2 (markL mkPair cntPair (q + (n1 : Int)) x.yard.config.pairs) := by
    have h := o2
    simp only [mksYardOut, hn1] at h
    exact h
  have O2 := Lib.hid p2
  obtain ⟨A2, c2, rfl, -⟩ := p2.form

  have p3 : Rd EQuota S1 w v3 (markL mkQuota cntQuota (q + (n1 : Int) + (n2 : Int)) x.yard.config.quotas) := by
    have h := o3
    simp only [mksYardOut, hn1, hn2] at h
    exact h
  have O3 := Lib.hid p3
  obtain ⟨A3, c3, rfl, -⟩ := p3.form

  have p4 : Rd ENode S1 w v4 (markL mkNode cntNode (q + (n1 : Int) + (n2 : Int) + (n3 : Int)) x.yard.nodes) := by
    have h := o4
    simp only [mksYardOut, hn1, hn2, hn3] at h
    exact h
  have O4 := Lib.hid p4
  obtain ⟨A4, c4, rfl, -⟩ := p4.form

  have p5 : Rd ETask S1 w v5 (markL mkTask cntTask (q + (n1 : Int) + (n2 : Int) + (n3 : Int) + (n4 : Int)) x.yard.tasks) := by
    have h := o5
    simp only [mksYardOut, hn1, hn2, hn3, hn4] at h
    exact h
  have O5 := Lib.hid p5
  obtain ⟨A5, c5, rfl, -⟩ := p5.form

  have p6 : Rd EUse S1 w v6 (markL mkUse cntUse (q + (n1 : Int) + (n2 : Int) + (n3 : Int) + (n4 : Int) + (n5 : Int)) x.yard.uses) := by
    have h := o6
    simp only [mksYardOut, hn1, hn2, hn3, hn4, hn5] at h
    exact h
  have O6 := Lib.hid p6
  obtain ⟨A6, c6, rfl, -⟩ := p6.form

  simp only [markL_length] at O1 O2 O3 O4 O5 O6
  have HS := Lib.hid hs
  have HB0 : Hid ((q + (n1 : Int) + (n2 : Int) + (n3 : Int) + (n4 : Int) + (n5 : Int) + (n6 : Int)) ≤ 1125899906842624) := Lib.hid (by omega)
  have H0 := Lib.hid h0
  have g6 : ¬ (q + (n1 : Int) + (n2 : Int) + (n3 : Int) + (n4 : Int) + (n5 : Int) + (n6 : Int)) < 0 := by omega
  clear o1 o2 o3 o4 o5 o6 p1 p2 p3 p4 p5 p6 hn hn1 hn2 hn3 hn4 hn5 hn6 hs hb h0
  simp only [cellsYardOut, markL_length]
  go_enter Tryz.func22, Tryz.ntmps22
  go_upto_region 1 with (fail)
  obtain ⟨W, B, hW, hB, hx0, b0⟩ : ∃ W B, W = w.alloc (.cells #[.slice A1 x.yard.config.nodes.length c1, .slice A2 x.yard.config.pairs.length c2, .slice A3 x.yard.config.quotas.length c3, .int .i64 (mksYardOut q x).yard.config.half, .slice A4 x.yard.nodes.length c4, .slice A5 x.yard.tasks.length c5, .slice A6 x.yard.uses.length c6, .int .i64 (mksYardOut q x).yard.now, .int .i64 (mksYardOut q x).id, .int .i64 (mksYardOut q x).code] 46) ∧ B = w.heap.size ∧ Ext w W ∧ Blk W B 46 #[.slice A1 x.yard.config.nodes.length c1, .slice A2 x.yard.config.pairs.length c2, .slice A3 x.yard.config.quotas.length c3, .int .i64 (mksYardOut q x).yard.config.half, .slice A4 x.yard.nodes.length c4, .slice A5 x.yard.tasks.length c5, .slice A6 x.yard.uses.length c6, .int .i64 (mksYardOut q x).yard.now, .int .i64 (mksYardOut q x).id, .int .i64 (mksYardOut q x).code] := ⟨_, _, rfl, rfl, (Ext.refl w).alloc _, Blk.new _ _ _⟩
  rw [← hW, ← hB]
  have Q := Lib.hid b0
  have X := Lib.hid hx0
  clear hW hB hx0 b0
  have qa := Q.out.cell
  go_wp2_with (go_at_call 69; (with_reducible refine (heldYard_own (S1 := S1) x.yard _ _ _ _ _ _ _ _ n1 n2 n3 n4 n5 n6 q _ (O1.out.ext X.out) (O2.out.ext X.out) (O3.out.ext X.out) (O4.out.ext X.out) (O5.out.ext X.out) (O6.out.ext X.out) N1.out N2.out N3.out N4.out N5.out N6.out H0.out HB0.out).mono ?_); rintro e w1 ⟨rfl, hx1⟩; have X1 := Lib.hid (X.out.trans hx1); clear hx1 qa)
  go_ret
  exact ⟨ret_int (by rw [HS.out]; omega), X1.out⟩
end Go.Proofs.YtngldifgcgblpaaGreat
namespace Go.Proofs.YtngldifgcgblpaaGreat
theorem cnt_all {α : Type} {n : α → Nat} {c : Nat} : ∀ {l : List α}, (∀ x ∈ l, n x ≤ c) → cntL n l ≤ l.length * c
  | [], _ => by simp [cntL]
  | x :: l, h => by
    have h1 := h x (List.mem_cons_self ..)
    have h2 := cnt_all (n := n) (c := c) (l := l) fun y hy => h y (List.mem_cons_of_mem _ hy)
    simp only [cntL, List.length_cons, Nat.succ_mul]
    omega
end Go.Proofs.YtngldifgcgblpaaGreat

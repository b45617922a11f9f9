/- The walk of the program's BooksPass. -/
import Derived.Test.YtbdicafambkhdaaInsSpan
namespace Go.Proofs.Ytbdicafambkhdaa
open Go.RowKit
attribute [local irreducible] wpQuiet

theorem call_pass1 : ∀ (args : Array Value) (W : World), (callFunc 81 args).run Try.prog W = .ok (.enter 81 args) W := by
  intro args W
  go_simp
set_option maxHeartbeats 2000000 in
theorem pass1_any (x : Span) (now : Int) (cs : List Value) (B : Nat) (w : World) (h : ESpan.rel (fun _ => False) w cs x) (d0 : w.cell? ⟨B, 0, none⟩ = some (.int .i64 now)) :
    Calls Try.prog 81 #[.agg cs.toArray, .pointer (some ⟨B, 0, none⟩)] w fun e w' => e = .returned (.bool (!passed now x)) ∧ Ext w w' := by
  obtain ⟨rfl, _⟩ := h
  have d0' := fun ob : Obj => Ext.some ((Ext.refl w).alloc ob) d0
  simp only [cellsSpan]
  go_enter Try.func81, Try.ntmps81
  go_wp2_with fail
  go_ret
  exact ⟨ret_bool (by unfold passed; rw [← decide_not]; congr 1; simp), (Ext.refl _).alloc _⟩

/-- The first k nodes passed. -/
def passM (now : Int) (l : List Node) (k : Nat) : List Node := (l.take k).map (passNode now) ++ l.drop k
theorem passM_zero (now : Int) (l : List Node) : passM now l 0 = l := by simp [passM]
theorem passM_full (now : Int) (l : List Node) : passM now l l.length = l.map (passNode now) := by simp [passM]
theorem passM_length {now : Int} {l : List Node} {k : Nat} (hk : k ≤ l.length) : (passM now l k).length = l.length := by simp [passM]; omega
theorem passM_nth {now : Int} {l : List Node} {k : Nat} (hk : k < l.length) : nth (passM now l k) k = nth l k := by
  have hlen : ((l.take k).map (passNode now)).length = k := by simp; omega
  have e := nth_append_right (l := (l.take k).map (passNode now)) (m := l.drop k) (k := 0) (by rw [List.length_drop]; omega)
  rw [hlen, Nat.add_zero] at e
  rw [passM, e, nth_eq (by rw [List.length_drop]; omega), nth_eq hk]
  simp
theorem passM_set {now : Int} {l : List Node} {k : Nat} (hk : k < l.length) : (passM now l k).set k (passNode now (nth l k)) = passM now l (k + 1) := by
  have hlen : ((l.take k).map (passNode now)).length = k := by simp; omega
  rw [passM, passM, take_map_succ hk, List.set_append_right _ _ (by omega), hlen, Nat.sub_self, drop_nth hk, List.set_cons_zero, List.append_assoc]
  rfl

set_option maxHeartbeats 8000000 in
set_option maxRecDepth 100000 in
theorem booksPass_any {S : Nat → Prop} (l : List Node) (now : Int) (v : Value) (w : World) (h : Rd ENode S w v l) :
    Calls Try.prog 18 #[v, .int .i64 now] w (RetO ONode 42 (booksPass l now) w) := by
  have HR := Lib.hid h
  obtain ⟨A, c, rfl, h1, h2⟩ := h.form
  unfold maxLen at h2
  clear h
  go_enter Try.func18, Try.ntmps18
  go_upto_region 1 with (fail)
  obtain ⟨W, R, hW, hB, hx0, b0⟩ : ∃ W B, W = w.alloc (.cells #[.int .i64 now] 2) ∧ B = w.heap.size ∧ Ext w W ∧ Blk W B 2 #[.int .i64 now] := ⟨_, _, rfl, rfl, (Ext.refl w).alloc _, Blk.new _ _ _⟩
  rw [← hW, ← hB]
  have R0 := Lib.hid b0
  have X0 := Lib.hid hx0
  clear hW hB hx0 b0
  go_wp2_with fail
  refine (nodesRight_any (S := S) l _ _ (HR.out.ext X0.out)).mono ?_
  rintro e w1 ⟨rfl, hx⟩
  have X1 := Lib.hid (X0.out.trans hx)
  have R1 := Lib.hid (R0.out.ext hx)
  clear hx
  cases ht : nodesRight l with
  | false =>
    have HE : Hid (booksPass l now = []) := Lib.hid (by rw [booksPass, ht]; rfl)
    go_wp2_with fail
    go_ret
    exact ⟨_, [], rfl, by rw [HE.out]; exact OwS.nil _, fun b hb => (by cases hb), X1.out⟩
  | true =>
  have HT := Lib.hid ht
  have HE : Hid (booksPass l now = l.map (passNode now)) := Lib.hid (by rw [booksPass, if_pos ht])
  have HS : Hid (∀ k, k < l.length → (nth l k).books.length ≤ 1000000000) := Lib.hid fun k hk => by have := (nodesRight_books ht hk).1; omega
  have hl := (nodesRight_length ht).2
  rw [HE.out]
  clear ht
  go_wp2_with fail
  refine (copyNodes_any (S := S) l _ _ (HR.out.ext X1.out) (by omega) HS.out).mono ?_
  rintro e w2 ⟨v2, F2, rfl, o2, g2, hx⟩
  obtain ⟨A2, c2, rfl, n2, m2⟩ := o2.form
  unfold maxLen at m2
  have O2 := Lib.hid o2
  have G2 := Lib.hid g2
  have X2 := Lib.hid (X1.out.trans hx)
  have R2 := Lib.hid (R1.out.ext hx)
  have HR1 := Lib.hid R1.out.lt
  have HX1 := Lib.hid X1.out.size
  clear o2 g2 hx
  go_wp2_with fail
  go_loopw [14] (fun i w' => ∃ (k : Nat) (F : List Nat), k ≤ l.length ∧ i = .int .i64 k ∧ OwS ONode 42 w' (.slice A2 l.length c2) (passM now l k) F ∧ (∀ b ∈ F, w1.heap.size ≤ b) ∧ Ext w w' ∧ Blk w' R 2 #[.int .i64 now]) (fun i _ => l.length - (intOf i).toNat)
  case atStart => exact ⟨0, F2, by omega, rfl, by rw [passM_zero]; exact O2.out, G2.out, X2.out, R2.out⟩
  case round =>
    obtain ⟨k, F, hk1, rfl, hown, hF, hx, hr⟩ := hrel
    have HF := Lib.hid hF
    have HX := Lib.hid hx
    have HRr := Lib.hid hr
    by_cases hlt : k < l.length
    · obtain ⟨B, c', G, cs, hv, hlc, hcm, hBF, hBG, hGF, ho, hc, hfz, hth, hrow, hset⟩ := hown.at2 (k := k) (by rw [passM_length hk1]; exact hlt)
      rw [passM_length hk1] at hv
      rw [passM_nth hlt] at ho
      obtain ⟨u1, rfl, hfit, q1⟩ := ho
      injection hv with hA hlen hcc
      clear hlen
      subst hcc
      subst hA
      obtain ⟨p1, k1, rfl, -⟩ := q1.form
      have c0 := hc 0 _ rfl
      have c1 := hc 1 _ rfl
      simp only [ENode, Nat.add_zero] at c0 c1
      have Q1 := Lib.hid q1
      have HC := Lib.hid hc
      have HSET := Lib.hid hset
      have HROW := Lib.hid hrow
      have HTH := Lib.hid hth
      have HFit := Lib.hid hfit
      have HBF := Lib.hid hBF
      have HBG := Lib.hid hBG
      have HGF := Lib.hid hGF
      have HM := Lib.hid (passM_set (now := now) hlt)
      have HRG : Hid (R ∉ G) := Lib.hid fun hb => by have a := HF.out _ (hGF _ hb); have b := HR1.out; omega
      have HRB : Hid (R ≠ B) := Lib.hid fun hb => by have a := HF.out _ hBF; have b := HR1.out; omega
      have HBW := Lib.hid (blk_lt_of hrow)
      have HL4 := Lib.hid (nodesRight_books HT.out hlt).1
      clear hc hset hrow hth hfit hfz hown hBF hBG hGF q1 hlc hcm hx hF hr c0
      go_wp2_with fail
      refine (deleteFunc_Span (nth l k).books (fun x => !passed now x) _ 81 _ G _ Q1.out (by have := HL4.out; omega) call_pass1 (fun cs x w3 hk hr => pass1_any x now cs R w3 hr ((World.cell?_of_block (hk.block _ HRr.out.lt HRG.out)).trans (HRr.out.cell 0)))).mono ?_
      rintro e w3 ⟨v3, F3, rfl, o3, f3, k3⟩
      simp only [Bool.not_not] at o3
      have HN : Hid (∃ F', OwS ONode 42 (w3.setCell ⟨B, k * 2 + 1, none⟩ v3) (.slice (some ⟨B, 0, none⟩) l.length c2) (passM now l (k + 1)) F' ∧ ∀ b ∈ F', b ∈ F ∨ wr.heap.size ≤ b) := Lib.hid (by
        rw [← HM.out]
        have hB3 := (RowBut.kept HROW.out (k3.sub (G := G) fun b _ hb => hb) HBG.out)
        refine HSET.out _ (passNode now (nth l k)) [.int .i64 (nth l k).state, v3] F3 (Kept.setCell (k3.sub fun b _ hb => List.mem_cons_of_mem _ hb) (by simp) _) (RowBut.setCell hB3 (by simp [ENode]) (by simp [ENode]) _) ⟨v3, rfl, HFit.out, ?_⟩ (fun b hb => .inl (f3 b hb)) ?_
        · have e : (passNode now (nth l k)).books = (nth l k).books.filter fun x => passed now x := rfl
          rw [e]
          exact o3.kept (G := [B]) (Kept.setCell (Kept.refl _ _) (by simp) _) (fun b hb => by simp; intro e; exact HBG.out (e ▸ f3 b hb))
        · have hc3 : w3.rangeAt B (k * 2) ([.int .i64 (nth l k).state] ++ [.slice p1 (nth l k).books.length k1]) := fun j u hj => k3.cell HBG.out (HC.out j u hj)
          exact range_back (a := [.int .i64 (nth l k).state]) hc3 (fun j hj => ⟨(by obtain rfl : j = 0 := (by simpa using hj); rw [show k * 2 + [Value.int IntKind.i64 (nth l k).state].length + 0 = k * 2 + 1 from rfl, hc3 1 _ rfl]; rfl), hB3.frozen _⟩))
      have c13 := k3.cell HBG.out c1
      have f13 := (RowBut.kept HROW.out (k3.sub (G := G) fun b _ hb => hb) HBG.out).frozen (k * 2 + 1)
      have X3 : Hid (Ext w (w3.setCell ⟨B, k * 2 + 1, none⟩ v3)) := Lib.hid ((k3.ext HX.out fun b hb => Nat.le_trans HX1.out (HF.out b (HGF.out b hb))).setCell (Nat.le_trans HX1.out (HF.out B HBF.out)) _)
      have R3 : Hid (Blk (w3.setCell ⟨B, k * 2 + 1, none⟩ v3) R 2 #[.int .i64 now]) := Lib.hid (Blk.far ((k3.block _ HRr.out.lt HRG.out).trans HRr.out) HRB.out _)
      obtain ⟨A3, c3, rfl, -⟩ := o3.form
      clear o3 f3 k3 c1
      go_wp2_with fail
      obtain ⟨F', o', f'⟩ := HN.out
      refine ⟨⟨k + 1, F', by omega, by go_num, o', fun b hb => ?_, X3.out, R3.out⟩, by simp [intOf]; omega⟩
      rcases f' b hb with h | h
      · exact HF.out b h
      · have a := HF.out B HBF.out; have c := HBW.out; omega
    · obtain rfl : k = l.length := by omega
      rw [passM_full] at hown
      have HO := Lib.hid hown
      clear hown hr
      go_wp2_with fail
      go_ret
      exact ⟨_, F, rfl, by rw [HE.out]; exact HO.out, fun b hb => Nat.le_trans HX1.out (HF.out b hb), HX.out⟩
end Go.Proofs.Ytbdicafambkhdaa

/- slices.SortFunc at uses: the kit's contract, laid for this seat, told of memory that a slice has for itself. -/
import Derived.Test.YtbdicafambkhdaaInsSpan
import Derived.Test.YtbdicafambkhdaaClones
import Derived.Test.YtbdicafambkhdaaUAddP
import Derived.Test.YtbdicafambkhdaaSortLay
namespace Go.Proofs.Ytbdicafambkhdaa
open Go.RowKit Go.Shelf Go.Lib Go.Sort
attribute [local irreducible] wpQuiet

abbrev FUse := { x : Use // FitUse x }
instance : Inhabited FUse := ⟨⟨⟨⟨0, 0⟩, ⟨#[]⟩, 0⟩, by simp [FitUse, I64, Str]; exact Nat.zero_le _⟩⟩
def encU (x : FUse) : List Value := cellsUse x.1
theorem encU_len (x : FUse) : (encU x).length = 4 := rfl
theorem sortW {w : World} {B n : Nat} {d : Array FUse} {os : Array Obj} {C : Array Value} {T : TypeId} (hB : Blk w B T C) :
    (∃ C' : Array Value, Blk (sortWorldK encU 4 w B 0 n d os) B T C' ∧ C'.size = C.size) ∧ Kept [B] w (sortWorldK encU 4 w B 0 n d os) := by
  have hlt := hB.lt
  have hh : (sortWorldK encU 4 w B 0 n d os).heap = (w.heap.modify B (onCells (putCells id 0 (flatK encU 4 d)))) ++ os := rfl
  refine ⟨⟨putCells id 0 (flatK encU 4 d) C, ?_, by simp [putCells]⟩, rfl, rfl, rfl, by rw [hh]; simp, fun b hb hn => ?_⟩
  · show (sortWorldK encU 4 w B 0 n d os).heap[B]? = _
    rw [hh, Array.getElem?_append_left (by simpa using hlt), Array.getElem?_modify, if_pos rfl, hB]
    rfl
  · rw [hh, Array.getElem?_append_left (by simpa using hb), Array.getElem?_modify, if_neg (fun e => hn (by simp [e]))]
theorem use_own {w : World} {B c : Nat} {C : Array Value} {T : TypeId} {d : Array FUse} (hB : Blk w B T C) (hC : C.size = c * 4) (hd : d.size ≤ c) (hc : c ≤ maxLen) (hH : HoldsK encU 4 w B 0 d) :
    OwS OUse T w (.slice (some ⟨B, 0, none⟩) d.size c) (d.toList.map (·.1)) [B] := by
  have hl : (d.toList.map (fun x : FUse => x.1)).length = d.size := by simp
  refine .inr ⟨B, c, C, List.replicate d.size [], by rw [hl], hB, by rw [hl]; exact hd, hc, hC, by simp, by rw [flat_flatten], by simp, fun k hk => ?_⟩
  rw [hl] at hk
  have e : nth (d.toList.map (fun x : FUse => x.1)) k = (d[k]'hk).1 := by rw [nth_eq (by rw [hl]; exact hk)]; simp
  rw [e]
  refine ⟨cellsUse (d[k]'hk).1, ⟨⟨rfl, (d[k]'hk).2⟩, flat_list (α := Use) hk⟩, fun j u hj => ?_⟩
  have hj4 : j < 4 := (List.getElem?_eq_some_iff.1 hj).1
  have h1 := (hH (k * 4 + j) (by rw [size_flatK]; omega)).1
  rw [Nat.zero_add, get_flatK _ _ _ _ (by omega), show (k * 4 + j) / 4 = k by omega, show (k * 4 + j) % 4 = j by omega, getElem!_pos d k hk] at h1
  rw [show k * EUse.size + j = k * 4 + j from rfl, h1]
  have h2 : (encU (d[k]'hk))[j]? = some u := hj
  obtain ⟨h3, h4⟩ := List.getElem?_eq_some_iff.1 h2
  rw [getElem!_pos (encU (d[k]'hk)) j h3, h4]
  rfl
theorem own_use {w : World} {v : Value} {T : TypeId} {l : List Use} {F : List Nat} (h : OwS OUse T w v l F) (hl : 0 < l.length) :
    ∃ (B c : Nat) (C : Array Value) (d : Array FUse), v = .slice (some ⟨B, 0, none⟩) d.size c ∧ Blk w B T C ∧ C.size = c * 4 ∧ d.size ≤ c ∧ c ≤ maxLen ∧ F = [B] ∧ HoldsK encU 4 w B 0 d ∧ d.toList.map (·.1) = l := by
  obtain ⟨A, c0, hv0, hc0, _⟩ := h.form
  obtain ⟨B0, hB0⟩ : ∃ B0, A = some ⟨B0, 0, none⟩ := by
    rcases h with ⟨rfl, _⟩ | ⟨B, _, _, _, hv, _⟩
    · simp at hl
    · rw [hv] at hv0; injection hv0 with e1; exact ⟨B, e1.symm⟩
  subst hB0
  subst hv0
  have hF := OwS.flat_blocks h (by omega)
  rcases h with ⟨rfl, _⟩ | ⟨B, c, C, Fs, hv, hB, h1, h2, h3, hlF, h4, hn, hk⟩
  · simp at hl
  · injection hv with e1 e2 e3
    cases e1
    subst e3
    have hfit : ∀ x ∈ l, FitUse x := fun x hx => by
      obtain ⟨i, hi, rfl⟩ := List.getElem_of_mem hx
      obtain ⟨cs, ho, _⟩ := hk i hi
      rw [← nth_eq hi]
      exact ho.1.2
    obtain ⟨d, hd⟩ : ∃ d : Array FUse, d.toList.map (·.1) = l := ⟨(l.attach.map fun x => (⟨x.1, hfit x.1 x.2⟩ : FUse)).toArray, by simp⟩
    have hs : d.size = l.length := by rw [← hd]; simp
    refine ⟨_, _, C, d, by rw [hs], hB, h3, by rw [hs]; exact h1, h2, hF, fun t ht => ⟨?_, Blk.frozen (t := T) (cs := C) hB _⟩, hd⟩
    rw [size_flatK] at ht
    have hk' : t / 4 < l.length := by omega
    obtain ⟨cs, ho, hc⟩ := hk _ hk'
    obtain ⟨⟨rfl, _⟩, _⟩ := ho
    have hkd : t / 4 < d.size := by omega
    rw [Nat.zero_add, get_flatK _ _ _ _ ht, getElem!_pos d _ hkd]
    have e : nth l (t / 4) = (d[t / 4]'hkd).1 := by
      rw [nth_eq hk']
      simp only [← hd]
      simp
    rw [e] at hc
    have h5 : t % 4 < (encU (d[t / 4]'hkd)).length := by rw [encU_len]; omega
    have h6 := hc (t % 4) _ (List.getElem?_eq_getElem (l := encU (d[t / 4]'hkd)) h5)
    rw [getElem!_pos (encU (d[t / 4]'hkd)) _ h5]
    rw [show t / 4 * EUse.size + t % 4 = t from by show t / 4 * 4 + t % 4 = t; omega] at h6
    exact h6

theorem swoU : SWO (ltOf fun x y : FUse => cmpUses x.1 y.1) where
  irrefl x := by
    have := lin_uses.self x.1
    simp [ltOf, this]
  trans x y z h1 h2 := by
    simp only [ltOf, decide_eq_true_eq] at *
    exact lin_uses.lt_trans h1 h2
  ntrans x y z h1 h2 := by
    simp only [ltOf, decide_eq_false_iff_not] at *
    have a1 := lin_uses.anti x.1 y.1
    have a2 := lin_uses.anti y.1 z.1
    have a3 := lin_uses.anti x.1 z.1
    have := lin_uses.trans z.1 y.1 x.1 (by omega) (by omega)
    omega
theorem call_cmpUses : ∀ (args : Array Value) (W : World), (callFunc 122 args).run Try.prog W = .ok (.enter 122 args) W := by
  intro args W
  go_simp
theorem isAggU : ∀ w, (isAgg 124).run Try.prog w = .ok true w := by intro w; go_simp
theorem sizeU : ∀ w, (Go.sizeOf 124).run Try.prog w = .ok 4 w := by intro w; go_simp
def RetSort (v : Value) (l : List Use) (F : List Nat) (w : World) (e : Ending) (w' : World) : Prop := e = .returned (.tuple #[]) ∧ ∃ m, OwS OUse 124 w' v m F ∧ m.Perm l ∧ (m.Pairwise fun a b => cmpUses a b ≤ 0) ∧ Kept F w w'
theorem sortUses_any (l : List Use) (v : Value) (F : List Nat) (w : World) (h : OwS OUse 124 w v l F) (hl : 0 < l.length) (hm : l.length ≤ 1000) :
    Calls Try.prog 121 #[v, .func (.func 122) #[] #[]] w (RetSort v l F w) := by
  obtain ⟨B, c, C, d, rfl, hB, hC, hd, hc, rfl, hH, hdl⟩ := own_use h hl
  have hs : d.size = l.length := by rw [← hdl]; simp
  have hcmp : CmpLays Try.prog 122 #[] encU 4 (fun x y : FUse => cmpUses x.1 y.1) B 0 d.size w := fun m os dk _ x y => by
    have := compareUses_gr (S := fun _ => True) (S' := fun _ => True) x.1 y.1 (cellsUse x.1) (cellsUse y.1) (sortWorldK encU 4 w B 0 m dk os) ⟨rfl, x.2⟩ ⟨rfl, y.2⟩
    exact this
  have hcon := AnyQ.slices_SortFunc Try.sortUse 4 isAggU sizeU encU encU_len (fun x u hu => by simp [encU, cellsUse] at hu; rcases hu with rfl | rfl | rfl | rfl <;> rfl) (fun x y : FUse => cmpUses x.1 y.1) swoU 122 #[] B 0 c d w call_cmpUses hcmp hH hB.lt (by omega)
  refine Calls.mono (show Calls Try.prog 121 _ _ _ from hcon) ?_
  rintro e w' ⟨rfl, d', n, os, ⟨hz, _, hp⟩, hso, rfl⟩
  obtain ⟨⟨C', hB', hC'⟩, hk⟩ := sortW (n := n) (d := d') (os := os) hB
  have hH' := holdsK_sortWorldK_c encU 4 w B 0 d d' n os hH hB.lt hz
  have ho := use_own hB' (by rw [hC', hC]) (by rw [hz]; exact hd) hc hH'
  rw [hz] at ho
  refine ⟨rfl, d'.toList.map (·.1), ho, ?_, ?_, hk⟩
  · have e1 : d'.extract 0 d.size = d' := by rw [← hz]; simp
    have e2 : d.extract 0 d.size = d := by simp
    rw [e1, e2] at hp
    have := hp.map (fun x : FUse => x.1)
    rwa [hdl] at this
  · rw [List.pairwise_map, List.pairwise_iff_getElem]
    intro i j hi hj hij
    have hj' : j < d'.size := by simpa using hj
    have h1 := hso i j (Nat.zero_le _) hij (by omega)
    rw [getElem!_pos d' i (by omega), getElem!_pos d' j hj'] at h1
    simp only [ltOf, decide_eq_false_iff_not] at h1
    have h2 := lin_uses.anti (d'[i]'(by omega)).1 (d'[j]'hj').1
    simp only [Array.getElem_toList]
    omega
end Go.Proofs.Ytbdicafambkhdaa

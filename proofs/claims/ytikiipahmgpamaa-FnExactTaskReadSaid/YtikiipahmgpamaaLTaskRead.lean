/- The law FnExactTaskRead: the program's TaskRead and the reference's are equal; its row. Printed by wip/law.py. -/
import Derived.Test.YtikiipahmgpamaaKTaskRead
import Derived.Test.YtikiipahmgpamaaReadI
import Derived.Test.YtikiipahmgpamaaReadS
import Derived.Test.YtikiipahmgpamaaReadB
import Derived.Test.YtikiipahmgpamaaGMarkS
import Derived.Test.YtikiipahmgpamaaGTo
import Derived.Test.YtikiipahmgpamaaGToO
import Derived.Test.YtikiipahmgpamaaGMarkT
import Derived.Test.YtikiipahmgpamaaGHeldT
import Derived.Test.YtikiipahmgpamaaBox4
import Derived.Test.YtikiipahmgpamaaGEq
import Derived.Test.YtikiipahmgpamaaGSz
import Derived.Test.YtikiipahmgpamaaGOpen
import Derived.Deep.RegionHeld3
import Derived.ChangeMaps5
namespace Go.Proofs.Ytikiipahmgpamaa
open Go.ChangeShapes Go.WideShapes Go.ChangeAt Go.RowKit Go.ChangeMaps
attribute [local irreducible] wpQuiet

set_option maxHeartbeats 64000000 in
set_option maxRecDepth 100000 in
theorem fnExactTaskRead_walk (tx : ByteArray) (num : Int) (w : World) (itx : Str tx) (inum : I64 num) :
    Calls Try.prog 4 #[.string tx, .int .i64 num] w fun e w' => e = .returned (.bool true) ∧ Ext w w' := by
  have h0 : (0 : Int) ≤ 1048576 := by decide
  have S_tx := Lib.hid itx
  have z_tx := S_tx.out
  unfold Str maxLen at z_tx
  clear itx
  have I_num := Lib.hid inum
  clear inum
  obtain ⟨V, hLET⟩ : ∃ v, v = taskRead tx num := ⟨_, rfl⟩
  have HLET := Lib.hid hLET
  clear hLET
  have HI_BOX : Hid ((Try.prog.info? 44).map (·.size) = some 16) := Lib.hid (by kernel_rfl)
  go_enter Try.func4, Try.ntmps4
  go_upto_region 1 with (fail)
  by_cases hz_tx : 1048576 < tx.size
  · go_wp2_with fail
    go_ret
    exact ⟨rfl, (Ext.refl _)⟩
  have ht_tx : tx.size ≤ 1048576 := by omega
  clear hz_tx
  go_upto_region 3 with (fail)
  go_cut [5] (fun p wx => ∃ (B : Nat) (cs : List Value) (F : List Nat), p = .pointer (some ⟨B, 0, none⟩) ∧ (∀ b ∈ F, w.heap.size ≤ b) ∧ Blk wx B 44 cs.toArray ∧ OTaskOut.own wx cs (V) F ∧ B ∉ F ∧ w.heap.size ≤ B ∧ Ext w wx)
  case first =>
    have hxr := Ext.refl w
    go_wp2_with (first | (go_at_call 19; (with_reducible refine (specTaskRead_at tx num _ I_num.out S_tx.out HLET.out).mono ?_); rintro e w11 ⟨csS, FS, rfl, oS, gS, hx1⟩; have LS := ETaskOut.len (OTaskOut.rel oS); have O1 := ETaskOut.one (OTaskOut.rel oS); simp only [ETaskOut] at LS; have OS := Lib.hid oS; have XTS : Hid (Ext w w11) := Lib.hid (Ext.trans (by assumption) hx1); have GXS : Hid (∀ b ∈ FS, w.heap.size ≤ b) := Lib.hid (fun b hb => Nat.le_trans (Ext.size (by assumption)) (gS b hb)); (first | ((first | (with_reducible have bxx := box_new3 (bw := w) hx1 (by repeat (first | with_reducible assumption | with_reducible exact Ext.refl _ | with_reducible refine Ext.alloc ?_ _ | with_reducible refine Ext.drew ?_))) | (with_reducible have bxx := box_new4 (bw := w) hx1 (by repeat (first | with_reducible assumption | with_reducible exact Ext.refl _ | with_reducible refine Ext.alloc ?_ _ | with_reducible refine Ext.drew ?_)))); (try simp only [drew_size] at bxx); obtain ⟨bx, bh, bl⟩ := bxx; have NB := Lib.hid (fun b hb => Nat.lt_of_lt_of_le bl (gS b hb)); have BX := Lib.hid bx; have BH := Lib.hid bh; clear bx bh bl; have hst := store_shut (P := Try.prog) (n := 16) LS O1 _ _ (BX.out.there)) | (have NB := Lib.hid (fun b hb => Nat.lt_of_lt_of_le BX.out.lt (gS b hb)); (with_reducible have bx := Blk.ext BX.out hx1); have BX := Lib.hid bx; clear bx; have hst := store_shut (P := Try.prog) (n := 16) LS O1 _ _ (BX.out.there)) | (have hst := fun (C : Array Value) (T : TypeId) (h : C.size = 16) => store_shut (P := Try.prog) LS O1 _ _ (there_alloc (V := w11) (T := T) h))); clear gS O1 oS))
    all_goals (go_meet; first
      | exact ⟨_, csS, FS, rfl, GXS.out, box_pre BX.out (by rw [LS]; rfl) OS.out BH.out NB.out XTS.out⟩
      | exact ⟨_, csS, FS, rfl, GXS.out, box_post (by rw [LS]; rfl) OS.out XTS.out⟩)
  case rest =>
    generalize wc = WBS at hcut ⊢
    obtain ⟨BS, csS, FS, rfl, hg, hbx, ⟨uS, rfl, hft, ho⟩, hnb, hb, hx⟩ := hcut
    obtain ⟨AS, cS, rfl, -⟩ := OwS.form ho
    have Q_S : Hid (Blk WBS BS 44 #[.int .i64 (V).task.label.level, .int .i64 (V).task.label.set, .int .i64 (V).task.id, .string (V).task.owner, .int .i64 (V).task.need, .int .i64 (V).task.long, .int .i64 (V).task.prio, .int .i64 (V).task.under.level, .int .i64 (V).task.under.set, .int .i64 (V).task.after, .int .i64 (V).task.born, .int .i64 (V).task.state, .int .i64 (V).task.start, .slice AS (V).task.nodes.length cS, .int .i64 (V).at_, .int .i64 (V).code]) := Lib.hid hbx
    have OS := Lib.hid ho
    have FTS := Lib.hid hft
    have GES := Lib.hid hg
    have HB_S := Lib.hid hb
    have NBS := Lib.hid hnb
    have X0 := Lib.hid hx
    clear hbx ho hft hg hb hnb hx
    go_upto_region 4 with (fail)
    go_cut [6] (fun p wx => ∃ (B : Nat) (cs : List Value) (F : List Nat), p = .pointer (some ⟨B, 0, none⟩) ∧ (∀ b ∈ F, WBS.heap.size ≤ b) ∧ Blk wx B 44 cs.toArray ∧ OTaskOut.own wx cs (V) F ∧ B ∉ F ∧ WBS.heap.size ≤ B ∧ Ext WBS wx)
    case first =>
      have al_S : ∀ V, Ext WBS V → ∀ i, V.cell? ⟨BS, i, none⟩ = _ := fun V hx => (Q_S.out.ext hx).cell
      have hxr := Ext.refl WBS
      go_wp2_with (first | (go_at_call 20; (with_reducible refine (taskRead_at tx num _ I_num.out S_tx.out HLET.out).mono ?_); rintro e w12 ⟨csG, FG, rfl, oG, gG, hx2⟩; have LS := ETaskOut.len (OTaskOut.rel oG); have O1 := ETaskOut.one (OTaskOut.rel oG); simp only [ETaskOut] at LS; have OG := Lib.hid oG; have XTG : Hid (Ext WBS w12) := Lib.hid (Ext.trans (by assumption) hx2); have GXG : Hid (∀ b ∈ FG, WBS.heap.size ≤ b) := Lib.hid (fun b hb => Nat.le_trans (Ext.size (by assumption)) (gG b hb)); (first | ((first | (with_reducible have bxx := box_new3 (bw := WBS) hx2 (by repeat (first | with_reducible assumption | with_reducible exact Ext.refl _ | with_reducible refine Ext.alloc ?_ _ | with_reducible refine Ext.drew ?_))) | (with_reducible have bxx := box_new4 (bw := WBS) hx2 (by repeat (first | with_reducible assumption | with_reducible exact Ext.refl _ | with_reducible refine Ext.alloc ?_ _ | with_reducible refine Ext.drew ?_)))); (try simp only [drew_size] at bxx); obtain ⟨bx, bh, bl⟩ := bxx; have NB := Lib.hid (fun b hb => Nat.lt_of_lt_of_le bl (gG b hb)); have BX := Lib.hid bx; have BH := Lib.hid bh; clear bx bh bl; have hst := store_shut (P := Try.prog) (n := 16) LS O1 _ _ (BX.out.there)) | (have NB := Lib.hid (fun b hb => Nat.lt_of_lt_of_le BX.out.lt (gG b hb)); (with_reducible have bx := Blk.ext BX.out hx2); have BX := Lib.hid bx; clear bx; have hst := store_shut (P := Try.prog) (n := 16) LS O1 _ _ (BX.out.there)) | (have hst := fun (C : Array Value) (T : TypeId) (h : C.size = 16) => store_shut (P := Try.prog) LS O1 _ _ (there_alloc (V := w12) (T := T) h))); clear gG O1 oG))
      all_goals clear al_S
      all_goals (go_meet; first
        | exact ⟨_, csG, FG, rfl, GXG.out, box_pre BX.out (by rw [LS]; rfl) OG.out BH.out NB.out XTG.out⟩
        | exact ⟨_, csG, FG, rfl, GXG.out, box_post (by rw [LS]; rfl) OG.out XTG.out⟩)
    case rest =>
      generalize wc = WBG at hcut ⊢
      obtain ⟨BG, csG, FG, rfl, hg, hbx, ⟨uG, rfl, hft, ho⟩, hnb, hb, hx⟩ := hcut
      obtain ⟨AG, cG, rfl, -⟩ := OwS.form ho
      have Q_G : Hid (Blk WBG BG 44 #[.int .i64 (V).task.label.level, .int .i64 (V).task.label.set, .int .i64 (V).task.id, .string (V).task.owner, .int .i64 (V).task.need, .int .i64 (V).task.long, .int .i64 (V).task.prio, .int .i64 (V).task.under.level, .int .i64 (V).task.under.set, .int .i64 (V).task.after, .int .i64 (V).task.born, .int .i64 (V).task.state, .int .i64 (V).task.start, .slice AG (V).task.nodes.length cG, .int .i64 (V).at_, .int .i64 (V).code]) := Lib.hid hbx
      have OG := Lib.hid ho
      have FTG := Lib.hid hft
      have GEG := Lib.hid hg
      have HB_G := Lib.hid hb
      have NBG := Lib.hid hnb
      have X1 := Lib.hid hx
      clear hbx ho hft hg hb hnb hx
      have rc_S : Hid (World.rangeAt WBG BS 0 [.int .i64 (V).task.label.level, .int .i64 (V).task.label.set, .int .i64 (V).task.id, .string (V).task.owner, .int .i64 (V).task.need, .int .i64 (V).task.long, .int .i64 (V).task.prio, .int .i64 (V).task.under.level, .int .i64 (V).task.under.set, .int .i64 (V).task.after, .int .i64 (V).task.born, .int .i64 (V).task.state, .int .i64 (V).task.start, .slice AS (V).task.nodes.length cS, .int .i64 (V).at_, .int .i64 (V).code]) := Lib.hid (Blk.range (Q_S.out.ext (X1.out)))
      have rc_G : Hid (World.rangeAt WBG BG 0 [.int .i64 (V).task.label.level, .int .i64 (V).task.label.set, .int .i64 (V).task.id, .string (V).task.owner, .int .i64 (V).task.need, .int .i64 (V).task.long, .int .i64 (V).task.prio, .int .i64 (V).task.under.level, .int .i64 (V).task.under.set, .int .i64 (V).task.after, .int .i64 (V).task.born, .int .i64 (V).task.state, .int .i64 (V).task.start, .slice AG (V).task.nodes.length cG, .int .i64 (V).at_, .int .i64 (V).code]) := Lib.hid (Blk.range (Q_G.out.ext (Ext.refl _)))
      go_wp2_with (first | (refine wpList_load_mid rfl 44 _ rfl BS 0 rfl [.int .i64 (V).task.label.level, .int .i64 (V).task.label.set, .int .i64 (V).task.id, .string (V).task.owner, .int .i64 (V).task.need, .int .i64 (V).task.long, .int .i64 (V).task.prio, .int .i64 (V).task.under.level, .int .i64 (V).task.under.set, .int .i64 (V).task.after, .int .i64 (V).task.born, .int .i64 (V).task.state, .int .i64 (V).task.start, .slice AS (V).task.nodes.length cS, .int .i64 (V).at_, .int .i64 (V).code] _ rc_S.out Try.underlying44 rfl HI_BOX.out ?_) | (refine wpList_load_mid rfl 44 _ rfl BG 0 rfl [.int .i64 (V).task.label.level, .int .i64 (V).task.label.set, .int .i64 (V).task.id, .string (V).task.owner, .int .i64 (V).task.need, .int .i64 (V).task.long, .int .i64 (V).task.prio, .int .i64 (V).task.under.level, .int .i64 (V).task.under.set, .int .i64 (V).task.after, .int .i64 (V).task.born, .int .i64 (V).task.state, .int .i64 (V).task.start, .slice AG (V).task.nodes.length cG, .int .i64 (V).at_, .int .i64 (V).code] _ rc_G.out Try.underlying44 rfl HI_BOX.out ?_))
      refine (eqTaskOut_any (V) (V) _ _ _ (rel_TaskOut FTG.out (OwS.rd (OG.out))) (rel_TaskOut FTS.out (OwS.rd ((OS.out.ext (X1.out)))))).mono ?_
      rintro e w13 ⟨rfl, hx⟩
      have X2 := Lib.hid hx
      clear hx rc_S rc_G
      have LS := Lib.hid OS.out.lt
      have LG := Lib.hid OG.out.lt
      have DS_G : Hid (∀ b ∈ FS, b ∉ FG) := Lib.hid (fun b h1 h2 => absurd (Nat.lt_of_lt_of_le (LS.out b h1) (Ext.size (Ext.refl _))) (Nat.not_lt.2 (GEG.out b h2)))
      have DG_S : Hid (∀ b ∈ FG, b ∉ FS) := Lib.hid (fun b h1 h2 => absurd (Nat.lt_of_lt_of_le (LS.out b h2) (Ext.size (Ext.refl _))) (Nat.not_lt.2 (GEG.out b h1)))
      have GZS : Hid (∀ b ∈ FS, w.heap.size ≤ b) := Lib.hid (fun b hb => Nat.le_trans (Ext.size (Ext.refl _)) (GES.out b hb))
      have GZG : Hid (∀ b ∈ FG, w.heap.size ≤ b) := Lib.hid (fun b hb => Nat.le_trans (Ext.size X0.out) (GEG.out b hb))
      have NS_S : Hid (BS ∉ FS) := NBS
      have NS_G : Hid (BS ∉ FG) := Lib.hid (fun hb => absurd (Nat.lt_of_lt_of_le Q_S.out.lt (Ext.size (Ext.refl _))) (Nat.not_lt.2 (GEG.out _ hb)))
      have NG_S : Hid (BG ∉ FS) := Lib.hid (fun hb => absurd (Nat.lt_of_lt_of_le (LS.out _ hb) (Ext.size (Ext.refl _))) (Nat.not_lt.2 HB_G.out))
      have NG_G : Hid (BG ∉ FG) := NBG
      have BND : Hid (1 + ((cntL cntInt V.task.nodes : Nat) : Int) ≤ 1125899906842624) := Lib.hid (taskRead_bound_at HLET.out)
      have hc_R := Int.natCast_nonneg (cntL cntInt ((V).task.nodes))
      have rc_S : Hid (World.rangeAt w13 BS 0 [.int .i64 (V).task.label.level, .int .i64 (V).task.label.set, .int .i64 (V).task.id, .string (V).task.owner, .int .i64 (V).task.need, .int .i64 (V).task.long, .int .i64 (V).task.prio, .int .i64 (V).task.under.level, .int .i64 (V).task.under.set, .int .i64 (V).task.after, .int .i64 (V).task.born, .int .i64 (V).task.state, .int .i64 (V).task.start, .slice AS (V).task.nodes.length cS, .int .i64 (V).at_, .int .i64 (V).code]) := Lib.hid (Blk.range (Q_S.out.ext (X1.out.trans X2.out)))
      have rc_G : Hid (World.rangeAt w13 BG 0 [.int .i64 (V).task.label.level, .int .i64 (V).task.label.set, .int .i64 (V).task.id, .string (V).task.owner, .int .i64 (V).task.need, .int .i64 (V).task.long, .int .i64 (V).task.prio, .int .i64 (V).task.under.level, .int .i64 (V).task.under.set, .int .i64 (V).task.after, .int .i64 (V).task.born, .int .i64 (V).task.state, .int .i64 (V).task.start, .slice AG (V).task.nodes.length cG, .int .i64 (V).at_, .int .i64 (V).code]) := Lib.hid (Blk.range (Q_G.out.ext (X2.out)))
      go_wp2_with (first | (refine wpList_load_mid rfl 44 _ rfl BS 0 rfl [.int .i64 (V).task.label.level, .int .i64 (V).task.label.set, .int .i64 (V).task.id, .string (V).task.owner, .int .i64 (V).task.need, .int .i64 (V).task.long, .int .i64 (V).task.prio, .int .i64 (V).task.under.level, .int .i64 (V).task.under.set, .int .i64 (V).task.after, .int .i64 (V).task.born, .int .i64 (V).task.state, .int .i64 (V).task.start, .slice AS (V).task.nodes.length cS, .int .i64 (V).at_, .int .i64 (V).code] _ rc_S.out Try.underlying44 rfl HI_BOX.out ?_) | (refine wpList_load_mid rfl 44 _ rfl BG 0 rfl [.int .i64 (V).task.label.level, .int .i64 (V).task.label.set, .int .i64 (V).task.id, .string (V).task.owner, .int .i64 (V).task.need, .int .i64 (V).task.long, .int .i64 (V).task.prio, .int .i64 (V).task.under.level, .int .i64 (V).task.under.set, .int .i64 (V).task.after, .int .i64 (V).task.born, .int .i64 (V).task.state, .int .i64 (V).task.start, .slice AG (V).task.nodes.length cG, .int .i64 (V).at_, .int .i64 (V).code] _ rc_G.out Try.underlying44 rfl HI_BOX.out ?_))
      refine (markTaskOut_any (V) _ FG _ _ (OG.out.ext (X2.out)) (by omega) (by have := BND.out; omega)).mono ?_
      rintro e w14 ⟨rfl, om, km⟩
      have K3 := Lib.hid km
      have OM := Lib.hid om
      clear om km rc_S rc_G
      replace OS := Lib.hid (OwS.kept (OS.out.ext (X1.out.trans X2.out)) K3.out DS_G.out)
      have Z4 : Hid (Ext w w14) := Lib.hid (Kept.ext (X0.out.trans (X1.out.trans X2.out)) K3.out GZG.out)
      replace Q_S : Hid (Blk w14 BS 44 #[.int .i64 (V).task.label.level, .int .i64 (V).task.label.set, .int .i64 (V).task.id, .string (V).task.owner, .int .i64 (V).task.need, .int .i64 (V).task.long, .int .i64 (V).task.prio, .int .i64 (V).task.under.level, .int .i64 (V).task.under.set, .int .i64 (V).task.after, .int .i64 (V).task.born, .int .i64 (V).task.state, .int .i64 (V).task.start, .slice AS (V).task.nodes.length cS, .int .i64 (V).at_, .int .i64 (V).code]) := Lib.hid ((K3.out.block _ (Blk.lt (Q_S.out.ext (X1.out.trans X2.out))) NS_G.out).trans (Q_S.out.ext (X1.out.trans X2.out)))
      replace Q_G : Hid (Blk w14 BG 44 #[.int .i64 (V).task.label.level, .int .i64 (V).task.label.set, .int .i64 (V).task.id, .string (V).task.owner, .int .i64 (V).task.need, .int .i64 (V).task.long, .int .i64 (V).task.prio, .int .i64 (V).task.under.level, .int .i64 (V).task.under.set, .int .i64 (V).task.after, .int .i64 (V).task.born, .int .i64 (V).task.state, .int .i64 (V).task.start, .slice AG (V).task.nodes.length cG, .int .i64 (V).at_, .int .i64 (V).code]) := Lib.hid ((K3.out.block _ (Blk.lt (Q_G.out.ext (X2.out))) NG_G.out).trans (Q_G.out.ext (X2.out)))
      replace OG := OM
      clear OM
      have rc_S : Hid (World.rangeAt w14 BS 0 [.int .i64 (V).task.label.level, .int .i64 (V).task.label.set, .int .i64 (V).task.id, .string (V).task.owner, .int .i64 (V).task.need, .int .i64 (V).task.long, .int .i64 (V).task.prio, .int .i64 (V).task.under.level, .int .i64 (V).task.under.set, .int .i64 (V).task.after, .int .i64 (V).task.born, .int .i64 (V).task.state, .int .i64 (V).task.start, .slice AS (V).task.nodes.length cS, .int .i64 (V).at_, .int .i64 (V).code]) := Lib.hid (Blk.range (Q_S.out.ext (Ext.refl _)))
      have rc_G : Hid (World.rangeAt w14 BG 0 [.int .i64 (V).task.label.level, .int .i64 (V).task.label.set, .int .i64 (V).task.id, .string (V).task.owner, .int .i64 (V).task.need, .int .i64 (V).task.long, .int .i64 (V).task.prio, .int .i64 (V).task.under.level, .int .i64 (V).task.under.set, .int .i64 (V).task.after, .int .i64 (V).task.born, .int .i64 (V).task.state, .int .i64 (V).task.start, .slice AG (V).task.nodes.length cG, .int .i64 (V).at_, .int .i64 (V).code]) := Lib.hid (Blk.range (Q_G.out.ext (Ext.refl _)))
      go_wp2_with (first | (refine wpList_load_mid rfl 44 _ rfl BS 0 rfl [.int .i64 (V).task.label.level, .int .i64 (V).task.label.set, .int .i64 (V).task.id, .string (V).task.owner, .int .i64 (V).task.need, .int .i64 (V).task.long, .int .i64 (V).task.prio, .int .i64 (V).task.under.level, .int .i64 (V).task.under.set, .int .i64 (V).task.after, .int .i64 (V).task.born, .int .i64 (V).task.state, .int .i64 (V).task.start, .slice AS (V).task.nodes.length cS, .int .i64 (V).at_, .int .i64 (V).code] _ rc_S.out Try.underlying44 rfl HI_BOX.out ?_) | (refine wpList_load_mid rfl 44 _ rfl BG 0 rfl [.int .i64 (V).task.label.level, .int .i64 (V).task.label.set, .int .i64 (V).task.id, .string (V).task.owner, .int .i64 (V).task.need, .int .i64 (V).task.long, .int .i64 (V).task.prio, .int .i64 (V).task.under.level, .int .i64 (V).task.under.set, .int .i64 (V).task.after, .int .i64 (V).task.born, .int .i64 (V).task.state, .int .i64 (V).task.start, .slice AG (V).task.nodes.length cG, .int .i64 (V).at_, .int .i64 (V).code] _ rc_G.out Try.underlying44 rfl HI_BOX.out ?_))
      refine (heldTaskOut_any (S := fun b => b ∈ FG) (V) _ 1 _ (OwS.rd (OG.out)) (by omega) (by have := BND.out; omega)).mono ?_
      rintro e w15 ⟨rfl, hx⟩
      have X4 := Lib.hid hx
      clear hx rc_S rc_G
      go_upto_region 15 with (fail)
      go_cut [9] (fun p wx => ∃ (B : Nat) (cs : List Value) (F : List Nat), p = .pointer (some ⟨B, 0, none⟩) ∧ (∀ b ∈ F, w15.heap.size ≤ b) ∧ Blk wx B 44 cs.toArray ∧ OTaskOut.own wx cs (V) F ∧ B ∉ F ∧ w15.heap.size ≤ B ∧ Ext w15 wx)
      case first =>
        have al_S : ∀ V, Ext w15 V → ∀ i, V.cell? ⟨BS, i, none⟩ = _ := fun V hx => (Q_S.out.ext (X4.out.trans hx)).cell
        have al_G : ∀ V, Ext w15 V → ∀ i, V.cell? ⟨BG, i, none⟩ = _ := fun V hx => (Q_G.out.ext (X4.out.trans hx)).cell
        have hxr := Ext.refl w15
        go_wp2_with (first | (go_at_call 20; (with_reducible refine (taskRead_at tx num _ I_num.out S_tx.out HLET.out).mono ?_); rintro e w16 ⟨csH, FH, rfl, oH, gH, hx3⟩; have LS := ETaskOut.len (OTaskOut.rel oH); have O1 := ETaskOut.one (OTaskOut.rel oH); simp only [ETaskOut] at LS; have OH := Lib.hid oH; have XTH : Hid (Ext w15 w16) := Lib.hid (Ext.trans (by assumption) hx3); have GXH : Hid (∀ b ∈ FH, w15.heap.size ≤ b) := Lib.hid (fun b hb => Nat.le_trans (Ext.size (by assumption)) (gH b hb)); (first | ((first | (with_reducible have bxx := box_new3 (bw := w15) hx3 (by repeat (first | with_reducible assumption | with_reducible exact Ext.refl _ | with_reducible refine Ext.alloc ?_ _ | with_reducible refine Ext.drew ?_))) | (with_reducible have bxx := box_new4 (bw := w15) hx3 (by repeat (first | with_reducible assumption | with_reducible exact Ext.refl _ | with_reducible refine Ext.alloc ?_ _ | with_reducible refine Ext.drew ?_)))); (try simp only [drew_size] at bxx); obtain ⟨bx, bh, bl⟩ := bxx; have NB := Lib.hid (fun b hb => Nat.lt_of_lt_of_le bl (gH b hb)); have BX := Lib.hid bx; have BH := Lib.hid bh; clear bx bh bl; have hst := store_shut (P := Try.prog) (n := 16) LS O1 _ _ (BX.out.there)) | (have NB := Lib.hid (fun b hb => Nat.lt_of_lt_of_le BX.out.lt (gH b hb)); (with_reducible have bx := Blk.ext BX.out hx3); have BX := Lib.hid bx; clear bx; have hst := store_shut (P := Try.prog) (n := 16) LS O1 _ _ (BX.out.there)) | (have hst := fun (C : Array Value) (T : TypeId) (h : C.size = 16) => store_shut (P := Try.prog) LS O1 _ _ (there_alloc (V := w16) (T := T) h))); clear gH O1 oH))
        all_goals clear al_S al_G
        all_goals (go_meet; first
          | exact ⟨_, csH, FH, rfl, GXH.out, box_pre BX.out (by rw [LS]; rfl) OH.out BH.out NB.out XTH.out⟩
          | exact ⟨_, csH, FH, rfl, GXH.out, box_post (by rw [LS]; rfl) OH.out XTH.out⟩)
      case rest =>
        generalize wc = WBH at hcut ⊢
        obtain ⟨BH, csH, FH, rfl, hg, hbx, ⟨uH, rfl, hft, ho⟩, hnb, hb, hx⟩ := hcut
        obtain ⟨AH, cH, rfl, -⟩ := OwS.form ho
        have Q_H : Hid (Blk WBH BH 44 #[.int .i64 (V).task.label.level, .int .i64 (V).task.label.set, .int .i64 (V).task.id, .string (V).task.owner, .int .i64 (V).task.need, .int .i64 (V).task.long, .int .i64 (V).task.prio, .int .i64 (V).task.under.level, .int .i64 (V).task.under.set, .int .i64 (V).task.after, .int .i64 (V).task.born, .int .i64 (V).task.state, .int .i64 (V).task.start, .slice AH (V).task.nodes.length cH, .int .i64 (V).at_, .int .i64 (V).code]) := Lib.hid hbx
        have OH := Lib.hid ho
        have FTH := Lib.hid hft
        have GEH := Lib.hid hg
        have HB_H := Lib.hid hb
        have NBH := Lib.hid hnb
        have X5 := Lib.hid hx
        clear hbx ho hft hg hb hnb hx
        have rc_S : Hid (World.rangeAt WBH BS 0 [.int .i64 (V).task.label.level, .int .i64 (V).task.label.set, .int .i64 (V).task.id, .string (V).task.owner, .int .i64 (V).task.need, .int .i64 (V).task.long, .int .i64 (V).task.prio, .int .i64 (V).task.under.level, .int .i64 (V).task.under.set, .int .i64 (V).task.after, .int .i64 (V).task.born, .int .i64 (V).task.state, .int .i64 (V).task.start, .slice AS (V).task.nodes.length cS, .int .i64 (V).at_, .int .i64 (V).code]) := Lib.hid (Blk.range (Q_S.out.ext (X4.out.trans X5.out)))
        have rc_G : Hid (World.rangeAt WBH BG 0 [.int .i64 (V).task.label.level, .int .i64 (V).task.label.set, .int .i64 (V).task.id, .string (V).task.owner, .int .i64 (V).task.need, .int .i64 (V).task.long, .int .i64 (V).task.prio, .int .i64 (V).task.under.level, .int .i64 (V).task.under.set, .int .i64 (V).task.after, .int .i64 (V).task.born, .int .i64 (V).task.state, .int .i64 (V).task.start, .slice AG (V).task.nodes.length cG, .int .i64 (V).at_, .int .i64 (V).code]) := Lib.hid (Blk.range (Q_G.out.ext (X4.out.trans X5.out)))
        have rc_H : Hid (World.rangeAt WBH BH 0 [.int .i64 (V).task.label.level, .int .i64 (V).task.label.set, .int .i64 (V).task.id, .string (V).task.owner, .int .i64 (V).task.need, .int .i64 (V).task.long, .int .i64 (V).task.prio, .int .i64 (V).task.under.level, .int .i64 (V).task.under.set, .int .i64 (V).task.after, .int .i64 (V).task.born, .int .i64 (V).task.state, .int .i64 (V).task.start, .slice AH (V).task.nodes.length cH, .int .i64 (V).at_, .int .i64 (V).code]) := Lib.hid (Blk.range (Q_H.out.ext (Ext.refl _)))
        go_wp2_with (first | (refine wpList_load_mid rfl 44 _ rfl BS 0 rfl [.int .i64 (V).task.label.level, .int .i64 (V).task.label.set, .int .i64 (V).task.id, .string (V).task.owner, .int .i64 (V).task.need, .int .i64 (V).task.long, .int .i64 (V).task.prio, .int .i64 (V).task.under.level, .int .i64 (V).task.under.set, .int .i64 (V).task.after, .int .i64 (V).task.born, .int .i64 (V).task.state, .int .i64 (V).task.start, .slice AS (V).task.nodes.length cS, .int .i64 (V).at_, .int .i64 (V).code] _ rc_S.out Try.underlying44 rfl HI_BOX.out ?_) | (refine wpList_load_mid rfl 44 _ rfl BG 0 rfl [.int .i64 (V).task.label.level, .int .i64 (V).task.label.set, .int .i64 (V).task.id, .string (V).task.owner, .int .i64 (V).task.need, .int .i64 (V).task.long, .int .i64 (V).task.prio, .int .i64 (V).task.under.level, .int .i64 (V).task.under.set, .int .i64 (V).task.after, .int .i64 (V).task.born, .int .i64 (V).task.state, .int .i64 (V).task.start, .slice AG (V).task.nodes.length cG, .int .i64 (V).at_, .int .i64 (V).code] _ rc_G.out Try.underlying44 rfl HI_BOX.out ?_) | (refine wpList_load_mid rfl 44 _ rfl BH 0 rfl [.int .i64 (V).task.label.level, .int .i64 (V).task.label.set, .int .i64 (V).task.id, .string (V).task.owner, .int .i64 (V).task.need, .int .i64 (V).task.long, .int .i64 (V).task.prio, .int .i64 (V).task.under.level, .int .i64 (V).task.under.set, .int .i64 (V).task.after, .int .i64 (V).task.born, .int .i64 (V).task.state, .int .i64 (V).task.start, .slice AH (V).task.nodes.length cH, .int .i64 (V).at_, .int .i64 (V).code] _ rc_H.out Try.underlying44 rfl HI_BOX.out ?_))
        refine (eqTaskOut_any (V) (V) _ _ _ (rel_TaskOut FTH.out (OwS.rd (OH.out))) (rel_TaskOut FTS.out (OwS.rd ((OS.out.ext (X4.out.trans X5.out)))))).mono ?_
        rintro e w17 ⟨rfl, hx⟩
        have X6 := Lib.hid hx
        clear hx rc_S rc_G rc_H
        have rc_S : Hid (World.rangeAt w17 BS 0 [.int .i64 (V).task.label.level, .int .i64 (V).task.label.set, .int .i64 (V).task.id, .string (V).task.owner, .int .i64 (V).task.need, .int .i64 (V).task.long, .int .i64 (V).task.prio, .int .i64 (V).task.under.level, .int .i64 (V).task.under.set, .int .i64 (V).task.after, .int .i64 (V).task.born, .int .i64 (V).task.state, .int .i64 (V).task.start, .slice AS (V).task.nodes.length cS, .int .i64 (V).at_, .int .i64 (V).code]) := Lib.hid (Blk.range (Q_S.out.ext (X4.out.trans (X5.out.trans X6.out))))
        have rc_G : Hid (World.rangeAt w17 BG 0 [.int .i64 (V).task.label.level, .int .i64 (V).task.label.set, .int .i64 (V).task.id, .string (V).task.owner, .int .i64 (V).task.need, .int .i64 (V).task.long, .int .i64 (V).task.prio, .int .i64 (V).task.under.level, .int .i64 (V).task.under.set, .int .i64 (V).task.after, .int .i64 (V).task.born, .int .i64 (V).task.state, .int .i64 (V).task.start, .slice AG (V).task.nodes.length cG, .int .i64 (V).at_, .int .i64 (V).code]) := Lib.hid (Blk.range (Q_G.out.ext (X4.out.trans (X5.out.trans X6.out))))
        have rc_H : Hid (World.rangeAt w17 BH 0 [.int .i64 (V).task.label.level, .int .i64 (V).task.label.set, .int .i64 (V).task.id, .string (V).task.owner, .int .i64 (V).task.need, .int .i64 (V).task.long, .int .i64 (V).task.prio, .int .i64 (V).task.under.level, .int .i64 (V).task.under.set, .int .i64 (V).task.after, .int .i64 (V).task.born, .int .i64 (V).task.state, .int .i64 (V).task.start, .slice AH (V).task.nodes.length cH, .int .i64 (V).at_, .int .i64 (V).code]) := Lib.hid (Blk.range (Q_H.out.ext (X6.out)))
        go_wp2_with (first | (refine wpList_load_mid rfl 44 _ rfl BS 0 rfl [.int .i64 (V).task.label.level, .int .i64 (V).task.label.set, .int .i64 (V).task.id, .string (V).task.owner, .int .i64 (V).task.need, .int .i64 (V).task.long, .int .i64 (V).task.prio, .int .i64 (V).task.under.level, .int .i64 (V).task.under.set, .int .i64 (V).task.after, .int .i64 (V).task.born, .int .i64 (V).task.state, .int .i64 (V).task.start, .slice AS (V).task.nodes.length cS, .int .i64 (V).at_, .int .i64 (V).code] _ rc_S.out Try.underlying44 rfl HI_BOX.out ?_) | (refine wpList_load_mid rfl 44 _ rfl BG 0 rfl [.int .i64 (V).task.label.level, .int .i64 (V).task.label.set, .int .i64 (V).task.id, .string (V).task.owner, .int .i64 (V).task.need, .int .i64 (V).task.long, .int .i64 (V).task.prio, .int .i64 (V).task.under.level, .int .i64 (V).task.under.set, .int .i64 (V).task.after, .int .i64 (V).task.born, .int .i64 (V).task.state, .int .i64 (V).task.start, .slice AG (V).task.nodes.length cG, .int .i64 (V).at_, .int .i64 (V).code] _ rc_G.out Try.underlying44 rfl HI_BOX.out ?_) | (refine wpList_load_mid rfl 44 _ rfl BH 0 rfl [.int .i64 (V).task.label.level, .int .i64 (V).task.label.set, .int .i64 (V).task.id, .string (V).task.owner, .int .i64 (V).task.need, .int .i64 (V).task.long, .int .i64 (V).task.prio, .int .i64 (V).task.under.level, .int .i64 (V).task.under.set, .int .i64 (V).task.after, .int .i64 (V).task.born, .int .i64 (V).task.state, .int .i64 (V).task.start, .slice AH (V).task.nodes.length cH, .int .i64 (V).at_, .int .i64 (V).code] _ rc_H.out Try.underlying44 rfl HI_BOX.out ?_))
        refine (heldTaskOut_any (S := fun b => b ∈ FG) (V) _ 1 _ (OwS.rd ((OG.out.ext (X4.out.trans (X5.out.trans X6.out))))) (by omega) (by have := BND.out; omega)).mono ?_
        rintro e w18 ⟨rfl, hx⟩
        have X7 := Lib.hid hx
        clear hx rc_S rc_G rc_H
        have rc_S : Hid (World.rangeAt w18 BS 0 [.int .i64 (V).task.label.level, .int .i64 (V).task.label.set, .int .i64 (V).task.id, .string (V).task.owner, .int .i64 (V).task.need, .int .i64 (V).task.long, .int .i64 (V).task.prio, .int .i64 (V).task.under.level, .int .i64 (V).task.under.set, .int .i64 (V).task.after, .int .i64 (V).task.born, .int .i64 (V).task.state, .int .i64 (V).task.start, .slice AS (V).task.nodes.length cS, .int .i64 (V).at_, .int .i64 (V).code]) := Lib.hid (Blk.range (Q_S.out.ext (X4.out.trans (X5.out.trans (X6.out.trans X7.out)))))
        have rc_G : Hid (World.rangeAt w18 BG 0 [.int .i64 (V).task.label.level, .int .i64 (V).task.label.set, .int .i64 (V).task.id, .string (V).task.owner, .int .i64 (V).task.need, .int .i64 (V).task.long, .int .i64 (V).task.prio, .int .i64 (V).task.under.level, .int .i64 (V).task.under.set, .int .i64 (V).task.after, .int .i64 (V).task.born, .int .i64 (V).task.state, .int .i64 (V).task.start, .slice AG (V).task.nodes.length cG, .int .i64 (V).at_, .int .i64 (V).code]) := Lib.hid (Blk.range (Q_G.out.ext (X4.out.trans (X5.out.trans (X6.out.trans X7.out)))))
        have rc_H : Hid (World.rangeAt w18 BH 0 [.int .i64 (V).task.label.level, .int .i64 (V).task.label.set, .int .i64 (V).task.id, .string (V).task.owner, .int .i64 (V).task.need, .int .i64 (V).task.long, .int .i64 (V).task.prio, .int .i64 (V).task.under.level, .int .i64 (V).task.under.set, .int .i64 (V).task.after, .int .i64 (V).task.born, .int .i64 (V).task.state, .int .i64 (V).task.start, .slice AH (V).task.nodes.length cH, .int .i64 (V).at_, .int .i64 (V).code]) := Lib.hid (Blk.range (Q_H.out.ext (X6.out.trans X7.out)))
        go_wp2_with (first | (refine wpList_load_mid rfl 44 _ rfl BS 0 rfl [.int .i64 (V).task.label.level, .int .i64 (V).task.label.set, .int .i64 (V).task.id, .string (V).task.owner, .int .i64 (V).task.need, .int .i64 (V).task.long, .int .i64 (V).task.prio, .int .i64 (V).task.under.level, .int .i64 (V).task.under.set, .int .i64 (V).task.after, .int .i64 (V).task.born, .int .i64 (V).task.state, .int .i64 (V).task.start, .slice AS (V).task.nodes.length cS, .int .i64 (V).at_, .int .i64 (V).code] _ rc_S.out Try.underlying44 rfl HI_BOX.out ?_) | (refine wpList_load_mid rfl 44 _ rfl BG 0 rfl [.int .i64 (V).task.label.level, .int .i64 (V).task.label.set, .int .i64 (V).task.id, .string (V).task.owner, .int .i64 (V).task.need, .int .i64 (V).task.long, .int .i64 (V).task.prio, .int .i64 (V).task.under.level, .int .i64 (V).task.under.set, .int .i64 (V).task.after, .int .i64 (V).task.born, .int .i64 (V).task.state, .int .i64 (V).task.start, .slice AG (V).task.nodes.length cG, .int .i64 (V).at_, .int .i64 (V).code] _ rc_G.out Try.underlying44 rfl HI_BOX.out ?_) | (refine wpList_load_mid rfl 44 _ rfl BH 0 rfl [.int .i64 (V).task.label.level, .int .i64 (V).task.label.set, .int .i64 (V).task.id, .string (V).task.owner, .int .i64 (V).task.need, .int .i64 (V).task.long, .int .i64 (V).task.prio, .int .i64 (V).task.under.level, .int .i64 (V).task.under.set, .int .i64 (V).task.after, .int .i64 (V).task.born, .int .i64 (V).task.state, .int .i64 (V).task.start, .slice AH (V).task.nodes.length cH, .int .i64 (V).at_, .int .i64 (V).code] _ rc_H.out Try.underlying44 rfl HI_BOX.out ?_))
        go_ret
        exact ⟨rfl, (Z4.out.trans (X4.out.trans (X5.out.trans (X6.out.trans X7.out))))⟩

set_option maxRecDepth 100000 in
theorem fnExactTaskRead_lifted (os : Os) (started : os.Started) (H : Type) (enc : TypeId × Value → H) :
    ReturnsInHanded {} Try.checked os 4 .any (Rows.fnExactTaskReadSpec.pre6 enc Try.prog Try.f4 Rows.fnExactTaskReadRow.domain false) (Rows.fnExactTaskReadSpec.post enc Try.prog Try.f4 false true false false) := by
  refine returnsInHanded_of_change (C := Try.checked) (show ownKnob Try.prog.godebug = none by kernel_rfl) started (by kernel_rfl) Try.func4
    (ChangeSpec.witness6 (enc := enc) (C := Try.checked) false ⟨#[], #[.string ⟨#[]⟩, .int .i64 0], []⟩ 8 (by kernel_rfl) (by kernel_rfl) (by kernel_rfl) (by kernel_rfl)) ?_
  intro W base args ds gs before hval0 hW hcnd _
  have hval : ∀ (j : Nat) t v, Try.f4.params[j]? = some t → args[j]? = some v → Value.okWide Try.prog W .any base t v := hval0
  have hW' := hW
  obtain ⟨p, q, hA0, hV, rfl, hfz, hnd⟩ := hW
  have hA : DataW.TrodAll enc Try.prog W 0 (fun _ => true) true Try.f4.params.toList args.toList ds p := hA0
  rw [Try.params4] at hA hval
  obtain ⟨v0, v1, d0, d1, p0, p1, rfl, rfl, rfl, h0, h1⟩ := trodAll_two hA
  obtain ⟨rfl, rfl⟩ := trodVars_none hV
  obtain ⟨tx1, rfl, rfl, rfl, itx1⟩ := open_string Try.underlying9 (hval 0 9 v0 rfl rfl) h0
  obtain ⟨num1, rfl, rfl, rfl, wnum1⟩ := open_int Try.underlying2 (hval 1 2 v1 rfl rfl) h1
  have inum1 := i64_of_wf wnum1
  clear hA0 hval0 hval hcnd
  refine (fnExactTaskRead_walk tx1 num1 W itx1 inum1).mono fun e W2 ⟨he, hx⟩ => ?_
  subst he
  exact ⟨_, rfl, law_post (by kernel_rfl) (by kernel_rfl) Try.underlying4 (by intro t ht; rw [Try.params4] at ht; simp only [List.mem_cons, List.not_mem_nil, or_false] at ht; rcases ht with rfl | rfl <;> exact ⟨by kernel_rfl, of_decide_eq_true (by kernel_rfl)⟩) rfl rfl hW' hx⟩

theorem fnExactTaskRead_holds : Rows.FnExactTaskReadSaid :=
  OpenClaim.holds_of_wide 4 Try.f4 rfl rfl rfl rfl rfl rfl rfl ⟨rfl, rfl, rfl, rfl, rfl⟩ rfl rfl rfl rfl rfl (by kernel_rfl) Try.func4 fnExactTaskRead_closed
    (of_decide_eq_true (by kernel_rfl)) (by unfold Func.isWrapper; rw [if_neg (of_decide_eq_false (by kernel_rfl))]; exact ⟨rfl, rfl⟩)
    (fun os started H enc _ => fnExactTaskRead_lifted os started H enc)
end Go.Proofs.Ytikiipahmgpamaa

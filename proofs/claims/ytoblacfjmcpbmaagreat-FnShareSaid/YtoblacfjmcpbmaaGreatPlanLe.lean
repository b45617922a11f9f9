/- The walk of the program's planLabel: the plan of one label's tasks: its first two loops, and the whole. Printed by wip/plansplit.py. -/
import Derived.Test.YtoblacfjmcpbmaaGreatPlanLd
namespace Go.Proofs.YtoblacfjmcpbmaaGreat
open Go.RowKit
attribute [local irreducible] wpQuiet
set_option maxHeartbeats 64000000 in
set_option maxRecDepth 100000 in
theorem planLabel_any {S:Nat→Prop} (y:Yard) (ps:List Place) (l:List Task) (a:Label) (v1 v2 v3 v4 v5 v6 vs vh vt:Value) (B:Nat) (F0 G0:List Nat) (w:World) (hP:PlS w B F0 G0 y v1 v2 v3 v4 v5 v6 vs vh w ps) (hr:PlR S w y v1 v2 v3 v4 v5 v6 vs vh) (ht:Rd ETask S w vt l)
 (hS:∀ b,S b→b < w.heap.size∧b∉B :: F0) (ho:RowsOk y) (hfit:∀ t∈l,TaskFit y t) (hlen:y.nodes.length=y.config.nodes.length) (hok:∀ p∈ps,OkP p) (hl:ps.length≤10000) (hll:l.length≤96) (hturn:Turn y a ps l) :
 Calls Tryz.prog 96 #[.pointer (some ⟨B,0,none⟩),vt] w fun e w'=>e=.returned (.tuple #[])∧PlS w B F0 G0 y v1 v2 v3 v4 v5 v6 vs vh w' (planLabel y ps l):=by
 have HP:=Lib.hid hP
 have HR:=Lib.hid hr
 have HT:=Lib.hid ht
 have HS:=Lib.hid hS
 have HO:=Lib.hid ho
 have HFI:=Lib.hid hfit
 have HLE:=Lib.hid hlen
 have HOK:=Lib.hid hok
 have HTU:=Lib.hid hturn
 have HLL:=Lib.hid hll
 obtain ⟨A,c,rfl,l1,m1,hk⟩:=ht.open_
 unfold maxLen at m1
 have HK:=Lib.hid hk
 obtain ⟨As,cs,rfl,-⟩:=hr.rs.form
 obtain ⟨Ah,ch,rfl,-⟩:=hr.rh.form
 have hnow:=ho.now
 clear hP hr ht hS ho hfit hlen hok hturn hk
 go_enter Tryz.func96,Tryz.ntmps96
 go_upto_region 1 with (fail)
 obtain ⟨W,Bl,hW,hB1,hx0,a0,b0⟩:=boxes2 w #[] #[] 46 46
 rw [← hW,← hB1]
 have X:=Lib.hid hx0
 have Q1:=Lib.hid a0
 have Q2:=Lib.hid b0
 have EB1:=Lib.hid hB1
 obtain ⟨vp0,m0,F00,hC0,hm0,ho0,hF0,hn0,hnd0,hg0,hkp0⟩:=HP.out
 have HC0:=Lib.hid hC0
 have bl:∀ V,Ext W V→∀ i,V.cell? ⟨B,i,none⟩=_:=fun V hV=>(HC0.out.ext (X.out.trans hV)).cell
 have hw1:IntKind.i64.wrap (y.now+1)=y.now+1:=IntWalk.i64_in _ (by omega)
 clear hW hB1 hx0 a0 b0 hC0 hm0 ho0 hF0 hn0 hnd0 hg0 hkp0
 go_region_held3 (fun w'=>Ext W w') (repeat (first | with_reducible assumption | with_reducible exact Ext.refl _ | with_reducible refine Ext.alloc ?_ _ | with_reducible refine Ext.drew ?_ | with_reducible refine Ext.setCell ?_ (by first | exact Nat.le_refl _ | exact Ext.size (by assumption) | (simp;done) | (simp;omega) | (show _≤_;omega)) _ )) (fail)
 clear bl
 obtain ⟨W1,Bn,hW1,hBn,hx1,qn⟩:∃ V C,V=(W.alloc (.cells #[.int .i64 y.now,.int .i64 (y.now+1)] 133)).drew∧C=W.heap.size∧Ext W V∧Blk V C 133 #[.int .i64 y.now,.int .i64 (y.now+1)]:=⟨_,_,rfl,rfl,((Ext.refl W).alloc _).drew,(Blk.new W _ _).ext (Ext.refl _).drew⟩
 rw [← hW1,← hBn]
 have X1:=Lib.hid (X.out.trans hx1)
 have QN:=Lib.hid qn
 have EBN:=Lib.hid hBn
 have P1:=Lib.hid (HP.out.ext X1.out)
 have HX1:=Lib.hid hx1
 clear hW1 hBn hx1 qn
 clear HC0
 try clear hHeld
 go_wp2_with fail
 go_loopw [37] (fun i w'=>∃ k:Nat,k≤l.length∧i=.int .i64 k∧PlS w B F0 G0 y v1 v2 v3 v4 v5 v6 (.slice As (startR y).length cs) (.slice Ah (hardR y).length ch) w' ((l.take k).foldl (step1 y) ps)∧Blk w' Bn 133 #[.int .i64 y.now,.int .i64 (y.now+1)]∧Blk w' Bl 46 #[]∧Blk w' (Bl+1) 46 #[]) (fun i _=>l.length - (intOf i).toNat)
 case atStart=>exact ⟨0,Nat.zero_le _,rfl,by simpa using P1.out,QN.out,Q1.out.ext HX1.out,Q2.out.ext HX1.out⟩
 case round =>
  obtain ⟨k,hk1,rfl,hP,hN,hL1,hL2⟩:=hrel
  have HPP:=Lib.hid hP
  have HN:=Lib.hid hN
  have HL1:=Lib.hid hL1
  have HL2:=Lib.hid hL2
  clear hP hN hL1 hL2
  by_cases hlt:k < l.length
  · obtain ⟨vp,m,F,hC,hm,hown,hF,hnn,hnd,hg,hkp⟩:=HPP.out
    have hsame:Same S w wr:=hkp.same fun b hb=>(HS.out b hb).2
    obtain ⟨b,q,cs0,rfl,hbS,⟨u1,rfl,hft,hrd⟩,hc⟩:=HK.out k hlt
    obtain ⟨A1,d1,rfl,-⟩:=hrd.form
    simp only [cellsTask] at hc
    have z0:=hsame _ _ _ hbS (hc 0 _ rfl)
    have z1:=hsame _ _ _ hbS (hc 1 _ rfl)
    have z2:=hsame _ _ _ hbS (hc 2 _ rfl)
    have z3:=hsame _ _ _ hbS (hc 3 _ rfl)
    have z4:=hsame _ _ _ hbS (hc 4 _ rfl)
    have z5:=hsame _ _ _ hbS (hc 5 _ rfl)
    have z6:=hsame _ _ _ hbS (hc 6 _ rfl)
    have z7:=hsame _ _ _ hbS (hc 7 _ rfl)
    have z8:=hsame _ _ _ hbS (hc 8 _ rfl)
    have z9:=hsame _ _ _ hbS (hc 9 _ rfl)
    have z10:=hsame _ _ _ hbS (hc 10 _ rfl)
    have z11:=hsame _ _ _ hbS (hc 11 _ rfl)
    have z12:=hsame _ _ _ hbS (hc 12 _ rfl)
    have z13:=hsame _ _ _ hbS (hc 13 _ rfl)
    simp only [ETask,Nat.add_zero] at z0 z1 z2 z3 z4 z5 z6 z7 z8 z9 z10 z11 z12 z13
    have HC:=Lib.hid hC
    have HM:=Lib.hid hm
    have HOW:=Lib.hid hown
    have HF:=Lib.hid hF
    have HNN:=Lib.hid hnn
    have HND:=Lib.hid hnd
    have HG:=Lib.hid hg
    have HKP:=Lib.hid hkp
    have HSM:=Lib.hid hsame
    have HFT:=Lib.hid hft
    have HRD:=Lib.hid (hrd.keep hsame)
    obtain ⟨Ap,cp,rfl,-⟩:=hown.form
    clear hC hm hown hF hnn hnd hg hkp hsame hc hft hrd
    go_upto_region 5 with (fail)
    obtain ⟨W5,B5,hW__,hB__,hx__,hb__⟩:=new_box wr #[.int .i64 (nth l k).label.level,.int .i64 (nth l k).label.set,.int .i64 (nth l k).id,.string (nth l k).owner,.int .i64 (nth l k).need,.int .i64 (nth l k).long,.int .i64 (nth l k).prio,.int .i64 (nth l k).under.level,.int .i64 (nth l k).under.set,.int .i64 (nth l k).after,.int .i64 (nth l k).born,.int .i64 (nth l k).state,.int .i64 (nth l k).start,.slice A1 (nth l k).nodes.length d1] 46
    rw [← hW__,← hB__]
    have XW5:=Lib.hid hx__
    have QB5:=Lib.hid hb__
    have EB5:=Lib.hid hB__
    clear hW__ hB__ hx__ hb__
    clear z0 z1 z2 z3 z4 z5 z6 z7 z8 z9 z10 z11 z12 z13
    have HTF:=Lib.hid (HFI.out _ (nth_mem hlt))
    obtain ⟨pk,hpk⟩:∃ pk,(l.take k).foldl (step1 y) ps=pk:=⟨_,rfl⟩
    have HPK:=Lib.hid hpk
    rw [hpk] at HM
    have HPL:Hid (pk.length≤20000):=Lib.hid (by rw [← hpk];have:=foldl_size (s:=fun ps:List Place=>ps.length) (f:=step1 y) len1 (l.take k) ps;rw [List.length_take] at this;omega)
    have HRDP:Hid (Rd EPlace (fun _=>True) wr (.slice Ap m.length cp) pk):=Lib.hid (places_read HM.out HOW.out HNN.out)
    have HAF:Hid (∀ V,Ext wr V→Calls Tryz.prog 134 #[.pointer (some ⟨B,0,none⟩),.slice Ah (hardR y).length ch,.slice A1 (nth l k).nodes.length d1,.agg #[.int .i64 y.now,.int .i64 (y.now+1)]] V fun e w'=>e=.returned (.bool (areFree (hardR y) pk (nth l k).nodes ⟨y.now,y.now+1⟩))∧Ext V w'):=Lib.hid fun V hV =>
     areFreeFor_any (S:=S) (S':=fun _=>True) (S2:=S) (hardR y) pk (nth l k).nodes ⟨y.now,y.now+1⟩ _ _ _ B V ((HR.out.keep HSM.out).rh.ext hV) (HRDP.out.ext hV) (HRD.out.ext hV) ((HC.out.ext hV).cell 10) (fun n hn=>by rw [HO.out.h,← HLE.out];exact HTF.out.nodes n hn) (by rw [HO.out.h];exact HO.out.pos) HO.out.fh (by have:=HPL.out;omega)
    clear hpk
    obtain ⟨r,hr⟩:∃ r,staysB y pk (nth l k)=r:=⟨_,rfl⟩
    have HRR:=Lib.hid hr
    clear hr
    have s11:W5.cell? ⟨B5,11,none⟩=some (.int .i64 (nth l k).state):=QB5.out.cell 11
    have s13:W5.cell? ⟨B5,13,none⟩=some (.slice A1 (nth l k).nodes.length d1):=QB5.out.cell 13
    have b9:W5.cell? ⟨B,9,none⟩=some (.slice Ah (hardR y).length ch):=(HC.out.ext XW5.out).cell 9
    have n0:W5.cell? ⟨Bn,0,none⟩=some (.int .i64 y.now):=(HN.out.ext XW5.out).cell 0
    have n1:W5.cell? ⟨Bn,1,none⟩=some (.int .i64 (y.now+1)):=(HN.out.ext XW5.out).cell 1
    go_cut [54] (fun u wc=>u=.bool r∧Ext W5 wc)
    case first =>
     by_cases hst:(nth l k).state=2
     · have hs2:((nth l k).state == 2)=true:=by simp [hst]
       have hrr:areFree (hardR y) pk (nth l k).nodes ⟨y.now,y.now+1⟩=r:=by have:=HRR.out;simpa [staysB,runsB,hst] using this
       have HAF2:Hid (∀ V,Ext wr V→Calls Tryz.prog 134 #[.pointer (some ⟨B,0,none⟩),.slice Ah (hardR y).length ch,.slice A1 (nth l k).nodes.length d1,.agg #[.int .i64 y.now,.int .i64 (y.now+1)]] V fun e w'=>e=.returned (.bool r)∧Ext V w'):=Lib.hid (by rw [← hrr];exact HAF.out)
       clear hst hrr
       refine wp_region_ext (by kernel_rfl) (by kernel_rfl) ?_
       repeat (
        (refine wpQuiet_step (fun K hK=>?_)
         go_simp
         first
          | (refine hK _ ?_;clear hK K)
          | (apply Exists.intro
             refine ⟨fun w__ hx__=>?_,hK _ ?_⟩
             · have s11__:=Ext.some hx__ s11;have s13__:=Ext.some hx__ s13;have b9__:=Ext.some hx__ b9;have n0__:=Ext.some hx__ n0;have n1__:=Ext.some hx__ n1;first | exact rfl | (go_simp;done) | (go_simp;exact rfl) | (go_at_call 134;exact ext_of hx__ (HAF2.out _ (XW5.out.trans hx__)))
             clear hK K)))
       refine wpQuiet_nil ?_
       intro w1 hx1
       go_wp2_with fail
       go_meet
       exact ⟨rfl,hx1⟩
     · have hs2:((nth l k).state == 2)=false:=by simp [hst]
       have hrr:r=false:=by have:=HRR.out;simpa [staysB,runsB,hst] using this.symm
       subst hrr
       clear hst
       refine wp_region_ext (by kernel_rfl) (by kernel_rfl) ?_
       repeat (
        (refine wpQuiet_step (fun K hK=>?_)
         go_simp
         first
          | (refine hK _ ?_;clear hK K)
          | (apply Exists.intro
             refine ⟨fun w__ hx__=>?_,hK _ ?_⟩
             · have s11__:=Ext.some hx__ s11;have s13__:=Ext.some hx__ s13;have b9__:=Ext.some hx__ b9;have n0__:=Ext.some hx__ n0;have n1__:=Ext.some hx__ n1;first | exact rfl | (go_simp;done) | (go_simp;exact rfl)
             clear hK K)))
       refine wpQuiet_nil ?_
       intro w1 hx1
       go_wp2_with fail
       go_meet
       exact ⟨rfl,hx1⟩
    case rest =>
    generalize wc=W6 at hcut ⊢
    obtain ⟨rfl,hx6⟩:=hcut
    have X6:=Lib.hid (XW5.out.trans hx6)
    have Q6:=Lib.hid (QB5.out.ext hx6)
    clear s11 s13 b9 n0 n1 hx6
    cases r with
    | false =>
      have HE:=Lib.hid (step1_no (y:=y) (ps:=ps) hlt (by rw [HPK.out];exact HRR.out))
      go_wp2_with fail
      go_roundw
      case rel=>exact ⟨k+1,by omega,by go_num,by rw [HE.out];exact HPP.out.ext X6.out,HN.out.ext X6.out,HL1.out.ext X6.out,HL2.out.ext X6.out⟩
      case measure=>simp [intOf];omega
    | true =>
      have HE:=Lib.hid (step1_yes (y:=y) (ps:=ps) hlt (by rw [HPK.out];exact HRR.out))
      have HFP:Hid (FitPlace (stayP y pk (nth l k))):=Lib.hid (by
       have h1:=HTF.out
       have h2:=ok_stay (ps:=pk) h1 (by have:=HRR.out;simp only [staysB,Bool.and_eq_true] at this;exact this.1)
       exact ok_fit h2)
      have HST:Hid (∀ V,Ext W6 V→Calls Tryz.prog 135 #[.pointer (some ⟨B,0,none⟩),.agg #[.int .i64 (nth l k).label.level,.int .i64 (nth l k).label.set,.int .i64 (nth l k).id,.string (nth l k).owner,.int .i64 (nth l k).need,.int .i64 (nth l k).long,.int .i64 (nth l k).prio,.int .i64 (nth l k).under.level,.int .i64 (nth l k).under.set,.int .i64 (nth l k).after,.int .i64 (nth l k).born,.int .i64 (nth l k).state,.int .i64 (nth l k).start,.slice A1 (nth l k).nodes.length d1]] V fun e w'=>∃ (A:Option Addr) (n c:Nat) (F:List Nat),e=.returned (.agg (cellsPlace (stayP y pk (nth l k)) (.slice A n c)).toArray)∧OwS OInt 2 w' (.slice A n c) (nth l k).nodes F∧(∀ b∈F,V.heap.size≤b)∧Ext V w'):=Lib.hid fun V hV =>
       stay_any (S:=S) (S':=fun _=>True) (S2:=S) y pk (nth l k) _ _ _ _ _ _ _ _ _ _ B V (HC.out.ext (X6.out.trans hV)) ((HR.out.keep HSM.out).ext (X6.out.trans hV)) (HRDP.out.ext (X6.out.trans hV)) (rel_Task HFT.out (HRD.out.ext (X6.out.trans hV))) HO.out (by have:=HPL.out;omega) (fun n hn=>by rw [← HLE.out];exact HTF.out.nodes n hn) HTF.out.few HTF.out.start HTF.out.long
      go_upto_region 6 with (fail)
      have q6:=Q6.out.cell
      have q6a:=fun (ob:Obj) (i:Nat)=>(Q6.out.ext ((Ext.refl W6).alloc ob)).cell i
      have b10:W6.cell? ⟨B,10,none⟩=some (.slice Ap m.length cp):=(HC.out.ext X6.out).cell 10
      have b10a:=fun ob:Obj=>Ext.some ((Ext.refl W6).alloc ob) b10
      go_region_law (first
       | (go_simp;go_at_call 135;(with_reducible refine (HST.out _ (by repeat (first | with_reducible assumption | with_reducible exact Ext.refl _ | with_reducible refine Ext.alloc ?_ _ | with_reducible refine Ext.drew ?_ | with_reducible refine Ext.setCell ?_ (by first | exact Nat.le_refl _ | exact Ext.size (by assumption) | (simp;done) | (simp;omega) | (show _≤_;omega)) _ ))).mono ?_);rintro e w8 ⟨A9,n9,c9,G9,rfl,q9,g9,hx8⟩;have XH8:Hid (Ext W6 w8):=Lib.hid (Ext.trans (by repeat (first | with_reducible assumption | with_reducible exact Ext.refl _ | with_reducible refine Ext.alloc ?_ _ | with_reducible refine Ext.drew ?_ | with_reducible refine Ext.setCell ?_ (by first | exact Nat.le_refl _ | exact Ext.size (by assumption) | (simp;done) | (simp;omega) | (show _≤_;omega)) _ )) hx8);have b10':=Ext.some XH8.out b10;have b10b:=fun ob:Obj=>Ext.some ((Ext.refl w8).alloc ob) b10';simp only [cellsPlace])
       | (refine step_append_one (E:=EPV) (O:=OPV) (T:=138) (l:=m) (F:=F) (G:=[]) (y:=⟨stayP y pk (nth l k),A9,n9,c9,G9⟩) (cs:=cellsPlace (stayP y pk (nth l k)) (.slice A9 n9 c9)) (by rfl) _ _ 53 (by rfl) (.agg #[.int .i64 0,.int .i64 0,.int .i64 0,.int .i64 0,.int .i64 0,.bool false,.slice none 0 0]) 7 72 Tryz.underlying53 (by kernel_rfl) rfl rfl (by rfl) ((HOW.out.ext X6.out).ext (by have hxx:=XH8.out;repeat (first | with_reducible assumption | with_reducible exact Ext.refl _ | with_reducible refine Ext.alloc ?_ _ | with_reducible refine Ext.drew ?_ | with_reducible refine Ext.setCell ?_ (by first | exact Nat.le_refl _ | exact Ext.size (by assumption) | (simp;done) | (simp;omega) | (show _≤_;omega)) _ ))) _ 0 1 (by rfl) ⟨⟨rfl,HFP.out⟩,rfl⟩ (Blk.new _ _ _).range (by simpa using HOW.out.nodup) (by have h1:=HPL.out;rw [← HM.out,List.length_map] at h1;omega) (by decide) ?_;intro v' w9 F' how hkp hF';obtain ⟨p9,k9,hv9,-⟩:=OwS.form how;subst hv9;have R9:=planner_after HC.out HOW.out (Ext.trans X6.out (by have hxx:=XH8.out;repeat (first | with_reducible assumption | with_reducible exact Ext.refl _ | with_reducible refine Ext.alloc ?_ _ | with_reducible refine Ext.drew ?_ | with_reducible refine Ext.setCell ?_ (by first | exact Nat.le_refl _ | exact Ext.size (by assumption) | (simp;done) | (simp;omega) | (show _≤_;omega)) _ ))) hkp;have rc:=Blk.cell R9 10;have rf:=Blk.frozen R9 10))
      all_goals
       have hxa:Ext wr (w8.alloc (.cells #[.int .i64 (stayP y pk (nth l k)).label.level,.int .i64 (stayP y pk (nth l k)).label.set,.int .i64 (stayP y pk (nth l k)).id,.int .i64 (stayP y pk (nth l k)).from_,.int .i64 (stayP y pk (nth l k)).to_,.bool (stayP y pk (nth l k)).runs,.slice A9 n9 c9] 138)):=X6.out.trans (XH8.out.alloc _)
       have hpush:PlS w B F0 G0 y v1 v2 v3 v4 v5 v6 (.slice As (startR y).length cs) (.slice Ah (hardR y).length ch) (w9.setCell ⟨B,10,none⟩ (.slice p9 (m.length+1) k9)) (pk ++ [stayP y pk (nth l k)]) :=
        PlS.push (e:=⟨stayP y pk (nth l k),A9,n9,c9,G9⟩) HC.out HM.out HOW.out HF.out HNN.out HND.out HG.out HKP.out hxa (q9.ext ((Ext.refl _).alloc _)) (fun b hb=>Nat.le_trans X6.out.size (g9 b hb)) (by simpa using how) hkp (fun b hb=>by simpa using hF' b hb)
       have hN9:=far_tag (i:=10) (u:=.slice p9 (m.length+1) k9) (span_after HN.out HOW.out hxa hkp (by decide)) R9 (by decide)
       have hl9:=far_tag (i:=10) (u:=.slice p9 (m.length+1) k9) (span_after HL1.out HOW.out hxa hkp (by decide)) R9 (by decide)
       have hk9:=far_tag (i:=10) (u:=.slice p9 (m.length+1) k9) (span_after HL2.out HOW.out hxa hkp (by decide)) R9 (by decide)
       have HPU:=Lib.hid hpush
       have HN9:=Lib.hid hN9
       have HL9:=Lib.hid hl9
       have HK9:=Lib.hid hk9
       clear hpush hN9 hl9 hk9 hxa how hkp hF' R9 rc rf q9 g9 hx8 b10' b10b q6 q6a b10 b10a
       go_wp2_with fail
       go_roundw
       case rel=>exact ⟨k+1,by omega,by go_num,by rw [HE.out,HPK.out];exact HPU.out,HN9.out,HL9.out,HK9.out⟩
       case measure=>simp [intOf];omega
  · obtain rfl:k=l.length:=by omega
    rw [List.take_length] at HPP
    obtain ⟨p1,hp1⟩:∃ p1,l.foldl (step1 y) ps=p1:=⟨_,rfl⟩
    have HP1:=Lib.hid hp1
    rw [hp1] at HPP
    have HPL1:Hid (p1.length≤20000):=Lib.hid (by rw [← hp1];have:=foldl_size (s:=fun ps:List Place=>ps.length) (f:=step1 y) len1 l ps;omega)
    clear hp1
    go_upto_region 8 with (fail)
    clear hk1 hlt
    have HL1':Hid (OwS OTV 46 wr (.slice (some ⟨Bl,0,none⟩) 0 0) [] [Bl]):=Lib.hid (.inr ⟨Bl,0,#[],[],rfl,HL1.out,Nat.le_refl _,Nat.zero_le _,rfl,rfl,rfl,by simp,fun k hk=>absurd hk (Nat.not_lt_zero _)⟩)
    have HL2':Hid (OwS OTV 46 wr (.slice (some ⟨Bl+1,0,none⟩) 0 0) [] [Bl+1]):=Lib.hid (.inr ⟨Bl+1,0,#[],[],rfl,HL2.out,Nat.le_refl _,Nat.zero_le _,rfl,rfl,rfl,by simp,fun k hk=>absurd hk (Nat.not_lt_zero _)⟩)
    have HBl:Hid (w.heap.size≤Bl):=Lib.hid (by have:=EB1.out;omega)
    go_wp2_with fail
    go_loopw [4,5,70] (fun vl vk i w'=>∃ (k:Nat) (ml mk:List TV) (Fl Fk:List Nat),k≤l.length∧i=.int .i64 k∧PlS w B F0 G0 y v1 v2 v3 v4 v5 v6 (.slice As (startR y).length cs) (.slice Ah (hardR y).length ch) w' ((l.take k).foldl (step2 y) ([],[],p1)).2.2 ∧
     OwS OTV 46 w' vl ml Fl∧ml.map TV.x=((l.take k).foldl (step2 y) ([],[],p1)).1∧TAt S w ml∧(∀ b∈Fl,w.heap.size≤b) ∧
     OwS OTV 46 w' vk mk Fk∧mk.map TV.x=((l.take k).foldl (step2 y) ([],[],p1)).2.1∧TAt S w mk∧(∀ b∈Fk,w.heap.size≤b)∧(∀ b∈Fl,b∉Fk)) (fun _ _ i _=>l.length - (intOf i).toNat)
    case atStart=>exact ⟨0,[],[],[Bl],[Bl+1],Nat.zero_le _,rfl,by simpa using HPP.out,HL1'.out,rfl,fun e he=>absurd he (by simp),fun b hb=>by rw [List.mem_singleton.1 hb];exact HBl.out,HL2'.out,rfl,fun e he=>absurd he (by simp),fun b hb=>by rw [List.mem_singleton.1 hb];exact Nat.le_succ_of_le HBl.out,fun b hb hm=>by have h1:=List.mem_singleton.1 hb;have h2:=List.mem_singleton.1 hm;omega⟩
    case round =>
     obtain ⟨k,ml,mk,Fl,Fk,hk1,rfl,hP,hol,hml,htl,hfl,hok,hmk,htk,hfk,hdis⟩:=hrel
     have HPP:=Lib.hid hP
     have HOL:=Lib.hid hol
     have HML:=Lib.hid hml
     have HTL:=Lib.hid htl
     have HFL:=Lib.hid hfl
     have HOKK:=Lib.hid hok
     have HMK:=Lib.hid hmk
     have HTK:=Lib.hid htk
     have HFK:=Lib.hid hfk
     have HDIS:=Lib.hid hdis
     obtain ⟨Al,cl,rfl,-⟩:=hol.form
     obtain ⟨Ak,ck,rfl,-⟩:=hok.form
     clear hP hol hml htl hfl hok hmk htk hfk hdis
     by_cases hlt:k < l.length
     · obtain ⟨vp,m,F,hC,hm,hown,hF,hnn,hnd,hg,hkp⟩:=HPP.out
       have hsame:Same S w wr:=hkp.same fun b hb=>(HS.out b hb).2
       obtain ⟨b,q,cs0,rfl,hbS,⟨u1,rfl,hft,hrd⟩,hc⟩:=HK.out k hlt
       obtain ⟨A1,d1,rfl,-⟩:=hrd.form
       simp only [cellsTask] at hc
       have z0:=hsame _ _ _ hbS (hc 0 _ rfl)
       have z1:=hsame _ _ _ hbS (hc 1 _ rfl)
       have z2:=hsame _ _ _ hbS (hc 2 _ rfl)
       have z3:=hsame _ _ _ hbS (hc 3 _ rfl)
       have z4:=hsame _ _ _ hbS (hc 4 _ rfl)
       have z5:=hsame _ _ _ hbS (hc 5 _ rfl)
       have z6:=hsame _ _ _ hbS (hc 6 _ rfl)
       have z7:=hsame _ _ _ hbS (hc 7 _ rfl)
       have z8:=hsame _ _ _ hbS (hc 8 _ rfl)
       have z9:=hsame _ _ _ hbS (hc 9 _ rfl)
       have z10:=hsame _ _ _ hbS (hc 10 _ rfl)
       have z11:=hsame _ _ _ hbS (hc 11 _ rfl)
       have z12:=hsame _ _ _ hbS (hc 12 _ rfl)
       have z13:=hsame _ _ _ hbS (hc 13 _ rfl)
       simp only [ETask,Nat.add_zero] at z0 z1 z2 z3 z4 z5 z6 z7 z8 z9 z10 z11 z12 z13
       have HC:=Lib.hid hC
       have HM:=Lib.hid hm
       have HOW:=Lib.hid hown
       have HF:=Lib.hid hF
       have HNN:=Lib.hid hnn
       have HND:=Lib.hid hnd
       have HG:=Lib.hid hg
       have HKP:=Lib.hid hkp
       have HSM:=Lib.hid hsame
       have HFT:=Lib.hid hft
       have HRD:=Lib.hid (hrd.keep hsame)
       have HRDW:=Lib.hid hrd
       obtain ⟨Ap,cp,rfl,-⟩:=hown.form
       clear hC hm hown hF hnn hnd hg hkp hsame hc hft hrd
       go_upto_region 11 with (fail)
       obtain ⟨W5,B5,hW__,hB__,hx__,hb__⟩:=new_box wr #[.int .i64 (nth l k).label.level,.int .i64 (nth l k).label.set,.int .i64 (nth l k).id,.string (nth l k).owner,.int .i64 (nth l k).need,.int .i64 (nth l k).long,.int .i64 (nth l k).prio,.int .i64 (nth l k).under.level,.int .i64 (nth l k).under.set,.int .i64 (nth l k).after,.int .i64 (nth l k).born,.int .i64 (nth l k).state,.int .i64 (nth l k).start,.slice A1 (nth l k).nodes.length d1] 46
       rw [← hW__,← hB__]
       have XW5:=Lib.hid hx__
       have QB5:=Lib.hid hb__
       have EB5:=Lib.hid hB__
       clear hW__ hB__ hx__ hb__
       clear z0 z1 z2 z3 z4 z5 z6 z7 z8 z9 z10 z11 z12 z13
       have HTF:=Lib.hid (HFI.out _ (nth_mem hlt))
       have HRD0:=HRD.out
       obtain ⟨sk,hsk⟩:∃ sk,(l.take k).foldl (step2 y) ([],[],p1)=sk:=⟨_,rfl⟩
       have HST:Hid ((l.take (k+1)).foldl (step2 y) ([],[],p1)=step2 y sk (nth l k)):=Lib.hid (by rw [fold2_step hlt,hsk])
       have HLS:Hid (sk.2.2.length≤30000∧sk.1.length≤96∧sk.2.1.length≤96):=Lib.hid (by
        rw [← hsk]
        have h1:=foldl_size (s:=fun s:List Task × List Task × List Place=>s.2.2.length) (f:=step2 y) (fun b x=>(len2 b x).1) (l.take k) ([],[],p1)
        have h2:=foldl_size (s:=fun s:List Task × List Task × List Place=>s.1.length) (f:=step2 y) (fun b x=>(len2 b x).2.1) (l.take k) ([],[],p1)
        have h3:=foldl_size (s:=fun s:List Task × List Task × List Place=>s.2.1.length) (f:=step2 y) (fun b x=>(len2 b x).2.2) (l.take k) ([],[],p1)
        rw [List.length_take] at h1 h2 h3
        dsimp only at h1 h2 h3
        simp only [List.length_nil] at h2 h3
        have:=HPL1.out
        have:=HLL.out
        omega)
       rw [hsk] at HPP HML HMK HM
       clear hsk HRD0
       have HRDP:Hid (Rd EPlace (fun _=>True) wr (.slice Ap m.length cp) sk.2.2):=Lib.hid (places_read HM.out HOW.out HNN.out)
       have HEND:Hid (∀ V,Ext W5 V→Calls Tryz.prog 38 #[.agg #[.int .i64 (nth l k).label.level,.int .i64 (nth l k).label.set,.int .i64 (nth l k).id,.string (nth l k).owner,.int .i64 (nth l k).need,.int .i64 (nth l k).long,.int .i64 (nth l k).prio,.int .i64 (nth l k).under.level,.int .i64 (nth l k).under.set,.int .i64 (nth l k).after,.int .i64 (nth l k).born,.int .i64 (nth l k).state,.int .i64 (nth l k).start,.slice A1 (nth l k).nodes.length d1]] V fun e w'=>e=.returned (.int .i64 (endOf (nth l k)))∧Ext V w'):=Lib.hid fun V hV=>taskEnd_any (S:=S) (nth l k) _ V (rel_Task HFT.out (HRD.out.ext (XW5.out.trans hV))) HTF.out.start.1 HTF.out.start.2 HTF.out.long.1 HTF.out.long.2
       have q5:∀ V,Ext W5 V→∀ i,V.cell? ⟨B5,i,none⟩=_:=fun V hV=>(QB5.out.ext hV).cell
       go_cut [11] (fun u wc=>∃ Bx,u=.pointer (some ⟨Bx,0,none⟩)∧Blk wc Bx 133 #[.int .i64 (nth l k).start,.int .i64 (endOf (nth l k))]∧Ext W5 wc)
       case first =>
        go_region_held3 (fun w'=>Ext W5 w') (repeat (first | with_reducible assumption | with_reducible exact Ext.refl _ | with_reducible refine Ext.alloc ?_ _ | with_reducible refine Ext.drew ?_ | with_reducible refine Ext.setCell ?_ (by first | exact Nat.le_refl _ | exact Ext.size (by assumption) | (simp;done) | (simp;omega) | (show _≤_;omega)) _ | with_reducible refine Ext.trans ?_ hx8)) (first | (go_at_call 38;(with_reducible refine (HEND.out _ (by repeat (first | with_reducible assumption | with_reducible exact Ext.refl _ | with_reducible refine Ext.alloc ?_ _ | with_reducible refine Ext.drew ?_ | with_reducible refine Ext.setCell ?_ (by first | exact Nat.le_refl _ | exact Ext.size (by assumption) | (simp;done) | (simp;omega) | (show _≤_;omega)) _ | with_reducible refine Ext.trans ?_ hx8))).mono ?_);rintro e w8 ⟨rfl,hx8⟩;(first | ((first | (with_reducible have bxx:=box_new3 (bw:=W5) hx8 (by repeat (first | with_reducible assumption | with_reducible exact Ext.refl _ | with_reducible refine Ext.alloc ?_ _ | with_reducible refine Ext.drew ?_ | with_reducible refine Ext.setCell ?_ (by first | exact Nat.le_refl _ | exact Ext.size (by assumption) | (simp;done) | (simp;omega) | (show _≤_;omega)) _ ))) | (with_reducible have bxx:=box_new4 (bw:=W5) hx8 (by repeat (first | with_reducible assumption | with_reducible exact Ext.refl _ | with_reducible refine Ext.alloc ?_ _ | with_reducible refine Ext.drew ?_ | with_reducible refine Ext.setCell ?_ (by first | exact Nat.le_refl _ | exact Ext.size (by assumption) | (simp;done) | (simp;omega) | (show _≤_;omega)) _ ))));(try simp only [drew_size] at bxx);obtain ⟨bx,bh,bl⟩:=bxx;have bc:=bx.cell;have bf:=bx.frozen;have BX:=Lib.hid bx;have BH:=Lib.hid bh;clear bx bl) | ((first | (with_reducible have bx:=Blk.ext BX.out hx8) | (have bx:=Blk.ext (Blk.ext BX.out (Ext.refl _).drew) hx8));clear bc bf;have bc:=bx.cell;have bf:=bx.frozen;have BX:=Lib.hid bx;clear bx) | skip)))
        all_goals (go_wp2_with fail;go_meet;first | exact ⟨_,rfl,Blk.new _ _ _,by assumption⟩ | exact ⟨_,rfl,by simpa using (BX.out.set_ 0 (.int .i64 (nth l k).start)).set_ 1 (.int .i64 (endOf (nth l k))),by assumption⟩)
       case rest =>
       generalize wc=W6 at hcut ⊢
       obtain ⟨Bx,rfl,hbx,hx6⟩:=hcut
       have QX:=Lib.hid hbx
       have X6:=Lib.hid (XW5.out.trans hx6)
       have Q6:=Lib.hid (QB5.out.ext hx6)
       clear q5 hbx hx6
       have q6:=Q6.out.cell
       by_cases hst:(nth l k).state=2
       · have hs2:((nth l k).state == 2)=true:=by simp [hst]
         have hrun:Hid (runsB (nth l k)=true):=Lib.hid (by simp [runsB,hst])
         clear hst
         obtain ⟨r,hr⟩:∃ r,placedB sk.2.2 (nth l k)=r:=⟨_,rfl⟩
         have HIP:Hid (∀ V,Ext W6 V→Calls Tryz.prog 136 #[.pointer (some ⟨B,0,none⟩),.agg #[.int .i64 (nth l k).label.level,.int .i64 (nth l k).label.set,.int .i64 (nth l k).id,.string (nth l k).owner,.int .i64 (nth l k).need,.int .i64 (nth l k).long,.int .i64 (nth l k).prio,.int .i64 (nth l k).under.level,.int .i64 (nth l k).under.set,.int .i64 (nth l k).after,.int .i64 (nth l k).born,.int .i64 (nth l k).state,.int .i64 (nth l k).start,.slice A1 (nth l k).nodes.length d1]] V fun e w'=>e=.returned (.bool r)∧Ext V w'):=Lib.hid fun V hV=>by rw [← hr];exact isPlaced_any (S:=fun _=>True) (S':=S) sk.2.2 (nth l k) _ _ B V ((HC.out.ext (X6.out.trans hV)).cell 10) (HRDP.out.ext (X6.out.trans hV)) (rel_Task HFT.out (HRD.out.ext (X6.out.trans hV)))
         have HRR:=Lib.hid hr
         clear hr
         cases r with
         | true =>
           have HE:Hid ((l.take (k+1)).foldl (step2 y) ([],[],p1)=sk):=Lib.hid (by rw [HST.out,step2,if_pos hrun.out,if_pos HRR.out])
           go_wp2_with (go_at_call 136;(with_reducible refine (HIP.out _ (Ext.refl _)).mono ?_);rintro e w8 ⟨rfl,hx8⟩;have X8:=Lib.hid (X6.out.trans hx8);clear hx8)
           go_roundw
           case rel=>exact ⟨k+1,ml,mk,Fl,Fk,by omega,by go_num,by rw [HE.out];exact HPP.out.ext X8.out,HOL.out.ext X8.out,by rw [HE.out];exact HML.out,HTL.out,HFL.out,HOKK.out.ext X8.out,by rw [HE.out];exact HMK.out,HTK.out,HFK.out,HDIS.out⟩
           case measure=>simp [intOf];omega
         | false =>
           have HE:Hid ((l.take (k+1)).foldl (step2 y) ([],[],p1)=(sk.1 ++ [nth l k],sk.2.1,sk.2.2)):=Lib.hid (by rw [HST.out,step2,if_pos hrun.out,if_neg (by simp [HRR.out])])
           go_wp2_with (first
            | (go_at_call 136;(with_reducible refine (HIP.out _ (Ext.refl _)).mono ?_);rintro e w8 ⟨rfl,hx8⟩;have X8:=Lib.hid (X6.out.trans hx8);replace q6:=(Q6.out.ext hx8).cell;clear hx8)
            | (at_builtin;refine wpList_append_one (E:=ETV) (O:=OTV) (T:=46) (l:=ml) (F:=Fl) (G:=[]) (y:=⟨nth l k,A1,(nth l k).nodes.length,d1⟩) (cs:=cellsTask (nth l k) (.slice A1 (nth l k).nodes.length d1)) rfl _ _ 32 rfl (.agg #[.int .i64 0,.int .i64 0,.int .i64 0,.string ⟨#[]⟩,.int .i64 0,.int .i64 0,.int .i64 0,.int .i64 0,.int .i64 0,.int .i64 0,.int .i64 0,.int .i64 0,.int .i64 0,.slice none 0 0]) 14 136 Tryz.underlying32 (by kernel_rfl) rfl rfl rfl (HOL.out.ext (X8.out.alloc _)) _ 0 1 rfl ⟨⟨rfl,HFT.out⟩,rfl⟩ (Blk.new _ _ _).range (by simpa using HOL.out.nodup) (by have h1:=HLS.out;rw [← HML.out,List.length_map] at h1;omega) (by decide) ?_;intro v' w9 F' how hkp hF';have HOW9:=Lib.hid how;have HKP9:=Lib.hid hkp;have HFF9:=Lib.hid hF';clear how hkp hF'))
           have hxa:=X8.out.alloc (.cells #[.int .i64 (nth l k).label.level,.int .i64 (nth l k).label.set,.int .i64 (nth l k).id,.string (nth l k).owner,.int .i64 (nth l k).need,.int .i64 (nth l k).long,.int .i64 (nth l k).prio,.int .i64 (nth l k).under.level,.int .i64 (nth l k).under.set,.int .i64 (nth l k).after,.int .i64 (nth l k).born,.int .i64 (nth l k).state,.int .i64 (nth l k).start,.slice A1 (nth l k).nodes.length d1] 46)
           (refine ⟨⟨k+1,ml ++ [⟨nth l k,A1,(nth l k).nodes.length,d1⟩],mk,F',Fk,by omega,by go_num,by rw [HE.out];exact pls_row HPP.out HOL.out hxa HKP9.out HFL.out,HOW9.out,by rw [HE.out,List.map_append,HML.out];rfl,?_,new_fl HFL.out (pls_size HPP.out) hxa HFF9.out,other_row HOKK.out hxa HKP9.out HDIS.out,by rw [HE.out];exact HMK.out,HTK.out,HFK.out,new_dis HOKK.out HDIS.out hxa HFF9.out⟩,?_⟩)
           · exact tat_push HTL.out HRDW.out
           · simp [intOf];omega
       · have hs2:((nth l k).state == 2)=false:=by simp [hst]
         have hrun:Hid (runsB (nth l k)=false):=Lib.hid (by simp [runsB,hst])
         clear hst
         have HAF:Hid (∀ V,Ext wr V→Calls Tryz.prog 134 #[.pointer (some ⟨B,0,none⟩),.slice As (startR y).length cs,.slice A1 (nth l k).nodes.length d1,.agg #[.int .i64 (nth l k).start,.int .i64 (endOf (nth l k))]] V fun e w'=>e=.returned (.bool (areFree (startR y) sk.2.2 (nth l k).nodes ⟨(nth l k).start,endOf (nth l k)⟩))∧Ext V w'):=Lib.hid fun V hV =>
          areFreeFor_any (S:=S) (S':=fun _=>True) (S2:=S) (startR y) sk.2.2 (nth l k).nodes ⟨(nth l k).start,endOf (nth l k)⟩ _ _ _ B V ((HR.out.keep HSM.out).rs.ext hV) (HRDP.out.ext hV) (HRD.out.ext hV) ((HC.out.ext hV).cell 10) (fun n hn=>by rw [HO.out.s,← HLE.out];exact HTF.out.nodes n hn) (by rw [HO.out.s];exact HO.out.pos) HO.out.fs (by have:=HLS.out;omega)
         obtain ⟨r,hr⟩:∃ r,keepB y sk.2.2 (nth l k)=r:=⟨_,rfl⟩
         have HRR:=Lib.hid hr
         clear hr
         go_upto_region 16 with (fail)
         have s13:W6.cell? ⟨B5,13,none⟩=some (.slice A1 (nth l k).nodes.length d1):=Q6.out.cell 13
         have b8:W6.cell? ⟨B,8,none⟩=some (.slice As (startR y).length cs):=(HC.out.ext X6.out).cell 8
         have n0:W6.cell? ⟨Bx,0,none⟩=some (.int .i64 (nth l k).start):=QX.out.cell 0
         have n1:W6.cell? ⟨Bx,1,none⟩=some (.int .i64 (endOf (nth l k))):=QX.out.cell 1
         go_cut [95] (fun u wc=>u=.bool r∧Ext W6 wc)
         case first =>
          obtain ⟨tc,htc⟩:∃ tc:List Value,tc = [.int .i64 (nth l k).label.level,.int .i64 (nth l k).label.set,.int .i64 (nth l k).id,.string (nth l k).owner,.int .i64 (nth l k).need,.int .i64 (nth l k).long,.int .i64 (nth l k).prio,.int .i64 (nth l k).under.level,.int .i64 (nth l k).under.set,.int .i64 (nth l k).after,.int .i64 (nth l k).born,.int .i64 (nth l k).state,.int .i64 (nth l k).start,.slice A1 (nth l k).nodes.length d1]:=⟨_,rfl⟩
          have HPLC:Hid (∀ V,Ext W6 V→Calls Tryz.prog 118 #[.agg tc.toArray] V fun e w'=>e=.returned (.bool (decide (0 < (nth l k).nodes.length)))∧Ext V w'):=Lib.hid fun V hV=>by rw [htc];exact hasPlace_any _ _ _ _ _ _ _ _ _ _ _ _ _ _ _ _ _
          have HT5:Hid (W6.rangeAt B5 0 tc):=Lib.hid (by have h:=Q6.out.range;rw [htc];simpa using h)
          have HI:Hid ((Tryz.prog.info? 46).map (·.size)=some tc.length):=Lib.hid (by rw [htc];kernel_rfl)
          clear htc q6
          by_cases hpos:0 < (nth l k).nodes.length
          · have hpos2:decide (0 < (nth l k).nodes.length)=true:=decide_eq_true hpos
            have hrr:areFree (startR y) sk.2.2 (nth l k).nodes ⟨(nth l k).start,endOf (nth l k)⟩=r:=by have:=HRR.out;simpa [keepB,hpos] using this
            rw [hrr] at HAF
            rw [hpos2] at HPLC
            clear hpos hpos2 hrr
            refine wp_region_ext (by kernel_rfl) (by kernel_rfl) ?_
            repeat (
             first
             | (refine wpQuiet_load (by rfl) 46 _ rfl B5 (0) rfl tc _ (fun w__ hx__=>hx__.range HT5.out) Tryz.underlying46 rfl HI.out ?_;simp only [Act.put,List.setIfInBounds_toArray,List.set_cons_zero,List.set_cons_succ])
             | (refine wpQuiet_step (fun K hK=>?_)
                go_simp
                first
                 | (refine hK _ ?_;clear hK K)
                 | (apply Exists.intro
                    refine ⟨fun w__ hx__=>?_,hK _ ?_⟩
                    · have s13__:=Ext.some hx__ s13;have b8__:=Ext.some hx__ b8;have n0__:=Ext.some hx__ n0;have n1__:=Ext.some hx__ n1;first | exact rfl | (go_simp;done) | (go_simp;exact rfl) | (go_at_call 118;exact ext_of hx__ (HPLC.out _ hx__)) | (go_at_call 134;exact ext_of hx__ (HAF.out _ (X6.out.trans hx__)))
                    clear hK K)))
            refine wpQuiet_nil ?_
            intro w1 hx1
            go_wp2_with fail
            go_meet
            exact ⟨rfl,hx1⟩
          · have hpos2:decide (0 < (nth l k).nodes.length)=false:=decide_eq_false hpos
            have hrr:r=false:=by have:=HRR.out;simpa [keepB,hpos] using this.symm
            subst hrr
            rw [hpos2] at HPLC
            clear hpos hpos2
            refine wp_region_ext (by kernel_rfl) (by kernel_rfl) ?_
            repeat (
             first
             | (refine wpQuiet_load (by rfl) 46 _ rfl B5 (0) rfl tc _ (fun w__ hx__=>hx__.range HT5.out) Tryz.underlying46 rfl HI.out ?_;simp only [Act.put,List.setIfInBounds_toArray,List.set_cons_zero,List.set_cons_succ])
             | (refine wpQuiet_step (fun K hK=>?_)
                go_simp
                first
                 | (refine hK _ ?_;clear hK K)
                 | (apply Exists.intro
                    refine ⟨fun w__ hx__=>?_,hK _ ?_⟩
                    · have s13__:=Ext.some hx__ s13;have b8__:=Ext.some hx__ b8;have n0__:=Ext.some hx__ n0;have n1__:=Ext.some hx__ n1;first | exact rfl | (go_simp;done) | (go_simp;exact rfl) | (go_at_call 118;exact ext_of hx__ (HPLC.out _ hx__))
                    clear hK K)))
            refine wpQuiet_nil ?_
            intro w1 hx1
            go_wp2_with fail
            go_meet
            exact ⟨rfl,hx1⟩
         case rest =>
         generalize wc=W7 at hcut ⊢
         obtain ⟨rfl,hx7⟩:=hcut
         have X7:=Lib.hid (X6.out.trans hx7)
         have Q7:=Lib.hid (Q6.out.ext hx7)
         have QX7:=Lib.hid (QX.out.ext hx7)
         clear s13 b8 n0 n1 hx7
         try clear q6
         have q7:=Q7.out.cell
         cases r with
         | false =>
           have HE:Hid ((l.take (k+1)).foldl (step2 y) ([],[],p1)=(sk.1 ++ [nth l k],sk.2.1,sk.2.2)):=Lib.hid (by rw [HST.out,step2,if_neg (by simp [hrun.out]),if_neg (by simp [HRR.out])])
           go_wp2_with (at_builtin;refine wpList_append_one (E:=ETV) (O:=OTV) (T:=46) (l:=ml) (F:=Fl) (G:=[]) (y:=⟨nth l k,A1,(nth l k).nodes.length,d1⟩) (cs:=cellsTask (nth l k) (.slice A1 (nth l k).nodes.length d1)) rfl _ _ 32 rfl (.agg #[.int .i64 0,.int .i64 0,.int .i64 0,.string ⟨#[]⟩,.int .i64 0,.int .i64 0,.int .i64 0,.int .i64 0,.int .i64 0,.int .i64 0,.int .i64 0,.int .i64 0,.int .i64 0,.slice none 0 0]) 14 136 Tryz.underlying32 (by kernel_rfl) rfl rfl rfl (HOL.out.ext (X7.out.alloc _)) _ 0 1 rfl ⟨⟨rfl,HFT.out⟩,rfl⟩ (Blk.new _ _ _).range (by simpa using HOL.out.nodup) (by have h1:=HLS.out;rw [← HML.out,List.length_map] at h1;omega) (by decide) ?_;intro v' w9 F' how hkp hF';have HOW9:=Lib.hid how;have HKP9:=Lib.hid hkp;have HFF9:=Lib.hid hF';clear how hkp hF')
           have hxa:=X7.out.alloc (.cells #[.int .i64 (nth l k).label.level,.int .i64 (nth l k).label.set,.int .i64 (nth l k).id,.string (nth l k).owner,.int .i64 (nth l k).need,.int .i64 (nth l k).long,.int .i64 (nth l k).prio,.int .i64 (nth l k).under.level,.int .i64 (nth l k).under.set,.int .i64 (nth l k).after,.int .i64 (nth l k).born,.int .i64 (nth l k).state,.int .i64 (nth l k).start,.slice A1 (nth l k).nodes.length d1] 46)
           (refine ⟨⟨k+1,ml ++ [⟨nth l k,A1,(nth l k).nodes.length,d1⟩],mk,F',Fk,by omega,by go_num,by rw [HE.out];exact pls_row HPP.out HOL.out hxa HKP9.out HFL.out,HOW9.out,by rw [HE.out,List.map_append,HML.out];rfl,?_,new_fl HFL.out (pls_size HPP.out) hxa HFF9.out,other_row HOKK.out hxa HKP9.out HDIS.out,by rw [HE.out];exact HMK.out,HTK.out,HFK.out,new_dis HOKK.out HDIS.out hxa HFF9.out⟩,?_⟩)
           · exact tat_push HTL.out HRDW.out
           · simp [intOf];omega
         | true =>
           have HE:Hid ((l.take (k+1)).foldl (step2 y) ([],[],p1)=(sk.1,sk.2.1 ++ [nth l k],sk.2.2 ++ [keptP (nth l k)])):=Lib.hid (by rw [HST.out,step2,if_neg (by simp [hrun.out]),if_pos HRR.out])
           go_upto_region 18 with (at_builtin;refine wpList_append_one (E:=ETV) (O:=OTV) (T:=46) (l:=mk) (F:=Fk) (G:=[]) (y:=⟨nth l k,A1,(nth l k).nodes.length,d1⟩) (cs:=cellsTask (nth l k) (.slice A1 (nth l k).nodes.length d1)) rfl _ _ 32 rfl (.agg #[.int .i64 0,.int .i64 0,.int .i64 0,.string ⟨#[]⟩,.int .i64 0,.int .i64 0,.int .i64 0,.int .i64 0,.int .i64 0,.int .i64 0,.int .i64 0,.int .i64 0,.int .i64 0,.slice none 0 0]) 14 136 Tryz.underlying32 (by kernel_rfl) rfl rfl rfl (HOKK.out.ext (X7.out.alloc _)) _ 0 1 rfl ⟨⟨rfl,HFT.out⟩,rfl⟩ (Blk.new _ _ _).range (by simpa using HOKK.out.nodup) (by have h1:=HLS.out;rw [← HMK.out,List.length_map] at h1;omega) (by decide) ?_;intro v' w9 F' how hkp hF';have HOW9:=Lib.hid how;have HKP9:=Lib.hid hkp;have HFF9:=Lib.hid hF';clear how hkp hF')
           have hxa:=X7.out.alloc (.cells #[.int .i64 (nth l k).label.level,.int .i64 (nth l k).label.set,.int .i64 (nth l k).id,.string (nth l k).owner,.int .i64 (nth l k).need,.int .i64 (nth l k).long,.int .i64 (nth l k).prio,.int .i64 (nth l k).under.level,.int .i64 (nth l k).under.set,.int .i64 (nth l k).after,.int .i64 (nth l k).born,.int .i64 (nth l k).state,.int .i64 (nth l k).start,.slice A1 (nth l k).nodes.length d1] 46)
           have HXA:=Lib.hid hxa
           have HPP9:=Lib.hid (pls_row HPP.out HOKK.out hxa HKP9.out HFK.out)
           have HOL9:Hid (OwS OTV 46 w9 (.slice Al ml.length cl) ml Fl):=Lib.hid (other_row HOL.out hxa HKP9.out (fun b hb hm=>HDIS.out b hm hb))
           have Q9:Hid (Blk w9 B5 46 #[.int .i64 (nth l k).label.level,.int .i64 (nth l k).label.set,.int .i64 (nth l k).id,.string (nth l k).owner,.int .i64 (nth l k).need,.int .i64 (nth l k).long,.int .i64 (nth l k).prio,.int .i64 (nth l k).under.level,.int .i64 (nth l k).under.set,.int .i64 (nth l k).after,.int .i64 (nth l k).born,.int .i64 (nth l k).state,.int .i64 (nth l k).start,.slice A1 (nth l k).nodes.length d1]):=Lib.hid ((HKP9.out.block B5 (Q7.out.ext ((Ext.refl _).alloc _)).lt (fun hm=>by have h1:=HOKK.out.lt B5 hm;have h2:=EB5.out;omega)).trans (Q7.out.ext ((Ext.refl _).alloc _)))
           have QX9:Hid (Blk w9 Bx 133 #[.int .i64 (nth l k).start,.int .i64 (endOf (nth l k))]):=Lib.hid ((HKP9.out.block Bx (QX7.out.ext ((Ext.refl _).alloc _)).lt ((HOKK.out.ext hxa).apart (QX7.out.ext ((Ext.refl _).alloc _)) (by decide))).trans (QX7.out.ext ((Ext.refl _).alloc _)))
           clear hxa
           clear HC HM HOW HF HNN HND HG HKP HRDP HAF HEND
           have HZ0:=Lib.hid (new_fl HFK.out (pls_size HPP.out) HXA.out HFF9.out)
           have HZ1:Hid (∀ b∈Fl,b∉F'):=Lib.hid (fun b hb hm=>new_dis HOL.out (fun b hb hm=>HDIS.out b hm hb) HXA.out HFF9.out b hm hb)
           obtain ⟨vp2,m2,F2,hC,hm,hown,hF,hnn,hnd,hg,hkp⟩:=HPP9.out
           have HRD9:=Lib.hid (HRDW.out.keep (hkp.same fun b hb=>(HS.out b hb).2))
           have HC:=Lib.hid hC
           have HM:=Lib.hid hm
           have HOW:=Lib.hid hown
           have HF:=Lib.hid hF
           have HNN:=Lib.hid hnn
           have HND:=Lib.hid hnd
           have HG:=Lib.hid hg
           have HKP:=Lib.hid hkp
           obtain ⟨Ap2,cp2,rfl,-⟩:=hown.form
           clear hC hm hown hF hnn hnd hg hkp
           obtain ⟨A9',c9',hv9',-⟩:=HOW9.out.form
           subst hv9'
           have HFP:Hid (FitPlace (keptP (nth l k))):=Lib.hid (ok_fit (ok_kept HTF.out))
           have HCLO:Hid (∀ V,Ext w9 V→Calls Tryz.prog 78 #[.slice A1 (nth l k).nodes.length d1] V (RetO OInt 2 (nth l k).nodes V)):=Lib.hid fun V hV=>cloneInt_any (S:=S) (nth l k).nodes _ V (HRD9.out.ext hV) (by have:=HTF.out.few;omega)
           have b10:w9.cell? ⟨B,10,none⟩=some (.slice Ap2 m2.length cp2):=HC.out.cell 10
           have b10d:w9.drew.cell? ⟨B,10,none⟩=some (.slice Ap2 m2.length cp2):=b10
           have hs0:=psx_start HC.out HOW.out
           have hB5n:B5∉B :: F2:=fun hm=>by
            rcases List.mem_cons.1 hm with h | h
            · exact absurd (tag_ne (h ▸ Q9.out) HC.out) (by decide)
            · exact HOW.out.apart Q9.out (by decide) h
           have hBxn:Bx∉B :: F2:=fun hm=>by
            rcases List.mem_cons.1 hm with h | h
            · exact absurd (tag_ne (h ▸ QX9.out) HC.out) (by decide)
            · exact HOW.out.apart QX9.out (by decide) h
           have tl:∀ V,PSx w9 B F2 V→∀ i,V.cell? ⟨B5,i,none⟩=_:=fun V hV=>hV.cells Q9.out hB5n
           have xl:∀ V,PSx w9 B F2 V→∀ i,V.cell? ⟨Bx,i,none⟩=_:=fun V hV=>hV.cells QX9.out hBxn
           have pl:∀ V,PSx w9 B F2 V→V.cell? ⟨B,10,none⟩=some (pvOf B V):=fun V hV=>hV.pv
           have fl:∀ V,PSx w9 B F2 V→V.frozen? ⟨B,10,none⟩=false:=fun V hV=>hV.fz
           clear hB5n hBxn
           refine wp_region_held_drew (S:=fun V=>PSx w9 B F2 V) (by kernel_rfl) hs0.drew (fun hHeld=>?_)
           clear pl
           refine wpAnyH_take (i:=0) (oi:=_) (v:=?v__1) rfl (by kernel_rfl) (by kernel_rfl) (by kernel_rfl) (fun _ _ _ h=>h) (Or.inl ⟨by rfl,?hy__1⟩) (by assumption) ?rest__1
           case hy__1=>(intro w__ hSw__;go_simp;try (with_reducible rfl))
           try simp only [Act.put]
           refine wpAnyH_take (i:=1) (oi:=_) (v:=?v__2) rfl (by kernel_rfl) (by kernel_rfl) (by kernel_rfl) (fun _ _ _ h=>h) (Or.inl ⟨by rfl,?hy__2⟩) (by assumption) ?rest__2
           case hy__2=>(intro w__ hSw__;go_simp;try (with_reducible rfl))
           try simp only [Act.put]
           refine wpAnyH_take (i:=2) (oi:=_) (v:=?v__3) rfl (by kernel_rfl) (by kernel_rfl) (by kernel_rfl) (fun _ _ _ h=>h) (Or.inl ⟨by rfl,?hy__3⟩) (by assumption) ?rest__3
           case hy__3=>(intro w__ hSw__;go_simp;try (with_reducible rfl))
           try simp only [Act.put]
           refine wpAnyH_take (i:=3) (oi:=_) (v:=?v__4) rfl (by kernel_rfl) (by kernel_rfl) (by kernel_rfl) (fun _ _ _ h=>h) (Or.inl ⟨by rfl,?hy__4⟩) (by assumption) ?rest__4
           case hy__4=>(intro w__ hSw__;go_simp;try (with_reducible rfl))
           try simp only [Act.put]
           refine wpAnyH_take (i:=5) (oi:=_) (v:=?v__5) rfl (by kernel_rfl) (by kernel_rfl) (by kernel_rfl) (fun _ _ _ h=>h) (Or.inl ⟨by rfl,?hy__5⟩) (by assumption) ?rest__5
           case hy__5=>(intro w__ hSw__;go_simp;try (with_reducible rfl))
           try simp only [Act.put]
           refine wpAnyH_take (i:=6) (oi:=_) (v:=?v__6) rfl (by kernel_rfl) (by kernel_rfl) (by kernel_rfl) (fun _ _ _ h=>h) (Or.inl ⟨by rfl,?hy__6⟩) (by assumption) ?rest__6
           case hy__6=>(intro w__ hSw__;go_simp;try (with_reducible rfl))
           try simp only [Act.put]
           refine wpAnyH_take (i:=7) (oi:=_) (v:=?v__7) rfl (by kernel_rfl) (by kernel_rfl) (by kernel_rfl) (fun _ _ _ h=>h) (Or.inl ⟨by rfl,?hy__7⟩) (by assumption) ?rest__7
           case hy__7=>(intro w__ hSw__;go_simp;try (with_reducible rfl))
           try simp only [Act.put]
           refine wpAnyH_take (i:=8) (oi:=_) (v:=?v__8) rfl (by kernel_rfl) (by kernel_rfl) (by kernel_rfl) (fun _ _ _ h=>h) (Or.inl ⟨by rfl,?hy__8⟩) (by assumption) ?rest__8
           case hy__8=>(intro w__ hSw__;go_simp;try (with_reducible rfl))
           try simp only [Act.put]
           refine wpAnyH_take (i:=9) (oi:=_) (v:=?v__9) rfl (by kernel_rfl) (by kernel_rfl) (by kernel_rfl) (fun _ _ _ h=>h) (Or.inl ⟨by rfl,?hy__9⟩) (by assumption) ?rest__9
           case hy__9=>(intro w__ hSw__;go_simp;try (with_reducible rfl))
           try simp only [Act.put]
           refine wpAnyH_take (i:=10) (oi:=_) (v:=?v__10) rfl (by kernel_rfl) (by kernel_rfl) (by kernel_rfl) (fun _ _ _ h=>h) (Or.inl ⟨by rfl,?hy__10⟩) (by assumption) ?rest__10
           case hy__10=>(intro w__ hSw__;go_simp;try (with_reducible rfl))
           try simp only [Act.put]
           refine wpAnyH_take (i:=11) (oi:=_) (v:=?v__11) rfl (by kernel_rfl) (by kernel_rfl) (by kernel_rfl) (fun _ _ _ h=>h) (Or.inl ⟨by rfl,?hy__11⟩) (by assumption) ?rest__11
           case hy__11=>(intro w__ hSw__;go_simp;try (with_reducible rfl))
           try simp only [Act.put]
           refine wpAnyH_take (i:=12) (oi:=_) (v:=?v__12) rfl (by kernel_rfl) (by kernel_rfl) (by kernel_rfl) (fun _ _ _ h=>h) (Or.inl ⟨by rfl,?hy__12⟩) (by assumption) ?rest__12
           case hy__12=>(intro w__ hSw__;go_simp;try (with_reducible rfl))
           try simp only [Act.put]
           refine wpAnyH_take (i:=13) (oi:=_) (v:=?v__13) rfl (by kernel_rfl) (by kernel_rfl) (by kernel_rfl) (fun _ _ _ h=>h) (Or.inl ⟨by rfl,?hy__13⟩) (by assumption) ?rest__13
           case hy__13=>(intro w__ hSw__;go_simp;try (with_reducible rfl))
           try simp only [Act.put]
           refine wpAnyH_take (i:=14) (oi:=_) (v:=?v__14) rfl (by kernel_rfl) (by kernel_rfl) (by kernel_rfl) (fun _ _ _ h=>h) (Or.inl ⟨by rfl,?hy__14⟩) (by assumption) ?rest__14
           case hy__14=>(intro w__ hSw__;go_simp;try (with_reducible rfl))
           try simp only [Act.put]
           refine wpAnyH_ready (rs:=[4,15]) (by kernel_rfl) (by simp) ?_
           refine AllReadyH.cons (o:=_) rfl (fun K hK=>?_) ?_
           · go_simp
             refine hK.out _ _ (by repeat (first | with_reducible assumption | with_reducible refine PSx.set ?_ _ | with_reducible refine PSx.app ?_ hkp | with_reducible refine PSx.ext ?_ hx10 | with_reducible refine PSx.drew ?_ | with_reducible refine PSx.alloc ?_ _)) (fun hHeld=>?_)
             clear hK K
             try simp only [Act.put]
             refine wpAnyH_ready (rs:=[15]) (by kernel_rfl) (by simp) ?_
             refine AllReadyH.cons (o:=_) rfl (fun K hK=>?_) ?_
             · (go_simp;go_at_call 78;(with_reducible refine (HCLO.out _ (by repeat (first | with_reducible assumption | with_reducible exact Ext.refl _ | with_reducible refine Ext.alloc ?_ _ | with_reducible refine Ext.drew ?_ | with_reducible refine Ext.setCell ?_ (by first | exact Nat.le_refl _ | exact Ext.size (by assumption) | (simp;done) | (simp;omega) | (show _≤_;omega)) _ ))).mono ?_);rintro e w10 ⟨u10,G10,rfl,q10,g10,hx10⟩;obtain ⟨A10,c10,rfl,-⟩:=OwS.form q10;have XH10:Hid (Ext w9 w10):=Lib.hid (Ext.trans (by repeat (first | with_reducible assumption | with_reducible exact Ext.refl _ | with_reducible refine Ext.alloc ?_ _ | with_reducible refine Ext.drew ?_ | with_reducible refine Ext.setCell ?_ (by first | exact Nat.le_refl _ | exact Ext.size (by assumption) | (simp;done) | (simp;omega) | (show _≤_;omega)) _ )) hx10);have b10':=Ext.some XH10.out b10;have b10b:=fun ob:Obj=>Ext.some ((Ext.refl w10).alloc ob) b10')
               refine hK.out _ _ (by repeat (first | with_reducible assumption | with_reducible refine PSx.set ?_ _ | with_reducible refine PSx.app ?_ hkp | with_reducible refine PSx.ext ?_ hx10 | with_reducible refine PSx.drew ?_ | with_reducible refine PSx.alloc ?_ _)) (fun hHeld=>?_)
               clear hK K
               try simp only [Act.put]
               refine wpAnyH_take (i:=16) (oi:=_) (v:=?v__15) rfl (by kernel_rfl) (by kernel_rfl) (by kernel_rfl) (fun _ _ _ h=>h) (Or.inl ⟨by rfl,?hy__15⟩) (by assumption) ?rest__15
               case hy__15=>(intro w__ hSw__;go_simp;try (with_reducible rfl))
               try simp only [Act.put]
               refine wpAnyH_ready (rs:=[17]) (by kernel_rfl) (by simp) ?_
               refine AllReadyH.cons (o:=_) rfl (fun K hK=>?_) ?_
               · go_simp
                 refine hK.out _ _ (by repeat (first | with_reducible assumption | with_reducible refine PSx.set ?_ _ | with_reducible refine PSx.app ?_ hkp | with_reducible refine PSx.ext ?_ hx10 | with_reducible refine PSx.drew ?_ | with_reducible refine PSx.alloc ?_ _)) (fun hHeld=>?_)
                 clear hK K
                 try simp only [Act.put]
                 refine wpAnyH_ready (rs:=[18]) (by kernel_rfl) (by simp) ?_
                 refine AllReadyH.cons (o:=_) rfl (fun K hK=>?_) ?_
                 · (refine step_append_one (E:=EPV) (O:=OPV) (T:=138) (l:=m2) (F:=F2) (G:=[]) (y:=⟨keptP (nth l k),A10,(nth l k).nodes.length,c10,G10⟩) (cs:=cellsPlace (keptP (nth l k)) (.slice A10 (nth l k).nodes.length c10)) (by rfl) _ _ 53 (by rfl) (.agg #[.int .i64 0,.int .i64 0,.int .i64 0,.int .i64 0,.int .i64 0,.bool false,.slice none 0 0]) 7 72 Tryz.underlying53 (by kernel_rfl) rfl rfl (by rfl) (HOW.out.ext (by have hxx:=XH10.out;repeat (first | with_reducible assumption | with_reducible exact Ext.refl _ | with_reducible refine Ext.alloc ?_ _ | with_reducible refine Ext.drew ?_ | with_reducible refine Ext.setCell ?_ (by first | exact Nat.le_refl _ | exact Ext.size (by assumption) | (simp;done) | (simp;omega) | (show _≤_;omega)) _ ))) _ 0 1 (by rfl) ⟨⟨rfl,HFP.out⟩,rfl⟩ (Blk.new _ _ _).range (by simpa using HOW.out.nodup) (by have h1:=HLS.out;rw [← HM.out,List.length_map] at h1;omega) (by decide) ?_;intro v'' w11 F3 how hkp hF3;obtain ⟨p11,k11,hv11,-⟩:=OwS.form how;subst hv11;have R11:=planner_after HC.out HOW.out (by have hxx:=XH10.out;repeat (first | with_reducible assumption | with_reducible exact Ext.refl _ | with_reducible refine Ext.alloc ?_ _ | with_reducible refine Ext.drew ?_ | with_reducible refine Ext.setCell ?_ (by first | exact Nat.le_refl _ | exact Ext.size (by assumption) | (simp;done) | (simp;omega) | (show _≤_;omega)) _ )) hkp;have rc:=Blk.cell R11 10;have rf:=Blk.frozen R11 10)
                   refine hK.out _ _ (by repeat (first | with_reducible assumption | with_reducible refine PSx.set ?_ _ | with_reducible refine PSx.app ?_ hkp | with_reducible refine PSx.ext ?_ hx10 | with_reducible refine PSx.drew ?_ | with_reducible refine PSx.alloc ?_ _)) (fun hHeld=>?_)
                   clear hK K
                   try simp only [Act.put]
                   refine wpAnyH_take (i:=19) (oi:=_) (v:=?v__16) rfl (by kernel_rfl) (by kernel_rfl) (by kernel_rfl) (fun _ _ _ h=>h) (Or.inl ⟨by rfl,?hy__16⟩) (by assumption) ?rest__16
                   case hy__16=>(intro w__ hSw__;go_simp;try (with_reducible rfl))
                   try simp only [Act.put]
                   refine wpAnyH_take (i:=20) (oi:=_) (v:=?v__17) rfl (by kernel_rfl) (by kernel_rfl) (by kernel_rfl) (fun _ _ _ h=>h) (Or.inl ⟨by rfl,?hy__17⟩) (by assumption) ?rest__17
                   case hy__17=>(intro w__ hSw__;go_simp;try (with_reducible rfl))
                   try simp only [Act.put]
                   refine wpAnyH_ready (rs:=[21]) (by kernel_rfl) (by simp) ?_
                   refine AllReadyH.cons (o:=_) rfl (fun K hK=>?_) ?_
                   · go_simp
                     refine hK.out _ _ (by repeat (first | with_reducible assumption | with_reducible refine PSx.set ?_ _ | with_reducible refine PSx.app ?_ hkp | with_reducible refine PSx.ext ?_ hx10 | with_reducible refine PSx.drew ?_ | with_reducible refine PSx.alloc ?_ _)) (fun hHeld=>?_)
                     clear hK K
                     try simp only [Act.put]
                     refine wpAnyH_done (by kernel_rfl) ?_ _
                     have hxa:Ext w9 (w10.alloc (.cells #[.int .i64 (nth l k).label.level,.int .i64 (nth l k).label.set,.int .i64 (nth l k).id,.int .i64 (nth l k).start,.int .i64 (endOf (nth l k)),.bool false,.slice A10 (nth l k).nodes.length c10] 138)):=XH10.out.alloc _
                     have hpush:PlS w B F0 G0 y v1 v2 v3 v4 v5 v6 (.slice As (startR y).length cs) (.slice Ah (hardR y).length ch) (w11.setCell ⟨B,10,none⟩ (.slice p11 (m2.length+1) k11)) (sk.2.2 ++ [keptP (nth l k)]):=PlS.push (e:=⟨keptP (nth l k),A10,(nth l k).nodes.length,c10,G10⟩) HC.out HM.out HOW.out HF.out HNN.out HND.out HG.out HKP.out hxa (q10.ext ((Ext.refl _).alloc _)) g10 (by simpa using how) hkp (fun b hb=>by simpa using hF3 b hb)
                     have HPU:=Lib.hid hpush
                     have HLR:Hid (OwS OTV 46 (w11.setCell ⟨B,10,none⟩ (.slice p11 (m2.length+1) k11)) (.slice Al ml.length cl) ml Fl):=Lib.hid (row_after HOL9.out HOW.out HC.out hxa hkp)
                     have HKRR:Hid (OwS OTV 46 (w11.setCell ⟨B,10,none⟩ (.slice p11 (m2.length+1) k11)) (.slice A9' (mk.length+1) c9') (mk ++ [⟨nth l k,A1,(nth l k).nodes.length,d1⟩]) F'):=Lib.hid (by rw [show mk.length+1=(mk ++ [(⟨nth l k,A1,(nth l k).nodes.length,d1⟩:TV)]).length by simp];exact row_after HOW9.out HOW.out HC.out hxa hkp)
                     clear hpush hxa how hkp hF3 R11 rc rf q10 g10 hx10
                     go_wp2_with fail
                     go_roundw
                     case rel=>exact ⟨k+1,ml,mk ++ [⟨nth l k,A1,(nth l k).nodes.length,d1⟩],Fl,F',by omega,by go_num,by rw [HE.out];exact HPU.out,HLR.out,by rw [HE.out];exact HML.out,HTL.out,HFL.out,HKRR.out,by rw [HE.out,List.map_append,HMK.out];rfl,tat_push HTK.out HRDW.out,HZ0.out,HZ1.out⟩
                     case measure=>simp [intOf];omega
                   exact AllReadyH.nil
                 exact AllReadyH.nil
               exact AllReadyH.nil
             exact AllReadyH.nil
           refine AllReadyH.cons (o:=_) rfl (fun K hK=>?_) ?_
           · (go_simp;go_at_call 78;(with_reducible refine (HCLO.out _ (by repeat (first | with_reducible assumption | with_reducible exact Ext.refl _ | with_reducible refine Ext.alloc ?_ _ | with_reducible refine Ext.drew ?_ | with_reducible refine Ext.setCell ?_ (by first | exact Nat.le_refl _ | exact Ext.size (by assumption) | (simp;done) | (simp;omega) | (show _≤_;omega)) _ ))).mono ?_);rintro e w10 ⟨u10,G10,rfl,q10,g10,hx10⟩;obtain ⟨A10,c10,rfl,-⟩:=OwS.form q10;have XH10:Hid (Ext w9 w10):=Lib.hid (Ext.trans (by repeat (first | with_reducible assumption | with_reducible exact Ext.refl _ | with_reducible refine Ext.alloc ?_ _ | with_reducible refine Ext.drew ?_ | with_reducible refine Ext.setCell ?_ (by first | exact Nat.le_refl _ | exact Ext.size (by assumption) | (simp;done) | (simp;omega) | (show _≤_;omega)) _ )) hx10);have b10':=Ext.some XH10.out b10;have b10b:=fun ob:Obj=>Ext.some ((Ext.refl w10).alloc ob) b10')
             refine hK.out _ _ (by repeat (first | with_reducible assumption | with_reducible refine PSx.set ?_ _ | with_reducible refine PSx.app ?_ hkp | with_reducible refine PSx.ext ?_ hx10 | with_reducible refine PSx.drew ?_ | with_reducible refine PSx.alloc ?_ _)) (fun hHeld=>?_)
             clear hK K
             try simp only [Act.put]
             refine wpAnyH_take (i:=16) (oi:=_) (v:=?v__18) rfl (by kernel_rfl) (by kernel_rfl) (by kernel_rfl) (fun _ _ _ h=>h) (Or.inl ⟨by rfl,?hy__18⟩) (by assumption) ?rest__18
             case hy__18=>(intro w__ hSw__;go_simp;try (with_reducible rfl))
             try simp only [Act.put]
             refine wpAnyH_ready (rs:=[4,17]) (by kernel_rfl) (by simp) ?_
             refine AllReadyH.cons (o:=_) rfl (fun K hK=>?_) ?_
             · go_simp
               refine hK.out _ _ (by repeat (first | with_reducible assumption | with_reducible refine PSx.set ?_ _ | with_reducible refine PSx.app ?_ hkp | with_reducible refine PSx.ext ?_ hx10 | with_reducible refine PSx.drew ?_ | with_reducible refine PSx.alloc ?_ _)) (fun hHeld=>?_)
               clear hK K
               try simp only [Act.put]
               refine wpAnyH_ready (rs:=[17]) (by kernel_rfl) (by simp) ?_
               refine AllReadyH.cons (o:=_) rfl (fun K hK=>?_) ?_
               · go_simp
                 refine hK.out _ _ (by repeat (first | with_reducible assumption | with_reducible refine PSx.set ?_ _ | with_reducible refine PSx.app ?_ hkp | with_reducible refine PSx.ext ?_ hx10 | with_reducible refine PSx.drew ?_ | with_reducible refine PSx.alloc ?_ _)) (fun hHeld=>?_)
                 clear hK K
                 try simp only [Act.put]
                 refine wpAnyH_ready (rs:=[18]) (by kernel_rfl) (by simp) ?_
                 refine AllReadyH.cons (o:=_) rfl (fun K hK=>?_) ?_
                 · (refine step_append_one (E:=EPV) (O:=OPV) (T:=138) (l:=m2) (F:=F2) (G:=[]) (y:=⟨keptP (nth l k),A10,(nth l k).nodes.length,c10,G10⟩) (cs:=cellsPlace (keptP (nth l k)) (.slice A10 (nth l k).nodes.length c10)) (by rfl) _ _ 53 (by rfl) (.agg #[.int .i64 0,.int .i64 0,.int .i64 0,.int .i64 0,.int .i64 0,.bool false,.slice none 0 0]) 7 72 Tryz.underlying53 (by kernel_rfl) rfl rfl (by rfl) (HOW.out.ext (by have hxx:=XH10.out;repeat (first | with_reducible assumption | with_reducible exact Ext.refl _ | with_reducible refine Ext.alloc ?_ _ | with_reducible refine Ext.drew ?_ | with_reducible refine Ext.setCell ?_ (by first | exact Nat.le_refl _ | exact Ext.size (by assumption) | (simp;done) | (simp;omega) | (show _≤_;omega)) _ ))) _ 0 1 (by rfl) ⟨⟨rfl,HFP.out⟩,rfl⟩ (Blk.new _ _ _).range (by simpa using HOW.out.nodup) (by have h1:=HLS.out;rw [← HM.out,List.length_map] at h1;omega) (by decide) ?_;intro v'' w11 F3 how hkp hF3;obtain ⟨p11,k11,hv11,-⟩:=OwS.form how;subst hv11;have R11:=planner_after HC.out HOW.out (by have hxx:=XH10.out;repeat (first | with_reducible assumption | with_reducible exact Ext.refl _ | with_reducible refine Ext.alloc ?_ _ | with_reducible refine Ext.drew ?_ | with_reducible refine Ext.setCell ?_ (by first | exact Nat.le_refl _ | exact Ext.size (by assumption) | (simp;done) | (simp;omega) | (show _≤_;omega)) _ )) hkp;have rc:=Blk.cell R11 10;have rf:=Blk.frozen R11 10)
                   refine hK.out _ _ (by repeat (first | with_reducible assumption | with_reducible refine PSx.set ?_ _ | with_reducible refine PSx.app ?_ hkp | with_reducible refine PSx.ext ?_ hx10 | with_reducible refine PSx.drew ?_ | with_reducible refine PSx.alloc ?_ _)) (fun hHeld=>?_)
                   clear hK K
                   try simp only [Act.put]
                   refine wpAnyH_take (i:=19) (oi:=_) (v:=?v__19) rfl (by kernel_rfl) (by kernel_rfl) (by kernel_rfl) (fun _ _ _ h=>h) (Or.inl ⟨by rfl,?hy__19⟩) (by assumption) ?rest__19
                   case hy__19=>(intro w__ hSw__;go_simp;try (with_reducible rfl))
                   try simp only [Act.put]
                   refine wpAnyH_take (i:=20) (oi:=_) (v:=?v__20) rfl (by kernel_rfl) (by kernel_rfl) (by kernel_rfl) (fun _ _ _ h=>h) (Or.inl ⟨by rfl,?hy__20⟩) (by assumption) ?rest__20
                   case hy__20=>(intro w__ hSw__;go_simp;try (with_reducible rfl))
                   try simp only [Act.put]
                   refine wpAnyH_ready (rs:=[21]) (by kernel_rfl) (by simp) ?_
                   refine AllReadyH.cons (o:=_) rfl (fun K hK=>?_) ?_
                   · go_simp
                     refine hK.out _ _ (by repeat (first | with_reducible assumption | with_reducible refine PSx.set ?_ _ | with_reducible refine PSx.app ?_ hkp | with_reducible refine PSx.ext ?_ hx10 | with_reducible refine PSx.drew ?_ | with_reducible refine PSx.alloc ?_ _)) (fun hHeld=>?_)
                     clear hK K
                     try simp only [Act.put]
                     refine wpAnyH_done (by kernel_rfl) ?_ _
                     have hxa:Ext w9 (w10.alloc (.cells #[.int .i64 (nth l k).label.level,.int .i64 (nth l k).label.set,.int .i64 (nth l k).id,.int .i64 (nth l k).start,.int .i64 (endOf (nth l k)),.bool false,.slice A10 (nth l k).nodes.length c10] 138)):=XH10.out.alloc _
                     have hpush:PlS w B F0 G0 y v1 v2 v3 v4 v5 v6 (.slice As (startR y).length cs) (.slice Ah (hardR y).length ch) (w11.setCell ⟨B,10,none⟩ (.slice p11 (m2.length+1) k11)) (sk.2.2 ++ [keptP (nth l k)]):=PlS.push (e:=⟨keptP (nth l k),A10,(nth l k).nodes.length,c10,G10⟩) HC.out HM.out HOW.out HF.out HNN.out HND.out HG.out HKP.out hxa (q10.ext ((Ext.refl _).alloc _)) g10 (by simpa using how) hkp (fun b hb=>by simpa using hF3 b hb)
                     have HPU:=Lib.hid hpush
                     have HLR:Hid (OwS OTV 46 (w11.setCell ⟨B,10,none⟩ (.slice p11 (m2.length+1) k11)) (.slice Al ml.length cl) ml Fl):=Lib.hid (row_after HOL9.out HOW.out HC.out hxa hkp)
                     have HKRR:Hid (OwS OTV 46 (w11.setCell ⟨B,10,none⟩ (.slice p11 (m2.length+1) k11)) (.slice A9' (mk.length+1) c9') (mk ++ [⟨nth l k,A1,(nth l k).nodes.length,d1⟩]) F'):=Lib.hid (by rw [show mk.length+1=(mk ++ [(⟨nth l k,A1,(nth l k).nodes.length,d1⟩:TV)]).length by simp];exact row_after HOW9.out HOW.out HC.out hxa hkp)
                     clear hpush hxa how hkp hF3 R11 rc rf q10 g10 hx10
                     go_wp2_with fail
                     go_roundw
                     case rel=>exact ⟨k+1,ml,mk ++ [⟨nth l k,A1,(nth l k).nodes.length,d1⟩],Fl,F',by omega,by go_num,by rw [HE.out];exact HPU.out,HLR.out,by rw [HE.out];exact HML.out,HTL.out,HFL.out,HKRR.out,by rw [HE.out,List.map_append,HMK.out];rfl,tat_push HTK.out HRDW.out,HZ0.out,HZ1.out⟩
                     case measure=>simp [intOf];omega
                   exact AllReadyH.nil
                 exact AllReadyH.nil
               exact AllReadyH.nil
             refine AllReadyH.cons (o:=_) rfl (fun K hK=>?_) ?_
             · go_simp
               refine hK.out _ _ (by repeat (first | with_reducible assumption | with_reducible refine PSx.set ?_ _ | with_reducible refine PSx.app ?_ hkp | with_reducible refine PSx.ext ?_ hx10 | with_reducible refine PSx.drew ?_ | with_reducible refine PSx.alloc ?_ _)) (fun hHeld=>?_)
               clear hK K
               try simp only [Act.put]
               refine wpAnyH_ready (rs:=[4]) (by kernel_rfl) (by simp) ?_
               refine AllReadyH.cons (o:=_) rfl (fun K hK=>?_) ?_
               · go_simp
                 refine hK.out _ _ (by repeat (first | with_reducible assumption | with_reducible refine PSx.set ?_ _ | with_reducible refine PSx.app ?_ hkp | with_reducible refine PSx.ext ?_ hx10 | with_reducible refine PSx.drew ?_ | with_reducible refine PSx.alloc ?_ _)) (fun hHeld=>?_)
                 clear hK K
                 try simp only [Act.put]
                 refine wpAnyH_ready (rs:=[18]) (by kernel_rfl) (by simp) ?_
                 refine AllReadyH.cons (o:=_) rfl (fun K hK=>?_) ?_
                 · (refine step_append_one (E:=EPV) (O:=OPV) (T:=138) (l:=m2) (F:=F2) (G:=[]) (y:=⟨keptP (nth l k),A10,(nth l k).nodes.length,c10,G10⟩) (cs:=cellsPlace (keptP (nth l k)) (.slice A10 (nth l k).nodes.length c10)) (by rfl) _ _ 53 (by rfl) (.agg #[.int .i64 0,.int .i64 0,.int .i64 0,.int .i64 0,.int .i64 0,.bool false,.slice none 0 0]) 7 72 Tryz.underlying53 (by kernel_rfl) rfl rfl (by rfl) (HOW.out.ext (by have hxx:=XH10.out;repeat (first | with_reducible assumption | with_reducible exact Ext.refl _ | with_reducible refine Ext.alloc ?_ _ | with_reducible refine Ext.drew ?_ | with_reducible refine Ext.setCell ?_ (by first | exact Nat.le_refl _ | exact Ext.size (by assumption) | (simp;done) | (simp;omega) | (show _≤_;omega)) _ ))) _ 0 1 (by rfl) ⟨⟨rfl,HFP.out⟩,rfl⟩ (Blk.new _ _ _).range (by simpa using HOW.out.nodup) (by have h1:=HLS.out;rw [← HM.out,List.length_map] at h1;omega) (by decide) ?_;intro v'' w11 F3 how hkp hF3;obtain ⟨p11,k11,hv11,-⟩:=OwS.form how;subst hv11;have R11:=planner_after HC.out HOW.out (by have hxx:=XH10.out;repeat (first | with_reducible assumption | with_reducible exact Ext.refl _ | with_reducible refine Ext.alloc ?_ _ | with_reducible refine Ext.drew ?_ | with_reducible refine Ext.setCell ?_ (by first | exact Nat.le_refl _ | exact Ext.size (by assumption) | (simp;done) | (simp;omega) | (show _≤_;omega)) _ )) hkp;have rc:=Blk.cell R11 10;have rf:=Blk.frozen R11 10)
                   refine hK.out _ _ (by repeat (first | with_reducible assumption | with_reducible refine PSx.set ?_ _ | with_reducible refine PSx.app ?_ hkp | with_reducible refine PSx.ext ?_ hx10 | with_reducible refine PSx.drew ?_ | with_reducible refine PSx.alloc ?_ _)) (fun hHeld=>?_)
                   clear hK K
                   try simp only [Act.put]
                   refine wpAnyH_take (i:=19) (oi:=_) (v:=?v__21) rfl (by kernel_rfl) (by kernel_rfl) (by kernel_rfl) (fun _ _ _ h=>h) (Or.inl ⟨by rfl,?hy__21⟩) (by assumption) ?rest__21
                   case hy__21=>(intro w__ hSw__;go_simp;try (with_reducible rfl))
                   try simp only [Act.put]
                   refine wpAnyH_take (i:=20) (oi:=_) (v:=?v__22) rfl (by kernel_rfl) (by kernel_rfl) (by kernel_rfl) (fun _ _ _ h=>h) (Or.inl ⟨by rfl,?hy__22⟩) (by assumption) ?rest__22
                   case hy__22=>(intro w__ hSw__;go_simp;try (with_reducible rfl))
                   try simp only [Act.put]
                   refine wpAnyH_ready (rs:=[21]) (by kernel_rfl) (by simp) ?_
                   refine AllReadyH.cons (o:=_) rfl (fun K hK=>?_) ?_
                   · go_simp
                     refine hK.out _ _ (by repeat (first | with_reducible assumption | with_reducible refine PSx.set ?_ _ | with_reducible refine PSx.app ?_ hkp | with_reducible refine PSx.ext ?_ hx10 | with_reducible refine PSx.drew ?_ | with_reducible refine PSx.alloc ?_ _)) (fun hHeld=>?_)
                     clear hK K
                     try simp only [Act.put]
                     refine wpAnyH_done (by kernel_rfl) ?_ _
                     have hxa:Ext w9 (w10.alloc (.cells #[.int .i64 (nth l k).label.level,.int .i64 (nth l k).label.set,.int .i64 (nth l k).id,.int .i64 (nth l k).start,.int .i64 (endOf (nth l k)),.bool false,.slice A10 (nth l k).nodes.length c10] 138)):=XH10.out.alloc _
                     have hpush:PlS w B F0 G0 y v1 v2 v3 v4 v5 v6 (.slice As (startR y).length cs) (.slice Ah (hardR y).length ch) (w11.setCell ⟨B,10,none⟩ (.slice p11 (m2.length+1) k11)) (sk.2.2 ++ [keptP (nth l k)]):=PlS.push (e:=⟨keptP (nth l k),A10,(nth l k).nodes.length,c10,G10⟩) HC.out HM.out HOW.out HF.out HNN.out HND.out HG.out HKP.out hxa (q10.ext ((Ext.refl _).alloc _)) g10 (by simpa using how) hkp (fun b hb=>by simpa using hF3 b hb)
                     have HPU:=Lib.hid hpush
                     have HLR:Hid (OwS OTV 46 (w11.setCell ⟨B,10,none⟩ (.slice p11 (m2.length+1) k11)) (.slice Al ml.length cl) ml Fl):=Lib.hid (row_after HOL9.out HOW.out HC.out hxa hkp)
                     have HKRR:Hid (OwS OTV 46 (w11.setCell ⟨B,10,none⟩ (.slice p11 (m2.length+1) k11)) (.slice A9' (mk.length+1) c9') (mk ++ [⟨nth l k,A1,(nth l k).nodes.length,d1⟩]) F'):=Lib.hid (by rw [show mk.length+1=(mk ++ [(⟨nth l k,A1,(nth l k).nodes.length,d1⟩:TV)]).length by simp];exact row_after HOW9.out HOW.out HC.out hxa hkp)
                     clear hpush hxa how hkp hF3 R11 rc rf q10 g10 hx10
                     go_wp2_with fail
                     go_roundw
                     case rel=>exact ⟨k+1,ml,mk ++ [⟨nth l k,A1,(nth l k).nodes.length,d1⟩],Fl,F',by omega,by go_num,by rw [HE.out];exact HPU.out,HLR.out,by rw [HE.out];exact HML.out,HTL.out,HFL.out,HKRR.out,by rw [HE.out,List.map_append,HMK.out];rfl,tat_push HTK.out HRDW.out,HZ0.out,HZ1.out⟩
                     case measure=>simp [intOf];omega
                   exact AllReadyH.nil
                 exact AllReadyH.nil
               exact AllReadyH.nil
             exact AllReadyH.nil
           exact AllReadyH.nil
     · obtain rfl:k=l.length:=by omega
       rw [List.take_length] at HPP HML HMK
       obtain ⟨sr,hsr⟩:∃ sr,l.foldl (step2 y) ([],[],p1)=sr:=⟨_,rfl⟩
       have HSR:Hid (run2 y ps l=sr):=Lib.hid (by rw [run2,HP1.out,hsr])
       rw [hsr] at HPP HML HMK
       have HLS:Hid (sr.2.2.length≤20000∧sr.1.length≤96∧sr.2.1.length≤96):=Lib.hid (by
        have h1:=len_run2 (y:=y) ps l
        rw [HSR.out] at h1
        have:=HLL.out
        omega)
       have HSUB:Hid ((∀ u∈sr.1,u∈l)∧∀ u∈sr.2.1,u∈l∧0 < u.nodes.length):=Lib.hid (by have h:=sub_run2 (y:=y) (ps0:=ps) (l:=l);rwa [HSR.out] at h)
       clear hsr hk1 hlt
       clear HP HT HK HLL P1 X X1 HX1 HBl HPL1
       go_upto_region 20 with (fail)
       go_upto_block 5 with fail
       refine planLabel_l3 (S:=S) y ps l a v1 v2 v3 v4 v5 v6 B F0 G0 w wr A c As cs Ah ch ml mk Fl Fk Al cl Ak ck sr HS HO HFI HLE HTU HR HSR HLS HSUB HML HTL HTK HMK HOL HOKK HPP _ _ _ _ _ _ _ _ _ _ _ _ _ _ _ _ _ _ _ _ _ _ _ _ _ _ _ _ _ _ _ _ _ _ _ _ _ _ _ _ _ _ _ _ _ _ _ _ _ _ _ _ _ _ _ _ _ _ _ _ _ _ _ _ _ _ _ _ _ _ _ _ _ _ _ _ _ _ _ _ _ _ _ _ _ _ _ _ _ _ _ _ _ _ _ _ _ _ _ _ _ _ _ _ _ _ _ _ _ _ _ _ _ _ _ _ _ _ _ _ _ _ _ _ _ _ _ _ _ _ _ _ _ _ _ _ _ _ _ _ _ _ _ _ _ _ _ _ _ _ _ _ _ _ _ _ _ _ _ _ _ _ _ _ _ _ _ _ _ _ _ _ _ _ _ _ _ _ _ _ _ _ _ _ _ _ _ _ _ _ _ _ _ _ _ _ _ _ _ _ _ _ _ _ _ _ _ _ _ _ _ _ _ _ _ _ _ _ _ _ _ _ _ _ _ _ _ _ _ _ _ _ _ _ _ _ _ _ _ _ _ _ _ _ _ (Lib.hid ?_)
       intro w3 h3
       obtain ⟨hp3,ho3⟩:=h3
       have HP3:=Lib.hid hp3
       have HO3:=Lib.hid ho3
       clear hp3 ho3
       intros
       have HLQ:Hid ((sr.2.1.foldl (step3 y) sr.2.2).length≤30000):=Lib.hid (by have h1:=foldl_size (s:=fun ps:List Place=>ps.length) (f:=step3 y) len3 sr.2.1 sr.2.2;have:=HLS.out;omega)
       go_upto_region 30 with (fail)
       go_upto_block 7 with fail
       refine planLabel_l4 (S:=S) y ps l a v1 v2 v3 v4 v5 v6 B F0 G0 w w3 A c As cs Ah ch ml mk Fl Fk Al cl Ak ck sr (sr.2.1.foldl (step3 y) sr.2.2) HS HO HFI HLE HTU HR HSR HLS HSUB HML HTL (Lib.hid rfl) HLQ HO3 HP3 _ _ _ _ _ _ _ _ _ _ _ _ _ _ _ _ _ _ _ _ _ _ _ _ _ _ _ _ _ _ _ _ _ _ _ _ _ _ _ _ _ _ _ _ _ _ _ _ _ _ _ _ _ _ _ _ _ _ _ _ _ _ _ _ _ _ _ _ _ _ _ _ _ _ _ _ _ _ _ _ _ _ _ _ _ _ _ _ _ _ _ _ _ _ _ _ _ _ _ _ _ _ _ _ _ _ _ _ _ _ _ _ _ _ _ _ _ _ _ _ _ _ _ _ _ _ _ _ _ _ _ _ _ _ _ _ _ _ _ _ _ _ _ _ _ _ _ _ _ _ _ _ _ _ _ _ _ _ _ _ _ _ _ _ _ _ _ _ _ _ _ _ _ _ _ _ _ _ _ _ _ _ _ _ _ _ _ _ _ _ _ _ _ _ _ _ _ _ _ _ _ _ _ _ _ _ _ _ _ _ _ _ _ _ _ _ _ _ _ _ _ _ _ _ _ _ _ _ _ _ _ _ _ _ _ _ _ _ _ _ _ _ _ _ _ (Lib.hid ?_)
       intro w4 hp4
       have HPE:=Lib.hid hp4
       clear hp4
       intros
       go_end0
       exact ⟨rfl,HPE.out⟩
end Go.Proofs.YtoblacfjmcpbmaaGreat

/- The walk of the program's Orphans. -/
import Derived.Test.YtlonjlaecaemgaaCopies
import Derived.Test.YtlonjlaecaemgaaLive
set_option maxHeartbeats 8000000
namespace Go.Proofs.Ytlonjlaecaemgaa
open Go.RowKit
attribute [local irreducible] wpQuiet
theorem fit_gone {x:Task} (h:FitTask x):FitTask (gone x):=by
 obtain ⟨h1,h2,h3,h4,h5,h6,h7,h8,h9,h10,h11,_,_⟩:=h
 exact ⟨h1,h2,h3,h4,h5,h6,h7,h8,h9,h10,h11,by simp [I64,gone],by simp [I64,gone]⟩
theorem clear_any (B o:Nat) (st:Int) (w:World) (u1 u2 u3:Value) (f:∀ i,w.frozen? ⟨B,i,none⟩=false) (c1:w.cell? ⟨B,o+11,none⟩=some u1) (c2:w.cell? ⟨B,o+12,none⟩=some u2) (c3:w.cell? ⟨B,o+13,none⟩=some u3) :
 Calls Try.prog 73 #[.pointer (some ⟨B,o,none⟩),.int .i64 st] w fun e w'=>e=.returned (.tuple #[])∧w'=w.setCells B (o+11) [.int .i64 st,.int .i64 0,.slice none 0 0]:=by
 go_enter Try.func73,Try.ntmps73
 go_wp2_with fail
 go_end0
 exact ⟨rfl,rfl⟩
set_option maxRecDepth 100000 in
theorem orphansN_any {S:Nat→Prop} (l:List Task) (v:Value) (w:World) (h:Rd ETask S w v l) (ht:tasksRight l=true) (hl:l.length≤96) (hs:∀ k,k < l.length→(nth l k).nodes.length≤1000000000) :
 Calls Try.prog 52 #[v] w (RetO OTask 27 (orphL l) w):=by
 have HR:=Lib.hid h
 have HS:=Lib.hid hs
 have HT:=Lib.hid ht
 obtain ⟨A,c,rfl,h1,h2⟩:=h.form
 unfold maxLen at h2
 clear h hs ht
 go_enter Try.func52,Try.ntmps52
 go_wp2_with fail
 refine (copyTasks_any (S:=S) l _ _ HR.out (by omega) HS.out).mono ?_
 rintro e w1 ⟨v1,F1,rfl,o1,g1,hx1⟩
 obtain ⟨A1,d1,rfl,n1,m1⟩:=o1.form
 unfold maxLen at m1
 have O1:=Lib.hid o1
 have G1:=Lib.hid g1
 have X1:=Lib.hid hx1
 clear o1 g1 hx1
 go_wp2_with fail
 go_loopw [11] (fun i w'=>∃ (k:Nat) (F:List Nat),k≤l.length∧i=.int .i64 k∧OwS OTask 27 w' (.slice A1 l.length d1) (orphM l k) F∧(∀ b∈F,w.heap.size≤b)∧Ext w w') (fun i _=>l.length - (intOf i).toNat)
 case atStart=>exact ⟨0,F1,by omega,rfl,by rw [orphM_zero];exact O1.out,G1.out,X1.out⟩
 case round =>
  obtain ⟨k,F,hk1,rfl,hown,hF,hx⟩:=hrel
  have HF:=Lib.hid hF
  have HX:=Lib.hid hx
  by_cases hlt:k < l.length
  · have HO:=Lib.hid hown
    obtain ⟨B,c',G,cs,hv,hlc,hcm,hBF,hBG,hGF,ho,hc,hfz,hth,hrow,hset⟩:=hown.at2 (k:=k) (by rw [orphM_length hk1];exact hlt)
    rw [orphM_length hk1] at hv
    rw [orphM_nth hlt] at ho
    obtain ⟨u1,rfl,hfit,q1⟩:=ho
    injection hv with hA _ hcc
    subst hA hcc
    have hx0:=Ext.refl wr
    have c0:=Ext.some hx0 (hc 0 _ rfl)
    have c1:=Ext.some hx0 (hc 1 _ rfl)
    have c2:=Ext.some hx0 (hc 2 _ rfl)
    have c3:=Ext.some hx0 (hc 3 _ rfl)
    have c4:=Ext.some hx0 (hc 4 _ rfl)
    have c5:=Ext.some hx0 (hc 5 _ rfl)
    have c6:=Ext.some hx0 (hc 6 _ rfl)
    have c7:=Ext.some hx0 (hc 7 _ rfl)
    have c8:=Ext.some hx0 (hc 8 _ rfl)
    have c9:=Ext.some hx0 (hc 9 _ rfl)
    have c10:=Ext.some hx0 (hc 10 _ rfl)
    have c11:=Ext.some hx0 (hc 11 _ rfl)
    have c12:=Ext.some hx0 (hc 12 _ rfl)
    have c13:=Ext.some hx0 (hc 13 _ rfl)
    simp only [ETask,Nat.add_zero] at c0 c1 c2 c3 c4 c5 c6 c7 c8 c9 c10 c11 c12 c13
    have HC:=Lib.hid hc
    have HSET:=Lib.hid hset
    have HROW:=Lib.hid hrow
    have HTH:=Lib.hid hth
    have HFit:=Lib.hid hfit
    have HFZ:=Lib.hid hfz
    have HBF:=Lib.hid hBF
    have HK:Hid (∀ d,d < l.length→∃ cs,ETask.rel (fun b=>b∈F) wr cs (nth (orphM l k) d)∧wr.rangeAt B (d * 14) cs):=Lib.hid fun d hd=>by
     obtain ⟨A2,c2,hv2,_,_,hk2⟩:=HO.out.rd.open_
     obtain ⟨b,q,cs,hA2,_,hr2,hc2⟩:=hk2 d (by rw [orphM_length hk1];exact hd)
     injection hv2 with e1 e2 e3
     rw [← e1] at hA2
     cases hA2
     exact ⟨cs,hr2,by simpa [ETask] using hc2⟩
    have HX2:=Lib.hid hx
    clear hc hset hrow hth hfit hfz hown hBF hBG hGF q1 hlc hcm hx0 hx hF c0 c1 c2 c3 c4 c5 c6 c10
    cases hw:waits (nth l k) with
    | false =>
      have HN:=Lib.hid (orphM_no hlt HT.out (by simp [lost,hw]))
      have HW:=Lib.hid hw
      clear hw
      go_wp2_with fail
      all_goals first
       | (exfalso;have:=HW.out;unfold waits at this;grind)
       | (refine ⟨⟨k+1,F,by omega,by go_num,by rw [← HN.out];exact HO.out,HF.out,HX.out⟩,?_⟩;simp [intOf];omega)
    | true =>
      have HW:=Lib.hid hw
      have hdf:=dep_front hlt HT.out hw
      have hi0:0≤taskIx (orphM l k) (nth l k).under (nth l k).after:=by rw [orphM,taskIx_front hdf];exact hdf
      obtain ⟨hd1,hd2⟩:=taskIx_lt hi0
      rw [orphM_length hk1] at hd1
      obtain ⟨d,hde⟩:∃ d:Nat,d=(taskIx (orphM l k) (nth l k).under (nth l k).after).toNat:=⟨_,rfl⟩
      rw [← hde] at hd1 hd2
      have HI:Hid (taskIx (orphM l k) (nth l k).under (nth l k).after=(d:Int)):=Lib.hid hd2.symm
      have HTA:Hid (∀ V,Ext wr V→Calls Try.prog 56 #[.slice (some ⟨B,0,none⟩) l.length d1,.agg #[.int .i64 (nth l k).under.level,.int .i64 (nth l k).under.set],.int .i64 (nth l k).after] V fun e w'=>e=.returned (.int .i64 (d:Int))∧Ext V w'):=Lib.hid fun V hV=>by
       rw [← HI.out]
       exact taskAt_any (S:=fun b=>b∈F) (orphM l k) _ _ _ _ (HO.out.ext hV).rd
      obtain ⟨cs2,⟨v2,rfl,_,_⟩,hc2⟩:=HK.out d hd1
      have cS:=hc2 11 _ rfl
      have hdi:(d:Int) < (l.length:Int):=by omega
      have hd0:(0:Int)≤(d:Int):=by omega
      have HL:Hid (lost (orphM l k) (nth l k)=badEnd (nth (orphM l k) d).state):=Lib.hid (by unfold lost;rw [hw,← hde];rfl)
      clear hw hdf hi0 hd2 hde hc2
      go_wp2_with fail
      all_goals try (exfalso;have:=HW.out;unfold waits at this;grind)
      all_goals
       (skip
        refine wp_region_ext (by kernel_rfl) (by kernel_rfl) ?_
        repeat (
         (refine wpQuiet_step (fun K hK=>?_)
          go_simp
          first
           | (refine hK _ ?_;clear hK K)
           | (apply Exists.intro
              refine ⟨fun w__ hx__=>?_,hK _ ?_⟩
              · have c7__:=Ext.some hx__ c7;have c8__:=Ext.some hx__ c8;have c9__:=Ext.some hx__ c9;have cS__:=Ext.some hx__ cS;first | exact rfl | (go_simp;done) | (go_simp;exact rfl) | (go_at_call 56;exact ext_of hx__ (HTA.out _ hx__))
              clear hK K)))
        refine wpQuiet_nil ?_
        intro w1 hx1
        have Y1:=Lib.hid hx1
        have g11:=Ext.some hx1 c11
        have g12:=Ext.some hx1 c12
        have g13:=Ext.some hx1 c13
        clear hx1 c7 c8 c9 c11 c12 c13 cS
        cases hb:badEnd (nth (orphM l k) d).state with
        | false =>
          have HB:=Lib.hid hb
          have HN:=Lib.hid (orphM_no hlt HT.out (by rw [HL.out];exact hb))
          clear hb
          go_wp2_with fail
          all_goals first
           | (exfalso;have:=HB.out;unfold badEnd at this;grind)
           | (refine ⟨⟨k+1,F,by omega,by go_num,by rw [← HN.out];exact HO.out.ext Y1.out,HF.out,HX.out.trans Y1.out⟩,?_⟩;simp [intOf];omega)
        | true =>
          have HB:=Lib.hid hb
          have HN:=Lib.hid (orphM_yes hlt HT.out (by rw [HL.out];exact hb))
          have hfz1:∀ i,w1.frozen? ⟨B,i,none⟩=false:=(RowBut.kept HROW.out (Kept.of_ext (F:=[]) Y1.out) (by simp)).frozen
          have HRow1:=Lib.hid (RowBut.kept HROW.out (Kept.of_ext (F:=[]) Y1.out) (by simp))
          have HTh1:=Lib.hid (there_ext HTH.out Y1.out (blk_lt_of HROW.out))
          have HC1:=Lib.hid (Y1.out.range HC.out)
          have HN2:Hid (∃ F',OwS OTask 27 (w1.setCells B (k * 14+11) [.int .i64 6,.int .i64 0,.slice none 0 0]) (.slice (some ⟨B,0,none⟩) l.length d1) (orphM l (k+1)) F'∧∀ b∈F',b∈F∨wr.heap.size≤b):=Lib.hid (by
           rw [← HN.out]
           refine HSET.out _ (gone (nth l k)) (cellsTask (gone (nth l k)) (.slice none 0 0)) [] (Kept.setCells (by simp) _ _ _ (Kept.of_ext Y1.out)) (RowBut.setCells _ _ _ HRow1.out (by simp only [ETask];omega) (by simp only [ETask,List.length_cons,List.length_nil];omega)) ⟨_,rfl,fit_gone HFit.out,OwS.nil _⟩ (fun b hb=>absurd hb (by simp)) ?_
           exact range_back (a:=[.int .i64 (nth l k).label.level,.int .i64 (nth l k).label.set,.int .i64 (nth l k).id,.string (nth l k).owner,.int .i64 (nth l k).need,.int .i64 (nth l k).long,.int .i64 (nth l k).prio,.int .i64 (nth l k).under.level,.int .i64 (nth l k).under.set,.int .i64 (nth l k).after,.int .i64 (nth l k).born]) (b:=[.int .i64 (nth l k).state,.int .i64 (nth l k).start,u1]) HC1.out (there_sub HTh1.out (by simp [ETask])))
          clear hb
          go_wp2_with (go_at_call 73;(with_reducible refine (clear_any B (k * 14) 6 _ _ _ _ hfz1 g11 g12 g13).mono ?_);rintro e w2 ⟨rfl,rfl⟩)
          all_goals try (exfalso;have:=HB.out;unfold badEnd at this;grind)
          all_goals
           (obtain ⟨F',o',f'⟩:=HN2.out
            refine ⟨⟨k+1,F',by omega,by go_num,o',fun b hb=>?_,setCells_ext (HF.out B HBF.out) _ _ _ (HX.out.trans Y1.out)⟩,by simp [intOf];omega⟩
            rcases f' b hb with h | h
            · exact HF.out b h
            · exact Nat.le_trans HX.out.size h))
  · obtain rfl:k=l.length:=by omega
    rw [orphM_full] at hown
    have HO:=Lib.hid hown
    clear hown
    go_wp2_with fail
    go_ret
    exact ⟨_,F,rfl,HO.out,HF.out,HX.out⟩
end Go.Proofs.Ytlonjlaecaemgaa

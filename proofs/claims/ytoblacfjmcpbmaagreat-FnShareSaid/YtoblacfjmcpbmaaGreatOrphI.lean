/- The walk of the program's BooksPass. -/
import Derived.Test.YtoblacfjmcpbmaaGreatInsSpan
import Derived.Test.YtoblacfjmcpbmaaGreatCopies
import Derived.Test.YtoblacfjmcpbmaaGreatReady
set_option maxHeartbeats 8000000
set_option maxRecDepth 100000
namespace Go.Proofs.YtoblacfjmcpbmaaGreat
open Go.RowKit
attribute [local irreducible] wpQuiet
theorem call_pass1:∀ (args:Array Value) (W:World),(callFunc 91 args).run Tryz.prog W=.ok (.enter 91 args) W:=by
 intro args W
 go_simp
theorem pass1_any (x:Span) (now:Int) (cs:List Value) (B:Nat) (w:World) (h:ESpan.rel (fun _=>False) w cs x) (d0:w.cell? ⟨B,0,none⟩=some (.int .i64 now)) :
 Calls Tryz.prog 91 #[.agg cs.toArray,.pointer (some ⟨B,0,none⟩)] w fun e w'=>e=.returned (.bool (!passed now x))∧Ext w w':=by
 obtain ⟨rfl,_⟩:=h
 have d0':=fun ob:Obj=>Ext.some ((Ext.refl w).alloc ob) d0
 simp only [cellsSpan]
 go_enter Tryz.func91,Tryz.ntmps91
 go_wp2_with fail
 go_ret
 exact ⟨ret_bool (by unfold passed;rw [← decide_not];congr 1;simp),(Ext.refl _).alloc _⟩
def passM (now:Int) (l:List Node) (k:Nat):List Node:=(l.take k).map (passNode now) ++ l.drop k
theorem passM_zero (now:Int) (l:List Node):passM now l 0=l:=by simp [passM]
theorem passM_full (now:Int) (l:List Node):passM now l l.length=l.map (passNode now):=by simp [passM]
theorem passM_length {now:Int} {l:List Node} {k:Nat} (hk:k≤l.length):(passM now l k).length=l.length:=by simp [passM];omega
theorem passM_nth {now:Int} {l:List Node} {k:Nat} (hk:k < l.length):nth (passM now l k) k=nth l k:=by
 have hlen:((l.take k).map (passNode now)).length=k:=by simp;omega
 have e:=nth_append_right (l:=(l.take k).map (passNode now)) (m:=l.drop k) (k:=0) (by rw [List.length_drop];omega)
 rw [hlen,Nat.add_zero] at e
 rw [passM,e,nth_eq (by rw [List.length_drop];omega),nth_eq hk]
 simp
theorem passM_set {now:Int} {l:List Node} {k:Nat} (hk:k < l.length):(passM now l k).set k (passNode now (nth l k))=passM now l (k+1):=by
 have hlen:((l.take k).map (passNode now)).length=k:=by simp;omega
 rw [passM,passM,take_map_succ hk,List.set_append_right _ _ (by omega),hlen,Nat.sub_self,drop_nth hk,List.set_cons_zero,List.append_assoc]
 rfl
theorem booksPass_any {S:Nat→Prop} (l:List Node) (now:Int) (v:Value) (w:World) (h:Rd ENode S w v l) :
 Calls Tryz.prog 41 #[v,.int .i64 now] w (RetO ONode 107 (booksPass l now) w):=by
 have HR:=Lib.hid h
 obtain ⟨A,c,rfl,h1,h2⟩:=h.form
 unfold maxLen at h2
 clear h
 go_enter Tryz.func41,Tryz.ntmps41
 go_upto_region 1 with (fail)
 obtain ⟨W,R,hW,hB,hx0,b0⟩:∃ W B,W=w.alloc (.cells #[.int .i64 now] 2)∧B=w.heap.size∧Ext w W∧Blk W B 2 #[.int .i64 now]:=⟨_,_,rfl,rfl,(Ext.refl w).alloc _,Blk.new _ _ _⟩
 rw [← hW,← hB]
 have R0:=Lib.hid b0
 have X0:=Lib.hid hx0
 clear hW hB hx0 b0
 go_wp2_with fail
 refine (nodesRight_any (S:=S) l _ _ (HR.out.ext X0.out)).mono ?_
 rintro e w1 ⟨rfl,hx⟩
 have X1:=Lib.hid (X0.out.trans hx)
 have R1:=Lib.hid (R0.out.ext hx)
 clear hx
 cases ht:nodesRight l with
 | false =>
   have HE:Hid (booksPass l now = []):=Lib.hid (by rw [booksPass,ht];rfl)
   go_wp2_with fail
   go_ret
   exact ⟨_,[],rfl,by rw [HE.out];exact OwS.nil _,fun b hb=>(by cases hb),X1.out⟩
 | true =>
 have HT:=Lib.hid ht
 have HE:Hid (booksPass l now=l.map (passNode now)):=Lib.hid (by rw [booksPass,if_pos ht])
 have HS:Hid (∀ k,k < l.length→(nth l k).books.length≤1000000000):=Lib.hid fun k hk=>by have:=(nodesRight_books ht hk).1;omega
 have hl:=(nodesRight_length ht).2
 rw [HE.out]
 clear ht
 go_wp2_with fail
 refine (copyNodes_any (S:=S) l _ _ (HR.out.ext X1.out) (by omega) HS.out).mono ?_
 rintro e w2 ⟨v2,F2,rfl,o2,g2,hx⟩
 obtain ⟨A2,c2,rfl,n2,m2⟩:=o2.form
 unfold maxLen at m2
 have O2:=Lib.hid o2
 have G2:=Lib.hid g2
 have X2:=Lib.hid (X1.out.trans hx)
 have R2:=Lib.hid (R1.out.ext hx)
 have HR1:=Lib.hid R1.out.lt
 have HX1:=Lib.hid X1.out.size
 clear o2 g2 hx
 go_wp2_with fail
 go_loopw [14] (fun i w'=>∃ (k:Nat) (F:List Nat),k≤l.length∧i=.int .i64 k∧OwS ONode 107 w' (.slice A2 l.length c2) (passM now l k) F∧(∀ b∈F,w1.heap.size≤b)∧Ext w w'∧Blk w' R 2 #[.int .i64 now]) (fun i _=>l.length - (intOf i).toNat)
 case atStart=>exact ⟨0,F2,by omega,rfl,by rw [passM_zero];exact O2.out,G2.out,X2.out,R2.out⟩
 case round =>
  obtain ⟨k,F,hk1,rfl,hown,hF,hx,hr⟩:=hrel
  have HF:=Lib.hid hF
  have HX:=Lib.hid hx
  have HRr:=Lib.hid hr
  by_cases hlt:k < l.length
  · obtain ⟨B,c',G,cs,hv,hlc,hcm,hBF,hBG,hGF,ho,hc,hfz,hth,hrow,hset⟩:=hown.at2 (k:=k) (by rw [passM_length hk1];exact hlt)
    rw [passM_length hk1] at hv
    rw [passM_nth hlt] at ho
    obtain ⟨u1,rfl,hfit,q1⟩:=ho
    injection hv with hA hlen hcc
    clear hlen
    subst hcc
    subst hA
    obtain ⟨p1,k1,rfl,-⟩:=q1.form
    have c0:=hc 0 _ rfl
    have c1:=hc 1 _ rfl
    simp only [ENode,Nat.add_zero] at c0 c1
    have Q1:=Lib.hid q1
    have HC:=Lib.hid hc
    have HSET:=Lib.hid hset
    have HROW:=Lib.hid hrow
    have HTH:=Lib.hid hth
    have HFit:=Lib.hid hfit
    have HBF:=Lib.hid hBF
    have HBG:=Lib.hid hBG
    have HGF:=Lib.hid hGF
    have HM:=Lib.hid (passM_set (now:=now) hlt)
    have HRG:Hid (R∉G):=Lib.hid fun hb=>by have a:=HF.out _ (hGF _ hb);have b:=HR1.out;omega
    have HRB:Hid (R≠B):=Lib.hid fun hb=>by have a:=HF.out _ hBF;have b:=HR1.out;omega
    have HBW:=Lib.hid (blk_lt_of hrow)
    have HL4:=Lib.hid (nodesRight_books HT.out hlt).1
    clear hc hset hrow hth hfit hfz hown hBF hBG hGF q1 hlc hcm hx hF hr c0
    go_wp2_with fail
    refine (deleteFunc_Span (nth l k).books (fun x=>!passed now x) _ 91 _ G _ Q1.out (by have:=HL4.out;omega) call_pass1 (fun cs x w3 hk hr=>pass1_any x now cs R w3 hr ((World.cell?_of_block (hk.block _ HRr.out.lt HRG.out)).trans (HRr.out.cell 0)))).mono ?_
    rintro e w3 ⟨v3,F3,rfl,o3,f3,k3⟩
    simp only [Bool.not_not] at o3
    have HN:Hid (∃ F',OwS ONode 107 (w3.setCell ⟨B,k * 2+1,none⟩ v3) (.slice (some ⟨B,0,none⟩) l.length c2) (passM now l (k+1)) F'∧∀ b∈F',b∈F∨wr.heap.size≤b):=Lib.hid (by
     rw [← HM.out]
     have hB3:=(RowBut.kept HROW.out (k3.sub (G:=G) fun b _ hb=>hb) HBG.out)
     refine HSET.out _ (passNode now (nth l k)) [.int .i64 (nth l k).state,v3] F3 (Kept.setCell (k3.sub fun b _ hb=>List.mem_cons_of_mem _ hb) (by simp) _) (RowBut.setCell hB3 (by simp [ENode]) (by simp [ENode]) _) ⟨v3,rfl,HFit.out,?_⟩ (fun b hb=>.inl (f3 b hb)) ?_
     · have e:(passNode now (nth l k)).books=(nth l k).books.filter fun x=>passed now x:=rfl
       rw [e]
       exact o3.kept (G:=[B]) (Kept.setCell (Kept.refl _ _) (by simp) _) (fun b hb=>by simp;intro e;exact HBG.out (e ▸ f3 b hb))
     · have hc3:w3.rangeAt B (k * 2) ([.int .i64 (nth l k).state] ++ [.slice p1 (nth l k).books.length k1]):=fun j u hj=>k3.cell HBG.out (HC.out j u hj)
       exact range_back (a:=[.int .i64 (nth l k).state]) hc3 (fun j hj=>⟨(by obtain rfl:j=0:=(by simpa using hj);rw [show k * 2 + [Value.int IntKind.i64 (nth l k).state].length+0=k * 2+1 from rfl,hc3 1 _ rfl];rfl),hB3.frozen _⟩))
    have c13:=k3.cell HBG.out c1
    have f13:=(RowBut.kept HROW.out (k3.sub (G:=G) fun b _ hb=>hb) HBG.out).frozen (k * 2+1)
    have X3:Hid (Ext w (w3.setCell ⟨B,k * 2+1,none⟩ v3)):=Lib.hid ((k3.ext HX.out fun b hb=>Nat.le_trans HX1.out (HF.out b (HGF.out b hb))).setCell (Nat.le_trans HX1.out (HF.out B HBF.out)) _)
    have R3:Hid (Blk (w3.setCell ⟨B,k * 2+1,none⟩ v3) R 2 #[.int .i64 now]):=Lib.hid (Blk.far ((k3.block _ HRr.out.lt HRG.out).trans HRr.out) HRB.out _)
    obtain ⟨A3,c3,rfl,-⟩:=o3.form
    clear o3 f3 k3 c1
    go_wp2_with fail
    obtain ⟨F',o',f'⟩:=HN.out
    refine ⟨⟨k+1,F',by omega,by go_num,o',fun b hb=>?_,X3.out,R3.out⟩,by simp [intOf];omega⟩
    rcases f' b hb with h | h
    · exact HF.out b h
    · have a:=HF.out B HBF.out;have c:=HBW.out;omega
  · obtain rfl:k=l.length:=by omega
    rw [passM_full] at hown
    have HO:=Lib.hid hown
    clear hown hr
    go_wp2_with fail
    go_ret
    exact ⟨_,F,rfl,by rw [HE.out];exact HO.out,fun b hb=>Nat.le_trans HX1.out (HF.out b hb),HX.out⟩
end Go.Proofs.YtoblacfjmcpbmaaGreat
/- The walk of the program's Orphans. -/
namespace Go.Proofs.YtoblacfjmcpbmaaGreat
open Go.RowKit
attribute [local irreducible] wpQuiet
theorem fit_gone {x:Task} (h:FitTask x):FitTask (gone x):=by
 obtain ⟨h1,h2,h3,h4,h5,h6,h7,h8,h9,h10,h11,_,_⟩:=h
 exact ⟨h1,h2,h3,h4,h5,h6,h7,h8,h9,h10,h11,by simp [I64,gone],by simp [I64,gone]⟩
theorem clear_any (B o:Nat) (st:Int) (w:World) (u1 u2 u3:Value) (f:∀ i,w.frozen? ⟨B,i,none⟩=false) (c1:w.cell? ⟨B,o+11,none⟩=some u1) (c2:w.cell? ⟨B,o+12,none⟩=some u2) (c3:w.cell? ⟨B,o+13,none⟩=some u3) :
 Calls Tryz.prog 39 #[.pointer (some ⟨B,o,none⟩),.int .i64 st] w fun e w'=>e=.returned (.tuple #[])∧w'=w.setCells B (o+11) [.int .i64 st,.int .i64 0,.slice none 0 0]:=by
 go_enter Tryz.func39,Tryz.ntmps39
 go_wp2_with fail
 go_end0
 exact ⟨rfl,rfl⟩
theorem orphansN_any {S:Nat→Prop} (l:List Task) (v:Value) (w:World) (h:Rd ETask S w v l) (ht:tasksRight l=true) (hl:l.length≤96) (hs:∀ k,k < l.length→(nth l k).nodes.length≤1000000000) :
 Calls Tryz.prog 40 #[v] w (RetO OTask 46 (orphL l) w):=by
 have HR:=Lib.hid h
 have HS:=Lib.hid hs
 have HT:=Lib.hid ht
 obtain ⟨A,c,rfl,h1,h2⟩:=h.form
 unfold maxLen at h2
 clear h hs ht
 go_enter Tryz.func40,Tryz.ntmps40
 go_wp2_with fail
 refine (copyTasks_any (S:=S) l _ _ HR.out (by omega) HS.out).mono ?_
 rintro e w1 ⟨v1,F1,rfl,o1,g1,hx1⟩
 obtain ⟨A1,d1,rfl,n1,m1⟩:=o1.form
 unfold maxLen at m1
 have O1:=Lib.hid o1
 have G1:=Lib.hid g1
 have X1:=Lib.hid hx1
 clear o1 g1 hx1
 go_wp2_with fail
 go_loopw [11] (fun i w'=>∃ (k:Nat) (F:List Nat),k≤l.length∧i=.int .i64 k∧OwS OTask 46 w' (.slice A1 l.length d1) (orphM l k) F∧(∀ b∈F,w.heap.size≤b)∧Ext w w') (fun i _=>l.length - (intOf i).toNat)
 case atStart=>exact ⟨0,F1,by omega,rfl,by rw [orphM_zero];exact O1.out,G1.out,X1.out⟩
 case round =>
  obtain ⟨k,F,hk1,rfl,hown,hF,hx⟩:=hrel
  have HF:=Lib.hid hF
  have HX:=Lib.hid hx
  by_cases hlt:k < l.length
  · have HO:=Lib.hid hown
    obtain ⟨B,c',G,cs,hv,hlc,hcm,hBF,hBG,hGF,ho,hc,hfz,hth,hrow,hset⟩:=hown.at2 (k:=k) (by rw [orphM_length hk1];exact hlt)
    rw [orphM_length hk1] at hv
    rw [orphM_nth hlt] at ho
    obtain ⟨u1,rfl,hfit,q1⟩:=ho
    injection hv with hA _ hcc
    subst hA hcc
    have hx0:=Ext.refl wr
    have c0:=Ext.some hx0 (hc 0 _ rfl)
    have c1:=Ext.some hx0 (hc 1 _ rfl)
    have c2:=Ext.some hx0 (hc 2 _ rfl)
    have c3:=Ext.some hx0 (hc 3 _ rfl)
    have c4:=Ext.some hx0 (hc 4 _ rfl)
    have c5:=Ext.some hx0 (hc 5 _ rfl)
    have c6:=Ext.some hx0 (hc 6 _ rfl)
    have c7:=Ext.some hx0 (hc 7 _ rfl)
    have c8:=Ext.some hx0 (hc 8 _ rfl)
    have c9:=Ext.some hx0 (hc 9 _ rfl)
    have c10:=Ext.some hx0 (hc 10 _ rfl)
    have c11:=Ext.some hx0 (hc 11 _ rfl)
    have c12:=Ext.some hx0 (hc 12 _ rfl)
    have c13:=Ext.some hx0 (hc 13 _ rfl)
    simp only [ETask,Nat.add_zero] at c0 c1 c2 c3 c4 c5 c6 c7 c8 c9 c10 c11 c12 c13
    have HC:=Lib.hid hc
    have HSET:=Lib.hid hset
    have HROW:=Lib.hid hrow
    have HTH:=Lib.hid hth
    have HFit:=Lib.hid hfit
    have HFZ:=Lib.hid hfz
    have HBF:=Lib.hid hBF
    have HK:Hid (∀ d,d < l.length→∃ cs,ETask.rel (fun b=>b∈F) wr cs (nth (orphM l k) d)∧wr.rangeAt B (d * 14) cs):=Lib.hid fun d hd=>by
     obtain ⟨A2,c2,hv2,_,_,hk2⟩:=HO.out.rd.open_
     obtain ⟨b,q,cs,hA2,_,hr2,hc2⟩:=hk2 d (by rw [orphM_length hk1];exact hd)
     injection hv2 with e1 e2 e3
     rw [← e1] at hA2
     cases hA2
     exact ⟨cs,hr2,by simpa [ETask] using hc2⟩
    have HX2:=Lib.hid hx
    clear hc hset hrow hth hfit hfz hown hBF hBG hGF q1 hlc hcm hx0 hx hF c0 c1 c2 c3 c4 c5 c6 c10
    cases hw:waits (nth l k) with
    | false =>
      have HN:=Lib.hid (orphM_no hlt HT.out (by simp [lost,hw]))
      have HW:=Lib.hid hw
      clear hw
      go_wp2_with fail
      all_goals first
       | (exfalso;have:=HW.out;unfold waits at this;grind)
       | (refine ⟨⟨k+1,F,by omega,by go_num,by rw [← HN.out];exact HO.out,HF.out,HX.out⟩,?_⟩;simp [intOf];omega)
    | true =>
      have HW:=Lib.hid hw
      have hdf:=dep_front hlt HT.out hw
      have hi0:0≤taskIx (orphM l k) (nth l k).under (nth l k).after:=by rw [orphM,taskIx_front hdf];exact hdf
      obtain ⟨hd1,hd2⟩:=taskIx_lt hi0
      rw [orphM_length hk1] at hd1
      obtain ⟨d,hde⟩:∃ d:Nat,d=(taskIx (orphM l k) (nth l k).under (nth l k).after).toNat:=⟨_,rfl⟩
      rw [← hde] at hd1 hd2
      have HI:Hid (taskIx (orphM l k) (nth l k).under (nth l k).after=(d:Int)):=Lib.hid hd2.symm
      have HTA:Hid (∀ V,Ext wr V→Calls Tryz.prog 24 #[.slice (some ⟨B,0,none⟩) l.length d1,.agg #[.int .i64 (nth l k).under.level,.int .i64 (nth l k).under.set],.int .i64 (nth l k).after] V fun e w'=>e=.returned (.int .i64 (d:Int))∧Ext V w'):=Lib.hid fun V hV=>by
       rw [← HI.out]
       exact taskAt_any (S:=fun b=>b∈F) (orphM l k) _ _ _ _ (HO.out.ext hV).rd
      obtain ⟨cs2,⟨v2,rfl,_,_⟩,hc2⟩:=HK.out d hd1
      have cS:=hc2 11 _ rfl
      have hdi:(d:Int) < (l.length:Int):=by omega
      have hd0:(0:Int)≤(d:Int):=by omega
      have HL:Hid (lost (orphM l k) (nth l k)=badEnd (nth (orphM l k) d).state):=Lib.hid (by unfold lost;rw [hw,← hde];rfl)
      clear hw hdf hi0 hd2 hde hc2
      go_wp2_with fail
      all_goals try (exfalso;have:=HW.out;unfold waits at this;grind)
      all_goals
       (skip
        refine wp_region_ext (by kernel_rfl) (by kernel_rfl) ?_
        repeat (
         (refine wpQuiet_step (fun K hK=>?_)
          go_simp
          first
           | (refine hK _ ?_;clear hK K)
           | (apply Exists.intro
              refine ⟨fun w__ hx__=>?_,hK _ ?_⟩
              · have c7__:=Ext.some hx__ c7;have c8__:=Ext.some hx__ c8;have c9__:=Ext.some hx__ c9;have cS__:=Ext.some hx__ cS;first | exact rfl | (go_simp;done) | (go_simp;exact rfl) | (go_at_call 24;exact ext_of hx__ (HTA.out _ hx__))
              clear hK K)))
        refine wpQuiet_nil ?_
        intro w1 hx1
        have Y1:=Lib.hid hx1
        have g11:=Ext.some hx1 c11
        have g12:=Ext.some hx1 c12
        have g13:=Ext.some hx1 c13
        clear hx1 c7 c8 c9 c11 c12 c13 cS
        cases hb:badEnd (nth (orphM l k) d).state with
        | false =>
          have HB:=Lib.hid hb
          have HN:=Lib.hid (orphM_no hlt HT.out (by rw [HL.out];exact hb))
          clear hb
          go_wp2_with fail
          all_goals first
           | (exfalso;have:=HB.out;unfold badEnd at this;grind)
           | (refine ⟨⟨k+1,F,by omega,by go_num,by rw [← HN.out];exact HO.out.ext Y1.out,HF.out,HX.out.trans Y1.out⟩,?_⟩;simp [intOf];omega)
        | true =>
          have HB:=Lib.hid hb
          have HN:=Lib.hid (orphM_yes hlt HT.out (by rw [HL.out];exact hb))
          have hfz1:∀ i,w1.frozen? ⟨B,i,none⟩=false:=(RowBut.kept HROW.out (Kept.of_ext (F:=[]) Y1.out) (by simp)).frozen
          have HRow1:=Lib.hid (RowBut.kept HROW.out (Kept.of_ext (F:=[]) Y1.out) (by simp))
          have HTh1:=Lib.hid (there_ext HTH.out Y1.out (blk_lt_of HROW.out))
          have HC1:=Lib.hid (Y1.out.range HC.out)
          have HN2:Hid (∃ F',OwS OTask 46 (w1.setCells B (k * 14+11) [.int .i64 6,.int .i64 0,.slice none 0 0]) (.slice (some ⟨B,0,none⟩) l.length d1) (orphM l (k+1)) F'∧∀ b∈F',b∈F∨wr.heap.size≤b):=Lib.hid (by
           rw [← HN.out]
           refine HSET.out _ (gone (nth l k)) (cellsTask (gone (nth l k)) (.slice none 0 0)) [] (Kept.setCells (by simp) _ _ _ (Kept.of_ext Y1.out)) (RowBut.setCells _ _ _ HRow1.out (by simp only [ETask];omega) (by simp only [ETask,List.length_cons,List.length_nil];omega)) ⟨_,rfl,fit_gone HFit.out,OwS.nil _⟩ (fun b hb=>absurd hb (by simp)) ?_
           exact range_back (a:=[.int .i64 (nth l k).label.level,.int .i64 (nth l k).label.set,.int .i64 (nth l k).id,.string (nth l k).owner,.int .i64 (nth l k).need,.int .i64 (nth l k).long,.int .i64 (nth l k).prio,.int .i64 (nth l k).under.level,.int .i64 (nth l k).under.set,.int .i64 (nth l k).after,.int .i64 (nth l k).born]) (b:=[.int .i64 (nth l k).state,.int .i64 (nth l k).start,u1]) HC1.out (there_sub HTh1.out (by simp [ETask])))
          clear hb
          go_wp2_with (go_at_call 39;(with_reducible refine (clear_any B (k * 14) 6 _ _ _ _ hfz1 g11 g12 g13).mono ?_);rintro e w2 ⟨rfl,rfl⟩)
          all_goals try (exfalso;have:=HB.out;unfold badEnd at this;grind)
          all_goals
           (obtain ⟨F',o',f'⟩:=HN2.out
            refine ⟨⟨k+1,F',by omega,by go_num,o',fun b hb=>?_,setCells_ext (HF.out B HBF.out) _ _ _ (HX.out.trans Y1.out)⟩,by simp [intOf];omega⟩
            rcases f' b hb with h | h
            · exact HF.out b h
            · exact Nat.le_trans HX.out.size h))
  · obtain rfl:k=l.length:=by omega
    rw [orphM_full] at hown
    have HO:=Lib.hid hown
    clear hown
    go_wp2_with fail
    go_ret
    exact ⟨_,F,rfl,HO.out,HF.out,HX.out⟩
end Go.Proofs.YtoblacfjmcpbmaaGreat

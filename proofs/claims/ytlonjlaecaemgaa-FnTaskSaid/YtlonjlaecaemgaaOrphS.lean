/- The walks of Orphans, the reference's and the program's. -/
import Derived.Test.YtlonjlaecaemgaaOrphI
import Derived.Test.YtlonjlaecaemgaaTRight
import Derived.Test.YtlonjlaecaemgaaTasksS
import Derived.Deep.CutRange
set_option maxHeartbeats 16000000
set_option maxRecDepth 100000
namespace Go.Proofs.Ytlonjlaecaemgaa
open Go.RowKit
attribute [local irreducible] wpQuiet
theorem orphans_any {S:Nat→Prop} (l:List Task) (v:Value) (w:World) (h:Rd ETask S w v l) :
 Calls Try.prog 14 #[v] w (RetO OTask 27 (orphans l) w):=by
 have HR:=Lib.hid h
 obtain ⟨A,c,rfl,h1,h2⟩:=h.form
 unfold maxLen at h2
 clear h
 by_cases ht:tasksRight l=true
 · have HT:=Lib.hid ht
   have HE:Hid (orphans l=orphL l):=Lib.hid (by rw [orphans,if_pos ht])
   have hl:=tasksRight_length ht
   have HS:=Lib.hid (tasksRight_small ht)
   go_enter Try.func14,Try.ntmps14
   go_wp2_with (go_at_call 17;(with_reducible refine (tasksRight_any (S:=S) l _ _ HR.out).mono ?_);rintro e w1 ⟨rfl,hx1⟩;have X1:=Lib.hid hx1;clear hx1)
   clear ht
   refine (orphansN_any (S:=S) l _ _ (HR.out.ext X1.out) HT.out hl HS.out).mono ?_
   rintro e w2 ⟨v2,F2,rfl,o2,g2,hx2⟩
   have O2:=Lib.hid o2
   have G2:=Lib.hid g2
   have X2:=Lib.hid hx2
   clear o2 g2 hx2
   go_wp2_with fail
   go_ret
   exact ⟨_,F2,rfl,by rw [HE.out];exact O2.out,fun b hb=>Nat.le_trans X1.out.size (G2.out b hb),X1.out.trans X2.out⟩
 · simp only [Bool.not_eq_true] at ht
   have HE:Hid (orphans l = []):=Lib.hid (by rw [orphans,ht];rfl)
   go_enter Try.func14,Try.ntmps14
   go_wp2_with (go_at_call 17;(with_reducible refine (tasksRight_any (S:=S) l _ _ HR.out).mono ?_);rintro e w1 ⟨rfl,hx1⟩;have X1:=Lib.hid hx1;clear hx1)
   go_ret
   exact ⟨_,[],rfl,by rw [HE.out];exact OwS.nil _,fun b hb=>(by cases hb),X1.out⟩
theorem specOrphans_any {S:Nat→Prop} (l:List Task) (v:Value) (w:World) (h:Rd ETask S w v l) :
 Calls Try.prog 16 #[v] w (RetO OTask 27 (orphans l) w):=by
 have HR:=Lib.hid h
 obtain ⟨A,c,rfl,h1,h2,hk⟩:=h.open_
 unfold maxLen at h2
 have HK:=Lib.hid hk
 clear h hk
 go_enter Try.func16,Try.ntmps16
 go_upto_region 2 with (fail)
 obtain ⟨W,B,hW,hB,hx0,b0⟩:∃ W B,W=w.alloc (.cells #[] 27)∧B=w.heap.size∧Ext w W∧Blk W B 27 #[]:=⟨_,_,rfl,rfl,(Ext.refl w).alloc _,Blk.new _ _ _⟩
 rw [← hW,← hB]
 have HB:Hid (w.heap.size≤B):=Lib.hid (by omega)
 have B0:=Lib.hid b0
 have X0:=Lib.hid hx0
 clear hW hB hx0 b0
 by_cases ht:tasksRight l=true
 · have HT:=Lib.hid ht
   have HE:Hid (orphans l=orphL l):=Lib.hid (by rw [orphans,if_pos ht])
   have hl:=tasksRight_length ht
   have HS:=Lib.hid (tasksRight_small ht)
   go_wp2_with (go_at_call 18;(with_reducible refine (specTasksRight_any (S:=S) l _ _ (HR.out.ext X0.out)).mono ?_);rintro e w1 ⟨rfl,hx1⟩;have X1:=Lib.hid (X0.out.trans hx1);have B1:=Lib.hid (B0.out.ext hx1);clear hx1)
   clear ht
   go_loopw [3,4] (fun v i w'=>∃ (k:Nat) (F:List Nat),k≤l.length∧i=.int .i64 k∧OwS OTask 27 w' v (orphL (l.take k)) F∧(∀ b∈F,w.heap.size≤b)∧Ext w w') (fun _ i _=>l.length - (intOf i).toNat)
   case atStart=>exact ⟨0,[B],by omega,rfl,.inr ⟨B,0,#[],[],rfl,B1.out,Nat.le_refl _,Nat.zero_le _,rfl,rfl,rfl,by simp,fun k hk=>absurd hk (Nat.not_lt_zero _)⟩,fun b hb=>by rw [List.mem_singleton.1 hb];exact HB.out,X1.out⟩
   case round =>
    obtain ⟨k,F,hk1,rfl,hown,hF,hx⟩:=hrel
    have HF:=Lib.hid hF
    have HX:=Lib.hid hx
    have HO:=Lib.hid hown
    have hlo:(orphL (l.take k)).length=k:=by rw [orphL_length,List.length_take];omega
    obtain ⟨Av,cv,rfl,nv,mv⟩:=hown.form
    rw [hlo] at HO nv ⊢
    unfold maxLen at mv
    have LF:=Lib.hid hown.lt
    clear hown hF
    by_cases hlt:k < l.length
    · obtain ⟨b,q,cs,rfl,_,⟨v1,rfl,hfit,hrd⟩,hc⟩:=HK.out k hlt
      obtain ⟨A1,c1,rfl,-⟩:=hrd.form
      have c0:=Ext.some hx (hc 0 _ rfl)
      have c1:=Ext.some hx (hc 1 _ rfl)
      have c2:=Ext.some hx (hc 2 _ rfl)
      have c3:=Ext.some hx (hc 3 _ rfl)
      have c4:=Ext.some hx (hc 4 _ rfl)
      have c5:=Ext.some hx (hc 5 _ rfl)
      have c6:=Ext.some hx (hc 6 _ rfl)
      have c7:=Ext.some hx (hc 7 _ rfl)
      have c8:=Ext.some hx (hc 8 _ rfl)
      have c9:=Ext.some hx (hc 9 _ rfl)
      have c10:=Ext.some hx (hc 10 _ rfl)
      have c11:=Ext.some hx (hc 11 _ rfl)
      have c12:=Ext.some hx (hc 12 _ rfl)
      have c13:=Ext.some hx (hc 13 _ rfl)
      simp only [ETask,Nat.add_zero] at c0 c1 c2 c3 c4 c5 c6 c7 c8 c9 c10 c11 c12 c13
      have HFit:=Lib.hid hfit
      have HRD:=Lib.hid (hrd.ext hx)
      have HN:=Lib.hid (HS.out k hlt)
      have HSucc:=Lib.hid (orphL_succ hlt)
      clear hc hfit hx hrd
      go_wp2_with fail
      refine (l12Copy_own (S:=S) (nth l k) _ _ (rel_Task HFit.out HRD.out) HN.out).mono ?_
      rintro e w1 ⟨cs1,G1,rfl,⟨u1,rfl,f1,q1⟩,g1,hx1⟩
      obtain ⟨p1,k1,rfl,-⟩:=q1.form
      have Q1:=Lib.hid q1
      have X1:=Lib.hid hx1
      have Z1:Hid (∀ b∈G1,wr.heap.size≤b):=Lib.hid g1
      clear f1 q1 g1 hx1 c0 c1 c2 c3 c4 c5 c6 c7 c8 c9 c10 c11 c12 c13
      simp only [cellsTask]
      go_upto_region 8 with (fail)
      obtain ⟨W5,B5,hW5,hB5,hx5,b5⟩:∃ W B,W=w1.alloc (.cells #[.int .i64 (nth l k).label.level,.int .i64 (nth l k).label.set,.int .i64 (nth l k).id,.string (nth l k).owner,.int .i64 (nth l k).need,.int .i64 (nth l k).long,.int .i64 (nth l k).prio,.int .i64 (nth l k).under.level,.int .i64 (nth l k).under.set,.int .i64 (nth l k).after,.int .i64 (nth l k).born,.int .i64 (nth l k).state,.int .i64 (nth l k).start,.slice p1 (nth l k).nodes.length k1] 27)∧B=w1.heap.size∧Ext w1 W∧Blk W B 27 #[.int .i64 (nth l k).label.level,.int .i64 (nth l k).label.set,.int .i64 (nth l k).id,.string (nth l k).owner,.int .i64 (nth l k).need,.int .i64 (nth l k).long,.int .i64 (nth l k).prio,.int .i64 (nth l k).under.level,.int .i64 (nth l k).under.set,.int .i64 (nth l k).after,.int .i64 (nth l k).born,.int .i64 (nth l k).state,.int .i64 (nth l k).start,.slice p1 (nth l k).nodes.length k1]:=⟨_,_,rfl,rfl,(Ext.refl _).alloc _,Blk.new _ _ _⟩
      rw [← hW5,← hB5]
      have HB5:Hid (w1.heap.size≤B5):=Lib.hid (by omega)
      have Y5:=Lib.hid (X1.out.trans hx5)
      have Q5:=Lib.hid (Q1.out.ext hx5)
      have BB5:=Lib.hid b5
      have ND:Hid ((F ++ G1).Nodup):=Lib.hid (nodup_two HO.out.nodup Q1.out.nodup (fun b h1 h2=>by have a:=LF.out b h1;have c:=Z1.out b h2;omega))
      have NF:Hid ((F ++ []).Nodup):=Lib.hid (by simpa using HO.out.nodup)
      have e7:=BB5.out.cell 7
      have e8:=BB5.out.cell 8
      have e9:=BB5.out.cell 9
      have e11:=BB5.out.cell 11
      simp only [List.getElem?_toArray,List.getElem?_cons_succ,List.getElem?_cons_zero] at e7 e8 e9 e11
      clear hW5 hB5 hx5 b5
      go_cut [35] from 12 to 59 (fun cc wx=>cc=.bool (waits (nth l k))∧wx=W5)
      case first =>
       go_wp2_with fail
       all_goals (go_meet;exact ⟨congrArg Value.bool (by go_light;unfold waits;grind),rfl⟩)
      case rest =>
      obtain ⟨rfl,rfl⟩:=hcut
      cases hw:waits (nth l k) with
      | false =>
        have HN:=Lib.hid (HSucc.out.trans (by rw [orphStep,if_neg (by simp [lost,hw])]))
        have HW:=Lib.hid hw
        clear e7 e8 e9 e11
        go_wp2_with (first | (refine wpList_load_mid rfl 27 _ rfl B5 0 rfl [.int .i64 (nth l k).label.level,.int .i64 (nth l k).label.set,.int .i64 (nth l k).id,.string (nth l k).owner,.int .i64 (nth l k).need,.int .i64 (nth l k).long,.int .i64 (nth l k).prio,.int .i64 (nth l k).under.level,.int .i64 (nth l k).under.set,.int .i64 (nth l k).after,.int .i64 (nth l k).born,.int .i64 (nth l k).state,.int .i64 (nth l k).start,.slice p1 (nth l k).nodes.length k1] _ BB5.out.range Try.underlying27 rfl (by kernel_rfl) ?_) | (at_builtin;refine wpList_append_one (O:=OTask) (T:=27) (l:=orphL (l.take k)) (F:=F) (G:=G1) (y:=nth l k) rfl _ _ 37 rfl (.agg #[.int .i64 0,.int .i64 0,.int .i64 0,.string ⟨#[]⟩,.int .i64 0,.int .i64 0,.int .i64 0,.int .i64 0,.int .i64 0,.int .i64 0,.int .i64 0,.int .i64 0,.int .i64 0,.slice none 0 0]) 14 136 Try.underlying37 (by kernel_rfl) rfl rfl rfl (HO.out.ext (Y5.out.alloc _)) _ 0 1 rfl ⟨(.slice p1 (nth l k).nodes.length k1),by simp [cellsTask, *],HFit.out,Q5.out.ext ((Ext.refl _).alloc _)⟩ (Blk.new _ _ _).range ND.out (by omega) (by decide) ?_;intro v' w9 F' how hkp hF';have HOW:=Lib.hid how;have HKP:=Lib.hid hkp;have HFF:=Lib.hid hF';clear how hkp hF'))
        (refine ⟨⟨k+1,F',by omega,by go_num,by rw [HN.out];exact HOW.out,fun b hb=>match HFF.out b hb with | .inl h=>HF.out b h | .inr (.inl h)=>Nat.le_trans HX.out.size (Z1.out b h) | .inr (.inr h)=>Nat.le_trans ((HX.out.trans Y5.out).alloc _).size h,HKP.out.ext ((HX.out.trans Y5.out).alloc _) HF.out⟩,?_⟩;simp [intOf];omega)
      | true =>
        have HW:=Lib.hid hw
        have hdf:=dep_front hlt HT.out hw
        obtain ⟨hd1,hd2⟩:=taskIx_lt hdf
        rw [hlo] at hd1
        obtain ⟨d,hde⟩:∃ d:Nat,d=(taskIx (orphL (l.take k)) (nth l k).under (nth l k).after).toNat:=⟨_,rfl⟩
        rw [← hde] at hd1 hd2
        have HI:Hid (taskIx (orphL (l.take k)) (nth l k).under (nth l k).after=(d:Int)):=Lib.hid hd2.symm
        have HL:Hid (lost (orphL (l.take k)) (nth l k)=badEnd (nth (orphL (l.take k)) d).state):=Lib.hid (by unfold lost;rw [hw,← hde];rfl)
        have hdi:(d:Int) < (k:Int):=by omega
        have hd0:(0:Int)≤(d:Int):=by omega
        clear hdf hd2 hde
        all_goals
         (skip
          go_wp2_with fail
          refine (l12At_any (S:=fun b=>b∈F) (orphL (l.take k)) (nth l k).under (nth l k).after _ _ (by exact (HO.out.ext Y5.out).rd)).mono ?_
          rintro e w2 ⟨rfl,hx2⟩
          rw [HI.out]
          have Y2:=Lib.hid (Y5.out.trans hx2)
          have Q2:=Lib.hid (Q5.out.ext hx2)
          have BB2:=Lib.hid (BB5.out.ext hx2)
          obtain ⟨A2,c2,hv2,_,_,hk2⟩:=(HO.out.ext Y2.out).rd.open_
          obtain ⟨b2,q2,cs2,hA2,_,⟨v3,rfl,_,hr3⟩,hc2⟩:=hk2 d (by rw [hlo];exact hd1)
          obtain ⟨A3,k3,rfl,-⟩:=hr3.form
          injection hv2 with e1 e2 e3
          clear e2
          subst hA2
          subst e1
          subst e3
          clear hr3 hk2 hx2 e7 e8 e9 e11
          have hx00:=Ext.refl w2
          have c0:=Ext.some hx00 (hc2 0 _ rfl)
          have c1:=Ext.some hx00 (hc2 1 _ rfl)
          have c2:=Ext.some hx00 (hc2 2 _ rfl)
          have c3:=Ext.some hx00 (hc2 3 _ rfl)
          have c4:=Ext.some hx00 (hc2 4 _ rfl)
          have c5:=Ext.some hx00 (hc2 5 _ rfl)
          have c6:=Ext.some hx00 (hc2 6 _ rfl)
          have c7:=Ext.some hx00 (hc2 7 _ rfl)
          have c8:=Ext.some hx00 (hc2 8 _ rfl)
          have c9:=Ext.some hx00 (hc2 9 _ rfl)
          have c10:=Ext.some hx00 (hc2 10 _ rfl)
          have c11:=Ext.some hx00 (hc2 11 _ rfl)
          have c12:=Ext.some hx00 (hc2 12 _ rfl)
          have c13:=Ext.some hx00 (hc2 13 _ rfl)
          simp only [ETask,Nat.add_zero] at c0 c1 c2 c3 c4 c5 c6 c7 c8 c9 c10 c11 c12 c13
          clear hc2 hx00
          go_upto_region 10 with (fail)
          obtain ⟨W6,B6,hW6,hB6,hx6,b6⟩:∃ W B,W=w2.alloc (.cells #[.int .i64 (nth (orphL (l.take k)) d).label.level,.int .i64 (nth (orphL (l.take k)) d).label.set,.int .i64 (nth (orphL (l.take k)) d).id,.string (nth (orphL (l.take k)) d).owner,.int .i64 (nth (orphL (l.take k)) d).need,.int .i64 (nth (orphL (l.take k)) d).long,.int .i64 (nth (orphL (l.take k)) d).prio,.int .i64 (nth (orphL (l.take k)) d).under.level,.int .i64 (nth (orphL (l.take k)) d).under.set,.int .i64 (nth (orphL (l.take k)) d).after,.int .i64 (nth (orphL (l.take k)) d).born,.int .i64 (nth (orphL (l.take k)) d).state,.int .i64 (nth (orphL (l.take k)) d).start,.slice A3 (nth (orphL (l.take k)) d).nodes.length k3] 27)∧B=w2.heap.size∧Ext w2 W∧Blk W B 27 #[.int .i64 (nth (orphL (l.take k)) d).label.level,.int .i64 (nth (orphL (l.take k)) d).label.set,.int .i64 (nth (orphL (l.take k)) d).id,.string (nth (orphL (l.take k)) d).owner,.int .i64 (nth (orphL (l.take k)) d).need,.int .i64 (nth (orphL (l.take k)) d).long,.int .i64 (nth (orphL (l.take k)) d).prio,.int .i64 (nth (orphL (l.take k)) d).under.level,.int .i64 (nth (orphL (l.take k)) d).under.set,.int .i64 (nth (orphL (l.take k)) d).after,.int .i64 (nth (orphL (l.take k)) d).born,.int .i64 (nth (orphL (l.take k)) d).state,.int .i64 (nth (orphL (l.take k)) d).start,.slice A3 (nth (orphL (l.take k)) d).nodes.length k3]:=⟨_,_,rfl,rfl,(Ext.refl _).alloc _,Blk.new _ _ _⟩
          rw [← hW6,← hB6]
          have Y6:=Lib.hid (Y2.out.trans hx6)
          have Q6:=Lib.hid (Q2.out.ext hx6)
          have BB6:=Lib.hid (BB2.out.ext hx6)
          have e6:=b6.cell 11
          simp only [List.getElem?_toArray,List.getElem?_cons_succ,List.getElem?_cons_zero] at e6
          clear hW6 hB6 hx6 b6 c0 c1 c2 c3 c4 c5 c6 c7 c8 c9 c10 c11 c12 c13
          go_cut [52] from 12 to 59 (fun cc wx=>cc=.bool (badEnd (nth (orphL (l.take k)) d).state)∧wx=W6)
          case first =>
           go_wp2_with fail
           all_goals (go_meet;exact ⟨congrArg Value.bool (by go_light;unfold badEnd;grind),rfl⟩)
          case rest =>
          obtain ⟨rfl,hwc⟩:=hcut
          rw [hwc]
          clear hwc
          cases hbd:badEnd (nth (orphL (l.take k)) d).state with
          | false =>
            have HBd:=Lib.hid hbd
            have HN:=Lib.hid (HSucc.out.trans (by rw [orphStep,if_neg (by rw [HL.out,hbd];simp)]))
            clear e6
            go_wp2_with (first | (refine wpList_load_mid rfl 27 _ rfl B5 0 rfl [.int .i64 (nth l k).label.level,.int .i64 (nth l k).label.set,.int .i64 (nth l k).id,.string (nth l k).owner,.int .i64 (nth l k).need,.int .i64 (nth l k).long,.int .i64 (nth l k).prio,.int .i64 (nth l k).under.level,.int .i64 (nth l k).under.set,.int .i64 (nth l k).after,.int .i64 (nth l k).born,.int .i64 (nth l k).state,.int .i64 (nth l k).start,.slice p1 (nth l k).nodes.length k1] _ BB6.out.range Try.underlying27 rfl (by kernel_rfl) ?_) | (at_builtin;refine wpList_append_one (O:=OTask) (T:=27) (l:=orphL (l.take k)) (F:=F) (G:=G1) (y:=nth l k) rfl _ _ 37 rfl (.agg #[.int .i64 0,.int .i64 0,.int .i64 0,.string ⟨#[]⟩,.int .i64 0,.int .i64 0,.int .i64 0,.int .i64 0,.int .i64 0,.int .i64 0,.int .i64 0,.int .i64 0,.int .i64 0,.slice none 0 0]) 14 136 Try.underlying37 (by kernel_rfl) rfl rfl rfl (HO.out.ext (Y6.out.alloc _)) _ 0 1 rfl ⟨(.slice p1 (nth l k).nodes.length k1),rfl,HFit.out,Q6.out.ext ((Ext.refl _).alloc _)⟩ (Blk.new _ _ _).range ND.out (by omega) (by decide) ?_;intro v' w9 F' how hkp hF';have HOW:=Lib.hid how;have HKP:=Lib.hid hkp;have HFF:=Lib.hid hF';clear how hkp hF'))
            all_goals (refine ⟨⟨k+1,F',by omega,by go_num,by rw [HN.out];exact HOW.out,fun b hb=>match HFF.out b hb with | .inl h=>HF.out b h | .inr (.inl h)=>Nat.le_trans HX.out.size (Z1.out b h) | .inr (.inr h)=>Nat.le_trans ((HX.out.trans Y6.out).alloc _).size h,HKP.out.ext ((HX.out.trans Y6.out).alloc _) HF.out⟩,?_⟩;simp [intOf];omega)
          | true =>
            have HBd:=Lib.hid hbd
            have HN:=Lib.hid (HSucc.out.trans (by rw [orphStep,if_pos (by rw [HL.out,hbd])]))
            have HB7:Hid (wr.heap.size≤B5):=Lib.hid (Nat.le_trans X1.out.size HB5.out)
            go_upto_region 11 with (fail)
            all_goals
             (have f11:=BB6.out.frozen 11
              have f12:=BB6.out.frozen 12
              have f13:=BB6.out.frozen 13
              have e11:=BB6.out.cell 11
              have e12:=BB6.out.cell 12
              have e13:=BB6.out.cell 13
              simp only [List.getElem?_toArray,List.getElem?_cons_succ,List.getElem?_cons_zero] at e11 e12 e13
              clear e6
              go_upto_region 14 with (fail)
              obtain ⟨W7,hW7⟩:∃ W7,W7=((W6.setCell ⟨B5,11,none⟩ (.int .i64 6)).setCell ⟨B5,12,none⟩ (.int .i64 0)).setCell ⟨B5,13,none⟩ (.slice none 0 0):=⟨_,rfl⟩
              have BB7:Hid (Blk W7 B5 27 #[.int .i64 (nth l k).label.level,.int .i64 (nth l k).label.set,.int .i64 (nth l k).id,.string (nth l k).owner,.int .i64 (nth l k).need,.int .i64 (nth l k).long,.int .i64 (nth l k).prio,.int .i64 (nth l k).under.level,.int .i64 (nth l k).under.set,.int .i64 (nth l k).after,.int .i64 (nth l k).born,.int .i64 6,.int .i64 0,.slice none 0 0]):=Lib.hid (by rw [hW7];simpa using ((BB6.out.set_ 11 (.int .i64 6)).set_ 12 (.int .i64 0)).set_ 13 (.slice none 0 0))
              have Y7:Hid (Ext wr W7):=Lib.hid (by rw [hW7];exact (Ext.setCell (Ext.setCell (Ext.setCell Y6.out HB7.out _) HB7.out _) HB7.out _))
              rw [← hW7]
              clear hW7 f11 f12 f13 e11 e12 e13
              go_wp2_with (first | (refine wpList_load_mid rfl 27 _ rfl B5 0 rfl [.int .i64 (nth l k).label.level,.int .i64 (nth l k).label.set,.int .i64 (nth l k).id,.string (nth l k).owner,.int .i64 (nth l k).need,.int .i64 (nth l k).long,.int .i64 (nth l k).prio,.int .i64 (nth l k).under.level,.int .i64 (nth l k).under.set,.int .i64 (nth l k).after,.int .i64 (nth l k).born,.int .i64 6,.int .i64 0,.slice none 0 0] _ BB7.out.range Try.underlying27 rfl (by kernel_rfl) ?_) | (at_builtin;refine wpList_append_one (O:=OTask) (T:=27) (l:=orphL (l.take k)) (F:=F) (G:=[]) (y:=gone (nth l k)) rfl _ _ 37 rfl (.agg #[.int .i64 0,.int .i64 0,.int .i64 0,.string ⟨#[]⟩,.int .i64 0,.int .i64 0,.int .i64 0,.int .i64 0,.int .i64 0,.int .i64 0,.int .i64 0,.int .i64 0,.int .i64 0,.slice none 0 0]) 14 136 Try.underlying37 (by kernel_rfl) rfl rfl rfl (HO.out.ext (Y7.out.alloc _)) _ 0 1 rfl ⟨(.slice none 0 0),by simp [cellsTask,gone, *],fit_gone HFit.out,OwS.nil _⟩ (Blk.new _ _ _).range NF.out (by omega) (by decide) ?_;intro v' w9 F' how hkp hF';have HOW:=Lib.hid how;have HKP:=Lib.hid hkp;have HFF:=Lib.hid hF';clear how hkp hF'))
              (refine ⟨⟨k+1,F',by omega,by go_num,by rw [HN.out];exact HOW.out,fun b hb=>match HFF.out b hb with | .inl h=>HF.out b h | .inr (.inl h)=>absurd h (by simp) | .inr (.inr h)=>Nat.le_trans ((HX.out.trans Y7.out).alloc _).size h,HKP.out.ext ((HX.out.trans Y7.out).alloc _) HF.out⟩,?_⟩;simp [intOf];omega)))
    · obtain rfl:k=l.length:=by omega
      go_wp2_with fail
      go_ret
      exact ⟨_,F,rfl,by rw [HE.out];have h:=HO.out;rw [List.take_length] at h;exact h,HF.out,HX.out⟩
 · simp only [Bool.not_eq_true] at ht
   have HE:Hid (orphans l = []):=Lib.hid (by rw [orphans,ht];rfl)
   go_wp2_with (go_at_call 18;(with_reducible refine (specTasksRight_any (S:=S) l _ _ (HR.out.ext X0.out)).mono ?_);rintro e w1 ⟨rfl,hx1⟩;have X1:=Lib.hid (X0.out.trans hx1);clear hx1)
   go_ret
   exact ⟨_,[],rfl,by rw [HE.out];exact OwS.nil _,fun b hb=>(by cases hb),X1.out⟩
end Go.Proofs.Ytlonjlaecaemgaa

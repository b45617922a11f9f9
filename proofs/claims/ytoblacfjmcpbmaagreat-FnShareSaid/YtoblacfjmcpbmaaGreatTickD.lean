/- The program's YardTicks: the walk. -/
import Derived.Test.YtoblacfjmcpbmaaGreatTickC
namespace Go.Proofs.YtoblacfjmcpbmaaGreat
open Go.RowKit
attribute [local irreducible] wpQuiet
theorem up_stop {y:Yard}:∀ (k d:Nat),(ticksUp y k).code≠0→ticksUp y (k+d)=ticksUp y k
 | k,0,_=>rfl
 | k,d+1,h=>by
   rw [← Nat.add_assoc,ticksUp,up_stop k d h,if_neg h]
theorem up_step {y:Yard} {k:Nat} (h:(ticksUp y k).code=0):ticksUp y (k+1)=tickY (ticksUp y k).yard:=by rw [ticksUp,if_pos h]
theorem tick_code (y:Yard):tickY y=illY (tickY y).code∨(tickY y).code=0:=by
 unfold tickY
 split
 · exact .inl rfl
 · split
   · exact .inl rfl
   · exact .inr rfl
theorem ticks_bad {y:Yard} {n:Int} (h:isB n 1 50=false):ticksY y n=illY 8:=by rw [ticksY,if_neg (by simp [h])]
theorem ticks_good {y:Yard} {n:Int} (h:isB n 1 50=true):ticksY y n=ticksUp y n.toNat:=by rw [ticksY,if_pos h]
theorem rel_out {S:Nat→Prop} {w:World} {x:YardOut} {v1 v2 v3 v4 v5 v6:Value} (h:EYardOut.rel S w (cellsYardOut x v1 v2 v3 v4 v5 v6) x):EYard.rel S w (cellsYard x.yard v1 v2 v3 v4 v5 v6) x.yard:=by
 obtain ⟨u1,u2,u3,u4,u5,u6,hc,hf,h1,h2,h3,h4,h5,h6⟩:=h
 simp only [cellsYardOut,List.cons.injEq,true_and,and_true] at hc
 obtain ⟨rfl,rfl,rfl,rfl,rfl,rfl⟩:=hc
 exact ⟨_,_,_,_,_,_,rfl,⟨hf.1,hf.2.1⟩,h1,h2,h3,h4,h5,h6⟩
-- WALK
theorem ill_is {y:Yard} (h:(tickY y).code≠0):tickY y=illY (tickY y).code:=(tick_code y).resolve_right h
theorem tick_i64 (y:Yard):I64 (tickY y).code:=by
 unfold tickY
 split
 · show I64 1;unfold I64;decide
 · split
   · show I64 9;unfold I64;decide
   · show I64 0;unfold I64;decide
set_option maxHeartbeats 16000000 in
set_option maxRecDepth 100000 in
theorem ticks_any {S:Nat→Prop} (y:Yard) (n:Int) (cs:List Value) (w:World) (h:EYard.rel S w cs y) :
 Calls Tryz.prog 8 #[.agg cs.toArray,.int .i64 n] w (RetR (ticksY y n) w):=by
 have H:=Lib.hid h
 obtain ⟨v1,v2,v3,v4,v5,v6,rfl,hf,h1,h2,h3,h4,h5,h6⟩:=h
 obtain ⟨A1,c1,rfl,-⟩:=h1.form
 obtain ⟨A2,c2,rfl,-⟩:=h2.form
 obtain ⟨A3,c3,rfl,-⟩:=h3.form
 obtain ⟨A4,c4,rfl,-⟩:=h4.form
 obtain ⟨A5,c5,rfl,-⟩:=h5.form
 obtain ⟨A6,c6,rfl,-⟩:=h6.form
 have HYR:Hid (∀ V,Ext w V→EYard.rel S V [.slice A1 y.config.nodes.length c1,.slice A2 y.config.pairs.length c2,.slice A3 y.config.quotas.length c3,.int .i64 y.config.half,.slice A4 y.nodes.length c4,.slice A5 y.tasks.length c5,.slice A6 y.uses.length c6,.int .i64 y.now] y):=Lib.hid fun V hV=>EYard.keep (hV.same _) H.out
 clear hf h1 h2 h3 h4 h5 h6
 simp only [cellsYard]
 obtain ⟨t,ht⟩:∃ t,isB n 1 50=t:=⟨_,rfl⟩
 have T:=Lib.hid ht
 clear ht
 go_enter Tryz.func8,Tryz.ntmps8
 go_upto_region 1 with (fail)
 obtain ⟨W,B,hW,hB,hx0,a0,r0⟩:=boxes2 w #[.slice A1 y.config.nodes.length c1,.slice A2 y.config.pairs.length c2,.slice A3 y.config.quotas.length c3,.int .i64 y.config.half,.slice A4 y.nodes.length c4,.slice A5 y.tasks.length c5,.slice A6 y.uses.length c6,.int .i64 y.now] #[.slice none 0 0,.slice none 0 0,.slice none 0 0,.int .i64 0,.slice none 0 0,.slice none 0 0,.slice none 0 0,.int .i64 0,.int .i64 0,.int .i64 0] 35 37
 rw [← hW,← hB]
 have HB:Hid (w.heap.size≤B+1):=Lib.hid (by omega)
 have X:=Lib.hid hx0
 have QA:=Lib.hid a0
 have QR:=Lib.hid r0
 clear hW hB hx0 a0 r0
 have qa:=QA.out.cell
 cases t with
 | false =>
   go_upto_region 2 with (go_at_call 30;(with_reducible refine (within_is n 1 50 _ _ T.out).mono ?_);rintro e wv ⟨rfl,rfl⟩)
   clear qa
   go_wp2_with (refine wpList_store_mid rfl 37 _ _ rfl (B+1) 0 #[.slice none 0 0,.slice none 0 0,.slice none 0 0,.int .i64 0,.slice none 0 0,.slice none 0 0,.slice none 0 0,.int .i64 0,.int .i64 0,.int .i64 8] rfl rfl (Blk.there (t:=37) (cs:=#[.slice none 0 0,.slice none 0 0,.slice none 0 0,.int .i64 0,.slice none 0 0,.slice none 0 0,.slice none 0 0,.int .i64 0,.int .i64 0,.int .i64 0]) QR.out) (by kernel_rfl) (all_oneCell_toArray (cs:=[.slice none 0 0,.slice none 0 0,.slice none 0 0,.int .i64 0,.slice none 0 0,.slice none 0 0,.slice none 0 0,.int .i64 0,.int .i64 0,.int .i64 8]) (by simp [Value.oneCell'])) ?_)
   exact bodyPost_ret (v:=.agg #[.slice none 0 0,.slice none 0 0,.slice none 0 0,.int .i64 0,.slice none 0 0,.slice none 0 0,.slice none 0 0,.int .i64 0,.int .i64 0,.int .i64 8]) (results_blk Tryz.results8 rfl (Blk.setAll (t:=37) (cs:=#[.slice none 0 0,.slice none 0 0,.slice none 0 0,.int .i64 0,.slice none 0 0,.slice none 0 0,.slice none 0 0,.int .i64 0,.int .i64 0,.int .i64 0]) (vs:=#[.slice none 0 0,.slice none 0 0,.slice none 0 0,.int .i64 0,.slice none 0 0,.slice none 0 0,.slice none 0 0,.int .i64 0,.int .i64 0,.int .i64 8]) QR.out rfl) Tryz.underlying37 rfl (by kernel_rfl)) rfl ⟨_,rfl,by rw [ticks_bad T.out];exact rel_none (OYardOut.rel (own_ill _ _ (by unfold I64;decide))),setCells_ext HB.out _ _ _ X.out⟩
 | true =>
   have hn1:1≤n∧n≤50:=isB_true T.out
   go_upto_region 4 with (go_at_call 30;(with_reducible refine (within_is n 1 50 _ _ T.out).mono ?_);rintro e wv ⟨rfl,rfl⟩)
   clear qa
   obtain ⟨W10,C,hW10,hC10,hx10,b10⟩:∃ V C,V=W.alloc (.cells #[.slice A1 y.config.nodes.length c1,.slice A2 y.config.pairs.length c2,.slice A3 y.config.quotas.length c3,.int .i64 y.config.half,.slice A4 y.nodes.length c4,.slice A5 y.tasks.length c5,.slice A6 y.uses.length c6,.int .i64 y.now,.int .i64 0,.int .i64 0] 37)∧C=W.heap.size∧Ext W V∧Blk V C 37 #[.slice A1 y.config.nodes.length c1,.slice A2 y.config.pairs.length c2,.slice A3 y.config.quotas.length c3,.int .i64 y.config.half,.slice A4 y.nodes.length c4,.slice A5 y.tasks.length c5,.slice A6 y.uses.length c6,.int .i64 y.now,.int .i64 0,.int .i64 0]:=⟨_,_,rfl,rfl,(Ext.refl W).alloc _,Blk.new _ _ _⟩
   rw [← hW10,← hC10]
   have EC:Hid (B+1 < C∧w.heap.size≤C):=Lib.hid ⟨by have:=QR.out.lt;omega,by have:=QR.out.lt;have:=HB.out;omega⟩
   have QC:=Lib.hid b10
   have X10:Hid (Ext w W10):=Lib.hid (X.out.trans hx10)
   have R10:Hid (Blk W10 (B+1) 37 #[.slice none 0 0,.slice none 0 0,.slice none 0 0,.int .i64 0,.slice none 0 0,.slice none 0 0,.slice none 0 0,.int .i64 0,.int .i64 0,.int .i64 0]):=Lib.hid (QR.out.ext hx10)
   clear hW10 hC10 hx10 b10
   go_upto_region 5 with (fail)
   go_loopw [13] (fun i w'=>∃ (k:Nat) (x:YardOut) (p1 p2 p3 p4 p5 p6:Option Addr) (k1 k2 k3 k4 k5 k6:Nat),i=.int .i64 k∧(k:Int)≤n∧x=ticksUp y k∧x.code=0∧Blk w' C 37 #[.slice p1 x.yard.config.nodes.length k1,.slice p2 x.yard.config.pairs.length k2,.slice p3 x.yard.config.quotas.length k3,.int .i64 x.yard.config.half,.slice p4 x.yard.nodes.length k4,.slice p5 x.yard.tasks.length k5,.slice p6 x.yard.uses.length k6,.int .i64 x.yard.now,.int .i64 x.id,.int .i64 x.code]∧(k=0∧x=⟨y,0,0⟩∧([.slice p1 x.yard.config.nodes.length k1,.slice p2 x.yard.config.pairs.length k2,.slice p3 x.yard.config.quotas.length k3,.int .i64 x.yard.config.half,.slice p4 x.yard.nodes.length k4,.slice p5 x.yard.tasks.length k5,.slice p6 x.yard.uses.length k6,.int .i64 x.yard.now,.int .i64 x.id,.int .i64 x.code]:List Value) = [.slice A1 y.config.nodes.length c1,.slice A2 y.config.pairs.length c2,.slice A3 y.config.quotas.length c3,.int .i64 y.config.half,.slice A4 y.nodes.length c4,.slice A5 y.tasks.length c5,.slice A6 y.uses.length c6,.int .i64 y.now,.int .i64 0,.int .i64 0]∨EYardOut.rel (fun b=>w.heap.size≤b∧b≠C∧b≠B+1) w' [.slice p1 x.yard.config.nodes.length k1,.slice p2 x.yard.config.pairs.length k2,.slice p3 x.yard.config.quotas.length k3,.int .i64 x.yard.config.half,.slice p4 x.yard.nodes.length k4,.slice p5 x.yard.tasks.length k5,.slice p6 x.yard.uses.length k6,.int .i64 x.yard.now,.int .i64 x.id,.int .i64 x.code] x)∧Blk w' (B+1) 37 #[.slice none 0 0,.slice none 0 0,.slice none 0 0,.int .i64 0,.slice none 0 0,.slice none 0 0,.slice none 0 0,.int .i64 0,.int .i64 0,.int .i64 0]∧Ext w w') (fun i _=>(n - intOf i).toNat)
   case atStart=>exact ⟨0,⟨y,0,0⟩,A1,A2,A3,A4,A5,A6,c1,c2,c3,c4,c5,c6,rfl,by omega,rfl,rfl,QC.out,.inl ⟨rfl,rfl,rfl⟩,R10.out,X10.out⟩
   case round =>
    clear X QA QR QC X10 R10
    obtain ⟨k,x,p1,p2,p3,p4,p5,p6,k1,k2,k3,k4,k5,k6,rfl,hk,hx,hc0,hC,hrel2,hR,hX⟩:=hrel
    have HX:=Lib.hid hx
    have HC0:=Lib.hid hc0
    have QC:=Lib.hid hC
    have QR:=Lib.hid hR
    have X:=Lib.hid hX
    have HRL:=Lib.hid hrel2
    clear hx hc0 hC hrel2 hR hX
    by_cases hlt:(k:Int) < n
    · have HY:Hid (∃ S2,∀ V,Ext wr V→EYard.rel S2 V [.slice p1 x.yard.config.nodes.length k1,.slice p2 x.yard.config.pairs.length k2,.slice p3 x.yard.config.quotas.length k3,.int .i64 x.yard.config.half,.slice p4 x.yard.nodes.length k4,.slice p5 x.yard.tasks.length k5,.slice p6 x.yard.uses.length k6,.int .i64 x.yard.now] x.yard):=Lib.hid (by
       rcases HRL.out with ⟨-,hx,hcc⟩ | h
       · refine ⟨S,fun V hV=>?_⟩
         have e:([.slice p1 x.yard.config.nodes.length k1,.slice p2 x.yard.config.pairs.length k2,.slice p3 x.yard.config.quotas.length k3,.int .i64 x.yard.config.half,.slice p4 x.yard.nodes.length k4,.slice p5 x.yard.tasks.length k5,.slice p6 x.yard.uses.length k6,.int .i64 x.yard.now]:List Value) = [.slice A1 y.config.nodes.length c1,.slice A2 y.config.pairs.length c2,.slice A3 y.config.quotas.length c3,.int .i64 y.config.half,.slice A4 y.nodes.length c4,.slice A5 y.tasks.length c5,.slice A6 y.uses.length c6,.int .i64 y.now]:=by
          have:=congrArg (List.take 8) hcc
          simpa using this
         rw [e,hx]
         exact HYR.out V (X.out.trans hV)
       · exact ⟨_,fun V hV=>EYard.keep (hV.same _) (rel_out h)⟩)
      obtain ⟨S2,hY⟩:=HY.out
      have HY2:=Lib.hid hY
      clear HY hY
      have qc:=QC.out.cell
      go_upto_region 7 with (first
       | (go_at_call 12;(with_reducible refine (tick_any (S:=S2) x.yard _ _ (HY2.out _ (Ext.refl _))).mono ?_);rintro e w5 ⟨cs5,rfl,r5,hx5⟩;obtain ⟨u1,u2,u3,u4,u5,u6,rfl,f5,g1,g2,g3,g4,g5,g6⟩:=r5;obtain ⟨P1,K1,rfl,-⟩:=g1.form;obtain ⟨P2,K2,rfl,-⟩:=g2.form;obtain ⟨P3,K3,rfl,-⟩:=g3.form;obtain ⟨P4,K4,rfl,-⟩:=g4.form;obtain ⟨P5,K5,rfl,-⟩:=g5.form;obtain ⟨P6,K6,rfl,-⟩:=g6.form;have R5:Hid (EYardOut.rel (fun b=>wr.heap.size≤b) w5 [.slice P1 (tickY x.yard).yard.config.nodes.length K1,.slice P2 (tickY x.yard).yard.config.pairs.length K2,.slice P3 (tickY x.yard).yard.config.quotas.length K3,.int .i64 (tickY x.yard).yard.config.half,.slice P4 (tickY x.yard).yard.nodes.length K4,.slice P5 (tickY x.yard).yard.tasks.length K5,.slice P6 (tickY x.yard).yard.uses.length K6,.int .i64 (tickY x.yard).yard.now,.int .i64 (tickY x.yard).id,.int .i64 (tickY x.yard).code] (tickY x.yard)):=Lib.hid ⟨_,_,_,_,_,_,rfl,f5,g1,g2,g3,g4,g5,g6⟩;have X5:=Lib.hid hx5;have C5:=Lib.hid (QC.out.ext hx5);have RR5:=Lib.hid (QR.out.ext hx5);clear f5 g1 g2 g3 g4 g5 g6 hx5 qc;simp only [cellsYardOut])
       | (refine wpList_store_mid rfl 37 _ _ rfl C 0 #[.slice P1 (tickY x.yard).yard.config.nodes.length K1,.slice P2 (tickY x.yard).yard.config.pairs.length K2,.slice P3 (tickY x.yard).yard.config.quotas.length K3,.int .i64 (tickY x.yard).yard.config.half,.slice P4 (tickY x.yard).yard.nodes.length K4,.slice P5 (tickY x.yard).yard.tasks.length K5,.slice P6 (tickY x.yard).yard.uses.length K6,.int .i64 (tickY x.yard).yard.now,.int .i64 (tickY x.yard).id,.int .i64 (tickY x.yard).code] rfl rfl (Blk.there (t:=37) (cs:=#[.slice p1 x.yard.config.nodes.length k1,.slice p2 x.yard.config.pairs.length k2,.slice p3 x.yard.config.quotas.length k3,.int .i64 x.yard.config.half,.slice p4 x.yard.nodes.length k4,.slice p5 x.yard.tasks.length k5,.slice p6 x.yard.uses.length k6,.int .i64 x.yard.now,.int .i64 x.id,.int .i64 x.code]) C5.out) (by kernel_rfl) (all_oneCell_toArray (cs:=[.slice P1 (tickY x.yard).yard.config.nodes.length K1,.slice P2 (tickY x.yard).yard.config.pairs.length K2,.slice P3 (tickY x.yard).yard.config.quotas.length K3,.int .i64 (tickY x.yard).yard.config.half,.slice P4 (tickY x.yard).yard.nodes.length K4,.slice P5 (tickY x.yard).yard.tasks.length K5,.slice P6 (tickY x.yard).yard.uses.length K6,.int .i64 (tickY x.yard).yard.now,.int .i64 (tickY x.yard).id,.int .i64 (tickY x.yard).code]) (by simp [Value.oneCell'])) ?_))
      obtain ⟨W6,hW6⟩:∃ V,V=w5.setCells C 0 [.slice P1 (tickY x.yard).yard.config.nodes.length K1,.slice P2 (tickY x.yard).yard.config.pairs.length K2,.slice P3 (tickY x.yard).yard.config.quotas.length K3,.int .i64 (tickY x.yard).yard.config.half,.slice P4 (tickY x.yard).yard.nodes.length K4,.slice P5 (tickY x.yard).yard.tasks.length K5,.slice P6 (tickY x.yard).yard.uses.length K6,.int .i64 (tickY x.yard).yard.now,.int .i64 (tickY x.yard).id,.int .i64 (tickY x.yard).code]:=⟨_,rfl⟩
      have C6:Hid (Blk W6 C 37 #[.slice P1 (tickY x.yard).yard.config.nodes.length K1,.slice P2 (tickY x.yard).yard.config.pairs.length K2,.slice P3 (tickY x.yard).yard.config.quotas.length K3,.int .i64 (tickY x.yard).yard.config.half,.slice P4 (tickY x.yard).yard.nodes.length K4,.slice P5 (tickY x.yard).yard.tasks.length K5,.slice P6 (tickY x.yard).yard.uses.length K6,.int .i64 (tickY x.yard).yard.now,.int .i64 (tickY x.yard).id,.int .i64 (tickY x.yard).code]):=Lib.hid (by rw [hW6];exact Blk.setAll (t:=37) (cs:=#[.slice p1 x.yard.config.nodes.length k1,.slice p2 x.yard.config.pairs.length k2,.slice p3 x.yard.config.quotas.length k3,.int .i64 x.yard.config.half,.slice p4 x.yard.nodes.length k4,.slice p5 x.yard.tasks.length k5,.slice p6 x.yard.uses.length k6,.int .i64 x.yard.now,.int .i64 x.id,.int .i64 x.code]) (vs:=#[.slice P1 (tickY x.yard).yard.config.nodes.length K1,.slice P2 (tickY x.yard).yard.config.pairs.length K2,.slice P3 (tickY x.yard).yard.config.quotas.length K3,.int .i64 (tickY x.yard).yard.config.half,.slice P4 (tickY x.yard).yard.nodes.length K4,.slice P5 (tickY x.yard).yard.tasks.length K5,.slice P6 (tickY x.yard).yard.uses.length K6,.int .i64 (tickY x.yard).yard.now,.int .i64 (tickY x.yard).id,.int .i64 (tickY x.yard).code]) C5.out rfl)
      have KK:Hid (Kept [C] w5 W6):=Lib.hid (by rw [hW6];exact Kept.setCells (F:=[C]) (by simp) _ _ _ (Kept.refl _ _))
      rw [← hW6]
      clear hW6
      have R6:Hid (Blk W6 (B+1) 37 #[.slice none 0 0,.slice none 0 0,.slice none 0 0,.int .i64 0,.slice none 0 0,.slice none 0 0,.slice none 0 0,.int .i64 0,.int .i64 0,.int .i64 0]):=Lib.hid ((KK.out.block (B+1) RR5.out.lt (fun hm=>by have:=List.mem_singleton.1 hm;have:=EC.out.1;omega)).trans RR5.out)
      have X6:Hid (Ext w W6):=Lib.hid (Kept.ext (X.out.trans X5.out) KK.out (fun b hb=>by rw [List.mem_singleton.1 hb];exact EC.out.2))
      have qc:=C6.out.cell
      have HS:Hid (ticksUp y (k+1)=tickY x.yard):=Lib.hid (by rw [up_step (by rw [← HX.out];exact HC0.out),← HX.out])
      by_cases hcode:(tickY x.yard).code=0
      · have hcb:((tickY x.yard).code != 0)=false:=by simp [hcode]
        have HCD:=Lib.hid hcode
        clear hcode
        go_wp2_with fail
        clear hcb qc
        refine ⟨⟨k+1,tickY x.yard,P1,P2,P3,P4,P5,P6,K1,K2,K3,K4,K5,K6,by go_num,by omega,HS.out.symm,HCD.out,C6.out,.inr ?_,R6.out,X6.out⟩,by simp [intOf];omega⟩
        have hlow:=(QC.out.ext (Ext.refl _)).lt
        refine EYardOut.keep (w:=w5) (fun b o u hb hc=>(KK.out.cell (fun hm=>hb.2.1 (List.mem_singleton.1 hm)) hc)) (EYardOut.sub (fun b hb=>⟨Nat.le_trans X.out.size hb,?_,?_⟩) R5.out)
        · intro hbc
          rw [hbc] at hb
          exact absurd hlow (Nat.not_lt.2 hb)
        · intro hbc
          have:=QR.out.lt
          rw [hbc] at hb
          omega
      · have hcb:((tickY x.yard).code != 0)=true:=by simp [hcode]
        have HCD:=Lib.hid hcode
        clear hcode
        have HUP:Hid (ticksY y n=illY (tickY x.yard).code):=Lib.hid (by
         have e:n.toNat=(k+1)+(n.toNat - (k+1)):=by omega
         rw [ticks_good T.out,e,up_stop _ _ (by rw [HS.out];exact HCD.out),HS.out]
         exact ill_is HCD.out)
        go_wp2_with (refine wpList_store_mid rfl 37 _ _ rfl (B+1) 0 #[.slice none 0 0,.slice none 0 0,.slice none 0 0,.int .i64 0,.slice none 0 0,.slice none 0 0,.slice none 0 0,.int .i64 0,.int .i64 0,.int .i64 (tickY x.yard).code] rfl rfl (Blk.there (t:=37) (cs:=#[.slice none 0 0,.slice none 0 0,.slice none 0 0,.int .i64 0,.slice none 0 0,.slice none 0 0,.slice none 0 0,.int .i64 0,.int .i64 0,.int .i64 0]) R6.out) (by kernel_rfl) (all_oneCell_toArray (cs:=[.slice none 0 0,.slice none 0 0,.slice none 0 0,.int .i64 0,.slice none 0 0,.slice none 0 0,.slice none 0 0,.int .i64 0,.int .i64 0,.int .i64 (tickY x.yard).code]) (by simp [Value.oneCell'])) ?_)
        exact bodyPost_ret (v:=.agg #[.slice none 0 0,.slice none 0 0,.slice none 0 0,.int .i64 0,.slice none 0 0,.slice none 0 0,.slice none 0 0,.int .i64 0,.int .i64 0,.int .i64 (tickY x.yard).code]) (results_blk Tryz.results8 rfl (Blk.setAll (t:=37) (cs:=#[.slice none 0 0,.slice none 0 0,.slice none 0 0,.int .i64 0,.slice none 0 0,.slice none 0 0,.slice none 0 0,.int .i64 0,.int .i64 0,.int .i64 0]) (vs:=#[.slice none 0 0,.slice none 0 0,.slice none 0 0,.int .i64 0,.slice none 0 0,.slice none 0 0,.slice none 0 0,.int .i64 0,.int .i64 0,.int .i64 (tickY x.yard).code]) R6.out rfl) Tryz.underlying37 rfl (by kernel_rfl)) rfl ⟨_,rfl,by rw [HUP.out];exact rel_none (OYardOut.rel (own_ill _ _ (tick_i64 _))),setCells_ext HB.out _ _ _ X6.out⟩
    · have hkn:k=n.toNat:=by omega
      have HXN:Hid (ticksY y n=x):=Lib.hid (by rw [ticks_good T.out,← hkn,HX.out])
      have hk0:¬ k=0:=by omega
      have HRN:Hid (EYardOut.rel (fun b=>w.heap.size≤b∧b≠C∧b≠B+1) wr [.slice p1 x.yard.config.nodes.length k1,.slice p2 x.yard.config.pairs.length k2,.slice p3 x.yard.config.quotas.length k3,.int .i64 x.yard.config.half,.slice p4 x.yard.nodes.length k4,.slice p5 x.yard.tasks.length k5,.slice p6 x.yard.uses.length k6,.int .i64 x.yard.now,.int .i64 x.id,.int .i64 x.code] x):=Lib.hid (HRL.out.resolve_left fun h=>hk0 h.1)
      have qc:=QC.out.cell
      clear hkn hk0
      go_wp2_with (refine wpList_store_mid rfl 37 _ _ rfl (B+1) 0 #[.slice p1 x.yard.config.nodes.length k1,.slice p2 x.yard.config.pairs.length k2,.slice p3 x.yard.config.quotas.length k3,.int .i64 x.yard.config.half,.slice p4 x.yard.nodes.length k4,.slice p5 x.yard.tasks.length k5,.slice p6 x.yard.uses.length k6,.int .i64 x.yard.now,.int .i64 x.id,.int .i64 x.code] rfl rfl (Blk.there (t:=37) (cs:=#[.slice none 0 0,.slice none 0 0,.slice none 0 0,.int .i64 0,.slice none 0 0,.slice none 0 0,.slice none 0 0,.int .i64 0,.int .i64 0,.int .i64 0]) QR.out) (by kernel_rfl) (all_oneCell_toArray (cs:=[.slice p1 x.yard.config.nodes.length k1,.slice p2 x.yard.config.pairs.length k2,.slice p3 x.yard.config.quotas.length k3,.int .i64 x.yard.config.half,.slice p4 x.yard.nodes.length k4,.slice p5 x.yard.tasks.length k5,.slice p6 x.yard.uses.length k6,.int .i64 x.yard.now,.int .i64 x.id,.int .i64 x.code]) (by simp [Value.oneCell'])) ?_)
      exact bodyPost_ret (v:=.agg #[.slice p1 x.yard.config.nodes.length k1,.slice p2 x.yard.config.pairs.length k2,.slice p3 x.yard.config.quotas.length k3,.int .i64 x.yard.config.half,.slice p4 x.yard.nodes.length k4,.slice p5 x.yard.tasks.length k5,.slice p6 x.yard.uses.length k6,.int .i64 x.yard.now,.int .i64 x.id,.int .i64 x.code]) (results_blk Tryz.results8 rfl (Blk.setAll (t:=37) (cs:=#[.slice none 0 0,.slice none 0 0,.slice none 0 0,.int .i64 0,.slice none 0 0,.slice none 0 0,.slice none 0 0,.int .i64 0,.int .i64 0,.int .i64 0]) (vs:=#[.slice p1 x.yard.config.nodes.length k1,.slice p2 x.yard.config.pairs.length k2,.slice p3 x.yard.config.quotas.length k3,.int .i64 x.yard.config.half,.slice p4 x.yard.nodes.length k4,.slice p5 x.yard.tasks.length k5,.slice p6 x.yard.uses.length k6,.int .i64 x.yard.now,.int .i64 x.id,.int .i64 x.code]) QR.out rfl) Tryz.underlying37 rfl (by kernel_rfl)) rfl ⟨_,rfl,by rw [HXN.out];exact EYardOut.keep (setCells_same (B:=B+1) (fun h=>h.2.2 rfl)) (EYardOut.sub (fun b hb=>hb) HRN.out) |> EYardOut.sub (fun b hb=>hb.1),setCells_ext HB.out _ _ _ X.out⟩
end Go.Proofs.YtoblacfjmcpbmaaGreat

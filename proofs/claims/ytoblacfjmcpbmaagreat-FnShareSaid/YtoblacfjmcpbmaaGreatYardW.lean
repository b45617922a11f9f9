/- The walks of NodesNew, the program's and the reference's. -/
import Derived.Test.YtoblacfjmcpbmaaGreatNodeRep
import Derived.Test.YtoblacfjmcpbmaaGreatGYardT
import Derived.Test.YtoblacfjmcpbmaaGreatYardTt
import Derived.Test.YtoblacfjmcpbmaaGreatTaskR
import Derived.Test.YtoblacfjmcpbmaaGreatYardCp
import Derived.Test.YtoblacfjmcpbmaaGreatConf4
set_option maxHeartbeats 8000000
set_option maxRecDepth 100000
namespace Go.Proofs.YtoblacfjmcpbmaaGreat
open Go.RowKit
attribute [local irreducible] wpQuiet
theorem rep_get {α:Type} (a b:α):∀ (n k j:Nat),k < n→j < 2→(List.replicate n [a,b]).flatten[k * 2+j]? = [a,b][j]?
 | 0,k,j,hk,_=>absurd hk (Nat.not_lt_zero _)
 | n+1,0,j,_,hj=>by
   rw [List.replicate_succ,List.flatten_cons,Nat.zero_mul,Nat.zero_add,List.getElem?_append_left (by simpa using hj)]
 | n+1,k+1,j,hk,hj=>by
   rw [List.replicate_succ,List.flatten_cons,List.getElem?_append_right (by simp only [List.length_cons,List.length_nil];omega),show (k+1) * 2+j - [a,b].length=k * 2+j by simp only [List.length_cons,List.length_nil];omega]
   exact rep_get a b n k j (by omega) hj
theorem nth_rep {n k:Nat} (x:Node) (h:k < n):nth (List.replicate n x) k=x:=by
 rw [nth_eq (by simpa using h)]
 simp
theorem own_newNodes {w:World} {B n:Nat} {C:Array Value} (hb:Blk w B 107 C) (hC:C=(List.replicate n [Value.int .i64 1,.slice none 0 0]).flatten.toArray) (hn:n≤maxLen) :
 OwS ONode 107 w (.slice (some ⟨B,0,none⟩) n n) (List.replicate n ⟨1,[]⟩) [B]:=by
 refine .inr ⟨B,n,C,List.replicate n [],by simp,hb,by simp,hn,?_,by simp,by rw [flat_flatten],by simp,fun k hk=>?_⟩
 · rw [hC]
   simp [ENode]
 · have hk':k < n:=by simpa using hk
   rw [nth_rep _ hk',show nth (List.replicate n ([]:List Nat)) k = [] from flat_list (α:=Nat) hk']
   refine ⟨_,⟨_,rfl,(show I64 1 by unfold I64;decide),OwS.nil none⟩,fun j u hj=>?_⟩
   have hj2:j < 2:=by
    have:=(List.getElem?_eq_some_iff.1 hj).1
    simpa [cellsNode] using this
   rw [hb.cell,hC,List.getElem?_toArray]
   exact (rep_get _ _ n k j hk' hj2).trans hj
theorem nodesNew_any (n:Int) (w:World) :
 Calls Tryz.prog 19 #[.int .i64 n] w (RetO ONode 107 (nodesNew n) w):=by
 by_cases hu:isB n 1 6=true
 · have hb:=isB_true hu
   obtain ⟨N,rfl⟩:∃ N:Nat,n=N:=⟨n.toNat,by omega⟩
   have HE:Hid (nodesNew (N:Int)=List.replicate N ⟨1,[]⟩):=Lib.hid (by rw [nodesNew,if_pos hu];rfl)
   have HN:Hid (N=1∨N=2∨N=3∨N=4∨N=5∨N=6):=Lib.hid (by omega)
   have HR:Hid (∀ (B0:Nat) (v:World),v.cell? ⟨B0,0,none⟩=some (.int .i64 1)→v.cell? ⟨B0,1,none⟩=some (.slice none 0 0) →
    Calls Tryz.prog 56 #[.slice (some ⟨B0,0,none⟩) 1 1,.int .i64 (N:Int)] v (RetO ONode 107 (List.replicate N ⟨1,[]⟩) v)):=Lib.hid (by
    intro B0 v e0 e1
    have hm:N≤maxLen:=by unfold maxLen;omega
    rcases HN.out with rfl | rfl | rfl | rfl | rfl | rfl
    · refine (repeat_1 B0 v e0 e1).mono ?_;rintro e w' ⟨B,rfl,hb,hB,hx⟩;exact ⟨_,[B],rfl,own_newNodes hb rfl hm,fun b hb=>by rw [List.mem_singleton.1 hb];exact hB,hx⟩
    · refine (repeat_2 B0 v e0 e1).mono ?_;rintro e w' ⟨B,rfl,hb,hB,hx⟩;exact ⟨_,[B],rfl,own_newNodes hb rfl hm,fun b hb=>by rw [List.mem_singleton.1 hb];exact hB,hx⟩
    · refine (repeat_3 B0 v e0 e1).mono ?_;rintro e w' ⟨B,rfl,hb,hB,hx⟩;exact ⟨_,[B],rfl,own_newNodes hb rfl hm,fun b hb=>by rw [List.mem_singleton.1 hb];exact hB,hx⟩
    · refine (repeat_4 B0 v e0 e1).mono ?_;rintro e w' ⟨B,rfl,hb,hB,hx⟩;exact ⟨_,[B],rfl,own_newNodes hb rfl hm,fun b hb=>by rw [List.mem_singleton.1 hb];exact hB,hx⟩
    · refine (repeat_5 B0 v e0 e1).mono ?_;rintro e w' ⟨B,rfl,hb,hB,hx⟩;exact ⟨_,[B],rfl,own_newNodes hb rfl hm,fun b hb=>by rw [List.mem_singleton.1 hb];exact hB,hx⟩
    · refine (repeat_6 B0 v e0 e1).mono ?_;rintro e w' ⟨B,rfl,hb,hB,hx⟩;exact ⟨_,[B],rfl,own_newNodes hb rfl hm,fun b hb=>by rw [List.mem_singleton.1 hb];exact hB,hx⟩)
   go_enter Tryz.func19,Tryz.ntmps19
   go_wp2_with (first | (go_at_call 30;refine (within_any _ _ _ _).mono ?_;rintro e w' ⟨rfl,rfl⟩) | (go_at_call 56;(with_reducible refine (HR.out w.heap.size _ ?e0 ?e1).mono ?_);rotate_right;(rintro e w1 ⟨v,F,rfl,how,hF,hx⟩;have HOW:=Lib.hid how;have HF:=Lib.hid hF;have HX:=Lib.hid hx;clear how hF hx)))
   case e0=>exact (Blk.new w 107 #[.int .i64 1,.slice none 0 0]).cell 0
   case e1=>exact (Blk.new w 107 #[.int .i64 1,.slice none 0 0]).cell 1
   go_ret
   exact ⟨_,F,rfl,by rw [HE.out];exact HOW.out,fun b hb=>Nat.le_trans ((Ext.refl w).alloc _).size (HF.out b hb),((Ext.refl w).alloc _).trans HX.out⟩
 · simp only [Bool.not_eq_true] at hu
   have HE:Hid (nodesNew n = []):=Lib.hid (by rw [nodesNew,hu];rfl)
   go_enter Tryz.func19,Tryz.ntmps19
   go_wp2_with (go_at_call 30;refine (within_any _ _ _ _).mono ?_;rintro e w' ⟨rfl,rfl⟩)
   go_ret
   exact ⟨_,[],rfl,by rw [HE.out];exact OwS.nil _,fun b hb=>(by cases hb),Ext.refl w⟩
end Go.Proofs.YtoblacfjmcpbmaaGreat
/- What a new yard is,in plain Lean;the walks of YardNew,the program's and the reference's. Printed by wip/yardn.py. -/
namespace Go.Proofs.YtoblacfjmcpbmaaGreat
open Go.RowKit
attribute [local irreducible] wpQuiet
def zeroConfig:Config:=⟨[],[],[],0⟩
def zeroYard:Yard:=⟨zeroConfig,[],[],[],0⟩
def yardNew (c:Config):YardOut:=if configRight c=true then ⟨⟨c,nodesNew (c.nodes.length:Int),[],[],0⟩,0,0⟩ else ⟨zeroYard,0,1⟩
theorem few_right {c:Config} (h:configRight c=true):FewC c:=by
 have hc:=config_clear h
 have hn:=clear_length hc
 have h':=h
 simp only [configRight,pairsOk,quotasOk,Bool.and_eq_true,decide_eq_true_eq] at h'
 refine ⟨by omega,fun k hk=>?_,by have:=h'.2.1.2.1;omega,by have:=h'.2.2.1;omega⟩
 have:=(chain_length (clear_chain hc _ (nth_mem hk))).2
 omega
theorem own_zero (w:World):OYardOut.own w [.slice none 0 0,.slice none 0 0,.slice none 0 0,.int .i64 0,.slice none 0 0,.slice none 0 0,.slice none 0 0,.int .i64 0,.int .i64 0,.int .i64 1] ⟨zeroYard,0,1⟩ [] :=
 ⟨_,_,_,_,_,_,[],[],[],[],[],[],rfl,⟨by unfold I64;decide,by unfold I64;decide,by unfold I64;decide,by unfold I64;decide⟩,OwS.nil _,OwS.nil _,OwS.nil _,OwS.nil _,OwS.nil _,OwS.nil _,rfl,List.nodup_nil⟩
theorem nodup_four {F1 F2 F3 F4:List Nat} {a:Nat} (h:(F1 ++ (F2 ++ F3)).Nodup) (h4:F4.Nodup) (l:∀ b∈F1 ++ (F2 ++ F3),b < a) (g:∀ b∈F4,a≤b):(F1 ++ (F2 ++ (F3 ++ (F4 ++ ([] ++ []))))).Nodup:=by
 rw [show F1 ++ (F2 ++ (F3 ++ (F4 ++ ([] ++ []))))=(F1 ++ (F2 ++ F3)) ++ F4 by simp]
 exact nodup_two h h4 fun b hb hm=>by have:=l b hb;have:=g b hm;omega
theorem yardNew_any {S:Nat→Prop} (c:Config) (cs:List Value) (w:World) (h:EConfig.rel S w cs c) :
 Calls Tryz.prog 6 #[.agg cs.toArray] w (RetOS OYardOut (yardNew c) w):=by
 obtain ⟨v1,v2,v3,rfl,hf,h1,h2,h3⟩:=h
 obtain ⟨A1,c1,rfl,-⟩:=h1.form
 obtain ⟨A2,c2,rfl,-⟩:=h2.form
 obtain ⟨A3,c3,rfl,-⟩:=h3.form
 have HF:=Lib.hid hf
 have H1:=Lib.hid h1
 have H2:=Lib.hid h2
 have H3:=Lib.hid h3
 clear hf h1 h2 h3
 simp only [cellsConfig]
 obtain ⟨t,ht⟩:∃ t,configRight c=t:=⟨_,rfl⟩
 have T:=Lib.hid ht
 clear ht
 go_enter Tryz.func6,Tryz.ntmps6
 go_upto_region 1 with (fail)
 obtain ⟨W,B,hW,hB,hx0,a0,r0⟩:=boxes2 w #[.slice A1 c.nodes.length c1,.slice A2 c.pairs.length c2,.slice A3 c.quotas.length c3,.int .i64 c.half] #[.slice none 0 0,.slice none 0 0,.slice none 0 0,.int .i64 0,.slice none 0 0,.slice none 0 0,.slice none 0 0,.int .i64 0,.int .i64 0,.int .i64 0] 30 37
 rw [← hW,← hB]
 have HB:Hid (w.heap.size≤B+1):=Lib.hid (by omega)
 have QA:=Lib.hid a0
 have QR:=Lib.hid r0
 have X:=Lib.hid hx0
 clear hW hB hx0 a0 r0
 have qa:=QA.out.cell
 cases t with
 | false =>
   have HE:Hid (yardNew c=⟨zeroYard,0,1⟩):=Lib.hid (by rw [yardNew,T.out];rfl)
   go_upto_region 2 with (go_at_call 17;(with_reducible refine (configRight_is (S:=S) c [.slice A1 c.nodes.length c1,.slice A2 c.pairs.length c2,.slice A3 c.quotas.length c3,.int .i64 c.half] _ (rel_Config HF.out (H1.out.ext X.out) (H2.out.ext X.out) (H3.out.ext X.out)) _ T.out).mono ?_);rintro e w7 ⟨rfl,hx7⟩;have H7:=Lib.hid hx7;clear hx7 qa)
   have R7:=Lib.hid (QR.out.ext H7.out)
   have Y7:=Lib.hid (X.out.trans H7.out)
   go_wp2_with (refine wpList_store_mid rfl 37 _ _ rfl (B+1) 0 #[.slice none 0 0,.slice none 0 0,.slice none 0 0,.int .i64 0,.slice none 0 0,.slice none 0 0,.slice none 0 0,.int .i64 0,.int .i64 0,.int .i64 1] rfl rfl (Blk.there (t:=37) (cs:=#[.slice none 0 0,.slice none 0 0,.slice none 0 0,.int .i64 0,.slice none 0 0,.slice none 0 0,.slice none 0 0,.int .i64 0,.int .i64 0,.int .i64 0]) R7.out) (by kernel_rfl) (all_oneCell_toArray (cs:=[.slice none 0 0,.slice none 0 0,.slice none 0 0,.int .i64 0,.slice none 0 0,.slice none 0 0,.slice none 0 0,.int .i64 0,.int .i64 0,.int .i64 1]) (by simp [Value.oneCell'])) ?_)
   exact bodyPost_ret (v:=.agg #[.slice none 0 0,.slice none 0 0,.slice none 0 0,.int .i64 0,.slice none 0 0,.slice none 0 0,.slice none 0 0,.int .i64 0,.int .i64 0,.int .i64 1]) (results_blk Tryz.results6 rfl (Blk.setAll (t:=37) (cs:=#[.slice none 0 0,.slice none 0 0,.slice none 0 0,.int .i64 0,.slice none 0 0,.slice none 0 0,.slice none 0 0,.int .i64 0,.int .i64 0,.int .i64 0]) (vs:=#[.slice none 0 0,.slice none 0 0,.slice none 0 0,.int .i64 0,.slice none 0 0,.slice none 0 0,.slice none 0 0,.int .i64 0,.int .i64 0,.int .i64 1]) R7.out rfl) Tryz.underlying37 rfl (by kernel_rfl)) rfl ⟨_,[],rfl,by rw [HE.out];exact own_zero _,fun b hb=>absurd hb (by simp),setCells_ext HB.out _ _ _ Y7.out⟩
 | true =>
   have HE:Hid (yardNew c=⟨⟨c,nodesNew (c.nodes.length:Int),[],[],0⟩,0,0⟩):=Lib.hid (by rw [yardNew,if_pos T.out])
   have HFW:=Lib.hid (few_right T.out)
   go_upto_region 3 with (go_at_call 17;(with_reducible refine (configRight_is (S:=S) c [.slice A1 c.nodes.length c1,.slice A2 c.pairs.length c2,.slice A3 c.quotas.length c3,.int .i64 c.half] _ (rel_Config HF.out (H1.out.ext X.out) (H2.out.ext X.out) (H3.out.ext X.out)) _ T.out).mono ?_);rintro e w7 ⟨rfl,hx7⟩;have H7:=Lib.hid hx7;clear hx7 qa)
   replace QA:=Lib.hid (QA.out.ext H7.out)
   replace QR:=Lib.hid (QR.out.ext H7.out)
   replace X:=Lib.hid (X.out.trans H7.out)
   have hne:B∉[B+1]:=by simp
   have al:∀ V,Kept [B+1] w7 V→∀ i,V.cell? ⟨B,i,none⟩=_:=fun V hV=>Blk.cell (t:=30) (cs:=#[.slice A1 c.nodes.length c1,.slice A2 c.pairs.length c2,.slice A3 c.quotas.length c3,.int .i64 c.half]) ((hV.block B QA.out.lt hne).trans QA.out)
   clear hne
   go_region_held3 (fun V=>Kept [B+1] w7 V) (with_reducible (first | exact Kept.refl _ _ | assumption | exact Kept.of_ext X8.out | exact Kept.of_ext X9.out | ((repeat (first | exact Kept.of_ext X9.out | refine Kept.setCell ?_ (by simp) _));done) | exact Kept.of_ext (Ext.refl _).drew)) (first
    | (go_at_call 18;(with_reducible refine (copyConfig_own (S:=S) c [.slice A1 c.nodes.length c1,.slice A2 c.pairs.length c2,.slice A3 c.quotas.length c3,.int .i64 c.half] _ (rel_Config HF.out (H1.out.ext (X.out.trans (by repeat (first | with_reducible exact Ext.refl _ | refine Ext.drew ?_)))) (H2.out.ext (X.out.trans (by repeat (first | with_reducible exact Ext.refl _ | refine Ext.drew ?_)))) (H3.out.ext (X.out.trans (by repeat (first | with_reducible exact Ext.refl _ | refine Ext.drew ?_))))) HFW.out).mono ?_);rintro e w8 ⟨cs8,G8,rfl,⟨u1,u2,u3,G1,G2,G3,rfl,hf8,o1,o2,o3,hG,hn⟩,g8,hx8⟩;obtain ⟨p1,k1,rfl,-⟩:=OwS.form o1;obtain ⟨p2,k2,rfl,-⟩:=OwS.form o2;obtain ⟨p3,k3,rfl,-⟩:=OwS.form o3;have X8:Hid (Ext w7 w8):=Lib.hid (Ext.trans (by repeat (first | with_reducible exact Ext.refl _ | refine Ext.drew ?_)) hx8);have O1:=Lib.hid o1;have O2:=Lib.hid o2;have O3:=Lib.hid o3;have HG:=Lib.hid hG;have HN:=Lib.hid hn;have Z8:Hid (∀ b∈G8,w7.heap.size≤b):=Lib.hid (fun b hb=>Nat.le_trans (Ext.size (by repeat (first | with_reducible exact Ext.refl _ | refine Ext.drew ?_))) (g8 b hb));clear hf8 o1 o2 o3 hG hn g8 hx8;simp only [cellsConfig])
    | (go_at_call 19;(with_reducible refine (nodesNew_any _ _).mono ?_);rintro e w9 ⟨u4,G4,rfl,o4,g4,hx9⟩;obtain ⟨p4,k4,rfl,-⟩:=OwS.form o4;have X89:Hid (Ext w8 w9):=Lib.hid hx9;have X9:Hid (Ext w7 w9):=Lib.hid (X8.out.trans hx9);have O4:=Lib.hid o4;have Z9:Hid (∀ b∈G4,w8.heap.size≤b):=Lib.hid g4;have R9:=Lib.hid (QR.out.ext X9.out);have rc0:=R9.out.cell 0;have rc1:=R9.out.cell 1;have rc2:=R9.out.cell 2;have rc3:=R9.out.cell 3;have rc4:=R9.out.cell 4;have rc5:=R9.out.cell 5;have rc6:=R9.out.cell 6;have rc7:=R9.out.cell 7;have rc8:=R9.out.cell 8;have rc9:=R9.out.cell 9;have rf:=R9.out.frozen;clear o4 g4 hx9))
   all_goals
    clear al
    go_wp2_with fail
    have hl:∀ b∈G1 ++ (G2 ++ G3),b < w8.heap.size:=fun b hb=>(by
     simp only [List.mem_append] at hb
     rcases hb with hb | hb | hb
     · exact O1.out.lt b hb
     · exact O2.out.lt b hb
     · exact O3.out.lt b hb)
    have hz:∀ b∈G1 ++ (G2 ++ G3),w7.heap.size≤b:=fun b hb=>Z8.out b (by rw [HG.out];exact hb)
    have hr:=QR.out.lt
    have h8:=X8.out.size
    exact bodyPost_ret (v:=.agg #[.slice p1 c.nodes.length k1,.slice p2 c.pairs.length k2,.slice p3 c.quotas.length k3,.int .i64 c.half,.slice p4 (nodesNew (c.nodes.length:Int)).length k4,.slice none 0 0,.slice none 0 0,.int .i64 0,.int .i64 0,.int .i64 0]) (results_blk Tryz.results6 rfl (show Blk _ (B+1) 37 #[.slice p1 c.nodes.length k1,.slice p2 c.pairs.length k2,.slice p3 c.quotas.length k3,.int .i64 c.half,.slice p4 (nodesNew (c.nodes.length:Int)).length k4,.slice none 0 0,.slice none 0 0,.int .i64 0,.int .i64 0,.int .i64 0] from by simpa using ((((((((((R9.out.set_ 0 (.slice p1 c.nodes.length k1)).set_ 1 (.slice p2 c.pairs.length k2)).set_ 2 (.slice p3 c.quotas.length k3)).set_ 3 (.int .i64 c.half)).set_ 4 (.slice p4 (nodesNew (c.nodes.length:Int)).length k4)).set_ 5 (.slice none 0 0)).set_ 6 (.slice none 0 0)).set_ 7 (.int .i64 0)).set_ 8 (.int .i64 0)).set_ 9 (.int .i64 0))) Tryz.underlying37 rfl (by kernel_rfl)) rfl
     ⟨_,G1 ++ (G2 ++ (G3 ++ (G4 ++ ([] ++ [])))),rfl,by
       rw [HE.out]
       exact ⟨_,_,_,_,_,_,G1,G2,G3,G4,[],[],rfl,⟨HF.out,show I64 0 by unfold I64;decide,show I64 0 by unfold I64;decide,show I64 0 by unfold I64;decide⟩,
        (O1.out.ext X89.out).kept (G:=[B+1]) (by repeat (first | with_reducible exact Kept.refl _ _ | refine Kept.setCell ?_ (by simp) _)) (fun b hb hm=>by have:=hz b (by simp [hb]);have:=List.mem_singleton.1 hm;omega),
        (O2.out.ext X89.out).kept (G:=[B+1]) (by repeat (first | with_reducible exact Kept.refl _ _ | refine Kept.setCell ?_ (by simp) _)) (fun b hb hm=>by have:=hz b (by simp [hb]);have:=List.mem_singleton.1 hm;omega),
        (O3.out.ext X89.out).kept (G:=[B+1]) (by repeat (first | with_reducible exact Kept.refl _ _ | refine Kept.setCell ?_ (by simp) _)) (fun b hb hm=>by have:=hz b (by simp [hb]);have:=List.mem_singleton.1 hm;omega),
        O4.out.kept (G:=[B+1]) (by repeat (first | with_reducible exact Kept.refl _ _ | refine Kept.setCell ?_ (by simp) _)) (fun b hb hm=>by have:=Z9.out b hb;have:=List.mem_singleton.1 hm;omega),
        OwS.nil _,OwS.nil _,rfl,nodup_four (by rw [← HG.out];exact HN.out) O4.out.nodup hl Z9.out⟩,
       fun b hb=>(by
        have h1:=X.out.size
        simp at hb
        rcases hb with hb | hb | hb | hb
        · exact Nat.le_trans h1 (hz b (by simp [hb]))
        · exact Nat.le_trans h1 (hz b (by simp [hb]))
        · exact Nat.le_trans h1 (hz b (by simp [hb]))
        · have:=Z9.out b hb;omega),
       Kept.ext (X.out.trans X9.out) (F:=[B+1]) (by repeat (first | with_reducible exact Kept.refl _ _ | refine Kept.setCell ?_ (by simp) _)) (fun b hb=>by rw [List.mem_singleton.1 hb];exact HB.out)⟩
end Go.Proofs.YtoblacfjmcpbmaaGreat

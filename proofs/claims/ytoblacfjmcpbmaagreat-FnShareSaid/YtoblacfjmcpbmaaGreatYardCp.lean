/- A configuration's copy, with memory of its own: the program's. A configuration's copy, with memory of its own: the reference's. A yard's copy, with memory of its own: the program's and the reference's. -/
import Derived.Test.YtoblacfjmcpbmaaGreatGYardT
import Derived.Test.YtoblacfjmcpbmaaGreatNodeC
import Derived.Test.YtoblacfjmcpbmaaGreatConf1
import Derived.Deep.RegionHeld3
import Derived.Deep.RegionLaw
import Derived.Test.YtoblacfjmcpbmaaGreatCopies
set_option maxHeartbeats 16000000
set_option maxRecDepth 100000
namespace Go.Proofs.YtoblacfjmcpbmaaGreat
open Go.RowKit
attribute [local irreducible] wpQuiet
theorem cloneLabel_any {S:Nat→Prop} (l:List Label) (v:Value) (w:World) (h:Rd ELabel S w v l) (hl:l.length≤1000000000) :
 Calls Tryz.prog 109 #[v] w (RetO OLabel 24 l w):=by
 have HR:=Lib.hid h
 obtain ⟨A,c,rfl,h1,h2,hk⟩:=h.open_
 unfold maxLen at h2
 have HK:=Lib.hid hk
 have HL:=Lib.hid hl
 clear hk h hl
 have hnil:=fun (W:World) (a:Option Addr) (n c:Nat)=>Go.Lib.run_eql_slice_nil (P:=Tryz.prog) W 39 24 a n c 0 0 Tryz.underlying39
 cases A with
 | none =>
   obtain rfl:l = []:=by
    rcases Nat.eq_zero_or_pos l.length with h0 | h0
    · exact List.eq_nil_of_length_eq_zero h0
    · obtain ⟨_,_,_,h',_⟩:=HK.out 0 h0
      cases h'
   go_enter Tryz.func109,Tryz.ntmps109
   go_wp2_with fail
   go_ret
   exact ⟨_,[],rfl,OwS.nil _,fun b hb=>(by cases hb),Ext.refl _⟩
 | some a =>
   obtain ⟨B,o,sp⟩:=a
   go_enter Tryz.func109,Tryz.ntmps109
   go_wp2_with (at_builtin;refine wpList_append_flat (E:=ELabel) (T:=24) (hfl:=fun h=>h) (l:=[]) (ys:=l) (F:=[]) (S:=S) rfl _ _ 39 rfl (.agg #[.int .i64 0,.int .i64 0]) 2 16 Tryz.underlying39 (by kernel_rfl) rfl rfl rfl ?ow rfl ?rd ?b1 ?b2 ?_;rotate_right;intro v' w1 F' how hkp hF';have HOW:=Lib.hid how;have HKP:=Lib.hid hkp;have HFF:=Lib.hid hF';clear how hkp hF')
   case ow=>exact OwS.nil _
   case rd=>exact HR.out.ext ((Ext.refl _).alloc _)
   case b1=>have:=HL.out;simp only [List.length_nil,maxLen];omega
   case b2=>have:=HL.out;simp only [List.length_nil];omega
   go_ret
   exact ⟨_,F',rfl,HOW.out,fun b hb=>(by rcases HFF.out b hb with h | h;cases h;exact Nat.le_trans ((Ext.refl w).alloc _).size h),HKP.out.ext ((Ext.refl _).alloc _) (fun b hb=>by cases hb)⟩
theorem clonePair_any {S:Nat→Prop} (l:List Pair) (v:Value) (w:World) (h:Rd EPair S w v l) (hl:l.length≤1000000000) :
 Calls Tryz.prog 54 #[v] w (RetO OPair 100 l w):=by
 have HR:=Lib.hid h
 obtain ⟨A,c,rfl,h1,h2,hk⟩:=h.open_
 unfold maxLen at h2
 have HK:=Lib.hid hk
 have HL:=Lib.hid hl
 clear hk h hl
 have hnil:=fun (W:World) (a:Option Addr) (n c:Nat)=>Go.Lib.run_eql_slice_nil (P:=Tryz.prog) W 27 100 a n c 0 0 Tryz.underlying27
 cases A with
 | none =>
   obtain rfl:l = []:=by
    rcases Nat.eq_zero_or_pos l.length with h0 | h0
    · exact List.eq_nil_of_length_eq_zero h0
    · obtain ⟨_,_,_,h',_⟩:=HK.out 0 h0
      cases h'
   go_enter Tryz.func54,Tryz.ntmps54
   go_wp2_with fail
   go_ret
   exact ⟨_,[],rfl,OwS.nil _,fun b hb=>(by cases hb),Ext.refl _⟩
 | some a =>
   obtain ⟨B,o,sp⟩:=a
   go_enter Tryz.func54,Tryz.ntmps54
   go_wp2_with (at_builtin;refine wpList_append_flat (E:=EPair) (T:=100) (hfl:=fun h=>h) (l:=[]) (ys:=l) (F:=[]) (S:=S) rfl _ _ 27 rfl (.agg #[.int .i64 0,.int .i64 0,.int .i64 0,.int .i64 0,.int .i64 0]) 5 40 Tryz.underlying27 (by kernel_rfl) rfl rfl rfl ?ow rfl ?rd ?b1 ?b2 ?_;rotate_right;intro v' w1 F' how hkp hF';have HOW:=Lib.hid how;have HKP:=Lib.hid hkp;have HFF:=Lib.hid hF';clear how hkp hF')
   case ow=>exact OwS.nil _
   case rd=>exact HR.out.ext ((Ext.refl _).alloc _)
   case b1=>have:=HL.out;simp only [List.length_nil,maxLen];omega
   case b2=>have:=HL.out;simp only [List.length_nil];omega
   go_ret
   exact ⟨_,F',rfl,HOW.out,fun b hb=>(by rcases HFF.out b hb with h | h;cases h;exact Nat.le_trans ((Ext.refl w).alloc _).size h),HKP.out.ext ((Ext.refl _).alloc _) (fun b hb=>by cases hb)⟩
theorem cloneQuota_any {S:Nat→Prop} (l:List Quota) (v:Value) (w:World) (h:Rd EQuota S w v l) (hl:l.length≤1000000000) :
 Calls Tryz.prog 55 #[v] w (RetO OQuota 103 l w):=by
 have HR:=Lib.hid h
 obtain ⟨A,c,rfl,h1,h2,hk⟩:=h.open_
 unfold maxLen at h2
 have HK:=Lib.hid hk
 have HL:=Lib.hid hl
 clear hk h hl
 have hnil:=fun (W:World) (a:Option Addr) (n c:Nat)=>Go.Lib.run_eql_slice_nil (P:=Tryz.prog) W 28 103 a n c 0 0 Tryz.underlying28
 cases A with
 | none =>
   obtain rfl:l = []:=by
    rcases Nat.eq_zero_or_pos l.length with h0 | h0
    · exact List.eq_nil_of_length_eq_zero h0
    · obtain ⟨_,_,_,h',_⟩:=HK.out 0 h0
      cases h'
   go_enter Tryz.func55,Tryz.ntmps55
   go_wp2_with fail
   go_ret
   exact ⟨_,[],rfl,OwS.nil _,fun b hb=>(by cases hb),Ext.refl _⟩
 | some a =>
   obtain ⟨B,o,sp⟩:=a
   go_enter Tryz.func55,Tryz.ntmps55
   go_wp2_with (at_builtin;refine wpList_append_flat (E:=EQuota) (T:=103) (hfl:=fun h=>h) (l:=[]) (ys:=l) (F:=[]) (S:=S) rfl _ _ 28 rfl (.agg #[.int .i64 0,.int .i64 0,.int .i64 0]) 3 24 Tryz.underlying28 (by kernel_rfl) rfl rfl rfl ?ow rfl ?rd ?b1 ?b2 ?_;rotate_right;intro v' w1 F' how hkp hF';have HOW:=Lib.hid how;have HKP:=Lib.hid hkp;have HFF:=Lib.hid hF';clear how hkp hF')
   case ow=>exact OwS.nil _
   case rd=>exact HR.out.ext ((Ext.refl _).alloc _)
   case b1=>have:=HL.out;simp only [List.length_nil,maxLen];omega
   case b2=>have:=HL.out;simp only [List.length_nil];omega
   go_ret
   exact ⟨_,F',rfl,HOW.out,fun b hb=>(by rcases HFF.out b hb with h | h;cases h;exact Nat.le_trans ((Ext.refl w).alloc _).size h),HKP.out.ext ((Ext.refl _).alloc _) (fun b hb=>by cases hb)⟩
theorem copyClear_any {S:Nat→Prop} (ns:List (List Label)) (v:Value) (w:World) (h:Rd (ERow ELabel) S w v ns) (hl:ns.length≤1000000) (hs:∀ k,k < ns.length→(nth ns k).length≤1000000000) :
 Calls Tryz.prog 53 #[v] w (RetO (ORow OLabel 24) 39 ns w):=by
 obtain ⟨A,c,rfl,h1,h2,hk⟩:=h.open_
 unfold maxLen at h2
 have HK:=Lib.hid hk
 have HS:=Lib.hid hs
 clear hk h hs
 go_enter Tryz.func53,Tryz.ntmps53
 go_wp2_with fail
 obtain ⟨W,B,hW,hB,hx0,b0⟩:∃ W B,W=w.alloc (.cells #[] 39)∧B=w.heap.size∧Ext w W∧Blk W B 39 #[]:=⟨_,_,rfl,rfl,(Ext.refl w).alloc _,Blk.new _ _ _⟩
 rw [← hW,← hB]
 have HB:Hid (w.heap.size≤B):=Lib.hid (by omega)
 have B0:=Lib.hid b0
 have X0:=Lib.hid hx0
 clear hW hB hx0 b0
 go_loopw [3,9] (fun v i w'=>∃ (k:Nat) (F:List Nat),k≤ns.length∧i=.int .i64 k∧OwS (ORow OLabel 24) 39 w' v (ns.take k) F∧(∀ b∈F,w.heap.size≤b)∧Ext w w') (fun _ i _=>ns.length - (intOf i).toNat)
 case atStart=>exact ⟨0,[B],by omega,rfl,.inr ⟨B,0,#[],[],rfl,B0.out,Nat.le_refl _,Nat.zero_le _,rfl,rfl,rfl,by simp,fun k hk=>absurd hk (Nat.not_lt_zero _)⟩,fun b hb=>by rw [List.mem_singleton.1 hb];exact HB.out,X0.out⟩
 case round =>
  obtain ⟨k,F,hk1,rfl,hown,hF,hx⟩:=hrel
  have HO:=Lib.hid hown
  have HF:=Lib.hid hF
  have HX:=Lib.hid hx
  have LF:=Lib.hid hown.lt
  clear hown hF
  by_cases hlt:k < ns.length
  · obtain ⟨b,q,cs,rfl,_,⟨vr,rfl,hr⟩,hc⟩:=HK.out k hlt
    have z0:=Ext.some hx (hc 0 _ rfl)
    simp only [ERow,Nat.mul_one,Nat.add_zero] at z0
    obtain ⟨A1,c1,rfl,-⟩:=hr.form
    have HRD:=Lib.hid (hr.ext hx)
    have HN:=Lib.hid (HS.out k hlt)
    have HT:=Lib.hid (take_succ_nth hlt)
    clear hc hr hx
    go_wp2_with (first
     | (go_at_call 109;go_loud ((with_reducible refine (cloneLabel_any (S:=S) (nth ns k) _ _ HRD.out HN.out).mono ?_);rintro e w1 ⟨u1,G1,rfl,q1,g1,hx1⟩;obtain ⟨p1,k1,rfl,-⟩:=q1.form;have Q1:=Lib.hid q1;have X1:=Lib.hid hx1;have Z1:=Lib.hid g1;clear q1 g1 hx1))
     | (at_builtin;refine wpList_append_one (O:=ORow OLabel 24) (T:=39) (l:=ns.take k) (F:=F) (G:=G1) (y:=nth ns k) (cs:=[.slice p1 (nth ns k).length k1]) rfl _ _ 26 rfl (.slice none 0 0) 1 24 Tryz.underlying26 (by kernel_rfl) rfl rfl rfl ?ow _ 0 1 rfl ?own ?rng ?nd ?len (by decide) ?_;rotate_right;intro v' w2 F' how hkp hF';have HOW:=Lib.hid how;have HKP:=Lib.hid hkp;have HFF:=Lib.hid hF';clear how hkp hF'))
    case ow=>exact HO.out.ext (X1.out.alloc _)
    case own=>exact ⟨_,rfl,Q1.out.ext ((Ext.refl _).alloc _)⟩
    case rng=>exact (Blk.new w1 39 #[.slice p1 (nth ns k).length k1]).range
    case nd=>exact nodup_two HO.out.nodup Q1.out.nodup (fun b h1 h2=>by have a:=LF.out b h1;have c:=Z1.out b h2;omega)
    case len=>rw [List.length_take];omega
    refine ⟨⟨k+1,F',by omega,by go_num,by rw [HT.out];exact HOW.out,fun b hb=>?_,HKP.out.ext ((HX.out.trans X1.out).alloc _) HF.out⟩,by simp [intOf];omega⟩
    rcases HFF.out b hb with h | h | h
    · exact HF.out b h
    · exact Nat.le_trans HX.out.size (Z1.out b h)
    · exact Nat.le_trans ((HX.out.trans X1.out).alloc _).size h
  · obtain rfl:k=ns.length:=by omega
    go_wp2_with fail
    go_ret
    exact ⟨_,F,rfl,by have h:=HO.out;rw [List.take_length] at h;exact h,HF.out,HX.out⟩
def FewC (c:Config):Prop:=c.nodes.length≤1000000∧(∀ k,k < c.nodes.length→(nth c.nodes k).length≤1000000000)∧c.pairs.length≤1000000000∧c.quotas.length≤1000000000
theorem nodup3 {F1 F2 F3:List Nat} {a b:Nat} (h1:F1.Nodup) (h2:F2.Nodup) (h3:F3.Nodup) (l1:∀ x∈F1,x < a) (g2:∀ x∈F2,a≤x) (l2:∀ x∈F2,x < b) (g3:∀ x∈F3,b≤x) (hab:a≤b):(F1 ++ (F2 ++ F3)).Nodup:=by
 refine nodup_two h1 (nodup_two h2 h3 fun x hx hy=>?_) fun x hx hy=>?_
 · have:=l2 x hx;have:=g3 x hy;omega
 · rcases List.mem_append.1 hy with hy | hy
   · have:=l1 x hx;have:=g2 x hy;omega
   · have:=l1 x hx;have:=g3 x hy;omega
theorem copyConfig_own {S:Nat→Prop} (x:Config) (cs:List Value) (w:World) (h:EConfig.rel S w cs x) (hs:FewC x) :
 Calls Tryz.prog 18 #[.agg cs.toArray] w (RetOS OConfig x w):=by
 obtain ⟨v1,v2,v3,rfl,hf,h1,h2,h3⟩:=h
 obtain ⟨A1,c1,rfl,-⟩:=h1.form
 obtain ⟨A2,c2,rfl,-⟩:=h2.form
 obtain ⟨A3,c3,rfl,-⟩:=h3.form
 have HF:=Lib.hid hf
 have H1:=Lib.hid h1
 have H2:=Lib.hid h2
 have H3:=Lib.hid h3
 obtain ⟨s1,s2,s3,s4⟩:=hs
 have S1:=Lib.hid s1
 have S2:=Lib.hid s2
 have S3:=Lib.hid s3
 have S4:=Lib.hid s4
 clear hf h1 h2 h3 s1 s2 s3 s4
 simp only [cellsConfig]
 go_enter Tryz.func18,Tryz.ntmps18
 go_upto_region 1 with (fail)
 obtain ⟨W,B,hW,hB,hx0,a0,r0⟩:=boxes2 w #[.slice A1 x.nodes.length c1,.slice A2 x.pairs.length c2,.slice A3 x.quotas.length c3,.int .i64 x.half] #[.slice none 0 0,.slice none 0 0,.slice none 0 0,.int .i64 0] 30 30
 rw [← hW,← hB]
 have HB:Hid (w.heap.size≤B+1):=Lib.hid (by omega)
 have QA:=Lib.hid a0
 have QR:=Lib.hid r0
 have X:=Lib.hid hx0
 clear hW hB hx0 a0 r0
 have hne:B∉[B+1]:=by simp
 have al:∀ V,Kept [B+1] W V→∀ i,V.cell? ⟨B,i,none⟩=_:=fun V hV=>Blk.cell (t:=30) (cs:=#[.slice A1 x.nodes.length c1,.slice A2 x.pairs.length c2,.slice A3 x.quotas.length c3,.int .i64 x.half]) ((hV.block B QA.out.lt hne).trans QA.out)
 clear hne
 go_region_held3 (fun V=>Kept [B+1] W V) (first | exact Kept.refl _ _ | exact Kept.of_ext (Ext.refl _).drew | assumption | exact Kept.of_ext X1.out | exact Kept.of_ext X2.out | exact Kept.of_ext X3.out | (repeat (first | with_reducible exact Kept.of_ext X3.out | refine Kept.setCell ?_ (by simp) _))) (first
  | (go_at_call 53;(with_reducible refine (copyClear_any (S:=S) x.nodes _ _ (H1.out.ext (X.out.trans (by repeat (first | with_reducible exact Ext.refl _ | refine Ext.drew ?_)))) S1.out S2.out).mono ?_);rintro e w1 ⟨u1,G1,rfl,q1,g1,hx1⟩;obtain ⟨p1,k1,rfl,-⟩:=OwS.form q1;have X1:Hid (Ext W w1):=Lib.hid (Ext.trans (by repeat (first | with_reducible exact Ext.refl _ | refine Ext.drew ?_)) hx1);have Q1:=Lib.hid q1;have Z1:Hid (∀ b∈G1,W.heap.size≤b):=Lib.hid (fun b hb=>Nat.le_trans (Ext.size (by repeat (first | with_reducible exact Ext.refl _ | refine Ext.drew ?_))) (g1 b hb));clear q1 g1 hx1)
  | (go_at_call 54;(with_reducible refine (clonePair_any (S:=S) x.pairs _ _ (H2.out.ext (X.out.trans X1.out)) S3.out).mono ?_);rintro e w2 ⟨u2,G2,rfl,q2,g2,hx2⟩;obtain ⟨p2,k2,rfl,-⟩:=OwS.form q2;have X12:Hid (Ext w1 w2):=Lib.hid hx2;have X2:Hid (Ext W w2):=Lib.hid (X1.out.trans hx2);have Q2:=Lib.hid q2;have Z2:Hid (∀ b∈G2,w1.heap.size≤b):=Lib.hid g2;clear q2 g2 hx2)
  | (go_at_call 55;(with_reducible refine (cloneQuota_any (S:=S) x.quotas _ _ (H3.out.ext (X.out.trans X2.out)) S4.out).mono ?_);rintro e w3 ⟨u3,G3,rfl,q3,g3,hx3⟩;obtain ⟨p3,k3,rfl,-⟩:=OwS.form q3;have X23:Hid (Ext w2 w3):=Lib.hid hx3;have X3:Hid (Ext W w3):=Lib.hid (X2.out.trans hx3);have Q3:=Lib.hid q3;have Z3:Hid (∀ b∈G3,w2.heap.size≤b):=Lib.hid g3;have R3:=Lib.hid (QR.out.ext X3.out);have rc0:=R3.out.cell 0;have rc1:=R3.out.cell 1;have rc2:=R3.out.cell 2;have rc3:=R3.out.cell 3;have rf:=R3.out.frozen;clear q3 g3 hx3))
 all_goals
  clear al
  go_wp2_with fail
  exact bodyPost_ret (v:=.agg #[.slice p1 x.nodes.length k1,.slice p2 x.pairs.length k2,.slice p3 x.quotas.length k3,.int .i64 x.half]) (results_blk Tryz.results18 rfl (show Blk _ (B+1) 30 #[.slice p1 x.nodes.length k1,.slice p2 x.pairs.length k2,.slice p3 x.quotas.length k3,.int .i64 x.half] from by simpa using ((((R3.out.set_ 0 (.slice p1 x.nodes.length k1)).set_ 1 (.slice p2 x.pairs.length k2)).set_ 2 (.slice p3 x.quotas.length k3)).set_ 3 (.int .i64 x.half))) Tryz.underlying30 rfl (by kernel_rfl)) rfl
   ⟨_,G1 ++ (G2 ++ G3),rfl,⟨_,_,_,G1,G2,G3,rfl,HF.out,
     (Q1.out.ext (X12.out.trans X23.out)).kept (G:=[B+1]) (by repeat (first | with_reducible exact Kept.refl _ _ | refine Kept.setCell ?_ (by simp) _)) (fun b hb hm=>by have:=Z1.out b hb;have:=QR.out.lt;simp at hm;omega),
     (Q2.out.ext X23.out).kept (G:=[B+1]) (by repeat (first | with_reducible exact Kept.refl _ _ | refine Kept.setCell ?_ (by simp) _)) (fun b hb hm=>by have:=Z2.out b hb;have:=QR.out.lt;have:=X1.out.size;simp at hm;omega),
     Q3.out.kept (G:=[B+1]) (by repeat (first | with_reducible exact Kept.refl _ _ | refine Kept.setCell ?_ (by simp) _)) (fun b hb hm=>by have:=Z3.out b hb;have:=QR.out.lt;have:=X2.out.size;simp at hm;omega),
     rfl,nodup3 Q1.out.nodup Q2.out.nodup Q3.out.nodup Q1.out.lt Z2.out Q2.out.lt Z3.out X12.out.size⟩,
     fun b hb=>(by
      simp only [List.mem_append] at hb
      have h1:=X.out.size
      have h2:=X1.out.size
      have h3:=X2.out.size
      rcases hb with hb | hb | hb
      · exact Nat.le_trans h1 (Z1.out b hb)
      · exact Nat.le_trans (Nat.le_trans h1 h2) (Z2.out b hb)
      · exact Nat.le_trans (Nat.le_trans h1 h3) (Z3.out b hb)),
     Kept.ext (X.out.trans X3.out) (F:=[B+1]) (by repeat (first | with_reducible exact Kept.refl _ _ | refine Kept.setCell ?_ (by simp) _)) (fun b hb=>by rw [List.mem_singleton.1 hb];exact HB.out)⟩
end Go.Proofs.YtoblacfjmcpbmaaGreat
namespace Go.Proofs.YtoblacfjmcpbmaaGreat
open Go.RowKit
attribute [local irreducible] wpQuiet
end Go.Proofs.YtoblacfjmcpbmaaGreat
namespace Go.Proofs.YtoblacfjmcpbmaaGreat
open Go.RowKit
attribute [local irreducible] wpQuiet
def FewY (y:Yard):Prop:=FewC y.config∧y.nodes.length≤1000000∧(∀ k,k < y.nodes.length→(nth y.nodes k).books.length≤1000000000)∧y.tasks.length≤1000000∧(∀ k,k < y.tasks.length→(nth y.tasks k).nodes.length≤1000000000)∧y.uses.length≤1000000000
theorem nodup_rows {G F4 F5 F6:List Nat} {a b c:Nat} (hG:G.Nodup) (h4:F4.Nodup) (h5:F5.Nodup) (h6:F6.Nodup) (lG:∀ x∈G,x < a) (g4:∀ x∈F4,a≤x) (l4:∀ x∈F4,x < b) (g5:∀ x∈F5,b≤x) (l5:∀ x∈F5,x < c) (g6:∀ x∈F6,c≤x) (hab:a≤b) (hbc:b≤c):(G ++ (F4 ++ (F5 ++ F6))).Nodup:=by
 refine nodup_two hG (nodup_two h4 (nodup_two h5 h6 fun x hx hy=>?_) fun x hx hy=>?_) fun x hx hy=>?_
 · have:=l5 x hx;have:=g6 x hy;omega
 · rcases List.mem_append.1 hy with hy | hy
   · have:=l4 x hx;have:=g5 x hy;omega
   · have:=l4 x hx;have:=g6 x hy;omega
 · simp only [List.mem_append] at hy
   have:=lG x hx
   rcases hy with hy | hy | hy
   · have:=g4 x hy;omega
   · have:=g5 x hy;omega
   · have:=g6 x hy;omega
theorem copyYard_own {S:Nat→Prop} (y:Yard) (cs:List Value) (w:World) (h:EYard.rel S w cs y) (hs:FewY y) :
 Calls Tryz.prog 27 #[.agg cs.toArray] w (RetOS OYard y w):=by
 obtain ⟨v1,v2,v3,v4,v5,v6,rfl,hf,h1,h2,h3,h4,h5,h6⟩:=h
 obtain ⟨A1,c1,rfl,-⟩:=h1.form
 obtain ⟨A2,c2,rfl,-⟩:=h2.form
 obtain ⟨A3,c3,rfl,-⟩:=h3.form
 obtain ⟨A4,c4,rfl,-⟩:=h4.form
 obtain ⟨A5,c5,rfl,-⟩:=h5.form
 obtain ⟨A6,c6,rfl,-⟩:=h6.form
 obtain ⟨s0,s1,s2,s3,s4,s5⟩:=hs
 have S0:=Lib.hid s0
 have S1:=Lib.hid s1
 have S2:=Lib.hid s2
 have S3:=Lib.hid s3
 have S4:=Lib.hid s4
 have S5:=Lib.hid s5
 have HF:=Lib.hid hf
 have HFC:Hid (FitConfig y.config):=Lib.hid hf.1
 have H1:=Lib.hid h1
 have H2:=Lib.hid h2
 have H3:=Lib.hid h3
 have H4:=Lib.hid h4
 have H5:=Lib.hid h5
 have H6:=Lib.hid h6
 clear hf h1 h2 h3 h4 h5 h6 s0 s1 s2 s3 s4 s5
 simp only [cellsYard]
 go_enter Tryz.func27,Tryz.ntmps27
 go_upto_region 1 with (fail)
 obtain ⟨W,B,hW,hB,hx0,a0,r0⟩:=boxes2 w #[.slice A1 y.config.nodes.length c1,.slice A2 y.config.pairs.length c2,.slice A3 y.config.quotas.length c3,.int .i64 y.config.half,.slice A4 y.nodes.length c4,.slice A5 y.tasks.length c5,.slice A6 y.uses.length c6,.int .i64 y.now] #[.slice none 0 0,.slice none 0 0,.slice none 0 0,.int .i64 0,.slice none 0 0,.slice none 0 0,.slice none 0 0,.int .i64 0] 35 35
 rw [← hW,← hB]
 have HB:Hid (w.heap.size≤B+1):=Lib.hid (by omega)
 have QA:=Lib.hid a0
 have QR:=Lib.hid r0
 have X:=Lib.hid hx0
 clear hW hB hx0 a0 r0
 have hne:B∉[B+1]:=by simp
 have al:∀ V,Kept [B+1] W V→∀ i,V.cell? ⟨B,i,none⟩=_:=fun V hV=>Blk.cell (t:=35) (cs:=#[.slice A1 y.config.nodes.length c1,.slice A2 y.config.pairs.length c2,.slice A3 y.config.quotas.length c3,.int .i64 y.config.half,.slice A4 y.nodes.length c4,.slice A5 y.tasks.length c5,.slice A6 y.uses.length c6,.int .i64 y.now]) ((hV.block B QA.out.lt hne).trans QA.out)
 clear hne
 go_region_held3 (fun V=>Kept [B+1] W V) (with_reducible (first | exact Kept.refl _ _ | assumption | exact Kept.of_ext X1.out | exact Kept.of_ext X2.out | exact Kept.of_ext X3.out | exact Kept.of_ext X4.out | ((repeat (first | exact Kept.of_ext X4.out | refine Kept.setCell ?_ (by simp) _));done) | exact Kept.trans (by assumption) (Kept.of_ext ((Ext.refl _).alloc _)) | exact Kept.of_ext (Ext.refl _).drew)) (first
  | (go_at_call 18;(with_reducible refine (copyConfig_own (S:=S) y.config _ _ (rel_Config HFC.out (H1.out.ext (X.out.trans (by repeat (first | with_reducible exact Ext.refl _ | refine Ext.drew ?_ | refine Ext.alloc ?_ _)))) (H2.out.ext (X.out.trans (by repeat (first | with_reducible exact Ext.refl _ | refine Ext.drew ?_ | refine Ext.alloc ?_ _)))) (H3.out.ext (X.out.trans (by repeat (first | with_reducible exact Ext.refl _ | refine Ext.drew ?_ | refine Ext.alloc ?_ _))))) S0.out).mono ?_);rintro e w1 ⟨cs8,G8,rfl,⟨u1,u2,u3,G1,G2,G3,rfl,hf8,o1,o2,o3,hG,hn⟩,g8,hx1⟩;obtain ⟨p1,k1,rfl,-⟩:=OwS.form o1;obtain ⟨p2,k2,rfl,-⟩:=OwS.form o2;obtain ⟨p3,k3,rfl,-⟩:=OwS.form o3;have X1:Hid (Ext W w1):=Lib.hid (Ext.trans (by repeat (first | with_reducible exact Ext.refl _ | refine Ext.drew ?_ | refine Ext.alloc ?_ _)) hx1);have O1:=Lib.hid o1;have O2:=Lib.hid o2;have O3:=Lib.hid o3;have HG:=Lib.hid hG;have HN:=Lib.hid hn;have Z1:Hid (∀ b∈G8,W.heap.size≤b):=Lib.hid (fun b hb=>Nat.le_trans (Ext.size (by repeat (first | with_reducible exact Ext.refl _ | refine Ext.drew ?_ | refine Ext.alloc ?_ _))) (g8 b hb));clear hf8 o1 o2 o3 hG hn g8 hx1;simp only [cellsConfig])
  | (go_at_call 70;(with_reducible refine (copyNodes_any (S:=S) y.nodes _ _ (H4.out.ext (X.out.trans (by repeat (first | with_reducible exact X1.out | refine Ext.drew ?_ | refine Ext.alloc ?_ _)))) S1.out S2.out).mono ?_);rintro e w2 ⟨u4,G4,rfl,o4,g4,hx2⟩;obtain ⟨p4,k4,rfl,-⟩:=OwS.form o4;have XX2:Hid (Ext w1 w2):=Lib.hid (Ext.trans (by repeat (first | with_reducible exact Ext.refl _ | refine Ext.drew ?_ | refine Ext.alloc ?_ _)) hx2);have X2:Hid (Ext W w2):=Lib.hid (Ext.trans X1.out XX2.out);have O4:=Lib.hid o4;have Z4:Hid (∀ b∈G4,w1.heap.size≤b):=Lib.hid (fun b hb=>Nat.le_trans (Ext.size (by repeat (first | with_reducible exact Ext.refl _ | refine Ext.drew ?_ | refine Ext.alloc ?_ _))) (g4 b hb));clear o4 g4 hx2)
  | (go_at_call 71;(with_reducible refine (copyTasks_any (S:=S) y.tasks _ _ (H5.out.ext (X.out.trans (by repeat (first | with_reducible exact X2.out | refine Ext.drew ?_ | refine Ext.alloc ?_ _)))) S3.out S4.out).mono ?_);rintro e w3 ⟨u5,G5,rfl,o5,g5,hx3⟩;obtain ⟨p5,k5,rfl,-⟩:=OwS.form o5;have XX3:Hid (Ext w2 w3):=Lib.hid (Ext.trans (by repeat (first | with_reducible exact Ext.refl _ | refine Ext.drew ?_ | refine Ext.alloc ?_ _)) hx3);have X3:Hid (Ext W w3):=Lib.hid (Ext.trans X2.out XX3.out);have O5:=Lib.hid o5;have Z5:Hid (∀ b∈G5,w2.heap.size≤b):=Lib.hid (fun b hb=>Nat.le_trans (Ext.size (by repeat (first | with_reducible exact Ext.refl _ | refine Ext.drew ?_ | refine Ext.alloc ?_ _))) (g5 b hb));clear o5 g5 hx3)
  | (go_at_call 72;(with_reducible refine (cloneUse_any (S:=S) y.uses _ _ (H6.out.ext (X.out.trans (by repeat (first | with_reducible exact X3.out | refine Ext.drew ?_ | refine Ext.alloc ?_ _)))) S5.out).mono ?_);rintro e w4 ⟨u6,G6,rfl,o6,g6,hx4⟩;obtain ⟨p6,k6,rfl,-⟩:=OwS.form o6;have XX4:Hid (Ext w3 w4):=Lib.hid (Ext.trans (by repeat (first | with_reducible exact Ext.refl _ | refine Ext.drew ?_ | refine Ext.alloc ?_ _)) hx4);have X4:Hid (Ext W w4):=Lib.hid (Ext.trans X3.out XX4.out);have O6:=Lib.hid o6;have Z6:Hid (∀ b∈G6,w3.heap.size≤b):=Lib.hid (fun b hb=>Nat.le_trans (Ext.size (by repeat (first | with_reducible exact Ext.refl _ | refine Ext.drew ?_ | refine Ext.alloc ?_ _))) (g6 b hb));clear o6 g6 hx4;have R9:=Lib.hid (QR.out.ext X4.out);have rc0:=R9.out.cell 0;have rc1:=R9.out.cell 1;have rc2:=R9.out.cell 2;have rc3:=R9.out.cell 3;have rc4:=R9.out.cell 4;have rc5:=R9.out.cell 5;have rc6:=R9.out.cell 6;have rc7:=R9.out.cell 7;have rf:=R9.out.frozen))
 all_goals
  clear al
  go_wp2_with fail
  have hl:∀ b∈G1 ++ (G2 ++ G3),b < w1.heap.size:=fun b hb=>(by
   simp only [List.mem_append] at hb
   rcases hb with hb | hb | hb
   · exact O1.out.lt b hb
   · exact O2.out.lt b hb
   · exact O3.out.lt b hb)
  have hz:∀ b∈G1 ++ (G2 ++ G3),W.heap.size≤b:=fun b hb=>Z1.out b (by rw [HG.out];exact hb)
  have hr:=QR.out.lt
  have z1:=X1.out.size
  have z2:=X2.out.size
  have z3:=X3.out.size
  have y2:=XX2.out.size
  have y3:=XX3.out.size
  have hnd:=nodup_rows (G:=G1 ++ (G2 ++ G3)) (by rw [← HG.out];exact HN.out) O4.out.nodup O5.out.nodup O6.out.nodup hl Z4.out O4.out.lt Z5.out O5.out.lt Z6.out y2 y3
  simp only [List.append_assoc] at hnd
  exact bodyPost_ret (v:=.agg #[.slice p1 y.config.nodes.length k1,.slice p2 y.config.pairs.length k2,.slice p3 y.config.quotas.length k3,.int .i64 y.config.half,.slice p4 y.nodes.length k4,.slice p5 y.tasks.length k5,.slice p6 y.uses.length k6,.int .i64 y.now]) (results_blk Tryz.results27 rfl (show Blk _ (B+1) 35 #[.slice p1 y.config.nodes.length k1,.slice p2 y.config.pairs.length k2,.slice p3 y.config.quotas.length k3,.int .i64 y.config.half,.slice p4 y.nodes.length k4,.slice p5 y.tasks.length k5,.slice p6 y.uses.length k6,.int .i64 y.now] from by simpa using ((((((((R9.out.set_ 0 (.slice p1 y.config.nodes.length k1)).set_ 1 (.slice p2 y.config.pairs.length k2)).set_ 2 (.slice p3 y.config.quotas.length k3)).set_ 3 (.int .i64 y.config.half)).set_ 4 (.slice p4 y.nodes.length k4)).set_ 5 (.slice p5 y.tasks.length k5)).set_ 6 (.slice p6 y.uses.length k6)).set_ 7 (.int .i64 y.now))) Tryz.underlying35 rfl (by kernel_rfl)) rfl
   ⟨_,G1 ++ (G2 ++ (G3 ++ (G4 ++ (G5 ++ G6)))),rfl,⟨_,_,_,_,_,_,G1,G2,G3,G4,G5,G6,rfl,HF.out,
      (O1.out.ext (XX2.out.trans (XX3.out.trans XX4.out))).kept (G:=[B+1]) (by repeat (first | with_reducible exact Kept.refl _ _ | refine Kept.setCell ?_ (by simp) _)) (fun b hb hm=>by have:=hz b (by simp [hb]);have:=List.mem_singleton.1 hm;omega),
      (O2.out.ext (XX2.out.trans (XX3.out.trans XX4.out))).kept (G:=[B+1]) (by repeat (first | with_reducible exact Kept.refl _ _ | refine Kept.setCell ?_ (by simp) _)) (fun b hb hm=>by have:=hz b (by simp [hb]);have:=List.mem_singleton.1 hm;omega),
      (O3.out.ext (XX2.out.trans (XX3.out.trans XX4.out))).kept (G:=[B+1]) (by repeat (first | with_reducible exact Kept.refl _ _ | refine Kept.setCell ?_ (by simp) _)) (fun b hb hm=>by have:=hz b (by simp [hb]);have:=List.mem_singleton.1 hm;omega),
      (O4.out.ext (XX3.out.trans XX4.out)).kept (G:=[B+1]) (by repeat (first | with_reducible exact Kept.refl _ _ | refine Kept.setCell ?_ (by simp) _)) (fun b hb hm=>by have:=Z4.out b hb;have:=List.mem_singleton.1 hm;omega),
      (O5.out.ext XX4.out).kept (G:=[B+1]) (by repeat (first | with_reducible exact Kept.refl _ _ | refine Kept.setCell ?_ (by simp) _)) (fun b hb hm=>by have:=Z5.out b hb;have:=List.mem_singleton.1 hm;omega),
      O6.out.kept (G:=[B+1]) (by repeat (first | with_reducible exact Kept.refl _ _ | refine Kept.setCell ?_ (by simp) _)) (fun b hb hm=>by have:=Z6.out b hb;have:=List.mem_singleton.1 hm;omega),
      rfl,hnd⟩,
     fun b hb=>(by
      have h1:=X.out.size
      simp only [List.mem_append] at hb
      rcases hb with hb | hb | hb | hb | hb | hb
      · exact Nat.le_trans h1 (hz b (by simp [hb]))
      · exact Nat.le_trans h1 (hz b (by simp [hb]))
      · exact Nat.le_trans h1 (hz b (by simp [hb]))
      · have:=Z4.out b hb;omega
      · have:=Z5.out b hb;omega
      · have:=Z6.out b hb;omega),
     Kept.ext (X.out.trans X4.out) (F:=[B+1]) (by repeat (first | with_reducible exact Kept.refl _ _ | refine Kept.setCell ?_ (by simp) _)) (fun b hb=>by rw [List.mem_singleton.1 hb];exact HB.out)⟩
end Go.Proofs.YtoblacfjmcpbmaaGreat

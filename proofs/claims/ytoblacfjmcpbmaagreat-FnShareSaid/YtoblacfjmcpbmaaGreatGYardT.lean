/- What each type of data has for itself in memory. Printed by wip/gen2.py. slices.Clone at the types that lead to no memory. -/
import Derived.Test.YtoblacfjmcpbmaaGreatOwn
import Derived.Test.YtoblacfjmcpbmaaGreatRows
import Derived.Lib.LazyBuf
import Derived.Test.YtoblacfjmcpbmaaGreatGElems
import Derived.Test.YtoblacfjmcpbmaaGreatLib
set_option maxHeartbeats 1000000
set_option maxRecDepth 100000
namespace Go.Proofs.YtoblacfjmcpbmaaGreat
open Go.RowKit
def OInt:Own EInt:=OFlat EInt fun h=>h
def OSpan:Own ESpan:=OFlat ESpan fun h=>h
def OLabel:Own ELabel:=OFlat ELabel fun h=>h
def ONode:Own ENode where
 own:=fun w cs x F=>∃ v1,cs=cellsNode x v1∧FitNode x∧OwS OSpan 133 w v1 x.books F
 rel:=by rintro _ _ _ _ ⟨v1,rfl,hf,h1⟩;exact ⟨_,rfl,hf,h1.rd⟩
 keep:=by rintro _ _ _ _ _ hb ⟨v1,rfl,hf,h1⟩;exact ⟨_,rfl,hf,h1.keep hb⟩
 lt:=by rintro _ _ _ _ ⟨_,rfl,_,h1⟩;exact h1.lt
 nodup:=by rintro _ _ _ _ ⟨_,rfl,_,h1⟩;exact h1.nodup
def OUse:Own EUse:=OFlat EUse fun h=>h
def OTask:Own ETask where
 own:=fun w cs x F=>∃ v1,cs=cellsTask x v1∧FitTask x∧OwS OInt 2 w v1 x.nodes F
 rel:=by rintro _ _ _ _ ⟨v1,rfl,hf,h1⟩;exact ⟨_,rfl,hf,h1.rd⟩
 keep:=by rintro _ _ _ _ _ hb ⟨v1,rfl,hf,h1⟩;exact ⟨_,rfl,hf,h1.keep hb⟩
 lt:=by rintro _ _ _ _ ⟨_,rfl,_,h1⟩;exact h1.lt
 nodup:=by rintro _ _ _ _ ⟨_,rfl,_,h1⟩;exact h1.nodup
def OPair:Own EPair:=OFlat EPair fun h=>h
def OQuota:Own EQuota:=OFlat EQuota fun h=>h
def OConfig:Own EConfig where
 own:=fun w cs x F=>∃ v1 v2 v3 F1 F2 F3,cs=cellsConfig x v1 v2 v3∧FitConfig x∧OwS (ORow OLabel 24) 39 w v1 x.nodes F1∧OwS OPair 100 w v2 x.pairs F2∧OwS OQuota 103 w v3 x.quotas F3∧F=F1 ++ (F2 ++ F3)∧F.Nodup
 rel:=by rintro _ _ _ _ ⟨v1,v2,v3,F1,F2,F3,rfl,hf,h1,h2,h3,rfl,_⟩;exact ⟨_,_,_,rfl,hf,h1.rd.sub (fun b hb=>by simp [hb]),h2.rd.sub (fun b hb=>by simp [hb]),h3.rd.sub (fun b hb=>by simp [hb])⟩
 keep:=by rintro _ _ _ _ _ hb ⟨v1,v2,v3,F1,F2,F3,rfl,hf,h1,h2,h3,rfl,hn⟩;exact ⟨_,_,_,_,_,_,rfl,hf,h1.keep (fun b hm=>hb b (by simp [hm])),h2.keep (fun b hm=>hb b (by simp [hm])),h3.keep (fun b hm=>hb b (by simp [hm])),rfl,hn⟩
 lt:=by rintro _ _ _ _ ⟨v1,v2,v3,F1,F2,F3,rfl,_,h1,h2,h3,rfl,_⟩ b hb;simp only [List.mem_append] at hb;rcases hb with hb | hb | hb <;> first | exact h1.lt b hb | exact h2.lt b hb | exact h3.lt b hb
 nodup:=by rintro _ _ _ _ ⟨v1,v2,v3,F1,F2,F3,rfl,_,_,_,_,rfl,hn⟩;exact hn
end Go.Proofs.YtoblacfjmcpbmaaGreat
namespace Go.Proofs.YtoblacfjmcpbmaaGreat
open Go.RowKit
attribute [local irreducible] wpQuiet
theorem cloneInt_any {S:Nat→Prop} (l:List Int) (v:Value) (w:World) (h:Rd EInt S w v l) (hl:l.length≤1000000000) :
 Calls Tryz.prog 78 #[v] w (RetO OInt 2 l w):=by
 have HR:=Lib.hid h
 obtain ⟨A,c,rfl,h1,h2,hk⟩:=h.open_
 unfold maxLen at h2
 have HK:=Lib.hid hk
 have HL:=Lib.hid hl
 clear hk h hl
 have hnil:=fun (W:World) (a:Option Addr) (n c:Nat)=>Go.Lib.run_eql_slice_nil (P:=Tryz.prog) W 44 2 a n c 0 0 Tryz.underlying44
 cases A with
 | none =>
   obtain rfl:l = []:=by
    rcases Nat.eq_zero_or_pos l.length with h0 | h0
    · exact List.eq_nil_of_length_eq_zero h0
    · obtain ⟨_,_,_,h',_⟩:=HK.out 0 h0
      cases h'
   go_enter Tryz.func78,Tryz.ntmps78
   go_wp2_with fail
   go_ret
   exact ⟨_,[],rfl,OwS.nil _,fun b hb=>(by cases hb),Ext.refl _⟩
 | some a =>
   obtain ⟨B,o,sp⟩:=a
   go_enter Tryz.func78,Tryz.ntmps78
   go_wp2_with (at_builtin;refine wpList_append_flat (E:=EInt) (T:=2) (hfl:=fun h=>h) (l:=[]) (ys:=l) (F:=[]) (S:=S) rfl _ _ 44 rfl (.int .i64 0) 1 8 Tryz.underlying44 (by kernel_rfl) rfl rfl rfl ?ow rfl ?rd ?b1 ?b2 ?_;rotate_right;intro v' w1 F' how hkp hF';have HOW:=Lib.hid how;have HKP:=Lib.hid hkp;have HFF:=Lib.hid hF';clear how hkp hF')
   case ow=>exact OwS.nil _
   case rd=>exact HR.out.ext ((Ext.refl _).alloc _)
   case b1=>have:=HL.out;simp only [List.length_nil,maxLen];omega
   case b2=>have:=HL.out;simp only [List.length_nil];omega
   go_ret
   exact ⟨_,F',rfl,HOW.out,fun b hb=>(by rcases HFF.out b hb with h | h;cases h;exact Nat.le_trans ((Ext.refl w).alloc _).size h),HKP.out.ext ((Ext.refl _).alloc _) (fun b hb=>by cases hb)⟩
theorem cloneSpan_any {S:Nat→Prop} (l:List Span) (v:Value) (w:World) (h:Rd ESpan S w v l) (hl:l.length≤1000000000) :
 Calls Tryz.prog 121 #[v] w (RetO OSpan 133 l w):=by
 have HR:=Lib.hid h
 obtain ⟨A,c,rfl,h1,h2,hk⟩:=h.open_
 unfold maxLen at h2
 have HK:=Lib.hid hk
 have HL:=Lib.hid hl
 clear hk h hl
 have hnil:=fun (W:World) (a:Option Addr) (n c:Nat)=>Go.Lib.run_eql_slice_nil (P:=Tryz.prog) W 105 133 a n c 0 0 Tryz.underlying105
 cases A with
 | none =>
   obtain rfl:l = []:=by
    rcases Nat.eq_zero_or_pos l.length with h0 | h0
    · exact List.eq_nil_of_length_eq_zero h0
    · obtain ⟨_,_,_,h',_⟩:=HK.out 0 h0
      cases h'
   go_enter Tryz.func121,Tryz.ntmps121
   go_wp2_with fail
   go_ret
   exact ⟨_,[],rfl,OwS.nil _,fun b hb=>(by cases hb),Ext.refl _⟩
 | some a =>
   obtain ⟨B,o,sp⟩:=a
   go_enter Tryz.func121,Tryz.ntmps121
   go_wp2_with (at_builtin;refine wpList_append_flat (E:=ESpan) (T:=133) (hfl:=fun h=>h) (l:=[]) (ys:=l) (F:=[]) (S:=S) rfl _ _ 105 rfl (.agg #[.int .i64 0,.int .i64 0]) 2 16 Tryz.underlying105 (by kernel_rfl) rfl rfl rfl ?ow rfl ?rd ?b1 ?b2 ?_;rotate_right;intro v' w1 F' how hkp hF';have HOW:=Lib.hid how;have HKP:=Lib.hid hkp;have HFF:=Lib.hid hF';clear how hkp hF')
   case ow=>exact OwS.nil _
   case rd=>exact HR.out.ext ((Ext.refl _).alloc _)
   case b1=>have:=HL.out;simp only [List.length_nil,maxLen];omega
   case b2=>have:=HL.out;simp only [List.length_nil];omega
   go_ret
   exact ⟨_,F',rfl,HOW.out,fun b hb=>(by rcases HFF.out b hb with h | h;cases h;exact Nat.le_trans ((Ext.refl w).alloc _).size h),HKP.out.ext ((Ext.refl _).alloc _) (fun b hb=>by cases hb)⟩
theorem cloneUse_any {S:Nat→Prop} (l:List Use) (v:Value) (w:World) (h:Rd EUse S w v l) (hl:l.length≤1000000000) :
 Calls Tryz.prog 72 #[v] w (RetO OUse 75 l w):=by
 have HR:=Lib.hid h
 obtain ⟨A,c,rfl,h1,h2,hk⟩:=h.open_
 unfold maxLen at h2
 have HK:=Lib.hid hk
 have HL:=Lib.hid hl
 clear hk h hl
 have hnil:=fun (W:World) (a:Option Addr) (n c:Nat)=>Go.Lib.run_eql_slice_nil (P:=Tryz.prog) W 33 75 a n c 0 0 Tryz.underlying33
 cases A with
 | none =>
   obtain rfl:l = []:=by
    rcases Nat.eq_zero_or_pos l.length with h0 | h0
    · exact List.eq_nil_of_length_eq_zero h0
    · obtain ⟨_,_,_,h',_⟩:=HK.out 0 h0
      cases h'
   go_enter Tryz.func72,Tryz.ntmps72
   go_wp2_with fail
   go_ret
   exact ⟨_,[],rfl,OwS.nil _,fun b hb=>(by cases hb),Ext.refl _⟩
 | some a =>
   obtain ⟨B,o,sp⟩:=a
   go_enter Tryz.func72,Tryz.ntmps72
   go_wp2_with (at_builtin;refine wpList_append_flat (E:=EUse) (T:=75) (hfl:=fun h=>h) (l:=[]) (ys:=l) (F:=[]) (S:=S) rfl _ _ 33 rfl (.agg #[.int .i64 0,.int .i64 0,.string ⟨#[]⟩,.int .i64 0]) 4 40 Tryz.underlying33 (by kernel_rfl) rfl rfl rfl ?ow rfl ?rd ?b1 ?b2 ?_;rotate_right;intro v' w1 F' how hkp hF';have HOW:=Lib.hid how;have HKP:=Lib.hid hkp;have HFF:=Lib.hid hF';clear how hkp hF')
   case ow=>exact OwS.nil _
   case rd=>exact HR.out.ext ((Ext.refl _).alloc _)
   case b1=>have:=HL.out;simp only [List.length_nil,maxLen];omega
   case b2=>have:=HL.out;simp only [List.length_nil];omega
   go_ret
   exact ⟨_,F',rfl,HOW.out,fun b hb=>(by rcases HFF.out b hb with h | h;cases h;exact Nat.le_trans ((Ext.refl w).alloc _).size h),HKP.out.ext ((Ext.refl _).alloc _) (fun b hb=>by cases hb)⟩
end Go.Proofs.YtoblacfjmcpbmaaGreat
/- The copies: to... Printed by wip/gen.py. The copies: to...,what they hand back has memory of its own. Printed by wip/gen.py. The generated words of types that are new with this seat. Printed by wip/genx.py. -/
namespace Go.Proofs.YtoblacfjmcpbmaaGreat
open Go.RowKit
attribute [local irreducible] wpQuiet
end Go.Proofs.YtoblacfjmcpbmaaGreat
namespace Go.Proofs.YtoblacfjmcpbmaaGreat
open Go.RowKit
attribute [local irreducible] wpQuiet
end Go.Proofs.YtoblacfjmcpbmaaGreat
namespace Go.Proofs.YtoblacfjmcpbmaaGreat
open Go.RowKit
attribute [local irreducible] wpQuiet
def OYard:Own EYard where
 own:=fun w cs x F=>∃ v1 v2 v3 v4 v5 v6 F1 F2 F3 F4 F5 F6,cs=cellsYard x v1 v2 v3 v4 v5 v6∧FitYard x∧OwS (ORow OLabel 24) 39 w v1 x.config.nodes F1∧OwS OPair 100 w v2 x.config.pairs F2∧OwS OQuota 103 w v3 x.config.quotas F3∧OwS ONode 107 w v4 x.nodes F4∧OwS OTask 46 w v5 x.tasks F5∧OwS OUse 75 w v6 x.uses F6∧F=F1 ++ (F2 ++ (F3 ++ (F4 ++ (F5 ++ F6))))∧F.Nodup
 rel:=by rintro _ _ _ _ ⟨v1,v2,v3,v4,v5,v6,F1,F2,F3,F4,F5,F6,rfl,hf,h1,h2,h3,h4,h5,h6,rfl,_⟩;exact ⟨_,_,_,_,_,_,rfl,hf,h1.rd.sub (fun b hb=>by simp [hb]),h2.rd.sub (fun b hb=>by simp [hb]),h3.rd.sub (fun b hb=>by simp [hb]),h4.rd.sub (fun b hb=>by simp [hb]),h5.rd.sub (fun b hb=>by simp [hb]),h6.rd.sub (fun b hb=>by simp [hb])⟩
 keep:=by rintro _ _ _ _ _ hb ⟨v1,v2,v3,v4,v5,v6,F1,F2,F3,F4,F5,F6,rfl,hf,h1,h2,h3,h4,h5,h6,rfl,hn⟩;exact ⟨_,_,_,_,_,_,_,_,_,_,_,_,rfl,hf,h1.keep (fun b hm=>hb b (by simp [hm])),h2.keep (fun b hm=>hb b (by simp [hm])),h3.keep (fun b hm=>hb b (by simp [hm])),h4.keep (fun b hm=>hb b (by simp [hm])),h5.keep (fun b hm=>hb b (by simp [hm])),h6.keep (fun b hm=>hb b (by simp [hm])),rfl,hn⟩
 lt:=by rintro _ _ _ _ ⟨v1,v2,v3,v4,v5,v6,F1,F2,F3,F4,F5,F6,rfl,_,h1,h2,h3,h4,h5,h6,rfl,_⟩ b hb;simp only [List.mem_append] at hb;rcases hb with hb | hb | hb | hb | hb | hb <;> first | exact h1.lt b hb | exact h2.lt b hb | exact h3.lt b hb | exact h4.lt b hb | exact h5.lt b hb | exact h6.lt b hb
 nodup:=by rintro _ _ _ _ ⟨v1,v2,v3,v4,v5,v6,F1,F2,F3,F4,F5,F6,rfl,_,_,_,_,_,_,_,rfl,hn⟩;exact hn
def OYardOut:Own EYardOut where
 own:=fun w cs x F=>∃ v1 v2 v3 v4 v5 v6 F1 F2 F3 F4 F5 F6,cs=cellsYardOut x v1 v2 v3 v4 v5 v6∧FitYardOut x∧OwS (ORow OLabel 24) 39 w v1 x.yard.config.nodes F1∧OwS OPair 100 w v2 x.yard.config.pairs F2∧OwS OQuota 103 w v3 x.yard.config.quotas F3∧OwS ONode 107 w v4 x.yard.nodes F4∧OwS OTask 46 w v5 x.yard.tasks F5∧OwS OUse 75 w v6 x.yard.uses F6∧F=F1 ++ (F2 ++ (F3 ++ (F4 ++ (F5 ++ F6))))∧F.Nodup
 rel:=by rintro _ _ _ _ ⟨v1,v2,v3,v4,v5,v6,F1,F2,F3,F4,F5,F6,rfl,hf,h1,h2,h3,h4,h5,h6,rfl,_⟩;exact ⟨_,_,_,_,_,_,rfl,hf,h1.rd.sub (fun b hb=>by simp [hb]),h2.rd.sub (fun b hb=>by simp [hb]),h3.rd.sub (fun b hb=>by simp [hb]),h4.rd.sub (fun b hb=>by simp [hb]),h5.rd.sub (fun b hb=>by simp [hb]),h6.rd.sub (fun b hb=>by simp [hb])⟩
 keep:=by rintro _ _ _ _ _ hb ⟨v1,v2,v3,v4,v5,v6,F1,F2,F3,F4,F5,F6,rfl,hf,h1,h2,h3,h4,h5,h6,rfl,hn⟩;exact ⟨_,_,_,_,_,_,_,_,_,_,_,_,rfl,hf,h1.keep (fun b hm=>hb b (by simp [hm])),h2.keep (fun b hm=>hb b (by simp [hm])),h3.keep (fun b hm=>hb b (by simp [hm])),h4.keep (fun b hm=>hb b (by simp [hm])),h5.keep (fun b hm=>hb b (by simp [hm])),h6.keep (fun b hm=>hb b (by simp [hm])),rfl,hn⟩
 lt:=by rintro _ _ _ _ ⟨v1,v2,v3,v4,v5,v6,F1,F2,F3,F4,F5,F6,rfl,_,h1,h2,h3,h4,h5,h6,rfl,_⟩ b hb;simp only [List.mem_append] at hb;rcases hb with hb | hb | hb | hb | hb | hb <;> first | exact h1.lt b hb | exact h2.lt b hb | exact h3.lt b hb | exact h4.lt b hb | exact h5.lt b hb | exact h6.lt b hb
 nodup:=by rintro _ _ _ _ ⟨v1,v2,v3,v4,v5,v6,F1,F2,F3,F4,F5,F6,rfl,_,_,_,_,_,_,_,rfl,hn⟩;exact hn
end Go.Proofs.YtoblacfjmcpbmaaGreat

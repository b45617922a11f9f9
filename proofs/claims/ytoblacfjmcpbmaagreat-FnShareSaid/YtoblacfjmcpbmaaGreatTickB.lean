/- The program's apply: the walk. -/
import Derived.Test.YtoblacfjmcpbmaaGreatTickA
import Derived.Test.YtoblacfjmcpbmaaGreatPlanI
import Derived.Deep.RegionHeld3
import Derived.Deep.CutBlock
set_option maxHeartbeats 16000000
set_option maxRecDepth 100000
namespace Go.Proofs.YtoblacfjmcpbmaaGreat
open Go.RowKit
attribute [local irreducible] wpQuiet
def apMix (now:Int) (ps:List Place) (l:List Task) (k:Nat):List Task:=(l.take k).map (putT now ps) ++ l.drop k
theorem apMix_zero (now:Int) (ps:List Place) (l:List Task):apMix now ps l 0=l:=by simp [apMix]
theorem apMix_full (now:Int) (ps:List Place) (l:List Task):apMix now ps l l.length=l.map (putT now ps):=by simp [apMix]
theorem apMix_length (now:Int) (ps:List Place) {l:List Task} {k:Nat} (hk:k≤l.length):(apMix now ps l k).length=l.length:=by
 simp only [apMix,List.length_append,List.length_map,List.length_take,List.length_drop];omega
theorem apMix_set (now:Int) (ps:List Place) {l:List Task} {k:Nat} (hk:k < l.length):(apMix now ps l k).set k (putT now ps (nth l k))=apMix now ps l (k+1):=by
 have hd:l.drop k=nth l k :: l.drop (k+1):=by rw [nth_eq hk];exact List.drop_eq_getElem_cons hk
 have hl:((l.take k).map (putT now ps)).length=k:=by rw [List.length_map,List.length_take];omega
 unfold apMix
 rw [take_map_succ hk,hd,List.set_append_right _ _ (by omega),hl,Nat.sub_self,List.append_assoc]
 rfl
theorem apMix_nth (now:Int) (ps:List Place) {l:List Task} {k:Nat} (hk:k < l.length):nth (apMix now ps l k) k=nth l k:=by
 have hd:l.drop k=nth l k :: l.drop (k+1):=by rw [nth_eq hk];exact List.drop_eq_getElem_cons hk
 have hl:((l.take k).map (putT now ps)).length=k:=by rw [List.length_map,List.length_take];omega
 have h:=nth_append_right (l:=(l.take k).map (putT now ps)) (m:=l.drop k) (k:=0) (by rw [List.length_drop];omega)
 rw [hl,Nat.add_zero] at h
 unfold apMix
 rw [h,hd]
 rfl
theorem apMix_same (now:Int) (ps:List Place) {l:List Task} {k:Nat} (hk:k < l.length) (h:putT now ps (nth l k)=nth l k):apMix now ps l k=apMix now ps l (k+1):=by
 have h1:=apMix_set now ps hk
 rw [h] at h1
 rw [← h1]
 have hlen:=apMix_length now ps (l:=l) (k:=k) (by omega)
 have hn:=apMix_nth now ps hk
 rw [nth_eq (by omega)] at hn
 rw [← hn]
 exact (List.set_getElem_self (by omega)).symm
theorem clearT_any (B o:Nat) (st:Int) (w:World) (u1 u2 u3:Value) (f:∀ i,w.frozen? ⟨B,i,none⟩=false) (c1:w.cell? ⟨B,o+11,none⟩=some u1) (c2:w.cell? ⟨B,o+12,none⟩=some u2) (c3:w.cell? ⟨B,o+13,none⟩=some u3) :
 Calls Tryz.prog 39 #[.pointer (some ⟨B,o,none⟩),.int .i64 st] w fun e w'=>e=.returned (.tuple #[])∧w'=w.setCells B (o+11) [.int .i64 st,.int .i64 0,.slice none 0 0]:=by
 go_enter Tryz.func39,Tryz.ntmps39
 go_wp2_with fail
 go_end0
 exact ⟨rfl,rfl⟩
theorem aisome {α:Type} (C:Array α) (k:Nat):C[k]?.isSome=true↔k < C.size:=by
 rcases Nat.lt_or_ge k C.size with h | h
 · simp [h]
 · simp [Array.getElem?_eq_none h];omega
theorem range_mid {w:World} {B o:Nat} {a b:List Value} {x u:Value} (h:w.rangeAt B o (a ++ x :: b)) (ht:w.there B o (a.length+1)):(w.setCell ⟨B,o+a.length,none⟩ u).rangeAt B o (a ++ u :: b):=by
 intro j y hj
 by_cases he:j=a.length
 · subst he
   rw [List.getElem?_append_right (Nat.le_refl _),Nat.sub_self] at hj
   cases hj
   exact World.cell?_setCell_same' w ⟨B,o+a.length,none⟩ u (ht a.length (by omega)).1
 · rw [World.cell?_setCell_other w _ ⟨B,o+j,none⟩ u (fun e=>he (by injection e with _ e2 _;omega))]
   refine h j y ?_
   rcases Nat.lt_or_ge j a.length with hl | hl
   · rw [List.getElem?_append_left hl] at hj ⊢;exact hj
   · rw [List.getElem?_append_right hl] at hj ⊢
     obtain ⟨d,hd⟩:∃ d,j - a.length=d+1:=⟨j - a.length - 1,by omega⟩
     rw [hd] at hj ⊢
     exact hj
theorem call_apply1:∀ (args:Array Value) (W:World),(callFunc 93 args).run Tryz.prog W=.ok (.enter 93 args) W:=by
 intro args W
 go_simp
theorem isOf_parts {a:Label} {n:Int} {p:Place}:isOf a n p=(decide (p.label.level=a.level) && decide (p.label.set=a.set) && decide (p.id=n)):=by
 obtain ⟨⟨l,s⟩,i,_⟩:=p
 obtain ⟨m,t⟩:=a
 simp [isOf]
theorem apply1_any {S:Nat→Prop} (p:Place) (a:Label) (n:Int) (cs:List Value) (X Bt o:Nat) (w:World) (h:EPlace.rel S w cs p) (cx:w.cell? ⟨X,0,none⟩=some (.pointer (some ⟨Bt,o,none⟩))) (c0:w.cell? ⟨Bt,o,none⟩=some (.int .i64 a.level)) (c1:w.cell? ⟨Bt,o+1,none⟩=some (.int .i64 a.set)) (c2:w.cell? ⟨Bt,o+2,none⟩=some (.int .i64 n)) :
 Calls Tryz.prog 93 #[.agg cs.toArray,.pointer (some ⟨X,0,none⟩)] w fun e w'=>e=.returned (.bool (isOf a n p))∧Ext w w':=by
 obtain ⟨v,rfl,hf,hr⟩:=h
 obtain ⟨A,c,rfl,-⟩:=hr.form
 clear hf hr
 simp only [cellsPlace]
 go_enter Tryz.func93,Tryz.ntmps93
 go_upto_region 1 with fail
 obtain ⟨W,B,hW,hB,hx,b0⟩:∃ W B,W=w.alloc (.cells #[.int .i64 p.label.level,.int .i64 p.label.set,.int .i64 p.id,.int .i64 p.from_,.int .i64 p.to_,.bool p.runs,.slice A p.nodes.length c] 138)∧B=w.heap.size∧Ext w W∧Blk W B 138 #[.int .i64 p.label.level,.int .i64 p.label.set,.int .i64 p.id,.int .i64 p.from_,.int .i64 p.to_,.bool p.runs,.slice A p.nodes.length c]:=⟨_,_,rfl,rfl,(Ext.refl w).alloc _,Blk.new _ _ _⟩
 rw [← hW,← hB]
 have HX:=Lib.hid hx
 have b1:=b0.cell 0
 have b2:=b0.cell 1
 have b3:=b0.cell 2
 simp only [List.getElem?_toArray,List.getElem?_cons_succ,List.getElem?_cons_zero] at b1 b2 b3
 replace cx:=Ext.some hx cx
 replace c0:=Ext.some hx c0
 replace c1:=Ext.some hx c1
 replace c2:=Ext.some hx c2
 clear hW hB hx b0
 by_cases he1:p.label.level=a.level
 · by_cases he2:p.label.set=a.set
   · rw [he1] at b1
     rw [he2] at b2
     have HE1:=Lib.hid he1
     have HE2:=Lib.hid he2
     clear he1 he2
     refine wp_region_ext (by kernel_rfl) (by kernel_rfl) ?_
     repeat (
      (refine wpQuiet_step (fun K hK=>?_)
       go_simp
       first
        | (refine hK _ ?_;clear hK K)
        | (apply Exists.intro
           refine ⟨fun w__ hx__=>?_,hK _ ?_⟩
           · have b1__:=Ext.some hx__ b1;have b2__:=Ext.some hx__ b2;have b3__:=Ext.some hx__ b3;have cx__:=Ext.some hx__ cx;have c0__:=Ext.some hx__ c0;have c1__:=Ext.some hx__ c1;have c2__:=Ext.some hx__ c2;first | exact rfl | (go_simp;done) | (go_simp;exact rfl)
           clear hK K)))
     refine wpQuiet_nil ?_
     intro w1 hx1
     go_wp2_with fail
     go_ret
     exact ⟨ret_bool (by rw [isOf_parts,HE1.out,HE2.out];simp <;> rfl),HX.out.trans hx1⟩
   · rw [he1] at b1
     have HE1:=Lib.hid he1
     clear he1
     refine wp_region_ext (by kernel_rfl) (by kernel_rfl) ?_
     repeat (
      (refine wpQuiet_step (fun K hK=>?_)
       go_simp
       first
        | (refine hK _ ?_;clear hK K)
        | (apply Exists.intro
           refine ⟨fun w__ hx__=>?_,hK _ ?_⟩
           · have b1__:=Ext.some hx__ b1;have b2__:=Ext.some hx__ b2;have b3__:=Ext.some hx__ b3;have cx__:=Ext.some hx__ cx;have c0__:=Ext.some hx__ c0;have c1__:=Ext.some hx__ c1;have c2__:=Ext.some hx__ c2;first | exact rfl | (go_simp;done) | (go_simp;exact rfl)
           clear hK K)))
     refine wpQuiet_nil ?_
     intro w1 hx1
     go_wp2_with fail
     go_ret
     exact ⟨ret_bool (by rw [isOf_parts];simp [he2]),HX.out.trans hx1⟩
 · skip
   refine wp_region_ext (by kernel_rfl) (by kernel_rfl) ?_
   repeat (
    (refine wpQuiet_step (fun K hK=>?_)
     go_simp
     first
      | (refine hK _ ?_;clear hK K)
      | (apply Exists.intro
         refine ⟨fun w__ hx__=>?_,hK _ ?_⟩
         · have b1__:=Ext.some hx__ b1;have b2__:=Ext.some hx__ b2;have b3__:=Ext.some hx__ b3;have cx__:=Ext.some hx__ cx;have c0__:=Ext.some hx__ c0;have c1__:=Ext.some hx__ c1;have c2__:=Ext.some hx__ c2;first | exact rfl | (go_simp;done) | (go_simp;exact rfl)
         clear hK K)))
   refine wpQuiet_nil ?_
   intro w1 hx1
   go_wp2_with fail
   go_ret
   exact ⟨ret_bool (by rw [isOf_parts];simp [he1]),HX.out.trans hx1⟩
theorem apply_any {Sx:Nat→Prop} (now half:Int) (v1 v2 v3 v4 v6 vp:Value) (A:Option Addr) (c Y:Nat) (ts:List TV) (ms:List PV) (FT:List Nat) (w:World)
 (hY:Blk w Y 35 #[v1,v2,v3,.int .i64 half,v4,.slice A ts.length c,v6,.int .i64 now]) (hYF:Y∉FT) (ht:OwS OTV 46 w (.slice A ts.length c) ts FT) (htn:∀ e∈ts,Rd EInt Sx w e.v e.x.nodes)
 (hp:Rd EPV Sx w vp ms) (hpn:∀ e∈ms,Rd EInt Sx w e.v e.x.nodes) (hS:∀ b,Sx b→b∉FT) (hl:ts.length≤1000) :
 Calls Tryz.prog 42 #[.pointer (some ⟨Y,0,none⟩),vp] w fun e w'=>e=.returned (.tuple #[])∧∃ us:List TV,us.map TV.x=(ts.map TV.x).map (putT now (ms.map PV.x))∧OwS OTV 46 w' (.slice A ts.length c) us FT∧(∀ e∈us,Rd EInt Sx w' e.v e.x.nodes)∧Kept FT w w':=by
 obtain ⟨Ap,cp,rfl,lp1,lp2⟩:=hp.form
 have HYB:=Lib.hid hY
 have HYF:=Lib.hid hYF
 have HT:=Lib.hid ht
 have HTN:=Lib.hid htn
 have HP:=Lib.hid hp
 have HPN:=Lib.hid hpn
 have HS:=Lib.hid hS
 have hSk:∀ (W W2:World),Kept FT W W2→Same Sx W W2:=fun W W2 hk b o u hb hc=>hk.cell (HS.out b hb) hc
 have HSK:=Lib.hid hSk
 have yc:=hY.cell
 clear hY hYF ht htn hp hpn hS hSk
 obtain ⟨L,hL⟩:∃ L,L=ts.map TV.x:=⟨_,rfl⟩
 have hLl:L.length=ts.length:=by rw [hL,List.length_map]
 obtain ⟨ps,hps⟩:∃ q,q=ms.map PV.x:=⟨_,rfl⟩
 have HL:=Lib.hid hL
 have HLL:=Lib.hid hLl
 have HPS:=Lib.hid hps
 rw [← hL,← hps]
 clear hL hps hLl
 go_enter Tryz.func42,Tryz.ntmps42
 go_wp2_with fail
 clear yc
 go_loopw [12] (fun i w'=>∃ (k:Nat) (us:List TV),i=.int .i64 k∧k≤ts.length∧us.map TV.x=apMix now ps L k∧OwS OTV 46 w' (.slice A ts.length c) us FT∧(∀ e∈us,Rd EInt Sx w' e.v e.x.nodes)∧Kept FT w w') (fun i _=>ts.length - (intOf i).toNat)
 case atStart=>exact ⟨0,ts,rfl,by omega,by rw [apMix_zero,HL.out],HT.out,HTN.out,Kept.refl _ _⟩
 case round =>
  obtain ⟨k,us,rfl,hk,hmap,ho,hn,hkp⟩:=hrel
  have hul:us.length=ts.length:=by have:=congrArg List.length hmap;rw [List.length_map,apMix_length now ps (by have:=HLL.out;omega)] at this;have:=HLL.out;omega
  have HK:=Lib.hid hkp
  have HN:=Lib.hid hn
  have HMAP:=Lib.hid hmap
  have HO:=Lib.hid ho
  have HUL:=Lib.hid hul
  clear hkp hn hmap ho hul
  by_cases hlt:k < ts.length
  · obtain ⟨Bt,c',G,cs,hv,hBF,-,-,hown,hc,hfz,hth,hrow,hset⟩:=HO.out.at (k:=k) (by have:=HUL.out;omega)
    have hex:(nth us k).x=nth L k:=by
     have:=congrArg (fun l=>nth l k) HMAP.out
     simp only [nth_map (f:=TV.x) (show k < us.length by have:=HUL.out;omega),apMix_nth now ps (show k < L.length by have:=HLL.out;omega)] at this
     exact this
    have hmem:nth us k∈us:=nth_mem (by have:=HUL.out;omega)
    generalize nth us k=e at hown hex hmem
    obtain ⟨⟨rfl,hfit⟩,rfl⟩:=hown
    injection hv with hA hl1 hc1
    subst hA
    clear hl1 hc1
    have hen:=HN.out e hmem
    have hcc:wr.rangeAt Bt (k * 14) [.int .i64 e.x.label.level,.int .i64 e.x.label.set,.int .i64 e.x.id,.string e.x.owner,.int .i64 e.x.need,.int .i64 e.x.long,.int .i64 e.x.prio,.int .i64 e.x.under.level,.int .i64 e.x.under.set,.int .i64 e.x.after,.int .i64 e.x.born,.int .i64 e.x.state,.int .i64 e.x.start,.slice e.A e.n e.c]:=hc
    have d0:wr.cell? ⟨Bt,k * 14,none⟩=some (.int .i64 e.x.label.level):=by simpa using hcc 0 _ rfl
    have d1:wr.cell? ⟨Bt,k * 14+1,none⟩=some (.int .i64 e.x.label.set):=hcc 1 _ rfl
    have d2:wr.cell? ⟨Bt,k * 14+2,none⟩=some (.int .i64 e.x.id):=hcc 2 _ rfl
    have d11:wr.cell? ⟨Bt,k * 14+11,none⟩=some (.int .i64 e.x.state):=hcc 11 _ rfl
    have d12:wr.cell? ⟨Bt,k * 14+12,none⟩=some (.int .i64 e.x.start):=hcc 12 _ rfl
    have d13:wr.cell? ⟨Bt,k * 14+13,none⟩=some (.slice e.A e.n e.c):=hcc 13 _ rfl
    have HYR:Hid (Blk wr Y 35 #[v1,v2,v3,.int .i64 half,v4,.slice (some ⟨Bt,0,none⟩) ts.length c,v6,.int .i64 now]):=Lib.hid ((HK.out.block Y HYB.out.lt HYF.out).trans HYB.out)
    have yc:=HYR.out.cell
    have HBF:=Lib.hid hBF
    have HTH:=Lib.hid hth
    have HROW:=Lib.hid hrow
    have HSET:=Lib.hid hset
    have HFIT:=Lib.hid hfit
    have HEX:=Lib.hid hex
    have HEN:=Lib.hid hen
    have HC:=Lib.hid hcc
    clear hc hcc hth hrow hset hfit hex hen hmem hBF
    have hfin:∀ (w6:World) (e':TV),Kept [Bt] wr w6→RowBut 46 Bt (k * 14) 14 wr w6→FitTask e'.x→w6.rangeAt Bt (k * 14) (cellsTask e'.x e'.v)→Rd EInt Sx w6 e'.v e'.x.nodes→e'.x=putT now ps (nth L k) →
     ∃ us2:List TV,us2.map TV.x=apMix now ps L (k+1)∧OwS OTV 46 w6 (.slice (some ⟨Bt,0,none⟩) ts.length c) us2 FT∧(∀ q∈us2,Rd EInt Sx w6 q.v q.x.nodes)∧Kept FT w w6:=fun w6 e' k1 k2 k3 k4 k5 k6=>by
     have kf:Kept FT wr w6:=k1.sub (fun b _ hb=>List.mem_singleton.1 hb ▸ HBF.out)
     refine ⟨us.set k e',?_,HSET.out w6 e' _ k1 k2 ⟨⟨rfl,k3⟩,rfl⟩ k4,fun q hq=>?_,HK.out.trans kf⟩
     · rw [List.map_set,HMAP.out,k6]
       exact apMix_set now ps (by have:=HLL.out;omega)
     · rcases List.mem_or_eq_of_mem_set hq with h | rfl
       · exact (HN.out q h).keep (HSK.out _ _ kf)
       · exact k5
    have HFIN:=Lib.hid hfin
    clear hfin
    go_upto_region 4 with fail
    obtain ⟨W,X,hW,hX,hx1,bX⟩:∃ W X,W=wr.alloc (.cells #[.pointer (some ⟨Bt,k * 14,none⟩)] 79)∧X=wr.heap.size∧Ext wr W∧Blk W X 79 #[.pointer (some ⟨Bt,k * 14,none⟩)]:=⟨_,_,rfl,rfl,(Ext.refl _).alloc _,Blk.new _ _ _⟩
    rw [← hW,← hX]
    have X1:=Lib.hid hx1
    have BX:=Lib.hid bX
    have HXF:Hid (X∉FT):=Lib.hid (fun hm=>by have:=HO.out.lt X hm;omega)
    have bx:W.cell? ⟨X,0,none⟩=some (.pointer (some ⟨Bt,k * 14,none⟩)):=bX.cell 0
    replace d0:=Ext.some hx1 d0
    replace d1:=Ext.some hx1 d1
    replace d2:=Ext.some hx1 d2
    replace d11:=Ext.some hx1 d11
    replace d12:=Ext.some hx1 d12
    replace d13:=Ext.some hx1 d13
    clear yc hW hX hx1 bX
    go_cut [32] from 13 to 78 (fun c' wx=>c'=.bool (!(decide (e.x.state=2) || decide (e.x.state=1)))∧wx=W)
    case first =>
     by_cases s2:e.x.state=2
     · go_wp2_with fail
       go_meet
       exact ⟨by simp [s2],rfl⟩
     by_cases s1:e.x.state=1
     · go_wp2_with fail
       go_meet
       exact ⟨by simp [s1],rfl⟩
     · go_wp2_with fail
       go_meet
       exact ⟨by simp [s1,s2],rfl⟩
    case rest =>
    obtain ⟨rfl,rfl⟩:=hcut
    by_cases hs:(decide (e.x.state=2) || decide (e.x.state=1))=true
    · rw [hs]
      have hst:e.x.state=2∨e.x.state=1:=by simpa using hs
      have HST:=Lib.hid hst
      clear hs hst
      have HBXW:=Lib.hid BX.out
      go_upto_block 2 with (go_at_call 92;(with_reducible refine (indexFunc_Place_1 (S:=Sx) ps (isOf e.x.label e.x.id) _ _ _ _ ?hpl call_apply1 ?hcl).mono ?_);rotate_right;rintro e5 w5 ⟨rfl,hx5⟩;have X5:=Lib.hid hx5;clear hx5)
      case hpl =>
       have h1:=rd_places (HP.out.keep (HSK.out _ _ (HK.out.trans (Kept.of_ext X1.out)))) (fun q hq=>(HPN.out q hq).keep (HSK.out _ _ (HK.out.trans (Kept.of_ext X1.out))))
       rw [← HPS.out] at h1
       exact h1
      case hcl =>
       intro cs p V hV hp
       exact apply1_any (S:=Sx) p e.x.label e.x.id cs X Bt (k * 14) V hp (Ext.some hV bx) (Ext.some hV d0) (Ext.some hV d1) (Ext.some hV d2)
      replace d11:=Ext.some X5.out d11
      replace d12:=Ext.some X5.out d12
      replace d13:=Ext.some X5.out d13
      replace bx:=Ext.some X5.out bx
      clear d0 d1 d2
      have X15:Hid (Ext wr w5):=Lib.hid (X1.out.trans X5.out)
      have HR5:Hid (RowBut 46 Bt (k * 14) 14 wr w5):=Lib.hid (RowBut.kept (F:=[]) HROW.out (Kept.of_ext X15.out) (by simp))
      have fz:=HR5.out.frozen
      have hBlt:Bt < wr.heap.size:=HO.out.lt _ HBF.out
      have HT5:Hid (w5.there Bt (k * 14) 14):=Lib.hid (there_ext HTH.out X15.out hBlt)
      have HC5:Hid (w5.rangeAt Bt (k * 14) [.int .i64 e.x.label.level,.int .i64 e.x.label.set,.int .i64 e.x.id,.string e.x.owner,.int .i64 e.x.need,.int .i64 e.x.long,.int .i64 e.x.prio,.int .i64 e.x.under.level,.int .i64 e.x.under.set,.int .i64 e.x.after,.int .i64 e.x.born,.int .i64 e.x.state,.int .i64 e.x.start,.slice e.A e.n e.c]):=Lib.hid (X15.out.range HC.out)
      rcases idxOf_cases (isOf e.x.label e.x.id) ps with ⟨hi,-⟩ | ⟨d,hd,hi,-,-⟩
      · have hput:putT now ps (nth L k)=withTask e.x 1:=by
         unfold putT
         rw [← HEX.out,if_pos HST.out,if_pos (by rw [hi];decide)]
        have HPUT:=Lib.hid hput
        rw [hi]
        clear hi hput
        go_wp2_with (go_at_call 39;(with_reducible refine (clearT_any Bt (k * 14) 1 _ _ _ _ fz d11 d12 d13).mono ?_);rintro e6 w6 ⟨rfl,rfl⟩)
        have hk6:Kept [Bt] wr (w5.setCells Bt (k * 14+11) [.int .i64 1,.int .i64 0,.slice none 0 0]):=Kept.setCells (by simp) _ _ _ (Kept.of_ext X15.out)
        obtain ⟨us2,g1,g2,g3,g4⟩:=HFIN.out _ ⟨withTask e.x 1,none,0,0⟩ hk6 (RowBut.setCells _ _ _ HR5.out (by omega) (by simp)) (by have hF:=HFIT.out;unfold FitTask withTask at *;simp only at *;obtain ⟨a1,a2,a3,a4,a5,a6,a7,a8,a9,a10,a11,a12,a13⟩:=hF;refine ⟨a1,a2,a3,a4,a5,a6,a7,a8,a9,a10,a11,?_,?_⟩ <;> (unfold I64;decide)) (range_back (a:=[.int .i64 e.x.label.level,.int .i64 e.x.label.set,.int .i64 e.x.id,.string e.x.owner,.int .i64 e.x.need,.int .i64 e.x.long,.int .i64 e.x.prio,.int .i64 e.x.under.level,.int .i64 e.x.under.set,.int .i64 e.x.after,.int .i64 e.x.born]) (b:=[.int .i64 e.x.state,.int .i64 e.x.start,.slice e.A e.n e.c]) (b':=[.int .i64 1,.int .i64 0,.slice none 0 0]) HC5.out (there_sub HT5.out (by simp))) (Rd.nil (Nat.zero_le _)) HPUT.out.symm
        exact ⟨⟨k+1,us2,by go_num,by omega,g1,g2,g3,g4⟩,by simp [intOf];omega⟩
      · have hdm:d < ms.length:=by have:=congrArg List.length HPS.out;rw [List.length_map] at this;omega
        obtain ⟨Ap',cp',hap,-,-,hopen⟩:=HP.out.open_
        injection hap with hap1 hl2 hc2
        clear hl2 hc2
        obtain ⟨pb,po,pcs,hap2,hSb,⟨rfl,hfp⟩,hpc⟩:=hopen d hdm
        have hpx:nth ps d=(nth ms d).x:=by rw [HPS.out,nth_map hdm]
        have hpn:=HPN.out (nth ms d) (nth_mem hdm)
        have hap3:Ap=some ⟨pb,po,none⟩:=hap1.trans hap2
        clear hap1 hap2
        subst hap3
        generalize nth ms d=m at hfp hpc hpx hpn
        have hkw:Kept FT w w5:=HK.out.trans (Kept.of_ext X15.out)
        have p3:=hkw.cell (HS.out _ hSb) (hpc 3 _ rfl)
        have p5:=hkw.cell (HS.out _ hSb) (hpc 5 _ rfl)
        have p6:=hkw.cell (HS.out _ hSb) (hpc 6 _ rfl)
        simp only [EPV] at p3 p5 p6
        have hidx:¬ idxOf (isOf e.x.label e.x.id) ps < 0:=by rw [hi];omega
        have hto:(idxOf (isOf e.x.label e.x.id) ps).toNat=d:=by rw [hi];rfl
        rw [hi]
        have HPXN:=Lib.hid hpx
        have HPNN:=Lib.hid hpn
        have HFP:=Lib.hid hfp
        have HSB:=Lib.hid hSb
        have HDM:=Lib.hid hd
        clear hopen hpc hpn hfp hkw
        cases hrun:m.x.runs with
        | true =>
          rw [hrun] at p5
          have hput:putT now ps (nth L k)=nth L k:=by
           unfold putT
           rw [← HEX.out,if_pos HST.out,if_neg hidx,hto,HPXN.out,hrun,if_pos rfl]
          have HPUT:=Lib.hid hput
          clear hput hidx hto hi hrun hpx hSb hd
          go_wp2_with fail
          exact ⟨⟨k+1,us,by go_num,by omega,by rw [HMAP.out];exact apMix_same now ps (by have:=HLL.out;omega) HPUT.out,HO.out.ext X15.out,fun q hq=>(HN.out q hq).ext X15.out,HK.out.trans (Kept.of_ext X15.out)⟩,by simp [intOf];omega⟩
        | false =>
          rw [hrun] at p5
          have hput:putT now ps (nth L k)=placedT now e.x m.x:=by
           unfold putT
           rw [← HEX.out,if_pos HST.out,if_neg hidx,hto,HPXN.out,hrun,if_neg (by decide)]
          have HPUT:=Lib.hid hput
          clear hput hidx hto hi hrun hpx hSb hd
          go_upto_region 6 with fail
          go_region
          have hBX:Bt≠X:=fun e=>HXF.out (e ▸ HBF.out)
          have hBY:Bt≠Y:=fun e=>HYF.out (e ▸ HBF.out)
          obtain ⟨w6,hw6,hk56,hr6,hc6⟩:∃ w6,w6=(((w5.setCell ⟨Bt,k * 14+11,none⟩ (.int .i64 1)).setCell ⟨Bt,k * 14+12,none⟩ (.int .i64 m.x.from_)).setCell ⟨Bt,k * 14+13,none⟩ (.slice m.A m.n m.c)).drew∧Kept [Bt] w5 w6∧RowBut 46 Bt (k * 14) 14 wr w6∧w6.rangeAt Bt (k * 14) [.int .i64 e.x.label.level,.int .i64 e.x.label.set,.int .i64 e.x.id,.string e.x.owner,.int .i64 e.x.need,.int .i64 e.x.long,.int .i64 e.x.prio,.int .i64 e.x.under.level,.int .i64 e.x.under.set,.int .i64 e.x.after,.int .i64 e.x.born,.int .i64 1,.int .i64 m.x.from_,.slice m.A m.n m.c] :=
           ⟨_,rfl,(Kept.setCells (F:=[Bt]) (by simp) [.int .i64 1,.int .i64 m.x.from_,.slice m.A m.n m.c] w5 (k * 14+11) (Kept.refl _ _)).trans (Kept.of_ext (Ext.refl _).drew),(RowBut.setCells [.int .i64 1,.int .i64 m.x.from_,.slice m.A m.n m.c] w5 (k * 14+11) HR5.out (by omega) (by simp)).kept (F:=[]) (Kept.of_ext (Ext.refl _).drew) (by simp),(Ext.refl _).drew.range (range_back (a:=[.int .i64 e.x.label.level,.int .i64 e.x.label.set,.int .i64 e.x.id,.string e.x.owner,.int .i64 e.x.need,.int .i64 e.x.long,.int .i64 e.x.prio,.int .i64 e.x.under.level,.int .i64 e.x.under.set,.int .i64 e.x.after,.int .i64 e.x.born]) (b:=[.int .i64 e.x.state,.int .i64 e.x.start,.slice e.A e.n e.c]) (b':=[.int .i64 1,.int .i64 m.x.from_,.slice m.A m.n m.c]) HC5.out (there_sub HT5.out (by simp)))⟩
          rw [← hw6]
          have HK6:Hid (Kept [Bt] wr w6):=Lib.hid ((Kept.of_ext X15.out).trans hk56)
          have HR6:=Lib.hid hr6
          have HC6:=Lib.hid hc6
          replace bx:=hk56.cell (by simpa using hBX.symm) bx
          have y7:w6.cell? ⟨Y,7,none⟩=some (.int .i64 now):=HK6.out.cell (by simpa using hBY.symm) (HYR.out.cell 7)
          have s11:w6.cell? ⟨Bt,k * 14+11,none⟩=some (.int .i64 1):=hc6 11 _ rfl
          have s12:w6.cell? ⟨Bt,k * 14+12,none⟩=some (.int .i64 m.x.from_):=hc6 12 _ rfl
          have HBXn:=Lib.hid hBX
          clear fz d11 d12 d13 p3 p5 p6 hw6 hk56 hr6 hc6 hBX hBY
          have fz:=HR6.out.frozen
          go_wp2_with fail
          go_region
          have hx7:Ext w6 w6.drew:=(Ext.refl _).drew
          have HK7:Hid (Kept [Bt] wr w6.drew):=Lib.hid (HK6.out.trans (Kept.of_ext hx7))
          have HR7:Hid (RowBut 46 Bt (k * 14) 14 wr w6.drew):=Lib.hid (RowBut.kept (F:=[]) HR6.out (Kept.of_ext hx7) (by simp))
          have HC7:Hid (w6.drew.rangeAt Bt (k * 14) [.int .i64 e.x.label.level,.int .i64 e.x.label.set,.int .i64 e.x.id,.string e.x.owner,.int .i64 e.x.need,.int .i64 e.x.long,.int .i64 e.x.prio,.int .i64 e.x.under.level,.int .i64 e.x.under.set,.int .i64 e.x.after,.int .i64 e.x.born,.int .i64 1,.int .i64 m.x.from_,.slice m.A m.n m.c]):=Lib.hid (hx7.range HC6.out)
          have hT7:w6.drew.there Bt (k * 14) 14:=by
           obtain ⟨C1,C2,g1,g2,g3,g4⟩:=HR7.out
           have hz:=HTH.out
           intro j hj
           refine ⟨?_,HR7.out.frozen _⟩
           have:=(hz j hj).1
           rw [cell_of_row wr Bt _ C1 _ (0,0) g1] at this
           rw [cell_of_row w6.drew Bt _ C2 _ (0,0) g2]
           have h1:k * 14+j < C1.size:=by
            exact (aisome ..).1 this
           exact (aisome ..).2 (by omega)
          have HT7:=Lib.hid hT7
          replace bx:=Ext.some hx7 bx
          replace s11:=Ext.some hx7 s11
          have hfw:Kept FT w w6.drew:=HK.out.trans (HK7.out.sub (fun b _ hb=>List.mem_singleton.1 hb ▸ HBF.out))
          have HPN7:=Lib.hid (HPNN.out.keep (HSK.out _ _ hfw))
          clear y7 s12 fz hx7 hT7 hfw
          have fz:=HR7.out.frozen
          have hFT:∀ st:Int,I64 st→FitTask { e.x with state:=st,start:=m.x.from_,nodes:=m.x.nodes }:=fun st hst=>by
           have hF:=HFIT.out
           have hP:=HFP.out
           unfold FitTask at hF ⊢
           unfold FitPlace at hP
           obtain ⟨a1,a2,a3,a4,a5,a6,a7,a8,a9,a10,a11,a12,a13⟩:=hF
           obtain ⟨b1,b2,b3,b4,b5⟩:=hP
           exact ⟨a1,a2,a3,a4,a5,a6,a7,a8,a9,a10,a11,hst,b4⟩
          have HFT:=Lib.hid hFT
          clear hFT
          cases hq:(m.x.from_ == now) with
          | true =>
            have hpt:({ e.x with state:=2,start:=m.x.from_,nodes:=m.x.nodes }:Task)=putT now ps (nth L k):=by
             rw [HPUT.out];unfold placedT;rw [if_pos (by simpa using hq)]
            have HPT:=Lib.hid hpt
            clear hpt
            go_wp2_with fail
            obtain ⟨us2,g1,g2,g3,g4⟩:=HFIN.out (w6.drew.setCell ⟨Bt,k * 14+11,none⟩ (.int .i64 2)) ⟨{ e.x with state:=2,start:=m.x.from_,nodes:=m.x.nodes },m.A,m.n,m.c⟩ (Kept.setCell (p:=⟨Bt,k * 14+11,none⟩) HK7.out (by simp) _) (RowBut.setCell HR7.out (by omega) (by omega) _) (HFT.out 2 (by unfold I64;decide)) (range_mid (a:=[.int .i64 e.x.label.level,.int .i64 e.x.label.set,.int .i64 e.x.id,.string e.x.owner,.int .i64 e.x.need,.int .i64 e.x.long,.int .i64 e.x.prio,.int .i64 e.x.under.level,.int .i64 e.x.under.set,.int .i64 e.x.after,.int .i64 e.x.born]) (b:=[.int .i64 m.x.from_,.slice m.A m.n m.c]) (x:=.int .i64 1) (u:=.int .i64 2) HC7.out (fun j hj=>HT7.out j (by simp at hj;omega))) (HPN7.out.keep (HSK.out _ _ (Kept.setCell (p:=⟨Bt,k * 14+11,none⟩) (Kept.refl _ _) HBF.out _))) HPT.out
            exact ⟨⟨k+1,us2,by go_num,by omega,g1,g2,g3,g4⟩,by simp [intOf];omega⟩
          | false =>
            have hpt:({ e.x with state:=1,start:=m.x.from_,nodes:=m.x.nodes }:Task)=putT now ps (nth L k):=by
             rw [HPUT.out];unfold placedT;rw [if_neg (by simpa using hq)]
            have HPT:=Lib.hid hpt
            clear hpt
            go_wp2_with fail
            obtain ⟨us2,g1,g2,g3,g4⟩:=HFIN.out w6.drew ⟨{ e.x with state:=1,start:=m.x.from_,nodes:=m.x.nodes },m.A,m.n,m.c⟩ HK7.out HR7.out (HFT.out 1 (by unfold I64;decide)) HC7.out HPN7.out HPT.out
            exact ⟨⟨k+1,us2,by go_num,by omega,g1,g2,g3,g4⟩,by simp [intOf];omega⟩
    · have hs':(decide (e.x.state=2) || decide (e.x.state=1))=false:=by simpa using hs
      rw [hs']
      have hput:putT now ps (nth L k)=nth L k:=by
       unfold putT
       rw [← HEX.out,if_neg (by simpa using hs)]
      go_wp2_with fail
      exact ⟨⟨k+1,us,by go_num,by omega,by rw [HMAP.out];exact apMix_same now ps (by have:=HLL.out;omega) hput,HO.out.ext X1.out,fun e he=>(HN.out e he).ext X1.out,HK.out.trans (Kept.of_ext X1.out)⟩,by simp [intOf];omega⟩
  · have hk':k=ts.length:=by omega
    subst hk'
    go_wp2_with fail
    go_end0
    exact ⟨rfl,us,by rw [HMAP.out,← HLL.out,apMix_full],HO.out,HN.out,HK.out⟩
end Go.Proofs.YtoblacfjmcpbmaaGreat

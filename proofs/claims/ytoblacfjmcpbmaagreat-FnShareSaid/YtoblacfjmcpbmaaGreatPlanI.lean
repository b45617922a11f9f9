/- The walks of the program's planner: what is taken, what is free, where a task can be placed, how long one that runs may stay, where a place lies. -/
import Derived.Test.YtoblacfjmcpbmaaGreatBox4
import Derived.Test.YtoblacfjmcpbmaaGreatPvBase
import Derived.Test.YtoblacfjmcpbmaaGreatYardS
import Derived.Test.YtoblacfjmcpbmaaGreatConf4
import Derived.Deep.RegionHeld3
set_option maxHeartbeats 16000000
set_option maxRecDepth 100000
namespace Go.Proofs.YtoblacfjmcpbmaaGreat
open Go.RowKit
attribute [local irreducible] wpQuiet
theorem new_box (w:World) (cs:Array Value) (T:TypeId):∃ W B,W=w.alloc (.cells cs T)∧B=w.heap.size∧Ext w W∧Blk W B T cs:=⟨_,_,rfl,rfl,(Ext.refl w).alloc _,Blk.new _ _ _⟩
def FewR (rows:List (List Span)):Prop:=∀ r∈rows,r.length≤1000
theorem few_row {rows:List (List Span)} (h:FewR rows) {k:Nat} (hk:k < rows.length):(nth rows k).length≤1000:=h _ (nth_mem hk)
theorem occ_yes {base:List Span} {ps:List Place} {n:Int} {k:Nat} (hk:k < ps.length) (h:(nth ps k).nodes.any (isNum n)=true):occOf base (ps.take (k+1)) n=occOf base (ps.take k) n ++ [⟨(nth ps k).from_,(nth ps k).to_⟩]:=by
 rw [occOf,occOf,take_succ_nth hk,List.filter_append,List.map_append,← List.append_assoc]
 congr 1
 simp [hereP,h,spanP]
theorem occ_no {base:List Span} {ps:List Place} {n:Int} {k:Nat} (hk:k < ps.length) (h:(nth ps k).nodes.any (isNum n)=false):occOf base (ps.take (k+1)) n=occOf base (ps.take k) n:=by
 rw [occOf,occOf,take_succ_nth hk,List.filter_append,List.map_append]
 simp [hereP,h]
theorem occ_len (base:List Span) (ps:List Place) (n:Int):(occOf base ps n).length≤base.length+ps.length:=by
 rw [occOf,List.length_append,List.length_map]
 have:=List.length_filter_le (hereP n) ps
 omega
theorem occupied_any {S S':Nat→Prop} (rows:List (List Span)) (ps:List Place) (n:Int) (vr vp:Value) (B:Nat) (w:World) (hr:Rd (ERow ESpan) S w vr rows) (hp:Rd EPlace S' w vp ps) (hb:w.cell? ⟨B,10,none⟩=some vp)
 (h0:0≤n) (hn:n.toNat < rows.length) (hf:FewR rows) (hl:ps.length≤100000) :
 Calls Tryz.prog 174 #[.pointer (some ⟨B,0,none⟩),vr,.int .i64 n] w (RetO OSpan 133 (occOf (rowN rows n) ps n) w):=by
 obtain ⟨m,rfl⟩:∃ m:Nat,n=(m:Int):=⟨n.toNat,by omega⟩
 have HR:=Lib.hid hr
 obtain ⟨Ar,cr,rfl,r1,r2,hkr⟩:=hr.open_
 obtain ⟨Ap,cp,rfl,p1,p2,hkp⟩:=hp.open_
 unfold maxLen at r2 p2
 have HKP:=Lib.hid hkp
 have hm:m < rows.length:=by simpa using hn
 have HBL:Hid ((nth rows m).length≤1000):=Lib.hid (few_row hf hm)
 obtain ⟨br,orr,csr,rfl,_,⟨u,rfl,hru⟩,hcr⟩:=hkr m hm
 have hc0:=hcr 0 _ rfl
 simp only [ERow,Nat.mul_one,Nat.add_zero] at hc0
 have HRU:=Lib.hid hru
 have HRN:Hid (rowN rows (m:Int)=nth rows m):=Lib.hid (by simp [rowN])
 have hb':=fun ob:Obj=>Ext.some ((Ext.refl w).alloc ob) hb
 clear hkr hkp hr hp hf hru hcr hn
 go_enter Tryz.func174,Tryz.ntmps174
 go_wp2_with (go_at_call 121;(with_reducible refine (cloneSpan_any (S:=S) (nth rows m) _ _ HRU.out (by have:=HBL.out;omega)).mono ?_);rintro e w1 ⟨u1,G1,rfl,q1,g1,hx1⟩;have Q1:=Lib.hid q1;have X1:=Lib.hid hx1;have Z1:=Lib.hid g1;have hb1:=Ext.some hx1 hb;clear q1 g1 hx1)
 go_loopw [7,20] (fun v i w'=>∃ (k:Nat) (F:List Nat),k≤ps.length∧i=.int .i64 k∧OwS OSpan 133 w' v (occOf (nth rows m) (ps.take k) (m:Int)) F∧(∀ b∈F,w.heap.size≤b)∧Ext w w') (fun _ i _=>ps.length - (intOf i).toNat)
 case atStart=>exact ⟨0,G1,by omega,rfl,by simpa [occOf] using Q1.out,Z1.out,X1.out⟩
 case round =>
  obtain ⟨k,F,hk1,rfl,hown,hF,hx⟩:=hrel
  have HO:=Lib.hid hown
  have HF:=Lib.hid hF
  have HX:=Lib.hid hx
  have LF:=Lib.hid hown.lt
  clear hown hF hb1
  by_cases hlt:k < ps.length
  · obtain ⟨b,q,cs,rfl,_,⟨v1,rfl,hfit,hrd⟩,hc⟩:=HKP.out k hlt
    obtain ⟨A1,d1,rfl,-⟩:=hrd.form
    have c0:=Ext.some hx (hc 0 _ rfl)
    have c1:=Ext.some hx (hc 1 _ rfl)
    have c2:=Ext.some hx (hc 2 _ rfl)
    have c3:=Ext.some hx (hc 3 _ rfl)
    have c4:=Ext.some hx (hc 4 _ rfl)
    have c5:=Ext.some hx (hc 5 _ rfl)
    have c6:=Ext.some hx (hc 6 _ rfl)
    simp only [EPlace,Nat.add_zero] at c0 c1 c2 c3 c4 c5 c6
    have HRD:=Lib.hid (hrd.ext hx)
    have HFit:=Lib.hid hfit
    have HLL:Hid ((occOf (nth rows m) (ps.take k) (m:Int)).length≤200000):=Lib.hid (by have:=occ_len (nth rows m) (ps.take k) (m:Int);rw [List.length_take] at this;have:=HBL.out;omega)
    clear hc hfit hx hrd hb hc0
    go_upto_region 5 with (fail)
    obtain ⟨W5,B5,hW__,hB__,hx__,hb__⟩:=new_box wr #[.int .i64 (nth ps k).label.level,.int .i64 (nth ps k).label.set,.int .i64 (nth ps k).id,.int .i64 (nth ps k).from_,.int .i64 (nth ps k).to_,.bool (nth ps k).runs,.slice A1 (nth ps k).nodes.length d1] 138
    rw [← hW__,← hB__]
    have XW5:=Lib.hid hx__
    have QB5:=Lib.hid hb__
    have EB5:=Lib.hid hB__
    clear hW__ hB__ hx__ hb__
    have q5:=QB5.out.cell
    obtain ⟨r,hr⟩:∃ r,(nth ps k).nodes.any (isNum (m:Int))=r:=⟨_,rfl⟩
    have HRR:=Lib.hid hr
    have HCI:Hid (∀ V,Ext wr V→Calls Tryz.prog 117 #[.slice A1 (nth ps k).nodes.length d1,.int .i64 (m:Int)] V fun e w'=>e=.returned (.bool r)∧Ext V w'):=Lib.hid fun V hV=>by rw [← hr];exact containsInt_any (S:=S') _ _ _ _ (HRD.out.ext hV)
    clear hr c0 c1 c2 c3 c4 c5 c6
    cases r with
    | true =>
      have HT:=Lib.hid (occ_yes (base:=nth rows m) hlt HRR.out)
      go_wp2_with (first
       | (go_at_call 117;(with_reducible refine (HCI.out _ XW5.out).mono ?_);rintro e w6 ⟨rfl,hx6⟩;have X6:=Lib.hid (XW5.out.trans hx6);replace q5:=(QB5.out.ext hx6).cell;clear hx6)
       | (at_builtin;refine wpList_append_one (O:=OSpan) (T:=133) (l:=occOf (nth rows m) (ps.take k) (m:Int)) (F:=F) (G:=[]) (y:=⟨(nth ps k).from_,(nth ps k).to_⟩) rfl _ _ 105 rfl (.agg #[.int .i64 0,.int .i64 0]) 2 16 Tryz.underlying105 (by kernel_rfl) rfl rfl rfl (HO.out.ext (X6.out.alloc _)) _ 0 1 rfl ⟨rel_Span ⟨HFit.out.2.2.2.1,HFit.out.2.2.2.2⟩,rfl⟩ (Blk.new _ _ _).range (by simpa using HO.out.nodup) (by have:=HLL.out;omega) (by decide) ?_;intro v' w9 F' how hkp hF';have HOW:=Lib.hid how;have HKP:=Lib.hid hkp;have HFF:=Lib.hid hF';clear how hkp hF'))
      (refine ⟨⟨k+1,F',by omega,by go_num,by rw [HT.out];exact HOW.out,fun b hb=>match HFF.out b hb with | .inl h=>HF.out b h | .inr (.inl h)=>absurd h (by simp) | .inr (.inr h)=>Nat.le_trans ((HX.out.trans X6.out).alloc _).size h,HKP.out.ext ((HX.out.trans X6.out).alloc _) HF.out⟩,?_⟩;simp [intOf];omega)
    | false =>
      have HT:=Lib.hid (occ_no (base:=nth rows m) hlt HRR.out)
      go_wp2_with (go_at_call 117;(with_reducible refine (HCI.out _ XW5.out).mono ?_);rintro e w6 ⟨rfl,hx6⟩;have X6:=Lib.hid (XW5.out.trans hx6);replace q5:=(QB5.out.ext hx6).cell;clear hx6)
      (refine ⟨⟨k+1,F,by omega,by go_num,by rw [HT.out];exact HO.out.ext X6.out,HF.out,HX.out.trans X6.out⟩,?_⟩;simp [intOf];omega)
  · obtain rfl:k=ps.length:=by omega
    go_wp2_with fail
    go_ret
    exact ⟨_,F,rfl,by have h:=HO.out;rw [List.take_length] at h;rw [HRN.out];exact h,HF.out,HX.out⟩
theorem isFreeFor_any {S S':Nat→Prop} (rows:List (List Span)) (ps:List Place) (n:Int) (x:Span) (vr vp:Value) (B:Nat) (w:World) (hr:Rd (ERow ESpan) S w vr rows) (hp:Rd EPlace S' w vp ps) (hb:w.cell? ⟨B,10,none⟩=some vp)
 (h0:0≤n) (hn:n.toNat < rows.length) (hf:FewR rows) (hl:ps.length≤100000) :
 Calls Tryz.prog 173 #[.pointer (some ⟨B,0,none⟩),vr,.int .i64 n,.agg #[.int .i64 x.from_,.int .i64 x.to_]] w fun e w'=>e=.returned (.bool (freeP (rowN rows n) ps n x))∧Ext w w':=by
 have HOC:Hid (∀ V,Ext w V→Calls Tryz.prog 174 #[.pointer (some ⟨B,0,none⟩),vr,.int .i64 n] V (RetO OSpan 133 (occOf (rowN rows n) ps n) V)):=Lib.hid fun V hV=>occupied_any (S:=S) (S':=S') rows ps n vr vp B V (hr.ext hV) (hp.ext hV) (Ext.some hV hb) h0 hn hf hl
 clear hr hp hb h0 hn hf hl
 go_enter Tryz.func173,Tryz.ntmps173
 go_upto_region 1 with (fail)
 obtain ⟨W1,B1,hW__,hB__,hx__,hb__⟩:=new_box w #[.int .i64 x.from_,.int .i64 x.to_] 133
 rw [← hW__,← hB__]
 have XW1:=Lib.hid hx__
 have QB1:=Lib.hid hb__
 have EB1:=Lib.hid hB__
 clear hW__ hB__ hx__ hb__
 have xl:∀ V,Ext W1 V→∀ i,V.cell? ⟨B1,i,none⟩=_:=fun V hx=>(QB1.out.ext hx).cell
 go_region_held3 (fun w'=>Ext W1 w') (first | exact Ext.refl _ | exact (Ext.refl _).drew | assumption | exact Ext.trans (by assumption) hx8 | exact Ext.trans (by assumption) hx9) (first | (go_at_call 174;(with_reducible refine (HOC.out _ (XW1.out.trans (by first | exact Ext.refl _ | exact (Ext.refl _).drew | assumption))).mono ?_);rintro e w8 ⟨u8,G8,rfl,q8,g8,hx8⟩) | (go_at_call 194;(with_reducible refine (isFree_any (S:=fun b=>b∈G8) _ x _ _ (q8.rd.ext (by first | exact Ext.refl _ | exact (Ext.refl _).drew | assumption))).mono ?_);rintro e w9 ⟨rfl,hx9⟩))
 all_goals
  clear xl
  go_wp2_with fail
  go_ret
  exact ⟨rfl,XW1.out.trans (by assumption)⟩
abbrev Ix (N:Nat):={ n:Int // 0≤n∧n.toNat < N+1 }
instance (N:Nat):Inhabited (Ix N):=⟨⟨0,by simp⟩⟩
def EIx (N:Nat):Elem (Ix N) where
 size:=1
 rel S w cs x:=EInt.rel S w cs x.1
 len h:=EInt.len h
 keep h k:=EInt.keep h k
 sub h k:=EInt.sub h k
 one h:=EInt.one h
theorem rd_ix {S:Nat→Prop} {w:World} {v:Value} {l:List Int} {N:Nat} (h:Rd EInt S w v l) (hl:∀ n∈l,0≤n∧n.toNat < N+1):Rd (EIx N) S w v (l.attachWith _ hl):=by
 obtain ⟨A,c,rfl,h1,h2,hk⟩:=h
 refine ⟨A,c,by rw [List.length_attachWith],by rw [List.length_attachWith];exact h1,h2,fun k x hx=>?_⟩
 have hx':l[k]? = some x.1:=by
  have:=congrArg (Option.map Subtype.val) hx
  rw [← List.getElem?_map,List.attachWith_map_subtype_val] at this
  simpa using this
 exact hk k x.1 hx'
section
variable {N:Nat}
theorem indexFunc_IxN {S:Nat→Prop} (l:List (Ix N)) (p:(Ix N)→Bool) (v:Value) (f:Nat) (caps:Array Value) (w:World) (h:Rd (EIx N) S w v l) (hcall:∀ (args:Array Value) (W:World),(callFunc f args).run Tryz.prog W=.ok (.enter f args) W)
 (hf:∀ (cs:List Value) (x:(Ix N)) (w1:World),Ext w w1→(EIx N).rel S w1 cs x→Calls Tryz.prog f (#[cs.headD undef] ++ caps) w1 fun e w'=>e=.returned (.bool (p x))∧Ext w1 w') :
 Calls Tryz.prog 150 #[v,.func (.func f) #[] caps] w fun e w'=>e=.returned (.int .i64 (idxOf p l))∧Ext w w':=by
 obtain ⟨A,c,rfl,h1,h2,hk⟩:=h.open_
 unfold maxLen at h2
 have HK:=Lib.hid hk
 have HF:=Lib.hid hf
 clear hk h hf
 go_enter Tryz.func150,Tryz.ntmps150
 go_wp2_with fail
 go_loopw [8] (fun i w'=>∃ k:Nat,k≤l.length∧i=.int .i64 k∧(∀ j,j < k→p (nth l j)=false)∧Ext w w') (fun i _=>l.length - (intOf i).toNat)
 case atStart=>exact ⟨0,by omega,rfl,fun j hj=>by omega,Ext.refl _⟩
 case round =>
  obtain ⟨k,hk1,rfl,hall,hx⟩:=hrel
  have HA:=Lib.hid hall
  have HX:=Lib.hid hx
  clear hall
  by_cases hlt:k < l.length
  · obtain ⟨b,o,cs,rfl,hb,hr,hc⟩:=HK.out k hlt
    have HR:=Lib.hid ((EIx N).keep (hx.same S) hr)
    have hc0:=hx.range hc 0 _ (by rw [List.getElem?_eq_getElem (by rw [(EIx N).len hr];exact Nat.one_pos)])
    have hcs:cs[0]'(by rw [(EIx N).len hr];exact Nat.one_pos)=cs.headD undef:=by cases cs with | nil=>exact absurd ((EIx N).len hr) (by exact Nat.zero_ne_one) | cons a r=>rfl
    rw [hcs] at hc0
    generalize hu:cs.headD undef=u at *
    have HU:=Lib.hid hu
    simp only [EIx,Nat.mul_one,Nat.add_zero] at hc0
    clear hr hc hx hcs hu
    by_cases hp:p (nth l k)=true
    · have HE:Hid (idxOf p l=k):=Lib.hid (idxOf_some hlt HA.out hp)
      go_wp2_with (first | ((with_reducible refine ((show Calls _ _ (#[u] ++ caps) _ _ from HU.out ▸ HF.out cs (nth l k) _ HX.out HR.out)).mono ?_);rintro e w1 ⟨rfl,hx1⟩;have HX1:=Lib.hid hx1;clear hx1))
      go_ret
      exact ⟨ret_int HE.out.symm,HX.out.trans HX1.out⟩
    · simp only [Bool.not_eq_true] at hp
      have HE:=Lib.hid (all_succ HA.out hp)
      go_wp2_with (first | ((with_reducible refine ((show Calls _ _ (#[u] ++ caps) _ _ from HU.out ▸ HF.out cs (nth l k) _ HX.out HR.out)).mono ?_);rintro e w1 ⟨rfl,hx1⟩;have HX1:=Lib.hid hx1;clear hx1))
      go_roundw
      case rel=>exact ⟨k+1,by omega,by go_num,HE.out,HX.out.trans HX1.out⟩
      case measure=>simp [intOf];omega
  · have HE:Hid (idxOf p l = -1):=Lib.hid (idxOf_none fun j hj=>HA.out j (by omega))
    go_wp2_with fail
    go_ret
    exact ⟨ret_int HE.out.symm,HX.out⟩
theorem containsFunc_IxN {S:Nat→Prop} (l:List (Ix N)) (p:(Ix N)→Bool) (v:Value) (f:Nat) (caps:Array Value) (w:World) (h:Rd (EIx N) S w v l) (hcall:∀ (args:Array Value) (W:World),(callFunc f args).run Tryz.prog W=.ok (.enter f args) W)
 (hf:∀ (cs:List Value) (x:(Ix N)) (w1:World),Ext w w1→(EIx N).rel S w1 cs x→Calls Tryz.prog f (#[cs.headD undef] ++ caps) w1 fun e w'=>e=.returned (.bool (p x))∧Ext w1 w') :
 Calls Tryz.prog 115 #[v,.func (.func f) #[] caps] w fun e w'=>e=.returned (.bool (l.any p))∧Ext w w':=by
 have HE:=Lib.hid (idxOf_any (p:=p) (l:=l))
 have H:=Lib.hid (indexFunc_IxN l p v f caps w h hcall hf)
 clear h hcall hf
 go_enter Tryz.func115,Tryz.ntmps115
 go_wp2_with (refine H.out.mono ?_;rintro e w1 ⟨rfl,hx1⟩;have HX1:=Lib.hid hx1;clear hx1)
 go_ret
 exact ⟨ret_bool HE.out,HX1.out⟩
theorem containsFunc_IxN_3 {S:Nat→Prop} (l:List (Ix N)) (p:(Ix N)→Bool) (v:Value) (f:Nat) (c1 c2 c3:Value) (w:World) (h:Rd (EIx N) S w v l) (hcall:∀ (args:Array Value) (W:World),(callFunc f args).run Tryz.prog W=.ok (.enter f args) W)
 (hf:∀ (cs:List Value) (x:(Ix N)) (w1:World),Ext w w1→(EIx N).rel S w1 cs x→Calls Tryz.prog f #[cs.headD undef,c1,c2,c3] w1 fun e w'=>e=.returned (.bool (p x))∧Ext w1 w') :
 Calls Tryz.prog 115 #[v,.func (.func f) #[] #[c1,c2,c3]] w fun e w'=>e=.returned (.bool (l.any p))∧Ext w w' :=
 containsFunc_IxN l p v f #[c1,c2,c3] w h hcall fun cs x w1 hx hr=>by rw [show (#[cs.headD undef] ++ #[c1,c2,c3]:Array Value) = #[cs.headD undef,c1,c2,c3] from rfl];exact hf cs x w1 hx hr
end
theorem call_areFree1:∀ (args:Array Value) (W:World),(callFunc 172 args).run Tryz.prog W=.ok (.enter 172 args) W:=by
 intro args W
 go_simp
theorem areFree1_any {S S':Nat→Prop} (rows:List (List Span)) (ps:List Place) (n:Int) (x:Span) (vr vp:Value) (B P1 P2 P3:Nat) (w:World) (hr:Rd (ERow ESpan) S w vr rows) (hp:Rd EPlace S' w vp ps) (hb:w.cell? ⟨B,10,none⟩=some vp)
 (h0:0≤n) (hn:n.toNat < rows.length) (hf:FewR rows) (hl:ps.length≤100000) (c1:w.cell? ⟨P1,0,none⟩=some (.pointer (some ⟨B,0,none⟩))) (c2:w.cell? ⟨P2,0,none⟩=some vr) (c3:w.cell? ⟨P3,0,none⟩=some (.int .i64 x.from_)) (c4:w.cell? ⟨P3,1,none⟩=some (.int .i64 x.to_)) :
 Calls Tryz.prog 172 #[.int .i64 n,.pointer (some ⟨P1,0,none⟩),.pointer (some ⟨P2,0,none⟩),.pointer (some ⟨P3,0,none⟩)] w fun e w'=>e=.returned (.bool (!freeP (rowN rows n) ps n x))∧Ext w w':=by
 have HOC:=Lib.hid (isFreeFor_any (S:=S) (S':=S') rows ps n x vr vp B w hr hp hb h0 hn hf hl)
 clear hr hp hb h0 hn hf hl
 go_enter Tryz.func172,Tryz.ntmps172
 go_wp2_with (go_at_call 173;(with_reducible refine HOC.out.mono ?_);rintro e w8 ⟨rfl,hx8⟩)
 go_ret
 exact ⟨rfl,hx8⟩
theorem not_any_attach {l:List Int} {q:Int→Prop} (h:∀ n∈l,q n) (p:Int→Bool):(!(l.attachWith q h).any fun x=>!p x.1)=l.all p:=by
 rw [Bool.eq_iff_iff]
 simp only [Bool.not_eq_true',List.any_eq_false,List.all_eq_true,List.mem_attachWith,Bool.not_eq_true',Bool.not_eq_false]
 exact ⟨fun hh n hn=>by simpa using hh ⟨n,h n hn⟩ hn,fun hh x hx=>by simpa using hh x.1 hx⟩
theorem areFreeFor_any {S S' S2:Nat→Prop} (rows:List (List Span)) (ps:List Place) (nodes:List Int) (x:Span) (vr vp vn:Value) (B:Nat) (w:World) (hr:Rd (ERow ESpan) S w vr rows) (hp:Rd EPlace S' w vp ps) (hv:Rd EInt S2 w vn nodes) (hb:w.cell? ⟨B,10,none⟩=some vp)
 (hn:∀ n∈nodes,0≤n∧n.toNat < rows.length) (h0:0 < rows.length) (hf:FewR rows) (hl:ps.length≤100000) :
 Calls Tryz.prog 134 #[.pointer (some ⟨B,0,none⟩),vr,vn,.agg #[.int .i64 x.from_,.int .i64 x.to_]] w fun e w'=>e=.returned (.bool (areFree rows ps nodes x))∧Ext w w':=by
 obtain ⟨N,hN⟩:∃ N,rows.length=N+1:=⟨rows.length - 1,by omega⟩
 have hn':∀ n∈nodes,0≤n∧n.toNat < N+1:=fun n h=>by rw [← hN];exact hn n h
 have HX:=Lib.hid (rd_ix hv hn')
 have HE:Hid ((!(nodes.attachWith _ hn').any fun z:Ix N=>!freeP (rowN rows z.1) ps z.1 x)=areFree rows ps nodes x):=Lib.hid (not_any_attach hn' fun n=>freeP (rowN rows n) ps n x)
 have HOC:Hid (∀ (z:Ix N) (V:World) (P1 P2 P3:Nat),Ext w V→V.cell? ⟨P1,0,none⟩=some (.pointer (some ⟨B,0,none⟩))→V.cell? ⟨P2,0,none⟩=some vr→V.cell? ⟨P3,0,none⟩=some (.int .i64 x.from_)→V.cell? ⟨P3,1,none⟩=some (.int .i64 x.to_) →
  Calls Tryz.prog 172 #[.int .i64 z.1,.pointer (some ⟨P1,0,none⟩),.pointer (some ⟨P2,0,none⟩),.pointer (some ⟨P3,0,none⟩)] V fun e w'=>e=.returned (.bool (!freeP (rowN rows z.1) ps z.1 x))∧Ext V w') :=
  Lib.hid fun z V P1 P2 P3 hV c1 c2 c3 c4=>areFree1_any (S:=S) (S':=S') rows ps z.1 x vr vp B P1 P2 P3 V (hr.ext hV) (hp.ext hV) (Ext.some hV hb) z.2.1 (by rw [hN];exact z.2.2) hf hl c1 c2 c3 c4
 obtain ⟨Ar,cr,rfl,-⟩:=hr.form
 clear hr hp hv hb hf hl hn hN h0
 go_enter Tryz.func134,Tryz.ntmps134
 go_upto_region 1 with (fail)
 obtain ⟨W,B1,hW,hB,hx0,a0,b0,d0⟩:=boxes3 w #[.pointer (some ⟨B,0,none⟩)] #[.slice Ar rows.length cr] #[.int .i64 x.from_,.int .i64 x.to_] 88 85 133
 rw [← hW,← hB]
 have X:=Lib.hid hx0
 have Q1:=Lib.hid a0
 have Q2:=Lib.hid b0
 have Q3:=Lib.hid d0
 clear hW hB hx0 a0 b0 d0
 have hcf:=call_areFree1
 go_wp2_with (go_at_call 115;(with_reducible refine (containsFunc_IxN_3 (S:=S2) (nodes.attachWith _ hn') (fun z:Ix N=>!freeP (rowN rows z.1) ps z.1 x) _ _ _ _ _ _ (HX.out.ext X.out) call_areFree1 ?hcl).mono ?_);rotate_right;rintro e w8 ⟨rfl,hx8⟩;have X8:=Lib.hid hx8;clear hx8)
 case hcl =>
  rintro cs z V hV ⟨rfl,_⟩
  exact HOC.out z V B1 (B1+1) (B1+1+1) (X.out.trans hV) ((Q1.out.ext hV).cell 0) ((Q2.out.ext hV).cell 0) ((Q3.out.ext hV).cell 0) ((Q3.out.ext hV).cell 1)
 go_ret
 exact ⟨ret_bool HE.out,X.out.trans X8.out⟩
def PlC (w:World) (B:Nat) (y:Yard) (v1 v2 v3 v4 v5 v6 vs vh vp:Value):Prop:=Blk w B 87 #[v1,v2,v3,.int .i64 y.config.half,v4,v5,v6,.int .i64 y.now,vs,vh,vp]
structure PlR (S:Nat→Prop) (w:World) (y:Yard) (v1 v2 v3 v4 v5 v6 vs vh:Value):Prop where
 fit:FitYard y
 r1:Rd (ERow ELabel) S w v1 y.config.nodes
 r2:Rd EPair S w v2 y.config.pairs
 r3:Rd EQuota S w v3 y.config.quotas
 r4:Rd ENode S w v4 y.nodes
 r5:Rd ETask S w v5 y.tasks
 r6:Rd EUse S w v6 y.uses
 rs:Rd (ERow ESpan) S w vs (startR y)
 rh:Rd (ERow ESpan) S w vh (hardR y)
theorem PlR.keep {S:Nat→Prop} {w w':World} {y:Yard} {v1 v2 v3 v4 v5 v6 vs vh:Value} (h:PlR S w y v1 v2 v3 v4 v5 v6 vs vh) (k:Same S w w'):PlR S w' y v1 v2 v3 v4 v5 v6 vs vh :=
 ⟨h.fit,h.r1.keep k,h.r2.keep k,h.r3.keep k,h.r4.keep k,h.r5.keep k,h.r6.keep k,h.rs.keep k,h.rh.keep k⟩
theorem PlR.ext {S:Nat→Prop} {w w':World} {y:Yard} {v1 v2 v3 v4 v5 v6 vs vh:Value} (h:PlR S w y v1 v2 v3 v4 v5 v6 vs vh) (k:Ext w w'):PlR S w' y v1 v2 v3 v4 v5 v6 vs vh:=h.keep (k.same S)
structure RowsOk (y:Yard):Prop where
 s:(startR y).length=y.config.nodes.length
 h:(hardR y).length=y.config.nodes.length
 fs:FewR (startR y)
 fh:FewR (hardR y)
 pos:0 < y.config.nodes.length
 few:y.config.nodes.length≤6
 now:0≤y.now∧y.now≤999900
def RetSearch (r:Option (Int × List Int)) (w:World) (e:Ending) (w':World):Prop:=∃ v F,e=.returned (.tuple #[.int .i64 (r.elim (-1) (·.1)),v])∧OwS OInt 2 w' v (r.elim [] (·.2)) F∧(∀ b∈F,w.heap.size≤b)∧Ext w w'
theorem clearOf_mem {ns:List (List Label)} {a:Label} {k:Nat} {n:Int} (h:n∈clearOf ns a k):0≤n∧n.toNat < k:=by
 unfold clearOf at h
 obtain ⟨i,hi,rfl⟩:=List.mem_map.1 h
 have:=List.mem_range.1 (List.mem_filter.1 hi).1
 omega
theorem fit_yes {y:Yard} {ps:List Place} {x:Span} {l:List Int} {k:Nat} (hk:k < l.length) (h:freeP (rowN (startR y) (nth l k)) ps (nth l k) x=true):(l.take (k+1)).filter (fun n=>freeP (rowN (startR y) n) ps n x)=(l.take k).filter (fun n=>freeP (rowN (startR y) n) ps n x) ++ [nth l k]:=by
 rw [take_succ_nth hk,List.filter_append];simp [h]
theorem fit_no {y:Yard} {ps:List Place} {x:Span} {l:List Int} {k:Nat} (hk:k < l.length) (h:freeP (rowN (startR y) (nth l k)) ps (nth l k) x=false):(l.take (k+1)).filter (fun n=>freeP (rowN (startR y) n) ps n x)=(l.take k).filter (fun n=>freeP (rowN (startR y) n) ps n x):=by
 rw [take_succ_nth hk,List.filter_append];simp [h]
theorem search_hit {y:Yard} {ps:List Place} {a:Label} {need long f:Int} {k:Nat} (h:need≤((fitP y ps a ⟨f,f+1+long⟩).length:Int)):searchY y ps a need long (k+1) f=some (f,(fitP y ps a ⟨f,f+1+long⟩).take need.toNat):=by rw [searchY,if_pos h]
theorem search_miss {y:Yard} {ps:List Place} {a:Label} {need long f:Int} {k:Nat} (h:¬ need≤((fitP y ps a ⟨f,f+1+long⟩).length:Int)):searchY y ps a need long (k+1) f=searchY y ps a need long k (f+1):=by rw [searchY,if_neg h]
theorem search_any {S S':Nat→Prop} (y:Yard) (ps:List Place) (a:Label) (need long last:Int) (v1 v2 v3 v4 v5 v6 vs vh vp:Value) (B:Nat) (w:World) (hB:PlC w B y v1 v2 v3 v4 v5 v6 vs vh vp) (hr:PlR S w y v1 v2 v3 v4 v5 v6 vs vh) (hp:Rd EPlace S' w vp ps)
 (ho:RowsOk y) (hl:ps.length≤100000) (hn:1≤need∧need≤6) (hg:1≤long∧long≤20) (hlast:0≤last∧last≤1000050) :
 Calls Tryz.prog 139 #[.pointer (some ⟨B,0,none⟩),.agg #[.int .i64 a.level,.int .i64 a.set],.int .i64 need,.int .i64 long,.int .i64 last] w (RetSearch (searchY y ps a need long (last+1 - y.now).toNat y.now) w):=by
 have HB:=Lib.hid hB
 have HR:=Lib.hid hr
 have HP:=Lib.hid hp
 have HO:=Lib.hid ho
 obtain ⟨A1,c1,rfl,-⟩:=hr.r1.form
 obtain ⟨A2,c2,rfl,-⟩:=hr.r2.form
 obtain ⟨A3,c3,rfl,-⟩:=hr.r3.form
 obtain ⟨As,cs,rfl,-⟩:=hr.rs.form
 have hnow:=ho.now
 have HCF:Hid (∀ V,Ext w V→Calls Tryz.prog 22 #[.agg #[.slice A1 y.config.nodes.length c1,.slice A2 y.config.pairs.length c2,.slice A3 y.config.quotas.length c3,.int .i64 y.config.half],.agg #[.int .i64 a.level,.int .i64 a.set]] V (RetO OInt 2 (clearOf y.config.nodes a y.config.nodes.length) V)):=Lib.hid fun V hV =>
  clearForC_any (S:=S) y.config [.slice A1 y.config.nodes.length c1,.slice A2 y.config.pairs.length c2,.slice A3 y.config.quotas.length c3,.int .i64 y.config.half] a V (rel_Config hr.fit.1 (hr.r1.ext hV) (hr.r2.ext hV) (hr.r3.ext hV)) ho.few
 have HIF:Hid (∀ V,Ext w V→∀ n x,n∈clearOf y.config.nodes a y.config.nodes.length→Calls Tryz.prog 173 #[.pointer (some ⟨B,0,none⟩),.slice As (startR y).length cs,.int .i64 n,.agg #[.int .i64 x.from_,.int .i64 x.to_]] V fun e w'=>e=.returned (.bool (freeP (rowN (startR y) n) ps n x))∧Ext V w'):=Lib.hid fun V hV n x hx=>by
  obtain ⟨m1,m2⟩:=clearOf_mem hx
  exact isFreeFor_any (S:=S) (S':=S') (startR y) ps n x _ vp B V (hr.rs.ext hV) (hp.ext hV) ((hB.ext hV).cell 10) m1 (by rw [ho.s];exact m2) ho.fs hl
 clear hB hr hp ho
 obtain ⟨N,hN⟩:∃ N,(last+1 - y.now).toNat=N:=⟨_,rfl⟩
 have HN:=Lib.hid hN
 rw [hN]
 clear hN
 have HCL:Hid ((clearOf y.config.nodes a y.config.nodes.length).length≤6):=Lib.hid (Nat.le_trans (clearOf_length _ _ _) HO.out.few)
 obtain ⟨cl,hcl⟩:∃ cl,clearOf y.config.nodes a y.config.nodes.length=cl:=⟨_,rfl⟩
 have HCE:=Lib.hid hcl
 rw [hcl] at HCF HIF HCL
 clear hcl
 go_enter Tryz.func139,Tryz.ntmps139
 go_upto_region 1 with (fail)
 obtain ⟨W1,B1,hW__,hB__,hx__,hb__⟩:=new_box w #[.int .i64 a.level,.int .i64 a.set] 24
 rw [← hW__,← hB__]
 have XW1:=Lib.hid hx__
 have QB1:=Lib.hid hb__
 have EB1:=Lib.hid hB__
 clear hW__ hB__ hx__ hb__
 have b7:W1.cell? ⟨B,7,none⟩=some (.int .i64 y.now):=(HB.out.ext XW1.out).cell 7
 go_wp2_with fail
 clear b7
 go_loopw [12] (fun i w'=>∃ k:Nat,k≤N∧i=.int .i64 (y.now+(k:Int))∧searchY y ps a need long N y.now=searchY y ps a need long (N - k) (y.now+(k:Int))∧Ext W1 w') (fun i _=>(last+1 - intOf i).toNat)
 case atStart=>exact ⟨0,Nat.zero_le _,by simp,by simp,Ext.refl _⟩
 case round =>
  obtain ⟨k,hk,rfl,heq,hx⟩:=hrel
  have HE:=Lib.hid heq
  have HX:=Lib.hid hx
  have hNN:=HN.out
  clear heq hx
  by_cases hlt:k < N
  · have hle:y.now+(k:Int)≤last:=by omega
    have hk2:(k:Int)≤1000050:=by omega
    have hN2:N - k=(N - (k+1))+1:=by omega
    have HE2:Hid (searchY y ps a need long N y.now=searchY y ps a need long ((N - (k+1))+1) (y.now+(k:Int))):=Lib.hid (by rw [HE.out,hN2])
    clear hNN hN2
    go_upto_region 5 with (fail)
    obtain ⟨W4,B4,hW__,hB__,hx__,hb__⟩:=new_box wr #[] 2
    rw [← hW__,← hB__]
    have XW4:=Lib.hid hx__
    have QB4:=Lib.hid hb__
    have EB4:=Lib.hid hB__
    clear hW__ hB__ hx__ hb__
    obtain ⟨wq,hwq⟩:∃ q,q=wr:=⟨_,rfl⟩
    subst hwq
    have cl1:∀ V,Ext W4 V→∀ i,V.cell? ⟨B,i,none⟩=_:=fun V hV=>(HB.out.ext (XW1.out.trans (HX.out.trans (XW4.out.trans hV)))).cell
    have ll1:∀ V,Ext W4 V→∀ i,V.cell? ⟨B1,i,none⟩=_:=fun V hV=>(QB1.out.ext (HX.out.trans (XW4.out.trans hV))).cell
    go_region_held3 (fun w'=>Ext W4 w') (first | exact Ext.refl _ | exact (Ext.refl _).drew | assumption | exact Ext.trans (by assumption) hx8) (first | (go_at_call 22;(with_reducible refine (HCF.out _ (XW1.out.trans (HX.out.trans (XW4.out.trans (by first | exact Ext.refl _ | exact (Ext.refl _).drew | assumption))))).mono ?_);rintro e w8 ⟨u8,G8,rfl,q8,g8,hx8⟩;obtain ⟨A8,c8,rfl,-⟩:=OwS.form q8))
    have X8:Hid (Ext W4 w8):=Lib.hid (by assumption)
    have Q8:=Lib.hid q8
    have HF0:Hid (∀ b∈G8,w.heap.size≤b):=Lib.hid fun b hb=>Nat.le_trans (XW1.out.trans (HX.out.trans XW4.out)).size (Nat.le_trans (Nat.le_of_eq rfl) (g8 b hb))
    have HG:=Lib.hid g8
    have HB4:Hid (w.heap.size≤B4):=Lib.hid (by rw [EB4.out];exact (XW1.out.trans HX.out).size)
    clear q8 g8 hx8 cl1 ll1
    try clear hHeld
    obtain ⟨A8',c8',hv8,l8,m8,hk8⟩:=Q8.out.rd.open_
    injection hv8 with e1 e2 e3
    subst e1 e3
    clear e2
    unfold maxLen at m8
    have HK8:=Lib.hid hk8
    clear hk8
    have HG4:Hid (∀ b∈[B4],b∉G8):=Lib.hid fun b hb hg=>by
     rw [List.mem_singleton.1 hb] at hg
     have h1:=HG.out B4 hg
     have h2:=QB4.out.lt
     have h3:W4.drew.heap.size=W4.heap.size:=rfl
     omega
    go_wp2_with fail
    go_loopw [13,35] (fun v i w'=>∃ (j:Nat) (F:List Nat),j≤cl.length∧i=.int .i64 j∧OwS OInt 2 w' v ((cl.take j).filter fun n=>freeP (rowN (startR y) n) ps n ⟨y.now+(k:Int),y.now+(k:Int)+1+long⟩) F∧(∀ b∈F,w.heap.size≤b)∧(∀ b∈F,b∉G8)∧(∀ b∈G8,w'.heap[b]? = w8.heap[b]?)∧w8.heap.size≤w'.heap.size∧Ext wq w'∧∀ b∈F,wq.heap.size≤b) (fun _ i _=>cl.length - (intOf i).toNat)
    case atStart=>exact ⟨0,[B4],Nat.zero_le _,rfl,.inr ⟨B4,0,#[],[],rfl,QB4.out.ext X8.out,Nat.le_refl _,Nat.zero_le _,rfl,rfl,rfl,by simp,fun k hk=>absurd hk (Nat.not_lt_zero _)⟩,fun b hb=>by rw [List.mem_singleton.1 hb];exact HB4.out,HG4.out,fun _ _=>rfl,Nat.le_refl _,XW4.out.trans X8.out,fun b hb=>by rw [List.mem_singleton.1 hb,EB4.out];exact Nat.le_refl _⟩
    case round =>
     obtain ⟨j,F,hj,rfl,hown,hF,hFG,hkp,hsz,hxw,hfw⟩:=hrel
     have HO1:=Lib.hid hown
     have HF1:=Lib.hid hF
     have HFG:=Lib.hid hFG
     have HKP:=Lib.hid hkp
     have HSZ:=Lib.hid hsz
     have HXW:=Lib.hid hxw
     have LF:=Lib.hid HO1.out.lt
     have HFW:=Lib.hid hfw
     clear hown hF hFG hkp hsz hxw hfw
     by_cases hjl:j < cl.length
     · obtain ⟨b,q,cs',rfl,hbG,⟨rfl,hfit⟩,hc⟩:=HK8.out j hjl
       have c0:=(World.cell?_of_block (HKP.out b hbG)).trans (hc 0 _ rfl)
       simp only [EInt,Nat.mul_one,Nat.add_zero] at c0
       have HFit:=Lib.hid hfit
       have HM:Hid (nth cl j∈cl):=Lib.hid (nth_mem hjl)
       obtain ⟨r,hr⟩:∃ r,freeP (rowN (startR y) (nth cl j)) ps (nth cl j) ⟨y.now+(k:Int),y.now+(k:Int)+1+long⟩=r:=⟨_,rfl⟩
       have HRR:=Lib.hid hr
       have HCI:Hid (∀ V,Ext wr V→Calls Tryz.prog 173 #[.pointer (some ⟨B,0,none⟩),.slice As (startR y).length cs,.int .i64 (nth cl j),.agg #[.int .i64 (y.now+(k:Int)),.int .i64 (y.now+(k:Int)+1+long)]] V fun e w'=>e=.returned (.bool r)∧Ext V w'):=Lib.hid fun V hV=>by rw [← hr];exact HIF.out V (XW1.out.trans (HX.out.trans (HXW.out.trans hV))) (nth cl j) ⟨y.now+(k:Int),y.now+(k:Int)+1+long⟩ HM.out
       have HLL:Hid (((cl.take j).filter fun n=>freeP (rowN (startR y) n) ps n ⟨y.now+(k:Int),y.now+(k:Int)+1+long⟩).length≤6):=Lib.hid (Nat.le_trans (List.length_filter_le _ _) (by rw [List.length_take];have:=HCL.out;omega))
       have hw1:IntKind.i64.wrap (y.now+(k:Int)+1)=y.now+(k:Int)+1:=IntWalk.i64_in _ (by omega)
       have hw2:IntKind.i64.wrap (y.now+(k:Int)+1+long)=y.now+(k:Int)+1+long:=IntWalk.i64_in _ (by omega)
       have b8:wr.cell? ⟨B,8,none⟩=some (.slice As (startR y).length cs):=(HB.out.ext (XW1.out.trans (HX.out.trans HXW.out))).cell 8
       clear hr hc hfit
       cases r with
       | true =>
         have HT:=Lib.hid (fit_yes (y:=y) (ps:=ps) hjl HRR.out)
         go_wp2_with (first
          | (go_at_call 173;(with_reducible refine (HCI.out _ (Ext.refl _)).mono ?_);rintro e wr6 ⟨rfl,hx6⟩;have X6:=Lib.hid hx6;clear hx6)
          | (at_builtin;refine wpList_append_one (O:=OInt) (T:=2) (l:=(cl.take j).filter fun n=>freeP (rowN (startR y) n) ps n ⟨y.now+(k:Int),y.now+(k:Int)+1+long⟩) (F:=F) (G:=[]) (y:=nth cl j) rfl _ _ 44 rfl (.int .i64 0) 1 8 Tryz.underlying44 (by kernel_rfl) rfl rfl rfl (HO1.out.ext (X6.out.alloc _)) _ 0 1 rfl ⟨⟨rfl,HFit.out⟩,rfl⟩ (Blk.new _ _ _).range (by simpa using HO1.out.nodup) (by have:=HLL.out;omega) (by decide) ?_;intro v' w9 F' how hkp hF';have HOW:=Lib.hid how;have HKP2:=Lib.hid hkp;have HFF:=Lib.hid hF';clear how hkp hF'))
         have XA:Hid (Ext wr (wr6.alloc (.cells #[.int .i64 (nth cl j)] 2))):=Lib.hid (X6.out.alloc _)
         refine ⟨⟨j+1,F',by omega,by go_num,by rw [HT.out];exact HOW.out,fun b hb=>match HFF.out b hb with | .inl h=>HF1.out b h | .inr (.inl h)=>absurd h (by simp) | .inr (.inr h)=>Nat.le_trans (XW1.out.trans (HX.out.trans (HXW.out.trans XA.out))).size h,fun b hb hg=>?_,fun b hb=>?_,Nat.le_trans HSZ.out (Nat.le_trans XA.out.size HKP2.out.size),HKP2.out.ext (HXW.out.trans XA.out) (fun b hb=>HFW.out b hb),fun b hb=>match HFF.out b hb with | .inl h=>HFW.out b h | .inr (.inl h)=>absurd h (by simp) | .inr (.inr h)=>Nat.le_trans (HXW.out.trans XA.out).size h⟩,?_⟩
         · rcases HFF.out b hb with h | h | h
           · exact HFG.out b h hg
           · exact absurd h (by simp)
           · have h1:=Q8.out.lt b hg
             have h2:=XA.out.size
             have h3:=HSZ.out
             omega
         · have h1:=Q8.out.lt b hb
           have h2:=HSZ.out
           rw [HKP2.out.block b (by have:=XA.out.size;omega) (fun hm=>HFG.out b hm hb),Below.block XA.out b (by omega)]
           exact HKP.out b hb
         · simp [intOf];omega
       | false =>
         have HT:=Lib.hid (fit_no (y:=y) (ps:=ps) hjl HRR.out)
         go_wp2_with (go_at_call 173;(with_reducible refine (HCI.out _ (Ext.refl _)).mono ?_);rintro e w6 ⟨rfl,hx6⟩;have X6:=Lib.hid hx6;clear hx6)
         (refine ⟨⟨j+1,F,by omega,by go_num,by rw [HT.out];exact HO1.out.ext X6.out,HF1.out,HFG.out,fun b hb=>(Below.block X6.out b (by have:=Q8.out.lt b hb;have:=HSZ.out;omega)).trans (HKP.out b hb),Nat.le_trans HSZ.out X6.out.size,HXW.out.trans X6.out,HFW.out⟩,?_⟩;simp [intOf];omega)
     · obtain rfl:j=cl.length:=by omega
       rw [List.take_length] at HO1
       obtain ⟨fl,hfl⟩:∃ fl,(cl.filter fun n=>freeP (rowN (startR y) n) ps n ⟨y.now+(k:Int),y.now+(k:Int)+1+long⟩)=fl:=⟨_,rfl⟩
       have HFL:Hid (fitP y ps a ⟨y.now+(k:Int),y.now+(k:Int)+1+long⟩=fl):=Lib.hid (by rw [fitP,HCE.out,hfl])
       rw [hfl] at HO1
       clear hfl
       obtain ⟨A9,c9,rfl,l9,m9⟩:=HO1.out.form
       unfold maxLen at m9
       by_cases hge:need≤(fl.length:Int)
       · have hn63:(need.toNat:Int)=need:=by omega
         have hn64:need≤(c9:Int):=by omega
         have HRES:Hid (searchY y ps a need long N y.now=some (y.now+(k:Int),fl.take need.toNat)):=Lib.hid (by rw [HE2.out,search_hit (by rw [HFL.out];exact hge),HFL.out])
         go_wp2_with fail
         have hnn:(0:Int)≤need:=by omega
         refine wp_region_ext (by kernel_rfl) (by kernel_rfl) ?_
         repeat (
          (refine wpQuiet_step (fun K hK=>?_)
           go_simp
           first
            | (refine hK _ ?_;clear hK K)
            | (apply Exists.intro
               refine ⟨fun w__ hx__=>?_,hK _ ?_⟩
               · first | exact rfl | (go_simp;done) | (go_simp;exact rfl)
               clear hK K)))
         refine wpQuiet_nil ?_
         intro w1 hx1
         have H9:=Lib.hid hx1
         clear hx1
         go_wp2_with fail
         go_ret2
         obtain ⟨F2,o2,f2⟩:=HO1.out.take (n:=need.toNat) (by omega) _ _ rfl
         rw [HRES.out]
         exact ⟨_,F2,rfl,o2.ext H9.out,fun b hb=>HF1.out b (f2 b hb),(XW1.out.trans (HX.out.trans HXW.out)).trans H9.out⟩
       · have HRES:Hid (searchY y ps a need long N y.now=searchY y ps a need long (N - (k+1)) (y.now+((k+1:Nat):Int))):=Lib.hid (by rw [HE2.out,search_miss (by rw [HFL.out];exact hge)];congr 1;omega)
         have hlt':(fl.length:Int) < need:=by omega
         go_wp2_with fail
         go_roundw
         case rel=>exact ⟨k+1,by omega,by go_num,HRES.out,HX.out.trans HXW.out⟩
         case measure=>simp [intOf];omega
  · have hk0:k=N:=by omega
    have hgt:last < y.now+(k:Int):=by omega
    go_wp2_with fail
    go_ret2
    have hes:searchY y ps a need long N y.now=none:=by rw [HE.out,hk0,Nat.sub_self];rfl
    rw [hes]
    exact ⟨_,[],rfl,OwS.nil _,fun b hb=>absurd hb (by simp),XW1.out.trans HX.out⟩
theorem OwS.tag {α:Type} [Inhabited α] {E:Elem α} {hfl:∀ {S S':Nat→Prop} {w w':World} {cs x},E.rel S w cs x→E.rel S' w' cs x} {T:TypeId} {w:World} {v:Value} {l:List α} {F:List Nat} (h:OwS (OFlat E hfl) T w v l F):∀ b∈F,∃ C,Blk w b T C:=fun b hb=>by
 rcases h with ⟨rfl,rfl,_⟩ | ⟨B',c',C,Fs,hv,hB,h1,h2,h3,hlF,rfl,hnd,hall⟩
 · simp at hb
 · have he:Fs.flatten = []:=List.flatten_eq_nil_iff.2 fun G hG=>by
    obtain ⟨i,hi,rfl⟩:=List.getElem_of_mem hG
    obtain ⟨cs,ho,_⟩:=hall i (by omega)
    rw [← nth_eq hi]
    exact ho.2
   rw [he] at hb
   rw [List.mem_singleton.1 hb]
   exact ⟨C,hB⟩
theorem OwS.apart {α:Type} [Inhabited α] {E:Elem α} {hfl:∀ {S S':Nat→Prop} {w w':World} {cs x},E.rel S w cs x→E.rel S' w' cs x} {T T':TypeId} {w:World} {v:Value} {l:List α} {F:List Nat} (h:OwS (OFlat E hfl) T w v l F) {b:Nat} {C:Array Value} (hb:Blk w b T' C) (hne:T'≠T):b∉F:=fun hm=>by
 obtain ⟨C',h'⟩:=h.tag b hm
 unfold Blk at hb h'
 rw [hb] at h'
 injection h' with h'
 injection h' with _ h2
 exact hne h2
theorem blk_set7 {w:World} {B:Nat} {T:TypeId} {a0 a1 a2 a3 a4 a5 a6:Value} (h:Blk w B T #[a0,a1,a2,a3,a4,a5,a6]) (u0 u1 u2 u3 u4 u5 u6:Value) :
 Blk (((((((w.setCell ⟨B,0,none⟩ u0).setCell ⟨B,1,none⟩ u1).setCell ⟨B,2,none⟩ u2).setCell ⟨B,3,none⟩ u3).setCell ⟨B,4,none⟩ u4).setCell ⟨B,5,none⟩ u5).setCell ⟨B,6,none⟩ u6) B T #[u0,u1,u2,u3,u4,u5,u6]:=by
 simpa using ((((((h.set_ 0 u0).set_ 1 u1).set_ 2 u2).set_ 3 u3).set_ 4 u4).set_ 5 u5).set_ 6 u6
theorem kept_set7 (w:World) (B:Nat) (u0 u1 u2 u3 u4 u5 u6:Value) :
 Kept [B] w (((((((w.setCell ⟨B,0,none⟩ u0).setCell ⟨B,1,none⟩ u1).setCell ⟨B,2,none⟩ u2).setCell ⟨B,3,none⟩ u3).setCell ⟨B,4,none⟩ u4).setCell ⟨B,5,none⟩ u5).setCell ⟨B,6,none⟩ u6) :=
 Kept.setCell (Kept.setCell (Kept.setCell (Kept.setCell (Kept.setCell (Kept.setCell (Kept.setCell (Kept.refl _ _) (by simp) _) (by simp) _) (by simp) _) (by simp) _) (by simp) _) (by simp) _) (by simp) _
theorem stayTo_yes {now e:Int} {l:List Span} {j:Nat} (hj:j < l.length) (h:now < (nth l j).from_):stayTo now (l.take (j+1)) e=min (stayTo now (l.take j) e) (nth l j).from_:=by
 rw [take_succ_nth hj,stayTo,List.foldl_append];simp [h,stayTo]
theorem stayTo_no {now e:Int} {l:List Span} {j:Nat} (hj:j < l.length) (h:¬ now < (nth l j).from_):stayTo now (l.take (j+1)) e=stayTo now (l.take j) e:=by
 rw [take_succ_nth hj,stayTo,List.foldl_append];simp [h,stayTo]
theorem stayEnd_step {y:Yard} {ps:List Place} {l:List Int} {k:Nat} (hk:k < l.length) (e:Int):stayEnd y ps (l.take (k+1)) e=stayTo y.now (occOf (rowN (hardR y) (nth l k)) ps (nth l k)) (stayEnd y ps (l.take k) e):=by
 rw [take_succ_nth hk,stayEnd,List.foldl_append];rfl
theorem stay_any {S S' S2:Nat→Prop} (y:Yard) (ps:List Place) (t:Task) (v1 v2 v3 v4 v5 v6 vs vh vp:Value) (ct:List Value) (B:Nat) (w:World) (hB:PlC w B y v1 v2 v3 v4 v5 v6 vs vh vp) (hr:PlR S w y v1 v2 v3 v4 v5 v6 vs vh) (hp:Rd EPlace S' w vp ps)
 (ht:ETask.rel S2 w ct t) (ho:RowsOk y) (hl:ps.length≤100000) (hn:∀ n∈t.nodes,0≤n∧n.toNat < y.config.nodes.length) (hf:t.nodes.length≤6) (hs:0≤t.start∧t.start≤1000000) (hg:1≤t.long∧t.long≤20) :
 Calls Tryz.prog 135 #[.pointer (some ⟨B,0,none⟩),.agg ct.toArray] w fun e w'=>∃ (A:Option Addr) (n c:Nat) (F:List Nat),e=.returned (.agg (cellsPlace (stayP y ps t) (.slice A n c)).toArray)∧OwS OInt 2 w' (.slice A n c) t.nodes F∧(∀ b∈F,w.heap.size≤b)∧Ext w w':=by
 have HB:=Lib.hid hB
 have HR:=Lib.hid hr
 have HP:=Lib.hid hp
 have HO:=Lib.hid ho
 obtain ⟨Ah,ch,rfl,-⟩:=hr.rh.form
 have hnow:=ho.now
 obtain ⟨u,rfl,ft,hrd⟩:=ht
 obtain ⟨A,c,rfl,l1,m1⟩:=hrd.form
 have HT:=Lib.hid (show ETask.rel S2 w (cellsTask t (.slice A t.nodes.length c)) t from ⟨_,rfl,ft,hrd⟩)
 have HRD:=Lib.hid hrd
 have HFT:=Lib.hid ft
 have HNL:=Lib.hid hf
 have HNN:=Lib.hid hn
 have HSL:=Lib.hid hs
 have HGL:=Lib.hid hg
 clear hB hr hp ho ft hrd hf hn
 simp only [cellsTask] at HT ⊢
 go_enter Tryz.func135,Tryz.ntmps135
 go_upto_region 1 with (fail)
 obtain ⟨W,B1,hW,hB1,hx0,a0,b0⟩:=boxes2 w #[.int .i64 t.label.level,.int .i64 t.label.set,.int .i64 t.id,.string t.owner,.int .i64 t.need,.int .i64 t.long,.int .i64 t.prio,.int .i64 t.under.level,.int .i64 t.under.set,.int .i64 t.after,.int .i64 t.born,.int .i64 t.state,.int .i64 t.start,.slice A t.nodes.length c] #[.int .i64 0,.int .i64 0,.int .i64 0,.int .i64 0,.int .i64 0,.bool false,.slice none 0 0] 46 138
 rw [← hW,← hB1]
 have X:=Lib.hid hx0
 have Q1:=Lib.hid a0
 have Q2:=Lib.hid b0
 have EB1:=Lib.hid hB1
 clear hW hB1 hx0 a0 b0
 have tl:∀ V,Ext W V→∀ i,V.cell? ⟨B1,i,none⟩=_:=fun V hV=>(Q1.out.ext hV).cell
 have bl:∀ V,Ext W V→∀ i,V.cell? ⟨B,i,none⟩=_:=fun V hV=>(HB.out.ext (X.out.trans hV)).cell
 have HEND:Hid (∀ V,Ext W V→Calls Tryz.prog 38 #[.agg #[.int .i64 t.label.level,.int .i64 t.label.set,.int .i64 t.id,.string t.owner,.int .i64 t.need,.int .i64 t.long,.int .i64 t.prio,.int .i64 t.under.level,.int .i64 t.under.set,.int .i64 t.after,.int .i64 t.born,.int .i64 t.state,.int .i64 t.start,.slice A t.nodes.length c]] V fun e w'=>e=.returned (.int .i64 (endOf t))∧Ext V w'):=Lib.hid fun V hV=>taskEnd_any (S:=S2) t _ V (ETask.keep ((X.out.trans hV).same _) HT.out) HSL.out.1 HSL.out.2 HGL.out.1 HGL.out.2
 have HCLO:Hid (∀ V,Ext W V→Calls Tryz.prog 78 #[.slice A t.nodes.length c] V (RetO OInt 2 t.nodes V)):=Lib.hid fun V hV=>cloneInt_any (S:=S2) t.nodes _ V (HRD.out.ext (X.out.trans hV)) (by have:=HNL.out;omega)
 clear hs hg hnow l1 m1
 go_cut [5] (fun u wc=>∃ (Bx:Nat) (A9:Option Addr) (n9 c9:Nat) (G9:List Nat),u=.pointer (some ⟨Bx,0,none⟩)∧Blk wc Bx 138 #[.int .i64 t.label.level,.int .i64 t.label.set,.int .i64 t.id,.int .i64 y.now,.int .i64 (endOf t),.bool true,.slice A9 n9 c9]∧OwS OInt 2 wc (.slice A9 n9 c9) t.nodes G9∧(∀ b∈G9,W.heap.size≤b)∧Bx∉G9∧W.heap.size≤Bx∧Ext W wc)
 case first =>
  go_region_held3 (fun w'=>Ext W w') (repeat (first | with_reducible assumption | with_reducible exact Ext.refl _ | with_reducible refine Ext.alloc ?_ _ | with_reducible refine Ext.drew ?_ | with_reducible refine Ext.setCell ?_ (by first | exact Nat.le_refl _ | exact Ext.size (by assumption) | (simp;done) | (simp;omega) | (show _≤_;omega)) _ | with_reducible refine Ext.trans ?_ hx8 | with_reducible refine Ext.trans ?_ hx9)) (first | (go_at_call 38;(with_reducible refine (HEND.out _ (by repeat (first | with_reducible assumption | with_reducible exact Ext.refl _ | with_reducible refine Ext.alloc ?_ _ | with_reducible refine Ext.drew ?_ | with_reducible refine Ext.setCell ?_ (by first | exact Nat.le_refl _ | exact Ext.size (by assumption) | (simp;done) | (simp;omega) | (show _≤_;omega)) _ | with_reducible refine Ext.trans ?_ hx8 | with_reducible refine Ext.trans ?_ hx9))).mono ?_);rintro e w8 ⟨rfl,hx8⟩;(first | ((first | (with_reducible have bxx:=box_new3 (bw:=W) hx8 (by repeat (first | with_reducible assumption | with_reducible exact Ext.refl _ | with_reducible refine Ext.alloc ?_ _ | with_reducible refine Ext.drew ?_ | with_reducible refine Ext.setCell ?_ (by first | exact Nat.le_refl _ | exact Ext.size (by assumption) | (simp;done) | (simp;omega) | (show _≤_;omega)) _ | with_reducible refine Ext.trans ?_ hx9))) | (with_reducible have bxx:=box_new4 (bw:=W) hx8 (by repeat (first | with_reducible assumption | with_reducible exact Ext.refl _ | with_reducible refine Ext.alloc ?_ _ | with_reducible refine Ext.drew ?_ | with_reducible refine Ext.setCell ?_ (by first | exact Nat.le_refl _ | exact Ext.size (by assumption) | (simp;done) | (simp;omega) | (show _≤_;omega)) _ | with_reducible refine Ext.trans ?_ hx9))));(try simp only [drew_size] at bxx);obtain ⟨bx,bh,bl⟩:=bxx;have bc:=bx.cell;have bf:=bx.frozen;have BX:=Lib.hid bx;have BH:=Lib.hid bh;clear bx bl) | ((first | (with_reducible have bx:=Blk.ext BX.out hx8) | (have bx:=Blk.ext (Blk.ext BX.out (Ext.refl _).drew) hx8));clear bc bf;have bc:=bx.cell;have bf:=bx.frozen;have BX:=Lib.hid bx;clear bx) | skip)) | (go_at_call 78;(with_reducible refine (HCLO.out _ (by repeat (first | with_reducible assumption | with_reducible exact Ext.refl _ | with_reducible refine Ext.alloc ?_ _ | with_reducible refine Ext.drew ?_ | with_reducible refine Ext.setCell ?_ (by first | exact Nat.le_refl _ | exact Ext.size (by assumption) | (simp;done) | (simp;omega) | (show _≤_;omega)) _ | with_reducible refine Ext.trans ?_ hx8 | with_reducible refine Ext.trans ?_ hx9))).mono ?_);rintro e w9 ⟨u9,G9,rfl,q9,g9,hx9⟩;obtain ⟨A9,c9,rfl,-⟩:=OwS.form q9;(first | ((first | (with_reducible have bxx:=box_new3 (bw:=W) hx9 (by repeat (first | with_reducible assumption | with_reducible exact Ext.refl _ | with_reducible refine Ext.alloc ?_ _ | with_reducible refine Ext.drew ?_ | with_reducible refine Ext.setCell ?_ (by first | exact Nat.le_refl _ | exact Ext.size (by assumption) | (simp;done) | (simp;omega) | (show _≤_;omega)) _ | with_reducible refine Ext.trans ?_ hx8))) | (with_reducible have bxx:=box_new4 (bw:=W) hx9 (by repeat (first | with_reducible assumption | with_reducible exact Ext.refl _ | with_reducible refine Ext.alloc ?_ _ | with_reducible refine Ext.drew ?_ | with_reducible refine Ext.setCell ?_ (by first | exact Nat.le_refl _ | exact Ext.size (by assumption) | (simp;done) | (simp;omega) | (show _≤_;omega)) _ | with_reducible refine Ext.trans ?_ hx8))));(try simp only [drew_size] at bxx);obtain ⟨bx,bh,bl⟩:=bxx;have bc:=bx.cell;have bf:=bx.frozen;have BX:=Lib.hid bx;have BH:=Lib.hid bh;clear bx bl) | ((first | (with_reducible have bx:=Blk.ext BX.out hx9) | (have bx:=Blk.ext (Blk.ext BX.out (Ext.refl _).drew) hx9));clear bc bf;have bc:=bx.cell;have bf:=bx.frozen;have BX:=Lib.hid bx;clear bx) | skip)))
  · go_wp2_with fail
    go_meet
    exact ⟨_,A9,_,c9,G9,rfl,Blk.new _ _ _,q9.ext ((Ext.refl _).alloc _),fun b hb=>Nat.le_trans (Ext.size (((Ext.refl W).drew).trans hx8)) (g9 b hb),fun hm=>absurd (q9.lt _ hm) (Nat.lt_irrefl _),Ext.size ((((Ext.refl W).drew).trans hx8).trans hx9),by assumption⟩
  · go_wp2_with fail
    go_meet
    have hna:=q9.apart BX.out (by decide)
    exact ⟨_,A9,_,c9,G9,rfl,blk_set7 BX.out _ _ _ _ _ _ _,q9.kept (kept_set7 _ _ _ _ _ _ _ _ _) (fun b hb hm=>hna (by rw [List.mem_singleton.1 hm] at hb;exact hb)),fun b hb=>Nat.le_trans (Ext.size ((((Ext.refl W).drew).trans hx8).alloc _)) (g9 b hb),hna,bh,by assumption⟩
  · go_wp2_with fail
    go_meet
    have hna:=q9.apart BX.out (by decide)
    exact ⟨_,A9,_,c9,G9,rfl,blk_set7 BX.out _ _ _ _ _ _ _,q9.kept (kept_set7 _ _ _ _ _ _ _ _ _) (fun b hb hm=>hna (by rw [List.mem_singleton.1 hm] at hb;exact hb)),fun b hb=>Nat.le_trans (Ext.size ((((Ext.refl W).alloc _).drew).trans hx8)) (g9 b hb),hna,Nat.le_refl _,by assumption⟩
 case rest =>
  generalize wc=W5 at hcut ⊢
  obtain ⟨Bx,A9,n9,c9,G9,rfl,hbx,q9,g9,hna,hbw,hx9⟩:=hcut
  have HBX:=Lib.hid hbx
  have Q9:=Lib.hid q9
  have G9h:=Lib.hid g9
  have HNA:=Lib.hid hna
  have HBW:=Lib.hid hbw
  have X9:=Lib.hid hx9
  have c11:W5.cell? ⟨B1,13,none⟩=some (.slice A t.nodes.length c):=(Q1.out.ext hx9).cell 13
  clear hbx q9 g9 hna hbw hx9 tl bl
  obtain ⟨A',c',hv',l1,m1,hk⟩:=HRD.out.open_
  injection hv' with e1 e2 e3
  subst e1 e3
  clear e2
  unfold maxLen at m1
  have HK:=Lib.hid hk
  clear hk
  go_wp2_with fail
  clear c11
  go_loopw [28] (fun i w'=>∃ k:Nat,k≤t.nodes.length∧i=.int .i64 k∧Blk w' Bx 138 #[.int .i64 t.label.level,.int .i64 t.label.set,.int .i64 t.id,.int .i64 y.now,.int .i64 (stayEnd y ps (t.nodes.take k) (endOf t)),.bool true,.slice A9 n9 c9]∧Kept [Bx] W5 w') (fun i _=>t.nodes.length - (intOf i).toNat)
  case atStart=>exact ⟨0,Nat.zero_le _,rfl,by simpa [stayEnd] using HBX.out,Kept.refl _ _⟩
  case round =>
   obtain ⟨k,hk1,rfl,hb,hkp⟩:=hrel
   have HB2:=Lib.hid hb
   have HKP:=Lib.hid hkp
   clear hb hkp
   by_cases hlt:k < t.nodes.length
   · obtain ⟨b,q,cs,rfl,hbS,⟨rfl,hfit⟩,hc⟩:=HK.out k hlt
     have c0:=hc 0 _ rfl
     simp only [EInt,Nat.mul_one,Nat.add_zero] at c0
     have hxr:Ext w wr:=Kept.ext (X.out.trans X9.out) HKP.out (fun b hb=>by rw [List.mem_singleton.1 hb];exact Nat.le_trans X.out.size HBW.out)
     have HX:=Lib.hid hxr
     replace c0:=Ext.some hxr c0
     have b9:wr.cell? ⟨B,9,none⟩=some (.slice Ah (hardR y).length ch):=(HB.out.ext hxr).cell 9
     have HM:Hid (0≤nth t.nodes k∧(nth t.nodes k).toNat < y.config.nodes.length):=Lib.hid (HNN.out _ (nth_mem hlt))
     have HOC:Hid (Calls Tryz.prog 174 #[.pointer (some ⟨B,0,none⟩),.slice Ah (hardR y).length ch,.int .i64 (nth t.nodes k)] wr (RetO OSpan 133 (occOf (rowN (hardR y) (nth t.nodes k)) ps (nth t.nodes k)) wr)):=Lib.hid (occupied_any (S:=S) (S':=S') (hardR y) ps (nth t.nodes k) _ vp B wr (HR.out.rh.ext hxr) (HP.out.ext hxr) ((HB.out.ext hxr).cell 10) HM.out.1 (by rw [HO.out.h];exact HM.out.2) HO.out.fh hl)
     obtain ⟨oc,hoc⟩:∃ oc,occOf (rowN (hardR y) (nth t.nodes k)) ps (nth t.nodes k)=oc:=⟨_,rfl⟩
     have HOE:=Lib.hid hoc
     rw [hoc] at HOC
     clear hc hfit hxr hoc
     go_wp2_with (go_at_call 174;(with_reducible refine HOC.out.mono ?_);rintro e w10 ⟨u10,G10,rfl,q10,g10,hx10⟩;obtain ⟨A10,c10,rfl,-⟩:=OwS.form q10;have Q10:=Lib.hid q10;have X10:=Lib.hid hx10;clear q10 g10 hx10)
     obtain ⟨e0,he0⟩:∃ e0,stayEnd y ps (t.nodes.take k) (endOf t)=e0:=⟨_,rfl⟩
     have HE0:Hid (stayEnd y ps (t.nodes.take (k+1)) (endOf t)=stayTo y.now oc e0):=Lib.hid (by rw [stayEnd_step hlt,HOE.out,he0])
     rw [he0] at HB2
     have HKPW:=Lib.hid (HKP.out.trans (Kept.of_ext (F:=[Bx]) X10.out))
     obtain ⟨A11,c11,hv11,l11,m11,hk11⟩:=Q10.out.rd.open_
     injection hv11 with e1 e2 e3
     subst e1 e3
     clear e2
     unfold maxLen at m11
     have HK11:=Lib.hid hk11
     have HB10:=Lib.hid (HB2.out.ext X10.out)
     have HBX10:Hid (∀ b∈G10,b≠Bx):=Lib.hid fun b hb he=>Q10.out.apart HB10.out (by decide) (he ▸ hb)
     clear hk11 he0 b9 c0
     go_loopw [40] (fun i w'=>∃ j:Nat,j≤oc.length∧i=.int .i64 j∧Blk w' Bx 138 #[.int .i64 t.label.level,.int .i64 t.label.set,.int .i64 t.id,.int .i64 y.now,.int .i64 (stayTo y.now (oc.take j) e0),.bool true,.slice A9 n9 c9]∧Kept [Bx] w10 w') (fun i _=>oc.length - (intOf i).toNat)
     case atStart=>exact ⟨0,Nat.zero_le _,rfl,HB10.out,Kept.refl _ _⟩
     case round =>
      obtain ⟨j,hj1,rfl,hb2,hkp2⟩:=hrel
      have HB3:=Lib.hid hb2
      have HKP2:=Lib.hid hkp2
      clear hb2 hkp2
      by_cases hlj:j < oc.length
      · obtain ⟨b',q',cs',rfl,hbG,⟨rfl,hfit⟩,hc⟩:=HK11.out j hlj
        have c0:=HKP2.out.cell (by simp;exact HBX10.out b' hbG) (hc 0 _ rfl)
        have c1:=HKP2.out.cell (by simp;exact HBX10.out b' hbG) (hc 1 _ rfl)
        simp only [ESpan,Nat.add_zero] at c0 c1
        have HFS:=Lib.hid hfit
        clear hc hfit
        go_upto_region 8 with (fail)
        obtain ⟨W6,B6,hW__,hB__,hx__,hb__⟩:=new_box wr #[.int .i64 (nth oc j).from_,.int .i64 (nth oc j).to_] 133
        rw [← hW__,← hB__]
        have XW6:=Lib.hid hx__
        have QB6:=Lib.hid hb__
        have EB6:=Lib.hid hB__
        clear hW__ hB__ hx__ hb__
        have HKW:=Lib.hid (HKP2.out.trans (Kept.of_ext (F:=[Bx]) XW6.out))
        have s0:=QB6.out.cell 0
        have b7:W6.cell? ⟨B,7,none⟩=some (.int .i64 y.now):=(HB.out.ext (Kept.ext (X.out.trans X9.out) (HKPW.out.trans HKW.out) (fun b hb=>by rw [List.mem_singleton.1 hb];exact Nat.le_trans X.out.size HBW.out))).cell 7
        simp only [List.getElem?_toArray,List.getElem?_cons_zero] at s0
        clear c0 c1
        refine wp_region_ext (by kernel_rfl) (by kernel_rfl) ?_
        repeat (
         (refine wpQuiet_step (fun K hK=>?_)
          go_simp
          first
           | (refine hK _ ?_;clear hK K)
           | (apply Exists.intro
              refine ⟨fun w__ hx__=>?_,hK _ ?_⟩
              · have s0__:=Ext.some hx__ s0;have b7__:=Ext.some hx__ b7;first | exact rfl | (go_simp;done) | (go_simp;exact rfl)
              clear hK K)))
        refine wpQuiet_nil ?_
        intro w1 hx1
        have XW7:=Lib.hid hx1
        have d0:=Ext.some hx1 s0
        have d4:=((HB3.out.ext XW6.out).ext hx1).cell 4
        have f4:=((HB3.out.ext XW6.out).ext hx1).frozen 4
        have HB4:=Lib.hid ((HB3.out.ext XW6.out).ext hx1)
        clear s0 b7 hx1
        by_cases hgt:y.now < (nth oc j).from_
        · have HS:=Lib.hid (stayTo_yes (e:=e0) hlj hgt)
          go_wp2_with fail
          go_roundw
          case rel=>exact ⟨j+1,by omega,by go_num,by rw [HS.out];simpa using HB4.out.set_ 4 _,Kept.setCell (HKW.out.trans (Kept.of_ext XW7.out)) (by simp) _⟩
          case measure=>simp [intOf];omega
        · have HS:=Lib.hid (stayTo_no (e:=e0) hlj hgt)
          go_wp2_with fail
          go_roundw
          case rel=>exact ⟨j+1,by omega,by go_num,by rw [HS.out];exact HB4.out,HKW.out.trans (Kept.of_ext XW7.out)⟩
          case measure=>simp [intOf];omega
      · obtain rfl:j=oc.length:=by omega
        rw [List.take_length] at HB3
        go_wp2_with fail
        go_roundw
        case rel=>exact ⟨k+1,by omega,by go_num,by rw [HE0.out];exact HB3.out,HKPW.out.trans HKP2.out⟩
        case measure=>simp [intOf];omega
   · obtain rfl:k=t.nodes.length:=by omega
     rw [List.take_length] at HB2
     have b0:=HB2.out.cell
     have hBx1:B1+1≠Bx:=fun h=>by have h1:=Q2.out.lt;have h2:=HBW.out;omega
     have QR:Hid (Blk wr (B1+1) 138 #[.int .i64 0,.int .i64 0,.int .i64 0,.int .i64 0,.int .i64 0,.bool false,.slice none 0 0]):=Lib.hid ((HKP.out.block (B1+1) (Q2.out.ext X9.out).lt (by simp;exact hBx1)).trans (Q2.out.ext X9.out))
     have z0:=QR.out.cell
     have zf:=QR.out.frozen
     go_wp2_with fail
     have hkw:=kept_set7 wr (B1+1) (.int .i64 t.label.level) (.int .i64 t.label.set) (.int .i64 t.id) (.int .i64 y.now) (.int .i64 (stayEnd y ps t.nodes (endOf t))) (.bool true) (.slice A9 n9 c9)
     have hxr:Ext w wr:=Kept.ext (X.out.trans X9.out) HKP.out (fun b hb=>by rw [List.mem_singleton.1 hb];exact Nat.le_trans X.out.size HBW.out)
     have q9r:OwS OInt 2 wr (.slice A9 n9 c9) t.nodes G9:=Q9.out.kept HKP.out (fun b hb hm=>HNA.out (by rw [List.mem_singleton.1 hm] at hb;exact hb))
     exact bodyPost_ret (v:=.agg #[.int .i64 t.label.level,.int .i64 t.label.set,.int .i64 t.id,.int .i64 y.now,.int .i64 (stayEnd y ps t.nodes (endOf t)),.bool true,.slice A9 n9 c9])
      (results_blk Tryz.results135 rfl (blk_set7 QR.out _ _ _ _ _ _ _) Tryz.underlying138 rfl (by kernel_rfl)) rfl
      ⟨A9,n9,c9,G9,rfl,q9r.kept hkw (fun b hb hm=>q9r.apart QR.out (by decide) (by rw [List.mem_singleton.1 hm] at hb;exact hb)),fun b hb=>Nat.le_trans X.out.size (G9h.out b hb),Kept.ext hxr hkw (fun b hb=>by rw [List.mem_singleton.1 hb];have:=EB1.out;omega)⟩
theorem indexFunc_Place {S:Nat→Prop} (l:List Place) (p:Place→Bool) (v:Value) (f:Nat) (caps:Array Value) (w:World) (h:Rd EPlace S w v l) (hcall:∀ (args:Array Value) (W:World),(callFunc f args).run Tryz.prog W=.ok (.enter f args) W)
 (hf:∀ (cs:List Value) (x:Place) (w1:World),Ext w w1→EPlace.rel S w1 cs x→Calls Tryz.prog f (#[.agg cs.toArray] ++ caps) w1 fun e w'=>e=.returned (.bool (p x))∧Ext w1 w') :
 Calls Tryz.prog 92 #[v,.func (.func f) #[] caps] w fun e w'=>e=.returned (.int .i64 (idxOf p l))∧Ext w w':=by
 obtain ⟨A,c,rfl,h1,h2,hk⟩:=h.open_
 unfold maxLen at h2
 have HK:=Lib.hid hk
 have HF:=Lib.hid hf
 clear hk h hf
 go_enter Tryz.func92,Tryz.ntmps92
 go_wp2_with fail
 go_loopw [8] (fun i w'=>∃ k:Nat,k≤l.length∧i=.int .i64 k∧(∀ j,j < k→p (nth l j)=false)∧Ext w w') (fun i _=>l.length - (intOf i).toNat)
 case atStart=>exact ⟨0,by omega,rfl,fun j hj=>by omega,Ext.refl _⟩
 case round =>
  obtain ⟨k,hk1,rfl,hall,hx⟩:=hrel
  have HA:=Lib.hid hall
  have HX:=Lib.hid hx
  clear hall
  by_cases hlt:k < l.length
  · obtain ⟨b,o,cs,rfl,hb,hr,hc⟩:=HK.out k hlt
    have HR:=Lib.hid (EPlace.keep (hx.same S) hr)
    have HC:=Lib.hid (hx.range hc)
    have HI:Hid ((Tryz.prog.info? 138).map (·.size)=some cs.length):=Lib.hid (by rw [EPlace.len hr];kernel_rfl)
    clear hr hc hx
    by_cases hp:p (nth l k)=true
    · have HE:Hid (idxOf p l=k):=Lib.hid (idxOf_some hlt HA.out hp)
      go_wp2_with (first | (refine wpList_load_mid rfl 138 _ rfl b (o+k * 7) rfl cs _ HC.out Tryz.underlying138 rfl HI.out ?_) | ((with_reducible refine (HF.out cs (nth l k) _ HX.out HR.out).mono ?_);rintro e w1 ⟨rfl,hx1⟩;have HX1:=Lib.hid hx1;clear hx1))
      go_ret
      exact ⟨ret_int HE.out.symm,HX.out.trans HX1.out⟩
    · simp only [Bool.not_eq_true] at hp
      have HE:=Lib.hid (all_succ HA.out hp)
      go_wp2_with (first | (refine wpList_load_mid rfl 138 _ rfl b (o+k * 7) rfl cs _ HC.out Tryz.underlying138 rfl HI.out ?_) | ((with_reducible refine (HF.out cs (nth l k) _ HX.out HR.out).mono ?_);rintro e w1 ⟨rfl,hx1⟩;have HX1:=Lib.hid hx1;clear hx1))
      go_roundw
      case rel=>exact ⟨k+1,by omega,by go_num,HE.out,HX.out.trans HX1.out⟩
      case measure=>simp [intOf];omega
  · have HE:Hid (idxOf p l = -1):=Lib.hid (idxOf_none fun j hj=>HA.out j (by omega))
    go_wp2_with fail
    go_ret
    exact ⟨ret_int HE.out.symm,HX.out⟩
theorem indexFunc_Place_1 {S:Nat→Prop} (l:List Place) (p:Place→Bool) (v:Value) (f:Nat) (c1:Value) (w:World) (h:Rd EPlace S w v l) (hcall:∀ (args:Array Value) (W:World),(callFunc f args).run Tryz.prog W=.ok (.enter f args) W)
 (hf:∀ (cs:List Value) (x:Place) (w1:World),Ext w w1→EPlace.rel S w1 cs x→Calls Tryz.prog f #[.agg cs.toArray,c1] w1 fun e w'=>e=.returned (.bool (p x))∧Ext w1 w') :
 Calls Tryz.prog 92 #[v,.func (.func f) #[] #[c1]] w fun e w'=>e=.returned (.int .i64 (idxOf p l))∧Ext w w' :=
 indexFunc_Place l p v f #[c1] w h hcall fun cs x w1 hx hr=>by rw [show (#[.agg cs.toArray] ++ #[c1]:Array Value) = #[.agg cs.toArray,c1] from rfl];exact hf cs x w1 hx hr
theorem call_placeOf1:∀ (args:Array Value) (W:World),(callFunc 175 args).run Tryz.prog W=.ok (.enter 175 args) W:=by
 intro args W
 go_simp
theorem isOf_def {a:Label} {n:Int} {p:Place}:isOf a n p=(decide (p.label.level=a.level) && decide (p.label.set=a.set) && decide (p.id=n)):=by
 obtain ⟨⟨l,s⟩,i,_⟩:=p
 obtain ⟨m,t⟩:=a
 simp [isOf]
theorem placeOf1_any {S:Nat→Prop} (p:Place) (a:Label) (n:Int) (cs:List Value) (B:Nat) (w:World) (h:EPlace.rel S w cs p) (c0:w.cell? ⟨B,0,none⟩=some (.int .i64 a.level)) (c1:w.cell? ⟨B,1,none⟩=some (.int .i64 a.set)) (c2:w.cell? ⟨B,2,none⟩=some (.int .i64 n)) :
 Calls Tryz.prog 175 #[.agg cs.toArray,.pointer (some ⟨B,0,none⟩)] w fun e w'=>e=.returned (.bool (isOf a n p))∧Ext w w':=by
 obtain ⟨v,rfl,hf,hr⟩:=h
 obtain ⟨A,c,rfl,-⟩:=hr.form
 have d0:=fun ob:Obj=>Ext.some ((Ext.refl w).alloc ob) c0
 have d1:=fun ob:Obj=>Ext.some ((Ext.refl w).alloc ob) c1
 have d2:=fun ob:Obj=>Ext.some ((Ext.refl w).alloc ob) c2
 clear hf hr
 simp only [cellsPlace]
 by_cases he:p.label.level=a.level∧p.label.set=a.set
 · obtain ⟨he1,he2⟩:=he
   go_enter Tryz.func175,Tryz.ntmps175
   go_wp2_with fail
   all_goals (go_ret;exact ⟨ret_bool (by rw [isOf_def];simp_all <;> (rw [Bool.eq_iff_iff];simp)),(Ext.refl _).alloc _⟩)
 · go_enter Tryz.func175,Tryz.ntmps175
   go_wp2_with fail
   all_goals (go_ret;exact ⟨ret_bool (by rw [isOf_def];simp_all <;> (rw [Bool.eq_iff_iff];simp)),(Ext.refl _).alloc _⟩)
theorem placeOf_any {S S':Nat→Prop} (ps:List Place) (t:Task) (vp:Value) (ct:List Value) (B:Nat) (w:World) (hb:w.cell? ⟨B,10,none⟩=some vp) (hp:Rd EPlace S w vp ps) (ht:ETask.rel S' w ct t) :
 Calls Tryz.prog 137 #[.pointer (some ⟨B,0,none⟩),.agg ct.toArray] w fun e w'=>e=.returned (.int .i64 (idxOf (isOf t.label t.id) ps))∧Ext w w':=by
 obtain ⟨u,rfl,ft,hrd⟩:=ht
 obtain ⟨A,c,rfl,l1,m1⟩:=hrd.form
 have HP:=Lib.hid hp
 have HBC:=Lib.hid hb
 clear ft hrd l1 m1 hp hb
 simp only [cellsTask]
 go_enter Tryz.func137,Tryz.ntmps137
 go_upto_region 1 with (fail)
 obtain ⟨W1,B1,hW__,hB__,hx__,hb__⟩:=new_box w #[.int .i64 t.label.level,.int .i64 t.label.set,.int .i64 t.id,.string t.owner,.int .i64 t.need,.int .i64 t.long,.int .i64 t.prio,.int .i64 t.under.level,.int .i64 t.under.set,.int .i64 t.after,.int .i64 t.born,.int .i64 t.state,.int .i64 t.start,.slice A t.nodes.length c] 46
 rw [← hW__,← hB__]
 have XW1:=Lib.hid hx__
 have QB1:=Lib.hid hb__
 have EB1:=Lib.hid hB__
 clear hW__ hB__ hx__ hb__
 have b10:=Ext.some XW1.out HBC.out
 have hcf:=call_placeOf1
 go_wp2_with (go_at_call 92;(with_reducible refine (indexFunc_Place_1 (S:=S) ps (isOf t.label t.id) _ _ _ _ (HP.out.ext XW1.out) call_placeOf1 ?hcl).mono ?_);rotate_right;rintro e w8 ⟨rfl,hx8⟩;have X8:=Lib.hid hx8;clear hx8)
 case hcl =>
  intro cs p V hV hp
  exact placeOf1_any (S:=S) p t.label t.id cs B1 V hp ((QB1.out.ext hV).cell 0) ((QB1.out.ext hV).cell 1) ((QB1.out.ext hV).cell 2)
 go_ret
 exact ⟨rfl,XW1.out.trans X8.out⟩
theorem isPlaced_any {S S':Nat→Prop} (ps:List Place) (t:Task) (vp:Value) (ct:List Value) (B:Nat) (w:World) (hb:w.cell? ⟨B,10,none⟩=some vp) (hp:Rd EPlace S w vp ps) (ht:ETask.rel S' w ct t) :
 Calls Tryz.prog 136 #[.pointer (some ⟨B,0,none⟩),.agg ct.toArray] w fun e w'=>e=.returned (.bool (placedB ps t))∧Ext w w':=by
 have HPO:Hid (∀ V,Ext w V→Calls Tryz.prog 137 #[.pointer (some ⟨B,0,none⟩),.agg ct.toArray] V fun e w'=>e=.returned (.int .i64 (idxOf (isOf t.label t.id) ps))∧Ext V w'):=Lib.hid fun V hV=>placeOf_any (S:=S) (S':=S') ps t vp ct B V (Ext.some hV hb) (hp.ext hV) (ETask.keep (hV.same _) ht)
 obtain ⟨u,rfl,ft,hrd⟩:=ht
 obtain ⟨A,c,rfl,l1,m1⟩:=hrd.form
 clear ft hrd l1 m1 hp hb
 simp only [cellsTask] at HPO ⊢
 go_enter Tryz.func136,Tryz.ntmps136
 go_upto_region 1 with (fail)
 obtain ⟨W1,B1,hW__,hB__,hx__,hb__⟩:=new_box w #[.int .i64 t.label.level,.int .i64 t.label.set,.int .i64 t.id,.string t.owner,.int .i64 t.need,.int .i64 t.long,.int .i64 t.prio,.int .i64 t.under.level,.int .i64 t.under.set,.int .i64 t.after,.int .i64 t.born,.int .i64 t.state,.int .i64 t.start,.slice A t.nodes.length c] 46
 rw [← hW__,← hB__]
 have XW1:=Lib.hid hx__
 have QB1:=Lib.hid hb__
 have EB1:=Lib.hid hB__
 clear hW__ hB__ hx__ hb__
 have q1:=QB1.out.cell
 go_wp2_with (go_at_call 137;(with_reducible refine (HPO.out _ XW1.out).mono ?_);rintro e w8 ⟨rfl,hx8⟩;have X8:=Lib.hid hx8;clear hx8)
 go_ret
 exact ⟨ret_bool (by rw [placedB,← idxOf_any]),XW1.out.trans X8.out⟩
end Go.Proofs.YtoblacfjmcpbmaaGreat

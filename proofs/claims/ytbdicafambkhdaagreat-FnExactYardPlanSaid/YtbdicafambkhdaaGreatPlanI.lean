/- The walks of the program's planner: what is taken, what is free, where a task can be placed, how long one that runs may stay, where a place lies. -/
import Derived.Test.YtbdicafambkhdaaGreatPlanQ
import Derived.Test.YtbdicafambkhdaaGreatBox4
import Derived.Test.YtbdicafambkhdaaGreatYardS
import Derived.Test.YtbdicafambkhdaaGreatConf4
import Derived.Deep.RegionHeld3
set_option maxHeartbeats 16000000
set_option maxRecDepth 100000
namespace Go.Proofs.YtbdicafambkhdaaGreat
open Go.Proofs.Tryz
open Go.RowKit
attribute [local irreducible] wpQuiet
theorem iK (w:World) (cs:Array Value) (T:TypeId):∃ W B,W=w.alloc (.cells cs T)∧B=w.heap.size∧Ext w W∧aF W B T cs:=⟨_,_,rfl,rfl,(Ext.refl w).alloc _,aF.new _ _ _⟩
def Uk (rows:List (List Span)):Prop:=∀ r∈rows,r.length≤1000
theorem afm {rows:List (List Span)} (h:Uk rows) {k:Nat} (hk:k < rows.length):(nth rows k).length≤1000:=h _ (bG hk)
theorem occ_yes {base:List Span} {ps:List Place} {n:Int} {k:Nat} (hk:k < ps.length) (h:(nth ps k).nodes.any (isNum n)=true):kT base (ps.take (k+1)) n=kT base (ps.take k) n ++ [⟨(nth ps k).from_,(nth ps k).jA⟩]:=by
 rw [kT,kT,aV hk,List.filter_append,List.map_append,← List.append_assoc];congr 1;simp [Vd,h,aew]
theorem occ_no {base:List Span} {ps:List Place} {n:Int} {k:Nat} (hk:k < ps.length) (h:(nth ps k).nodes.any (isNum n)=false):kT base (ps.take (k+1)) n=kT base (ps.take k) n:=by
 rw [kT,kT,aV hk,List.filter_append,List.map_append];simp [Vd,h]
theorem afB (base:List Span) (ps:List Place) (n:Int):(kT base ps n).length≤base.length+ps.length:=by
 rw [kT,List.length_append,List.length_map];have:=List.length_filter_le (Vd n) ps;omega
theorem EM {S S':Nat→Prop} (rows:List (List Span)) (ps:List Place) (n:Int) (vr vp:Value) (B:Nat) (w:World) (hr:Rd (gU dM) S w vr rows) (hp:Rd dG S' w vp ps) (hb:w.cell? ⟨B,10,none⟩=some vp)
 (h0:0≤n) (hn:n.toNat < rows.length) (hf:Uk rows) (hl:ps.length≤100000) :
 Calls prog 225 #[.pointer (some ⟨B,0,none⟩),vr,.int .i64 n] w (kX ji 142 (kT (kU rows n) ps n) w):=by
 obtain ⟨m,rfl⟩:∃ m:Nat,n=(m:Int):=⟨n.toNat,by omega⟩
 have HR:=ah hr;obtain ⟨Ar,cr,rfl,r1,r2,hkr⟩:=hr.open_;obtain ⟨Ap,cp,rfl,p1,p2,hkp⟩:=hp.open_;unfold maxLen at r2 p2;have lJ:=ah hkp;have hm:m < rows.length:=by simpa using hn
 have Ug:Hid ((nth rows m).length≤1000):=ah (afm hf hm);obtain ⟨br,orr,csr,rfl,_,⟨u,rfl,hru⟩,hcr⟩:=hkr m hm;have hc0:=hcr 0 _ rfl;simp only [gU,Nat.mul_one,Nat.add_zero] at hc0;have HRU:=ah hru;have HRN:Hid (kU rows (m:Int)=nth rows m):=ah (by simp [kU]);have hb':=fun ob:Obj=>Ext.some ((Ext.refl w).alloc ob) hb;clear hkr hkp hr hp hf hru hcr hn;go_enter func225,ntmps225;go_wp2_with (go_at_call 234;(with_reducible refine (BZ (S:=S) (nth rows m) _ _ HRU.out (by have:=Ug.out;omega)).mono ?_);rintro e w1 ⟨u1,G1,rfl,q1,g1,hx1⟩;have Q1:=ah q1;have X1:=ah hx1;have Z1:=ah g1;have hb1:=Ext.some hx1 hb;clear q1 g1 hx1);go_loopw [7,20] (fun v i w'=>∃ (k:Nat) (F:List Nat),k≤ps.length∧i=.int .i64 k∧aW ji 142 w' v (kT (nth rows m) (ps.take k) (m:Int)) F∧(∀ b∈F,w.heap.size≤b)∧Ext w w') (fun _ i _=>ps.length - (intOf i).toNat);case atStart=>exact ⟨0,G1,by omega,rfl,by simpa [kT] using Q1.out,Z1.out,X1.out⟩
 case round =>
  obtain ⟨k,F,hk1,rfl,hown,hF,hx⟩:=hrel;have HO:=ah hown;have HF:=ah hF;have HX:=ah hx;have LF:=ah hown.lt;clear hown hF hb1;by_cases hlt:k < ps.length
  · obtain ⟨b,q,cs,rfl,_,⟨v1,rfl,hfit,hrd⟩,hc⟩:=lJ.out k hlt;obtain ⟨A1,d1,rfl,-⟩:=hrd.form;have c0:=Ext.some hx (hc 0 _ rfl);have c1:=Ext.some hx (hc 1 _ rfl);have c2:=Ext.some hx (hc 2 _ rfl);have c3:=Ext.some hx (hc 3 _ rfl);have c4:=Ext.some hx (hc 4 _ rfl);have c5:=Ext.some hx (hc 5 _ rfl);have c6:=Ext.some hx (hc 6 _ rfl);simp only [dG,Nat.add_zero] at c0 c1 c2 c3 c4 c5 c6;have uQ:=ah (hrd.ext hx);have lM:=ah hfit;have wu:Hid ((kT (nth rows m) (ps.take k) (m:Int)).length≤200000):=ah (by have:=afB (nth rows m) (ps.take k) (m:Int);rw [List.length_take] at this;have:=Ug.out;omega);clear hc hfit hx hrd hb hc0;go_upto_region 5 with (fail)
    obtain ⟨W5,B5,aX,aT,aj,fQ⟩:=iK wr #[(nth ps k).label.level,(nth ps k).label.set,(nth ps k).id,(nth ps k).from_,(nth ps k).jA,.bool (nth ps k).runs,.slice A1 (nth ps k).nodes.length d1] 78;rw [← aX,← aT];have vO:=ah aj;have DX:=ah fQ;have EB5:=ah aT;clear aX aT aj fQ;have q5:=DX.out.cell;obtain ⟨r,hr⟩:∃ r,(nth ps k).nodes.any (isNum (m:Int))=r:=⟨_,rfl⟩
    have HRR:=ah hr;have HCI:Hid (∀ V,Ext wr V→Calls prog 198 #[.slice A1 (nth ps k).nodes.length d1,.int .i64 (m:Int)] V fun e w'=>e=.returned (.bool r)∧Ext V w'):=ah fun V hV=>by rw [← hr];exact yu (S:=S') _ _ _ _ (uQ.out.ext hV)
    clear hr c0 c1 c2 c3 c4 c5 c6;cases r with
    | true =>
      have HT:=ah (occ_yes (base:=nth rows m) hlt HRR.out);go_wp2_with (first
       | (go_at_call 198;(with_reducible refine (HCI.out _ vO.out).mono ?_);rintro e w6 ⟨rfl,hx6⟩;have X6:=ah (vO.out.trans hx6);replace q5:=(DX.out.ext hx6).cell;clear hx6)
       | (at_builtin;refine bM (O:=ji) (T:=142) (l:=kT (nth rows m) (ps.take k) (m:Int)) (F:=F) (G:=[]) (y:=⟨(nth ps k).from_,(nth ps k).jA⟩) rfl _ _ 149 rfl (.agg Zr.l) 2 16 underlying149 (by kernel_rfl) rfl rfl rfl (HO.out.ext (X6.out.alloc _)) _ 0 1 rfl ⟨WE ⟨lM.out.2.2.2.1,lM.out.2.2.2.2⟩,rfl⟩ (aF.new _ _ _).range (by simpa using HO.out.nodup) (by have:=wu.out;omega) (by decide) ?_;intro v' w9 F' how hkp hF';have HOW:=ah how;have lJ:=ah hkp;have uT:=ah hF';clear how hkp hF'))
      (refine ⟨⟨k+1,F',by omega,by go_num,by rw [HT.out];exact HOW.out,fun b hb=>match uT.out b hb with | .inl h=>HF.out b h | .inr (.inl h)=>absurd h (by simp) | .inr (.inr h)=>Nat.le_trans ((HX.out.trans X6.out).alloc _).size h,lJ.out.ext ((HX.out.trans X6.out).alloc _) HF.out⟩,?_⟩;simp [intOf];omega)
    | false =>
      have HT:=ah (occ_no (base:=nth rows m) hlt HRR.out);go_wp2_with (go_at_call 198;(with_reducible refine (HCI.out _ vO.out).mono ?_);rintro e w6 ⟨rfl,hx6⟩;have X6:=ah (vO.out.trans hx6);replace q5:=(DX.out.ext hx6).cell;clear hx6)
      (refine ⟨⟨k+1,F,by omega,by go_num,by rw [HT.out];exact HO.out.ext X6.out,HF.out,HX.out.trans X6.out⟩,?_⟩;simp [intOf];omega)
  · obtain rfl:k=ps.length:=by omega
    go_wp2_with fail;go_ret;exact ⟨_,F,rfl,by have h:=HO.out;rw [List.take_length] at h;rw [HRN.out];exact h,HF.out,HX.out⟩
theorem Cc {S S':Nat→Prop} (rows:List (List Span)) (ps:List Place) (n:Int) (x:Span) (vr vp:Value) (B:Nat) (w:World) (hr:Rd (gU dM) S w vr rows) (hp:Rd dG S' w vp ps) (hb:w.cell? ⟨B,10,none⟩=some vp)
 (h0:0≤n) (hn:n.toNat < rows.length) (hf:Uk rows) (hl:ps.length≤100000) :
 Calls prog 122 #[.pointer (some ⟨B,0,none⟩),vr,.int .i64 n,.agg (Rs x)] w fun e w'=>e=.returned (.bool (jC (kU rows n) ps n x))∧Ext w w':=by
 have XF:Hid (∀ V,Ext w V→Calls prog 225 #[.pointer (some ⟨B,0,none⟩),vr,.int .i64 n] V (kX ji 142 (kT (kU rows n) ps n) V)):=ah fun V hV=>EM (S:=S) (S':=S') rows ps n vr vp B V (hr.ext hV) (hp.ext hV) (Ext.some hV hb) h0 hn hf hl;clear hr hp hb h0 hn hf hl;go_enter func122,ntmps122;go_upto_region 1 with (fail)
 obtain ⟨W1,B1,aX,aT,aj,fQ⟩:=iK w (Rs x) 142;rw [← aX,← aT];have FZ:=ah aj;have QB1:=ah fQ;have EB1:=ah aT;clear aX aT aj fQ;have xl:∀ V,Ext W1 V→∀ i,V.cell? ⟨B1,i,none⟩=_:=fun V hx=>(QB1.out.ext hx).cell;go_region_held3 (fun w'=>Ext W1 w') (first | exact Ext.refl _ | exact (Ext.refl _).drew | assumption | exact Ext.trans (by assumption) eu | exact Ext.trans (by assumption) jO) (first | (go_at_call 225;(with_reducible refine (XF.out _ (FZ.out.trans (by first | exact Ext.refl _ | exact (Ext.refl _).drew | assumption))).mono ?_);rintro e w8 ⟨u8,G8,rfl,q8,g8,eu⟩) | (go_at_call 224;(with_reducible refine (Yk (S:=fun b=>b∈G8) _ x _ _ (q8.rd.ext (by first | exact Ext.refl _ | exact (Ext.refl _).drew | assumption))).mono ?_);rintro e w9 ⟨rfl,jO⟩));all_goals
  clear xl;go_wp2_with fail;go_ret;exact ⟨rfl,FZ.out.trans (by assumption)⟩
abbrev Ix (N:Nat):={ n:Int // 0≤n∧n.toNat < N+1 }
instance (N:Nat):Inhabited (Ix N):=⟨⟨0,by simp⟩⟩
def EIx (N:Nat):Elem (Ix N) where
 size:=1
 rel S w cs x:=fC.rel S w cs x.1
 len h:=fC.len h
 keep h k:=fC.keep h k
 sub h k:=fC.sub h k
 one h:=fC.one h
theorem al7 {S:Nat→Prop} {w:World} {v:Value} {l:List Int} {N:Nat} (h:Rd fC S w v l) (hl:∀ n∈l,0≤n∧n.toNat < N+1):Rd (EIx N) S w v (l.attachWith _ hl):=by
 obtain ⟨A,c,rfl,h1,h2,hk⟩:=h;refine ⟨A,c,by rw [List.length_attachWith],by rw [List.length_attachWith];exact h1,h2,fun k x hx=>?_⟩;have hx':l[k]? = some x.1:=by
  have:=congrArg (Option.map Subtype.val) hx;rw [← List.getElem?_map,List.attachWith_map_subtype_val] at this;simpa using this
 exact hk k x.1 hx'
section
variable {N:Nat}
theorem OT {S:Nat→Prop} (l:List (Ix N)) (p:(Ix N)→Bool) (v:Value) (f:Nat) (caps:Array Value) (w:World) (h:Rd (EIx N) S w v l) (hcall:∀ (args:Array Value) (W:World),(callFunc f args).run prog W=.ok (.enter f args) W)
 (hf:∀ (cs:List Value) (x:(Ix N)) (w1:World),Ext w w1→(EIx N).rel S w1 cs x→Calls prog f (#[cs.headD undef] ++ caps) w1 fun e w'=>e=.returned (.bool (p x))∧Ext w1 w') :
 Calls prog 267 #[v,.func (.func f) #[] caps] w fun e w'=>e=.returned (.int .i64 (idxOf p l))∧Ext w w':=by
 obtain ⟨A,c,rfl,h1,h2,hk⟩:=h.open_;unfold maxLen at h2;have HK:=ah hk;have HF:=ah hf;clear hk h hf;go_enter func267,ntmps267;go_wp2_with fail;go_loopw [8] (fun i w'=>∃ k:Nat,k≤l.length∧i=.int .i64 k∧(∀ j,j < k→p (nth l j)=false)∧Ext w w') (fun i _=>l.length - (intOf i).toNat);case atStart=>exact ⟨0,by omega,rfl,fun j hj=>by omega,Ext.refl _⟩
 case round =>
  obtain ⟨k,hk1,rfl,hall,hx⟩:=hrel;have HA:=ah hall;have HX:=ah hx;clear hall;by_cases hlt:k < l.length
  · obtain ⟨b,o,cs,rfl,hb,hr,hc⟩:=HK.out k hlt;have HR:=ah ((EIx N).keep (hx.same S) hr);have hc0:=hx.range hc 0 _ (by rw [List.getElem?_eq_getElem (by rw [(EIx N).len hr];exact Nat.one_pos)]);have hcs:cs[0]'(by rw [(EIx N).len hr];exact Nat.one_pos)=cs.headD undef:=by cases cs with | nil=>exact absurd ((EIx N).len hr) (by exact Nat.zero_ne_one) | cons a r=>rfl
    rw [hcs] at hc0;generalize hu:cs.headD undef=u at *;have HU:=ah hu;simp only [EIx,Nat.mul_one,Nat.add_zero] at hc0;clear hr hc hx hcs hu;by_cases hp:p (nth l k)=true
    · have HE:Hid (idxOf p l=k):=ah (iP hlt HA.out hp);go_wp2_with (first | ((with_reducible refine ((show Calls _ _ (#[u] ++ caps) _ _ from HU.out ▸ HF.out cs (nth l k) _ HX.out HR.out)).mono ?_);rintro e w1 ⟨rfl,hx1⟩;have jf:=ah hx1;clear hx1));go_ret;exact ⟨aI HE.out.symm,HX.out.trans jf.out⟩
    · simp only [Bool.not_eq_true] at hp;have HE:=ah (all_succ HA.out hp);go_wp2_with (first | ((with_reducible refine ((show Calls _ _ (#[u] ++ caps) _ _ from HU.out ▸ HF.out cs (nth l k) _ HX.out HR.out)).mono ?_);rintro e w1 ⟨rfl,hx1⟩;have jf:=ah hx1;clear hx1));go_roundw;case rel=>exact ⟨k+1,by omega,by go_num,HE.out,HX.out.trans jf.out⟩
      case measure=>simp [intOf];omega
  · have HE:Hid (idxOf p l = -1):=ah (iO fun j hj=>HA.out j (by omega));go_wp2_with fail;go_ret;exact ⟨aI HE.out.symm,HX.out⟩
theorem Gq {S:Nat→Prop} (l:List (Ix N)) (p:(Ix N)→Bool) (v:Value) (f:Nat) (caps:Array Value) (w:World) (h:Rd (EIx N) S w v l) (hcall:∀ (args:Array Value) (W:World),(callFunc f args).run prog W=.ok (.enter f args) W)
 (hf:∀ (cs:List Value) (x:(Ix N)) (w1:World),Ext w w1→(EIx N).rel S w1 cs x→Calls prog f (#[cs.headD undef] ++ caps) w1 fun e w'=>e=.returned (.bool (p x))∧Ext w1 w') :
 Calls prog 196 #[v,.func (.func f) #[] caps] w fun e w'=>e=.returned (.bool (l.any p))∧Ext w w':=by
 have HE:=ah (jr (p:=p) (l:=l));have H:=ah (OT l p v f caps w h hcall hf);clear h hcall hf;go_enter func196,ntmps196;go_wp2_with (refine H.out.mono ?_;rintro e w1 ⟨rfl,hx1⟩;have jf:=ah hx1;clear hx1);go_ret;exact ⟨au HE.out,jf.out⟩
theorem CZ {S:Nat→Prop} (l:List (Ix N)) (p:(Ix N)→Bool) (v:Value) (f:Nat) (c1 c2 c3:Value) (w:World) (h:Rd (EIx N) S w v l) (hcall:∀ (args:Array Value) (W:World),(callFunc f args).run prog W=.ok (.enter f args) W)
 (hf:∀ (cs:List Value) (x:(Ix N)) (w1:World),Ext w w1→(EIx N).rel S w1 cs x→Calls prog f #[cs.headD undef,c1,c2,c3] w1 fun e w'=>e=.returned (.bool (p x))∧Ext w1 w') :
 Calls prog 196 #[v,.func (.func f) #[] #[c1,c2,c3]] w fun e w'=>e=.returned (.bool (l.any p))∧Ext w w' :=
 Gq l p v f #[c1,c2,c3] w h hcall fun cs x w1 hx hr=>by rw [show (#[cs.headD undef] ++ #[c1,c2,c3]:Array Value) = #[cs.headD undef,c1,c2,c3] from rfl];exact hf cs x w1 hx hr
end
theorem BR:∀ (args:Array Value) (W:World),(callFunc 274 args).run prog W=.ok (.enter 274 args) W:=by
 intro args W;go_simp
theorem RD {S S':Nat→Prop} (rows:List (List Span)) (ps:List Place) (n:Int) (x:Span) (vr vp:Value) (B P1 P2 P3:Nat) (w:World) (hr:Rd (gU dM) S w vr rows) (hp:Rd dG S' w vp ps) (hb:w.cell? ⟨B,10,none⟩=some vp)
 (h0:0≤n) (hn:n.toNat < rows.length) (hf:Uk rows) (hl:ps.length≤100000) (c1:w.cell? ⟨P1,0,none⟩=some (.pointer (some ⟨B,0,none⟩))) (c2:w.cell? ⟨P2,0,none⟩=some vr) (c3:w.cell? ⟨P3,0,none⟩=some (.int .i64 x.from_)) (c4:w.cell? ⟨P3,1,none⟩=some (.int .i64 x.jA)) :
 Calls prog 274 #[.int .i64 n,.pointer (some ⟨P1,0,none⟩),.pointer (some ⟨P2,0,none⟩),.pointer (some ⟨P3,0,none⟩)] w fun e w'=>e=.returned (.bool (!jC (kU rows n) ps n x))∧Ext w w':=by
 have XF:=ah (Cc (S:=S) (S':=S') rows ps n x vr vp B w hr hp hb h0 hn hf hl);clear hr hp hb h0 hn hf hl;go_enter func274,ntmps274;go_wp2_with (go_at_call 122;(with_reducible refine XF.out.mono ?_);rintro e w8 ⟨rfl,eu⟩);go_ret;exact ⟨rfl,eu⟩
theorem MS {l:List Int} {q:Int→Prop} (h:∀ n∈l,q n) (p:Int→Bool):(!(l.attachWith q h).any fun x=>!p x.1)=l.all p:=by
 rw [Bool.eq_iff_iff];simp only [Bool.not_eq_true',List.any_eq_false,List.all_eq_true,List.mem_attachWith,Bool.not_eq_true',Bool.not_eq_false];exact ⟨fun hh n hn=>by simpa using hh ⟨n,h n hn⟩ hn,fun hh x hx=>by simpa using hh x.1 hx⟩
theorem yG {S S' S2:Nat→Prop} (rows:List (List Span)) (ps:List Place) (nodes:List Int) (x:Span) (vr vp vn:Value) (B:Nat) (w:World) (hr:Rd (gU dM) S w vr rows) (hp:Rd dG S' w vp ps) (hv:Rd fC S2 w vn nodes) (hb:w.cell? ⟨B,10,none⟩=some vp)
 (hn:∀ n∈nodes,0≤n∧n.toNat < rows.length) (h0:0 < rows.length) (hf:Uk rows) (hl:ps.length≤100000) :
 Calls prog 217 #[.pointer (some ⟨B,0,none⟩),vr,vn,.agg (Rs x)] w fun e w'=>e=.returned (.bool (jg rows ps nodes x))∧Ext w w':=by
 obtain ⟨N,hN⟩:∃ N,rows.length=N+1:=⟨rows.length - 1,by omega⟩
 have hn':∀ n∈nodes,0≤n∧n.toNat < N+1:=fun n h=>by rw [← hN];exact hn n h
 have HX:=ah (al7 hv hn');have HE:Hid ((!(nodes.attachWith _ hn').any fun z:Ix N=>!jC (kU rows z.1) ps z.1 x)=jg rows ps nodes x):=ah (MS hn' fun n=>jC (kU rows n) ps n x);have XF:Hid (∀ (z:Ix N) (V:World) (P1 P2 P3:Nat),Ext w V→V.cell? ⟨P1,0,none⟩=some (.pointer (some ⟨B,0,none⟩))→V.cell? ⟨P2,0,none⟩=some vr→V.cell? ⟨P3,0,none⟩=some (.int .i64 x.from_)→V.cell? ⟨P3,1,none⟩=some (.int .i64 x.jA) →
  Calls prog 274 #[.int .i64 z.1,.pointer (some ⟨P1,0,none⟩),.pointer (some ⟨P2,0,none⟩),.pointer (some ⟨P3,0,none⟩)] V fun e w'=>e=.returned (.bool (!jC (kU rows z.1) ps z.1 x))∧Ext V w') :=
  ah fun z V P1 P2 P3 hV c1 c2 c3 c4=>RD (S:=S) (S':=S') rows ps z.1 x vr vp B P1 P2 P3 V (hr.ext hV) (hp.ext hV) (Ext.some hV hb) z.2.1 (by rw [hN];exact z.2.2) hf hl c1 c2 c3 c4
 obtain ⟨Ar,cr,rfl,-⟩:=hr.form;clear hr hp hv hb hf hl hn hN h0;go_enter func217,ntmps217;go_upto_region 1 with (fail)
 obtain ⟨W,B1,hW,hB,hx0,a0,b0,d0⟩:=lQ w #[.pointer (some ⟨B,0,none⟩)] #[.slice Ar rows.length cr] (Rs x) 85 92 142;rw [← hW,← hB];have X:=ah hx0;have Q1:=ah a0;have Q2:=ah b0;have Q3:=ah d0;clear hW hB hx0 a0 b0 d0;have hcf:=BR;go_wp2_with (go_at_call 196;(with_reducible refine (CZ (S:=S2) (nodes.attachWith _ hn') (fun z:Ix N=>!jC (kU rows z.1) ps z.1 x) _ _ _ _ _ _ (HX.out.ext X.out) BR ?hcl).mono ?_);rotate_right;rintro e w8 ⟨rfl,eu⟩;have X8:=ah eu;clear eu);case hcl =>
  rintro cs z V hV ⟨rfl,_⟩;exact XF.out z V B1 (B1+1) (B1+1+1) (X.out.trans hV) ((Q1.out.ext hV).cell 0) ((Q2.out.ext hV).cell 0) ((Q3.out.ext hV).cell 0) ((Q3.out.ext hV).cell 1)
 go_ret;exact ⟨au HE.out,X.out.trans X8.out⟩
def Uh (w:World) (B:Nat) (y:aK) (v1 v2 v3 v4 v5 v6 vs vh vp:Value):Prop:=aF w B 94 #[v1,v2,v3,y.config.half,v4,v5,v6,y.now,vs,vh,vp]
structure PlR (S:Nat→Prop) (w:World) (y:aK) (v1 v2 v3 v4 v5 v6 vs vh:Value):Prop where
 fit:qV y
 r1:Rd (gU aH) S w v1 y.config.nodes
 r2:Rd fA S w v2 y.config.pairs
 r3:Rd dJ S w v3 y.config.ay
 r4:Rd ENode S w v4 y.nodes
 r5:Rd ETask S w v5 y.tasks
 r6:Rd dX S w v6 y.uses
 rs:Rd (gU dM) S w vs (bg y)
 rh:Rd (gU dM) S w vh (dF y)
theorem PlR.keep {S:Nat→Prop} {w w':World} {y:aK} {v1 v2 v3 v4 v5 v6 vs vh:Value} (h:PlR S w y v1 v2 v3 v4 v5 v6 vs vh) (k:Same S w w'):PlR S w' y v1 v2 v3 v4 v5 v6 vs vh :=
 ⟨h.fit,h.r1.keep k,h.r2.keep k,h.r3.keep k,h.r4.keep k,h.r5.keep k,h.r6.keep k,h.rs.keep k,h.rh.keep k⟩
theorem PlR.ext {S:Nat→Prop} {w w':World} {y:aK} {v1 v2 v3 v4 v5 v6 vs vh:Value} (h:PlR S w y v1 v2 v3 v4 v5 v6 vs vh) (k:Ext w w'):PlR S w' y v1 v2 v3 v4 v5 v6 vs vh:=h.keep (k.same S)
structure CW (y:aK):Prop where
 s:(bg y).length=y.config.nodes.length
 h:(dF y).length=y.config.nodes.length
 fs:Uk (bg y)
 fh:Uk (dF y)
 pos:0 < y.config.nodes.length
 few:y.config.nodes.length≤6
 now:0≤y.now∧y.now≤999900
def FU (r:Option (Int × List Int)) (w:World) (e:Ending) (w':World):Prop:=∃ v F,e=.returned (.tuple #[.int .i64 (r.elim (-1) (·.1)),v])∧aW jD 2 w' v (r.elim [] (·.2)) F∧(∀ b∈F,w.heap.size≤b)∧Ext w w'
theorem UH {ns:List (List Label)} {a:Label} {k:Nat} {n:Int} (h:n∈eP ns a k):0≤n∧n.toNat < k:=by
 unfold eP at h;obtain ⟨i,hi,rfl⟩:=List.mem_map.1 h;have:=List.mem_range.1 (List.mem_filter.1 hi).1;omega
theorem afo {y:aK} {ps:List Place} {x:Span} {l:List Int} {k:Nat} (hk:k < l.length) (h:jC (kU (bg y) (nth l k)) ps (nth l k) x=true):(l.take (k+1)).filter (fun n=>jC (kU (bg y) n) ps n x)=(l.take k).filter (fun n=>jC (kU (bg y) n) ps n x) ++ [nth l k]:=by
 rw [aV hk,List.filter_append];simp [h]
theorem agW {y:aK} {ps:List Place} {x:Span} {l:List Int} {k:Nat} (hk:k < l.length) (h:jC (kU (bg y) (nth l k)) ps (nth l k) x=false):(l.take (k+1)).filter (fun n=>jC (kU (bg y) n) ps n x)=(l.take k).filter (fun n=>jC (kU (bg y) n) ps n x):=by
 rw [aV hk,List.filter_append];simp [h]
theorem Ny {y:aK} {ps:List Place} {a:Label} {need long f:Int} {k:Nat} (h:need≤((rV y ps a ⟨f,f+1+long⟩).length:Int)):bP y ps a need long (k+1) f=some (f,(rV y ps a ⟨f,f+1+long⟩).take need.toNat):=by rw [bP,if_pos h]
theorem Jm {y:aK} {ps:List Place} {a:Label} {need long f:Int} {k:Nat} (h:¬ need≤((rV y ps a ⟨f,f+1+long⟩).length:Int)):bP y ps a need long (k+1) f=bP y ps a need long k (f+1):=by rw [bP,if_neg h]
theorem DJ {S S':Nat→Prop} (y:aK) (ps:List Place) (a:Label) (need long last:Int) (v1 v2 v3 v4 v5 v6 vs vh vp:Value) (B:Nat) (w:World) (hB:Uh w B y v1 v2 v3 v4 v5 v6 vs vh vp) (hr:PlR S w y v1 v2 v3 v4 v5 v6 vs vh) (hp:Rd dG S' w vp ps)
 (ho:CW y) (hl:ps.length≤100000) (hn:1≤need∧need≤6) (hg:1≤long∧long≤20) (hlast:0≤last∧last≤1000050) :
 Calls prog 44 #[.pointer (some ⟨B,0,none⟩),.agg (Rl a),.int .i64 need,.int .i64 long,.int .i64 last] w (FU (bP y ps a need long (last+1 - y.now).toNat y.now) w):=by
 have HB:=ah hB;have HR:=ah hr;have HP:=ah hp;have HO:=ah ho;obtain ⟨A1,c1,rfl,-⟩:=hr.r1.form;obtain ⟨A2,c2,rfl,-⟩:=hr.r2.form;obtain ⟨A3,c3,rfl,-⟩:=hr.r3.form;obtain ⟨As,cs,rfl,-⟩:=hr.rs.form;have Ib:=ho.now;have HCF:Hid (∀ V,Ext w V→Calls prog 113 #[.agg #[.slice A1 y.config.nodes.length c1,.slice A2 y.config.pairs.length c2,.slice A3 y.config.ay.length c3,y.config.half],.agg (Rl a)] V (kX jD 2 (eP y.config.nodes a y.config.nodes.length) V)):=ah fun V hV =>
  oK (S:=S) y.config [.slice A1 y.config.nodes.length c1,.slice A2 y.config.pairs.length c2,.slice A3 y.config.ay.length c3,y.config.half] a V (aY hr.fit.1 (hr.r1.ext hV) (hr.r2.ext hV) (hr.r3.ext hV)) ho.few
 have HIF:Hid (∀ V,Ext w V→∀ n x,n∈eP y.config.nodes a y.config.nodes.length→Calls prog 122 #[.pointer (some ⟨B,0,none⟩),.slice As (bg y).length cs,.int .i64 n,.agg (Rs x)] V fun e w'=>e=.returned (.bool (jC (kU (bg y) n) ps n x))∧Ext V w'):=ah fun V hV n x hx=>by
  obtain ⟨m1,m2⟩:=UH hx;exact Cc (S:=S) (S':=S') (bg y) ps n x _ vp B V (hr.rs.ext hV) (hp.ext hV) ((hB.ext hV).cell 10) m1 (by rw [ho.s];exact m2) ho.fs hl
 clear hB hr hp ho;obtain ⟨N,hN⟩:∃ N,(last+1 - y.now).toNat=N:=⟨_,rfl⟩
 have HN:=ah hN;rw [hN];clear hN;have HCL:Hid ((eP y.config.nodes a y.config.nodes.length).length≤6):=ah (Nat.le_trans (um _ _ _) HO.out.few);obtain ⟨cl,hcl⟩:∃ cl,eP y.config.nodes a y.config.nodes.length=cl:=⟨_,rfl⟩
 have HCE:=ah hcl;rw [hcl] at HCF HIF HCL;clear hcl;go_enter func44,ntmps44;go_upto_region 1 with (fail)
 obtain ⟨W1,B1,aX,aT,aj,fQ⟩:=iK w (Rl a) 47;rw [← aX,← aT];have FZ:=ah aj;have QB1:=ah fQ;have EB1:=ah aT;clear aX aT aj fQ;have b7:W1.cell? ⟨B,7,none⟩=some (.int .i64 y.now):=(HB.out.ext FZ.out).cell 7;go_wp2_with fail;clear b7;go_loopw [12] (fun i w'=>∃ k:Nat,k≤N∧i=.int .i64 (y.now+(k:Int))∧bP y ps a need long N y.now=bP y ps a need long (N - k) (y.now+(k:Int))∧Ext W1 w') (fun i _=>(last+1 - intOf i).toNat);case atStart=>exact ⟨0,Nat.zero_le _,by simp,by simp,Ext.refl _⟩
 case round =>
  obtain ⟨k,hk,rfl,heq,hx⟩:=hrel;have HE:=ah heq;have HX:=ah hx;have hNN:=HN.out;clear heq hx;by_cases hlt:k < N
  · have hle:y.now+(k:Int)≤last:=by omega
    have hk2:(k:Int)≤1000050:=by omega
    have hN2:N - k=(N - (k+1))+1:=by omega
    have HE2:Hid (bP y ps a need long N y.now=bP y ps a need long ((N - (k+1))+1) (y.now+(k:Int))):=ah (by rw [HE.out,hN2]);clear hNN hN2;go_upto_region 5 with (fail)
    obtain ⟨W4,B4,aX,aT,aj,fQ⟩:=iK wr #[] 2;rw [← aX,← aT];have XW4:=ah aj;have QB4:=ah fQ;have EB4:=ah aT;clear aX aT aj fQ;obtain ⟨wq,hwq⟩:∃ q,q=wr:=⟨_,rfl⟩
    subst hwq;have cl1:∀ V,Ext W4 V→∀ i,V.cell? ⟨B,i,none⟩=_:=fun V hV=>(HB.out.ext (FZ.out.trans (HX.out.trans (XW4.out.trans hV)))).cell;have ll1:∀ V,Ext W4 V→∀ i,V.cell? ⟨B1,i,none⟩=_:=fun V hV=>(QB1.out.ext (HX.out.trans (XW4.out.trans hV))).cell;go_region_held3 (fun w'=>Ext W4 w') (first | exact Ext.refl _ | exact (Ext.refl _).drew | assumption | exact Ext.trans (by assumption) eu) (first | (go_at_call 113;(with_reducible refine (HCF.out _ (FZ.out.trans (HX.out.trans (XW4.out.trans (by first | exact Ext.refl _ | exact (Ext.refl _).drew | assumption))))).mono ?_);rintro e w8 ⟨u8,G8,rfl,q8,g8,eu⟩;obtain ⟨A8,c8,rfl,-⟩:=aW.form q8));have X8:Hid (Ext W4 w8):=ah (by assumption);have Q8:=ah q8;have HF0:Hid (∀ b∈G8,w.heap.size≤b):=ah fun b hb=>Nat.le_trans (FZ.out.trans (HX.out.trans XW4.out)).size (Nat.le_trans (Nat.le_of_eq rfl) (g8 b hb));have HG:=ah g8;have HB4:Hid (w.heap.size≤B4):=ah (by rw [EB4.out];exact (FZ.out.trans HX.out).size);clear q8 g8 eu cl1 ll1;try clear hHeld
    obtain ⟨A8',c8',hv8,l8,m8,hk8⟩:=Q8.out.rd.open_;injection hv8 with e1 e2 e3
    subst e1 e3;clear e2;unfold maxLen at m8;have HK8:=ah hk8;clear hk8;have HG4:Hid (∀ b∈[B4],b∉G8):=ah fun b hb hg=>by
     rw [List.mem_singleton.1 hb] at hg;have h1:=HG.out B4 hg;have h2:=QB4.out.lt;have h3:W4.drew.heap.size=W4.heap.size:=rfl;omega
    go_wp2_with fail;go_loopw [13,35] (fun v i w'=>∃ (j:Nat) (F:List Nat),j≤cl.length∧i=.int .i64 j∧aW jD 2 w' v ((cl.take j).filter fun n=>jC (kU (bg y) n) ps n ⟨y.now+(k:Int),y.now+(k:Int)+1+long⟩) F∧(∀ b∈F,w.heap.size≤b)∧(∀ b∈F,b∉G8)∧(∀ b∈G8,w'.heap[b]? = w8.heap[b]?)∧w8.heap.size≤w'.heap.size∧Ext wq w'∧∀ b∈F,wq.heap.size≤b) (fun _ i _=>cl.length - (intOf i).toNat);case atStart=>exact ⟨0,[B4],Nat.zero_le _,rfl,.inr ⟨B4,0,#[],[],rfl,QB4.out.ext X8.out,Nat.le_refl _,Nat.zero_le _,rfl,rfl,rfl,by simp,fun k hk=>absurd hk (Nat.not_lt_zero _)⟩,fun b hb=>by rw [List.mem_singleton.1 hb];exact HB4.out,HG4.out,fun _ _=>rfl,Nat.le_refl _,XW4.out.trans X8.out,fun b hb=>by rw [List.mem_singleton.1 hb,EB4.out];exact Nat.le_refl _⟩
    case round =>
     obtain ⟨j,F,hj,rfl,hown,hF,hFG,hkp,hsz,hxw,hfw⟩:=hrel;have HO1:=ah hown;have FD:=ah hF;have HFG:=ah hFG;have lJ:=ah hkp;have HSZ:=ah hsz;have Om:=ah hxw;have LF:=ah HO1.out.lt;have HFW:=ah hfw;clear hown hF hFG hkp hsz hxw hfw;by_cases hjl:j < cl.length
     · obtain ⟨b,q,cs',rfl,hbG,⟨rfl,hfit⟩,hc⟩:=HK8.out j hjl;have c0:=(World.cell?_of_block (lJ.out b hbG)).trans (hc 0 _ rfl);simp only [fC,Nat.mul_one,Nat.add_zero] at c0;have lM:=ah hfit;have HM:Hid (nth cl j∈cl):=ah (bG hjl);obtain ⟨r,hr⟩:∃ r,jC (kU (bg y) (nth cl j)) ps (nth cl j) ⟨y.now+(k:Int),y.now+(k:Int)+1+long⟩=r:=⟨_,rfl⟩
       have HRR:=ah hr;have HCI:Hid (∀ V,Ext wr V→Calls prog 122 #[.pointer (some ⟨B,0,none⟩),.slice As (bg y).length cs,.int .i64 (nth cl j),.agg #[.int .i64 (y.now+(k:Int)),.int .i64 (y.now+(k:Int)+1+long)]] V fun e w'=>e=.returned (.bool r)∧Ext V w'):=ah fun V hV=>by rw [← hr];exact HIF.out V (FZ.out.trans (HX.out.trans (Om.out.trans hV))) (nth cl j) ⟨y.now+(k:Int),y.now+(k:Int)+1+long⟩ HM.out
       have wu:Hid (((cl.take j).filter fun n=>jC (kU (bg y) n) ps n ⟨y.now+(k:Int),y.now+(k:Int)+1+long⟩).length≤6):=ah (Nat.le_trans (List.length_filter_le _ _) (by rw [List.length_take];have:=HCL.out;omega));have hw1:IntKind.i64.wrap (y.now+(k:Int)+1)=y.now+(k:Int)+1:=IntWalk.i64_in _ (by omega);have hw2:IntKind.i64.wrap (y.now+(k:Int)+1+long)=y.now+(k:Int)+1+long:=IntWalk.i64_in _ (by omega);have b8:wr.cell? ⟨B,8,none⟩=some (.slice As (bg y).length cs):=(HB.out.ext (FZ.out.trans (HX.out.trans Om.out))).cell 8;clear hr hc hfit;cases r with
       | true =>
         have HT:=ah (afo (y:=y) (ps:=ps) hjl HRR.out);go_wp2_with (first
          | (go_at_call 122;(with_reducible refine (HCI.out _ (Ext.refl _)).mono ?_);rintro e wr6 ⟨rfl,hx6⟩;have X6:=ah hx6;clear hx6)
          | (at_builtin;refine bM (O:=jD) (T:=2) (l:=(cl.take j).filter fun n=>jC (kU (bg y) n) ps n ⟨y.now+(k:Int),y.now+(k:Int)+1+long⟩) (F:=F) (G:=[]) (y:=nth cl j) rfl _ _ 74 rfl (.int .i64 0) 1 8 underlying74 (by kernel_rfl) rfl rfl rfl (HO1.out.ext (X6.out.alloc _)) _ 0 1 rfl ⟨⟨rfl,lM.out⟩,rfl⟩ (aF.new _ _ _).range (by simpa using HO1.out.nodup) (by have:=wu.out;omega) (by decide) ?_;intro v' w9 F' how hkp hF';have HOW:=ah how;have Uo:=ah hkp;have uT:=ah hF';clear how hkp hF'))
         have XA:Hid (Ext wr (wr6.alloc (.cells #[.int .i64 (nth cl j)] 2))):=ah (X6.out.alloc _);refine ⟨⟨j+1,F',by omega,by go_num,by rw [HT.out];exact HOW.out,fun b hb=>match uT.out b hb with | .inl h=>FD.out b h | .inr (.inl h)=>absurd h (by simp) | .inr (.inr h)=>Nat.le_trans (FZ.out.trans (HX.out.trans (Om.out.trans XA.out))).size h,fun b hb hg=>?_,fun b hb=>?_,Nat.le_trans HSZ.out (Nat.le_trans XA.out.size Uo.out.size),Uo.out.ext (Om.out.trans XA.out) (fun b hb=>HFW.out b hb),fun b hb=>match uT.out b hb with | .inl h=>HFW.out b h | .inr (.inl h)=>absurd h (by simp) | .inr (.inr h)=>Nat.le_trans (Om.out.trans XA.out).size h⟩,?_⟩
         · rcases uT.out b hb with h | h | h
           · exact HFG.out b h hg
           · exact absurd h (by simp)
           · have h1:=Q8.out.lt b hg;have h2:=XA.out.size;have h3:=HSZ.out;omega
         · have h1:=Q8.out.lt b hb;have h2:=HSZ.out;rw [Uo.out.block b (by have:=XA.out.size;omega) (fun hm=>HFG.out b hm hb),Below.block XA.out b (by omega)];exact lJ.out b hb
         · simp [intOf];omega
       | false =>
         have HT:=ah (agW (y:=y) (ps:=ps) hjl HRR.out);go_wp2_with (go_at_call 122;(with_reducible refine (HCI.out _ (Ext.refl _)).mono ?_);rintro e w6 ⟨rfl,hx6⟩;have X6:=ah hx6;clear hx6)
         (refine ⟨⟨j+1,F,by omega,by go_num,by rw [HT.out];exact HO1.out.ext X6.out,FD.out,HFG.out,fun b hb=>(Below.block X6.out b (by have:=Q8.out.lt b hb;have:=HSZ.out;omega)).trans (lJ.out b hb),Nat.le_trans HSZ.out X6.out.size,Om.out.trans X6.out,HFW.out⟩,?_⟩;simp [intOf];omega)
     · obtain rfl:j=cl.length:=by omega
       rw [List.take_length] at HO1;obtain ⟨fl,hfl⟩:∃ fl,(cl.filter fun n=>jC (kU (bg y) n) ps n ⟨y.now+(k:Int),y.now+(k:Int)+1+long⟩)=fl:=⟨_,rfl⟩
       have Oq:Hid (rV y ps a ⟨y.now+(k:Int),y.now+(k:Int)+1+long⟩=fl):=ah (by rw [rV,HCE.out,hfl]);rw [hfl] at HO1;clear hfl;obtain ⟨A9,c9,rfl,l9,m9⟩:=HO1.out.form;unfold maxLen at m9;by_cases hge:need≤(fl.length:Int)
       · have hn63:(need.toNat:Int)=need:=by omega
         have atM:need≤(c9:Int):=by omega
         have agE:Hid (bP y ps a need long N y.now=some (y.now+(k:Int),fl.take need.toNat)):=ah (by rw [HE2.out,Ny (by rw [Oq.out];exact hge),Oq.out]);go_wp2_with fail;have hnn:(0:Int)≤need:=by omega
         refine ak (by kernel_rfl) (by kernel_rfl) ?_;repeat (
          (refine wpQuiet_step (fun K hK=>?_)
           go_simp;first
            | (refine hK _ ?_;clear hK K)
            | (apply Exists.intro
               refine ⟨fun bH aj=>?_,hK _ ?_⟩
               · first | exact rfl | (go_simp;done) | (go_simp;exact rfl)
               clear hK K)))
         refine wpQuiet_nil ?_;intro w1 hx1;have H9:=ah hx1;clear hx1;go_wp2_with fail;go_ret2;obtain ⟨F2,o2,f2⟩:=HO1.out.take (n:=need.toNat) (by omega) _ _ rfl;rw [agE.out];exact ⟨_,F2,rfl,o2.ext H9.out,fun b hb=>FD.out b (f2 b hb),(FZ.out.trans (HX.out.trans Om.out)).trans H9.out⟩
       · have agE:Hid (bP y ps a need long N y.now=bP y ps a need long (N - (k+1)) (y.now+((k+1:Nat):Int))):=ah (by rw [HE2.out,Jm (by rw [Oq.out];exact hge)];congr 1;omega);have hlt':(fl.length:Int) < need:=by omega
         go_wp2_with fail;go_roundw;case rel=>exact ⟨k+1,by omega,by go_num,agE.out,HX.out.trans Om.out⟩
         case measure=>simp [intOf];omega
  · have hk0:k=N:=by omega
    have hgt:last < y.now+(k:Int):=by omega
    go_wp2_with fail;go_ret2;have hes:bP y ps a need long N y.now=none:=by rw [HE.out,hk0,Nat.sub_self];rfl
    rw [hes];exact ⟨_,[],rfl,aW.nil _,fun b hb=>absurd hb (by simp),FZ.out.trans HX.out⟩
theorem aW.tag {α:Type} [Inhabited α] {E:Elem α} {hfl:∀ {S S':Nat→Prop} {w w':World} {cs x},E.rel S w cs x→E.rel S' w' cs x} {T:TypeId} {w:World} {v:Value} {l:List α} {F:List Nat} (h:aW (lF E hfl) T w v l F):∀ b∈F,∃ C,aF w b T C:=fun b hb=>by
 rcases h with ⟨rfl,rfl,_⟩ | ⟨B',c',C,Fs,hv,hB,h1,h2,h3,hlF,rfl,hnd,hall⟩
 · simp at hb
 · have he:Fs.flatten = []:=List.flatten_eq_nil_iff.2 fun G hG=>by
    obtain ⟨i,hi,rfl⟩:=List.getElem_of_mem hG;obtain ⟨cs,ho,_⟩:=hall i (by omega);rw [← aO hi];exact ho.2
   rw [he] at hb;rw [List.mem_singleton.1 hb];exact ⟨C,hB⟩
theorem aW.apart {α:Type} [Inhabited α] {E:Elem α} {hfl:∀ {S S':Nat→Prop} {w w':World} {cs x},E.rel S w cs x→E.rel S' w' cs x} {T T':TypeId} {w:World} {v:Value} {l:List α} {F:List Nat} (h:aW (lF E hfl) T w v l F) {b:Nat} {C:Array Value} (hb:aF w b T' C) (hne:T'≠T):b∉F:=fun hm=>by
 obtain ⟨C',h'⟩:=h.tag b hm;unfold aF at hb h';rw [hb] at h';injection h' with h'
 injection h' with _ h2
 exact hne h2
theorem KC {w:World} {B:Nat} {T:TypeId} {a0 a1 a2 a3 a4 a5 a6:Value} (h:aF w B T #[a0,a1,a2,a3,a4,a5,a6]) (u0 u1 u2 u3 u4 u5 u6:Value) :
 aF (((((((w.setCell ⟨B,0,none⟩ u0).setCell ⟨B,1,none⟩ u1).setCell ⟨B,2,none⟩ u2).setCell ⟨B,3,none⟩ u3).setCell ⟨B,4,none⟩ u4).setCell ⟨B,5,none⟩ u5).setCell ⟨B,6,none⟩ u6) B T #[u0,u1,u2,u3,u4,u5,u6]:=by
 simpa using ((((((h.bQ 0 u0).bQ 1 u1).bQ 2 u2).bQ 3 u3).bQ 4 u4).bQ 5 u5).bQ 6 u6
theorem Ii (w:World) (B:Nat) (u0 u1 u2 u3 u4 u5 u6:Value) :
 Kept [B] w (((((((w.setCell ⟨B,0,none⟩ u0).setCell ⟨B,1,none⟩ u1).setCell ⟨B,2,none⟩ u2).setCell ⟨B,3,none⟩ u3).setCell ⟨B,4,none⟩ u4).setCell ⟨B,5,none⟩ u5).setCell ⟨B,6,none⟩ u6) :=
 Kept.setCell (Kept.setCell (Kept.setCell (Kept.setCell (Kept.setCell (Kept.setCell (Kept.setCell (Kept.refl _ _) (by simp) _) (by simp) _) (by simp) _) (by simp) _) (by simp) _) (by simp) _) (by simp) _
theorem aaq {now e:Int} {l:List Span} {j:Nat} (hj:j < l.length) (h:now < (nth l j).from_):iG now (l.take (j+1)) e=min (iG now (l.take j) e) (nth l j).from_:=by
 rw [aV hj,iG,List.foldl_append];simp [h,iG]
theorem acp {now e:Int} {l:List Span} {j:Nat} (hj:j < l.length) (h:¬ now < (nth l j).from_):iG now (l.take (j+1)) e=iG now (l.take j) e:=by
 rw [aV hj,iG,List.foldl_append];simp [h,iG]
theorem TL {y:aK} {ps:List Place} {l:List Int} {k:Nat} (hk:k < l.length) (e:Int):iZ y ps (l.take (k+1)) e=iG y.now (kT (kU (dF y) (nth l k)) ps (nth l k)) (iZ y ps (l.take k) e):=by
 rw [aV hk,iZ,List.foldl_append];rfl
theorem aey {S S' S2:Nat→Prop} (y:aK) (ps:List Place) (t:Task) (v1 v2 v3 v4 v5 v6 vs vh vp:Value) (ct:List Value) (B:Nat) (w:World) (hB:Uh w B y v1 v2 v3 v4 v5 v6 vs vh vp) (hr:PlR S w y v1 v2 v3 v4 v5 v6 vs vh) (hp:Rd dG S' w vp ps)
 (ht:ETask.rel S2 w ct t) (ho:CW y) (hl:ps.length≤100000) (hn:∀ n∈t.nodes,0≤n∧n.toNat < y.config.nodes.length) (hf:t.nodes.length≤6) (hs:0≤t.start∧t.start≤1000000) (hg:1≤t.long∧t.long≤20) :
 Calls prog 218 #[.pointer (some ⟨B,0,none⟩),.agg ct.toArray] w fun e w'=>∃ (A:Option Addr) (n c:Nat) (F:List Nat),e=.returned (.agg (bY (lI y ps t) (.slice A n c)).toArray)∧aW jD 2 w' (.slice A n c) t.nodes F∧(∀ b∈F,w.heap.size≤b)∧Ext w w':=by
 have HB:=ah hB;have HR:=ah hr;have HP:=ah hp;have HO:=ah ho;obtain ⟨Ah,ch,rfl,-⟩:=hr.rh.form;have Ib:=ho.now;obtain ⟨u,rfl,ft,hrd⟩:=ht;obtain ⟨A,c,rfl,l1,m1⟩:=hrd.form;have HT:=ah (show ETask.rel S2 w (aB t (.slice A t.nodes.length c)) t from ⟨_,rfl,ft,hrd⟩);have uQ:=ah hrd;have yC:=ah ft;have Xw:=ah hf;have zW:=ah hn;have HSL:=ah hs;have HGL:=ah hg;clear hB hr hp ho ft hrd hf hn;simp only [aB] at HT ⊢;go_enter func218,ntmps218;go_upto_region 1 with (fail)
 obtain ⟨W,B1,hW,hB1,hx0,a0,b0⟩:=eY w (Rt t (.slice A t.nodes.length c)) #[.int .i64 0,.int .i64 0,.int .i64 0,.int .i64 0,.int .i64 0,.bool false,.slice none 0 0] 76 78;rw [← hW,← hB1];have X:=ah hx0;have Q1:=ah a0;have Q2:=ah b0;have EB1:=ah hB1;clear hW hB1 hx0 a0 b0;have tl:∀ V,Ext W V→∀ i,V.cell? ⟨B1,i,none⟩=_:=fun V hV=>(Q1.out.ext hV).cell;have bl:∀ V,Ext W V→∀ i,V.cell? ⟨B,i,none⟩=_:=fun V hV=>(HB.out.ext (X.out.trans hV)).cell;have FK:Hid (∀ V,Ext W V→Calls prog 68 #[.agg (Rt t (.slice A t.nodes.length c))] V fun e w'=>e=.returned (.int .i64 (endOf t))∧Ext V w'):=ah fun V hV=>zQ (S:=S2) t _ V (ETask.keep ((X.out.trans hV).same _) HT.out) HSL.out.1 HSL.out.2 HGL.out.1 HGL.out.2;have abm:Hid (∀ V,Ext W V→Calls prog 220 #[.slice A t.nodes.length c] V (kX jD 2 t.nodes V)):=ah fun V hV=>sQ (S:=S2) t.nodes _ V (uQ.out.ext (X.out.trans hV)) (by have:=Xw.out;omega);clear hs hg Ib l1 m1;go_cut [5] (fun u wc=>∃ (Bx:Nat) (A9:Option Addr) (n9 c9:Nat) (G9:List Nat),u=.pointer (some ⟨Bx,0,none⟩)∧aF wc Bx 78 #[t.label.level,t.label.set,t.id,y.now,.int .i64 (endOf t),.bool true,.slice A9 n9 c9]∧aW jD 2 wc (.slice A9 n9 c9) t.nodes G9∧(∀ b∈G9,W.heap.size≤b)∧Bx∉G9∧W.heap.size≤Bx∧Ext W wc);case first =>
  go_region_held3 (fun w'=>Ext W w') (repeat (first | with_reducible assumption | with_reducible exact Ext.refl _ | with_reducible refine Ext.alloc ?_ _ | with_reducible refine Ext.drew ?_ | with_reducible refine Ext.setCell ?_ (by first | exact Nat.le_refl _ | exact Ext.size (by assumption) | (simp;done) | (simp;omega) | (show _≤_;omega)) _ | with_reducible refine Ext.trans ?_ eu | with_reducible refine Ext.trans ?_ jO)) (first | (go_at_call 68;(with_reducible refine (FK.out _ (by repeat (first | with_reducible assumption | with_reducible exact Ext.refl _ | with_reducible refine Ext.alloc ?_ _ | with_reducible refine Ext.drew ?_ | with_reducible refine Ext.setCell ?_ (by first | exact Nat.le_refl _ | exact Ext.size (by assumption) | (simp;done) | (simp;omega) | (show _≤_;omega)) _ | with_reducible refine Ext.trans ?_ eu | with_reducible refine Ext.trans ?_ jO))).mono ?_);rintro e w8 ⟨rfl,eu⟩;(first | ((first | (with_reducible have bxx:=Ed (bw:=W) eu (by repeat (first | with_reducible assumption | with_reducible exact Ext.refl _ | with_reducible refine Ext.alloc ?_ _ | with_reducible refine Ext.drew ?_ | with_reducible refine Ext.setCell ?_ (by first | exact Nat.le_refl _ | exact Ext.size (by assumption) | (simp;done) | (simp;omega) | (show _≤_;omega)) _ | with_reducible refine Ext.trans ?_ jO))) | (with_reducible have bxx:=KE (bw:=W) eu (by repeat (first | with_reducible assumption | with_reducible exact Ext.refl _ | with_reducible refine Ext.alloc ?_ _ | with_reducible refine Ext.drew ?_ | with_reducible refine Ext.setCell ?_ (by first | exact Nat.le_refl _ | exact Ext.size (by assumption) | (simp;done) | (simp;omega) | (show _≤_;omega)) _ | with_reducible refine Ext.trans ?_ jO))));(try simp only [Gu] at bxx);obtain ⟨bx,bh,bl⟩:=bxx;have bc:=bx.cell;have bf:=bx.frozen;have BX:=ah bx;have BH:=ah bh;clear bx bl) | ((first | (with_reducible have bx:=aF.ext BX.out eu) | (have bx:=aF.ext (aF.ext BX.out (Ext.refl _).drew) eu));clear bc bf;have bc:=bx.cell;have bf:=bx.frozen;have BX:=ah bx;clear bx) | skip)) | (go_at_call 220;(with_reducible refine (abm.out _ (by repeat (first | with_reducible assumption | with_reducible exact Ext.refl _ | with_reducible refine Ext.alloc ?_ _ | with_reducible refine Ext.drew ?_ | with_reducible refine Ext.setCell ?_ (by first | exact Nat.le_refl _ | exact Ext.size (by assumption) | (simp;done) | (simp;omega) | (show _≤_;omega)) _ | with_reducible refine Ext.trans ?_ eu | with_reducible refine Ext.trans ?_ jO))).mono ?_);rintro e w9 ⟨u9,G9,rfl,q9,g9,jO⟩;obtain ⟨A9,c9,rfl,-⟩:=aW.form q9;(first | ((first | (with_reducible have bxx:=Ed (bw:=W) jO (by repeat (first | with_reducible assumption | with_reducible exact Ext.refl _ | with_reducible refine Ext.alloc ?_ _ | with_reducible refine Ext.drew ?_ | with_reducible refine Ext.setCell ?_ (by first | exact Nat.le_refl _ | exact Ext.size (by assumption) | (simp;done) | (simp;omega) | (show _≤_;omega)) _ | with_reducible refine Ext.trans ?_ eu))) | (with_reducible have bxx:=KE (bw:=W) jO (by repeat (first | with_reducible assumption | with_reducible exact Ext.refl _ | with_reducible refine Ext.alloc ?_ _ | with_reducible refine Ext.drew ?_ | with_reducible refine Ext.setCell ?_ (by first | exact Nat.le_refl _ | exact Ext.size (by assumption) | (simp;done) | (simp;omega) | (show _≤_;omega)) _ | with_reducible refine Ext.trans ?_ eu))));(try simp only [Gu] at bxx);obtain ⟨bx,bh,bl⟩:=bxx;have bc:=bx.cell;have bf:=bx.frozen;have BX:=ah bx;have BH:=ah bh;clear bx bl) | ((first | (with_reducible have bx:=aF.ext BX.out jO) | (have bx:=aF.ext (aF.ext BX.out (Ext.refl _).drew) jO));clear bc bf;have bc:=bx.cell;have bf:=bx.frozen;have BX:=ah bx;clear bx) | skip)))
  · go_wp2_with fail;go_meet;exact ⟨_,A9,_,c9,G9,rfl,aF.new _ _ _,q9.ext ((Ext.refl _).alloc _),fun b hb=>Nat.le_trans (Ext.size (((Ext.refl W).drew).trans eu)) (g9 b hb),fun hm=>absurd (q9.lt _ hm) (Nat.lt_irrefl _),Ext.size ((((Ext.refl W).drew).trans eu).trans jO),by assumption⟩
  · go_wp2_with fail;go_meet;have hna:=q9.apart BX.out (by decide);exact ⟨_,A9,_,c9,G9,rfl,KC BX.out _ _ _ _ _ _ _,q9.kept (Ii _ _ _ _ _ _ _ _ _) (fun b hb hm=>hna (by rw [List.mem_singleton.1 hm] at hb;exact hb)),fun b hb=>Nat.le_trans (Ext.size ((((Ext.refl W).drew).trans eu).alloc _)) (g9 b hb),hna,bh,by assumption⟩
  · go_wp2_with fail;go_meet;have hna:=q9.apart BX.out (by decide);exact ⟨_,A9,_,c9,G9,rfl,KC BX.out _ _ _ _ _ _ _,q9.kept (Ii _ _ _ _ _ _ _ _ _) (fun b hb hm=>hna (by rw [List.mem_singleton.1 hm] at hb;exact hb)),fun b hb=>Nat.le_trans (Ext.size ((((Ext.refl W).alloc _).drew).trans eu)) (g9 b hb),hna,Nat.le_refl _,by assumption⟩
 case rest =>
  generalize wc=W5 at hcut ⊢;obtain ⟨Bx,A9,n9,c9,G9,rfl,hbx,q9,g9,hna,hbw,jO⟩:=hcut;have HBX:=ah hbx;have Q9:=ah q9;have G9h:=ah g9;have HNA:=ah hna;have HBW:=ah hbw;have X9:=ah jO;have c11:W5.cell? ⟨B1,13,none⟩=some (.slice A t.nodes.length c):=(Q1.out.ext jO).cell 13;clear hbx q9 g9 hna hbw jO tl bl;obtain ⟨A',c',hv',l1,m1,hk⟩:=uQ.out.open_;injection hv' with e1 e2 e3
  subst e1 e3;clear e2;unfold maxLen at m1;have HK:=ah hk;clear hk;go_wp2_with fail;clear c11;go_loopw [28] (fun i w'=>∃ k:Nat,k≤t.nodes.length∧i=.int .i64 k∧aF w' Bx 78 #[t.label.level,t.label.set,t.id,y.now,.int .i64 (iZ y ps (t.nodes.take k) (endOf t)),.bool true,.slice A9 n9 c9]∧Kept [Bx] W5 w') (fun i _=>t.nodes.length - (intOf i).toNat);case atStart=>exact ⟨0,Nat.zero_le _,rfl,by simpa [iZ] using HBX.out,Kept.refl _ _⟩
  case round =>
   obtain ⟨k,hk1,rfl,hb,hkp⟩:=hrel;have HB2:=ah hb;have lJ:=ah hkp;clear hb hkp;by_cases hlt:k < t.nodes.length
   · obtain ⟨b,q,cs,rfl,hbS,⟨rfl,hfit⟩,hc⟩:=HK.out k hlt;have c0:=hc 0 _ rfl;simp only [fC,Nat.mul_one,Nat.add_zero] at c0;have hxr:Ext w wr:=Kept.ext (X.out.trans X9.out) lJ.out (fun b hb=>by rw [List.mem_singleton.1 hb];exact Nat.le_trans X.out.size HBW.out);have HX:=ah hxr;replace c0:=Ext.some hxr c0;have b9:wr.cell? ⟨B,9,none⟩=some (.slice Ah (dF y).length ch):=(HB.out.ext hxr).cell 9;have HM:Hid (0≤nth t.nodes k∧(nth t.nodes k).toNat < y.config.nodes.length):=ah (zW.out _ (bG hlt));have XF:Hid (Calls prog 225 #[.pointer (some ⟨B,0,none⟩),.slice Ah (dF y).length ch,.int .i64 (nth t.nodes k)] wr (kX ji 142 (kT (kU (dF y) (nth t.nodes k)) ps (nth t.nodes k)) wr)):=ah (EM (S:=S) (S':=S') (dF y) ps (nth t.nodes k) _ vp B wr (HR.out.rh.ext hxr) (HP.out.ext hxr) ((HB.out.ext hxr).cell 10) HM.out.1 (by rw [HO.out.h];exact HM.out.2) HO.out.fh hl);obtain ⟨oc,hoc⟩:∃ oc,kT (kU (dF y) (nth t.nodes k)) ps (nth t.nodes k)=oc:=⟨_,rfl⟩
     have HOE:=ah hoc;rw [hoc] at XF;clear hc hfit hxr hoc;go_wp2_with (go_at_call 225;(with_reducible refine XF.out.mono ?_);rintro e w10 ⟨u10,Ul,rfl,q10,g10,gq⟩;obtain ⟨yB,c10,rfl,-⟩:=aW.form q10;have Q10:=ah q10;have Rx:=ah gq;clear q10 g10 gq);obtain ⟨e0,he0⟩:∃ e0,iZ y ps (t.nodes.take k) (endOf t)=e0:=⟨_,rfl⟩
     have HE0:Hid (iZ y ps (t.nodes.take (k+1)) (endOf t)=iG y.now oc e0):=ah (by rw [TL hlt,HOE.out,he0]);rw [he0] at HB2;have akI:=ah (lJ.out.trans (Kept.dw (F:=[Bx]) Rx.out));obtain ⟨A11,c11,wZ,l11,m11,JJ⟩:=Q10.out.rd.open_;injection wZ with e1 e2 e3
     subst e1 e3;clear e2;unfold maxLen at m11;have an0:=ah JJ;have akF:=ah (HB2.out.ext Rx.out);have afN:Hid (∀ b∈Ul,b≠Bx):=ah fun b hb he=>Q10.out.apart akF.out (by decide) (he ▸ hb);clear JJ he0 b9 c0;go_loopw [40] (fun i w'=>∃ j:Nat,j≤oc.length∧i=.int .i64 j∧aF w' Bx 78 #[t.label.level,t.label.set,t.id,y.now,.int .i64 (iG y.now (oc.take j) e0),.bool true,.slice A9 n9 c9]∧Kept [Bx] w10 w') (fun i _=>oc.length - (intOf i).toNat);case atStart=>exact ⟨0,Nat.zero_le _,rfl,akF.out,Kept.refl _ _⟩
     case round =>
      obtain ⟨j,hj1,rfl,hb2,pV⟩:=hrel;have HB3:=ah hb2;have Uo:=ah pV;clear hb2 pV;by_cases hlj:j < oc.length
      · obtain ⟨b',q',cs',rfl,hbG,⟨rfl,hfit⟩,hc⟩:=an0.out j hlj;have c0:=Uo.out.cell (by simp;exact afN.out b' hbG) (hc 0 _ rfl);have c1:=Uo.out.cell (by simp;exact afN.out b' hbG) (hc 1 _ rfl);simp only [dM,Nat.add_zero] at c0 c1;have HFS:=ah hfit;clear hc hfit;go_upto_region 8 with (fail)
        obtain ⟨W6,B6,aX,aT,aj,fQ⟩:=iK wr (Rs (nth oc j)) 142;rw [← aX,← aT];have XW6:=ah aj;have QB6:=ah fQ;have EB6:=ah aT;clear aX aT aj fQ;have HKW:=ah (Uo.out.trans (Kept.dw (F:=[Bx]) XW6.out));have s0:=QB6.out.cell 0;have b7:W6.cell? ⟨B,7,none⟩=some (.int .i64 y.now):=(HB.out.ext (Kept.ext (X.out.trans X9.out) (akI.out.trans HKW.out) (fun b hb=>by rw [List.mem_singleton.1 hb];exact Nat.le_trans X.out.size HBW.out))).cell 7;simp only [List.getElem?_toArray,List.getElem?_cons_zero] at s0;clear c0 c1;refine ak (by kernel_rfl) (by kernel_rfl) ?_;repeat (
         (refine wpQuiet_step (fun K hK=>?_)
          go_simp;first
           | (refine hK _ ?_;clear hK K)
           | (apply Exists.intro
              refine ⟨fun bH aj=>?_,hK _ ?_⟩
              · have aud:=Ext.some aj s0;have atf:=Ext.some aj b7;first | exact rfl | (go_simp;done) | (go_simp;exact rfl)
              clear hK K)))
        refine wpQuiet_nil ?_;intro w1 hx1;have XW7:=ah hx1;have d0:=Ext.some hx1 s0;have d4:=((HB3.out.ext XW6.out).ext hx1).cell 4;have f4:=((HB3.out.ext XW6.out).ext hx1).frozen 4;have HB4:=ah ((HB3.out.ext XW6.out).ext hx1);clear s0 b7 hx1;by_cases hgt:y.now < (nth oc j).from_
        · have HS:=ah (aaq (e:=e0) hlj hgt);go_wp2_with fail;go_roundw;case rel=>exact ⟨j+1,by omega,by go_num,by rw [HS.out];simpa using HB4.out.bQ 4 _,Kept.setCell (HKW.out.trans (Kept.dw XW7.out)) (by simp) _⟩
          case measure=>simp [intOf];omega
        · have HS:=ah (acp (e:=e0) hlj hgt);go_wp2_with fail;go_roundw;case rel=>exact ⟨j+1,by omega,by go_num,by rw [HS.out];exact HB4.out,HKW.out.trans (Kept.dw XW7.out)⟩
          case measure=>simp [intOf];omega
      · obtain rfl:j=oc.length:=by omega
        rw [List.take_length] at HB3;go_wp2_with fail;go_roundw;case rel=>exact ⟨k+1,by omega,by go_num,by rw [HE0.out];exact HB3.out,akI.out.trans Uo.out⟩
        case measure=>simp [intOf];omega
   · obtain rfl:k=t.nodes.length:=by omega
     rw [List.take_length] at HB2;have b0:=HB2.out.cell;have hBx1:B1+1≠Bx:=fun h=>by have h1:=Q2.out.lt;have h2:=HBW.out;omega
     have QR:Hid (aF wr (B1+1) 78 #[.int .i64 0,.int .i64 0,.int .i64 0,.int .i64 0,.int .i64 0,.bool false,.slice none 0 0]):=ah ((lJ.out.block (B1+1) (Q2.out.ext X9.out).lt (by simp;exact hBx1)).trans (Q2.out.ext X9.out));have z0:=QR.out.cell;have zf:=QR.out.frozen;go_wp2_with fail;have hkw:=Ii wr (B1+1) (.int .i64 t.label.level) (.int .i64 t.label.set) (.int .i64 t.id) (.int .i64 y.now) (.int .i64 (iZ y ps t.nodes (endOf t))) (.bool true) (.slice A9 n9 c9);have hxr:Ext w wr:=Kept.ext (X.out.trans X9.out) lJ.out (fun b hb=>by rw [List.mem_singleton.1 hb];exact Nat.le_trans X.out.size HBW.out);have q9r:aW jD 2 wr (.slice A9 n9 c9) t.nodes G9:=Q9.out.kept lJ.out (fun b hb hm=>HNA.out (by rw [List.mem_singleton.1 hm] at hb;exact hb));exact bodyPost_ret (v:=.agg #[t.label.level,t.label.set,t.id,y.now,.int .i64 (iZ y ps t.nodes (endOf t)),.bool true,.slice A9 n9 c9])
      (fB results218 rfl (KC QR.out _ _ _ _ _ _ _) underlying78 rfl (by kernel_rfl)) rfl
      ⟨A9,n9,c9,G9,rfl,q9r.kept hkw (fun b hb hm=>q9r.apart QR.out (by decide) (by rw [List.mem_singleton.1 hm] at hb;exact hb)),fun b hb=>Nat.le_trans X.out.size (G9h.out b hb),Kept.ext hxr hkw (fun b hb=>by rw [List.mem_singleton.1 hb];have:=EB1.out;omega)⟩
theorem JL {S:Nat→Prop} (l:List Place) (p:Place→Bool) (v:Value) (f:Nat) (caps:Array Value) (w:World) (h:Rd dG S w v l) (hcall:∀ (args:Array Value) (W:World),(callFunc f args).run prog W=.ok (.enter f args) W)
 (hf:∀ (cs:List Value) (x:Place) (w1:World),Ext w w1→dG.rel S w1 cs x→Calls prog f (#[.agg cs.toArray] ++ caps) w1 fun e w'=>e=.returned (.bool (p x))∧Ext w1 w') :
 Calls prog 159 #[v,.func (.func f) #[] caps] w fun e w'=>e=.returned (.int .i64 (idxOf p l))∧Ext w w':=by
 obtain ⟨A,c,rfl,h1,h2,hk⟩:=h.open_;unfold maxLen at h2;have HK:=ah hk;have HF:=ah hf;clear hk h hf;go_enter func159,ntmps159;go_wp2_with fail;go_loopw [8] (fun i w'=>∃ k:Nat,k≤l.length∧i=.int .i64 k∧(∀ j,j < k→p (nth l j)=false)∧Ext w w') (fun i _=>l.length - (intOf i).toNat);case atStart=>exact ⟨0,by omega,rfl,fun j hj=>by omega,Ext.refl _⟩
 case round =>
  obtain ⟨k,hk1,rfl,hall,hx⟩:=hrel;have HA:=ah hall;have HX:=ah hx;clear hall;by_cases hlt:k < l.length
  · obtain ⟨b,o,cs,rfl,hb,hr,hc⟩:=HK.out k hlt;have HR:=ah (dG.keep (hx.same S) hr);have HC:=ah (hx.range hc);have HI:Hid ((prog.info? 78).map (·.size)=some cs.length):=ah (by rw [dG.len hr];kernel_rfl);clear hr hc hx;by_cases hp:p (nth l k)=true
    · have HE:Hid (idxOf p l=k):=ah (iP hlt HA.out hp);go_wp2_with (first | (refine wpList_load_mid rfl 78 _ rfl b (o+k * 7) rfl cs _ HC.out underlying78 rfl HI.out ?_) | ((with_reducible refine (HF.out cs (nth l k) _ HX.out HR.out).mono ?_);rintro e w1 ⟨rfl,hx1⟩;have jf:=ah hx1;clear hx1));go_ret;exact ⟨aI HE.out.symm,HX.out.trans jf.out⟩
    · simp only [Bool.not_eq_true] at hp;have HE:=ah (all_succ HA.out hp);go_wp2_with (first | (refine wpList_load_mid rfl 78 _ rfl b (o+k * 7) rfl cs _ HC.out underlying78 rfl HI.out ?_) | ((with_reducible refine (HF.out cs (nth l k) _ HX.out HR.out).mono ?_);rintro e w1 ⟨rfl,hx1⟩;have jf:=ah hx1;clear hx1));go_roundw;case rel=>exact ⟨k+1,by omega,by go_num,HE.out,HX.out.trans jf.out⟩
      case measure=>simp [intOf];omega
  · have HE:Hid (idxOf p l = -1):=ah (iO fun j hj=>HA.out j (by omega));go_wp2_with fail;go_ret;exact ⟨aI HE.out.symm,HX.out⟩
theorem EF {S:Nat→Prop} (l:List Place) (p:Place→Bool) (v:Value) (f:Nat) (c1:Value) (w:World) (h:Rd dG S w v l) (hcall:∀ (args:Array Value) (W:World),(callFunc f args).run prog W=.ok (.enter f args) W)
 (hf:∀ (cs:List Value) (x:Place) (w1:World),Ext w w1→dG.rel S w1 cs x→Calls prog f #[.agg cs.toArray,c1] w1 fun e w'=>e=.returned (.bool (p x))∧Ext w1 w') :
 Calls prog 159 #[v,.func (.func f) #[] #[c1]] w fun e w'=>e=.returned (.int .i64 (idxOf p l))∧Ext w w' :=
 JL l p v f #[c1] w h hcall fun cs x w1 hx hr=>by rw [show (#[.agg cs.toArray] ++ #[c1]:Array Value) = #[.agg cs.toArray,c1] from rfl];exact hf cs x w1 hx hr
theorem BU:∀ (args:Array Value) (W:World),(callFunc 275 args).run prog W=.ok (.enter 275 args) W:=by
 intro args W;go_simp
theorem Vt {a:Label} {n:Int} {p:Place}:qj a n p=(decide (p.label.level=a.level) && decide (p.label.set=a.set) && decide (p.id=n)):=by
 obtain ⟨⟨l,s⟩,i,_⟩:=p;obtain ⟨m,t⟩:=a;simp [qj]
theorem Tc {S:Nat→Prop} (p:Place) (a:Label) (n:Int) (cs:List Value) (B:Nat) (w:World) (h:dG.rel S w cs p) (c0:w.cell? ⟨B,0,none⟩=some (.int .i64 a.level)) (c1:w.cell? ⟨B,1,none⟩=some (.int .i64 a.set)) (c2:w.cell? ⟨B,2,none⟩=some (.int .i64 n)) :
 Calls prog 275 #[.agg cs.toArray,.pointer (some ⟨B,0,none⟩)] w fun e w'=>e=.returned (.bool (qj a n p))∧Ext w w':=by
 obtain ⟨v,rfl,hf,hr⟩:=h;obtain ⟨A,c,rfl,-⟩:=hr.form;have d0:=fun ob:Obj=>Ext.some ((Ext.refl w).alloc ob) c0;have d1:=fun ob:Obj=>Ext.some ((Ext.refl w).alloc ob) c1;have d2:=fun ob:Obj=>Ext.some ((Ext.refl w).alloc ob) c2;clear hf hr;simp only [bY];by_cases he:p.label.level=a.level∧p.label.set=a.set
 · obtain ⟨he1,he2⟩:=he;go_enter func275,ntmps275;go_wp2_with fail;all_goals (go_ret;exact ⟨au (by rw [Vt];simp_all <;> (rw [Bool.eq_iff_iff];simp)),(Ext.refl _).alloc _⟩)
 · go_enter func275,ntmps275;go_wp2_with fail;all_goals (go_ret;exact ⟨au (by rw [Vt];simp_all <;> (rw [Bool.eq_iff_iff];simp)),(Ext.refl _).alloc _⟩)
theorem Jd {S S':Nat→Prop} (ps:List Place) (t:Task) (vp:Value) (ct:List Value) (B:Nat) (w:World) (hb:w.cell? ⟨B,10,none⟩=some vp) (hp:Rd dG S w vp ps) (ht:ETask.rel S' w ct t) :
 Calls prog 221 #[.pointer (some ⟨B,0,none⟩),.agg ct.toArray] w fun e w'=>e=.returned (.int .i64 (idxOf (qj t.label t.id) ps))∧Ext w w':=by
 obtain ⟨u,rfl,ft,hrd⟩:=ht;obtain ⟨A,c,rfl,l1,m1⟩:=hrd.form;have HP:=ah hp;have HBC:=ah hb;clear ft hrd l1 m1 hp hb;simp only [aB];go_enter func221,ntmps221;go_upto_region 1 with (fail)
 obtain ⟨W1,B1,aX,aT,aj,fQ⟩:=iK w (Rt t (.slice A t.nodes.length c)) 76;rw [← aX,← aT];have FZ:=ah aj;have QB1:=ah fQ;have EB1:=ah aT;clear aX aT aj fQ;have b10:=Ext.some FZ.out HBC.out;have hcf:=BU;go_wp2_with (go_at_call 159;(with_reducible refine (EF (S:=S) ps (qj t.label t.id) _ _ _ _ (HP.out.ext FZ.out) BU ?hcl).mono ?_);rotate_right;rintro e w8 ⟨rfl,eu⟩;have X8:=ah eu;clear eu);case hcl =>
  intro cs p V hV hp;exact Tc (S:=S) p t.label t.id cs B1 V hp ((QB1.out.ext hV).cell 0) ((QB1.out.ext hV).cell 1) ((QB1.out.ext hV).cell 2)
 go_ret;exact ⟨rfl,FZ.out.trans X8.out⟩
theorem Sj {S S':Nat→Prop} (ps:List Place) (t:Task) (vp:Value) (ct:List Value) (B:Nat) (w:World) (hb:w.cell? ⟨B,10,none⟩=some vp) (hp:Rd dG S w vp ps) (ht:ETask.rel S' w ct t) :
 Calls prog 219 #[.pointer (some ⟨B,0,none⟩),.agg ct.toArray] w fun e w'=>e=.returned (.bool (xU ps t))∧Ext w w':=by
 have Jv:Hid (∀ V,Ext w V→Calls prog 221 #[.pointer (some ⟨B,0,none⟩),.agg ct.toArray] V fun e w'=>e=.returned (.int .i64 (idxOf (qj t.label t.id) ps))∧Ext V w'):=ah fun V hV=>Jd (S:=S) (S':=S') ps t vp ct B V (Ext.some hV hb) (hp.ext hV) (ETask.keep (hV.same _) ht);obtain ⟨u,rfl,ft,hrd⟩:=ht;obtain ⟨A,c,rfl,l1,m1⟩:=hrd.form;clear ft hrd l1 m1 hp hb;simp only [aB] at Jv ⊢;go_enter func219,ntmps219;go_upto_region 1 with (fail)
 obtain ⟨W1,B1,aX,aT,aj,fQ⟩:=iK w (Rt t (.slice A t.nodes.length c)) 76;rw [← aX,← aT];have FZ:=ah aj;have QB1:=ah fQ;have EB1:=ah aT;clear aX aT aj fQ;have q1:=QB1.out.cell;go_wp2_with (go_at_call 221;(with_reducible refine (Jv.out _ FZ.out).mono ?_);rintro e w8 ⟨rfl,eu⟩;have X8:=ah eu;clear eu);go_ret;exact ⟨au (by rw [xU,← jr]),FZ.out.trans X8.out⟩
end Go.Proofs.YtbdicafambkhdaaGreat

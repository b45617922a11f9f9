/- What a configuration must be, in plain Lean; its labels as the program finds them and as the reference does. The walks of Chain, clearRight, slices.Contains at labels, and of the reference's Chain, l05Clear and l05Cleared. -/
import Derived.Test.YtbdicafambkhdaaGreatTaskRS
import Derived.Test.YtbdicafambkhdaaGreatOrdU
import Derived.Test.YtbdicafambkhdaaGreatUsesE
set_option maxHeartbeats 8000000
set_option maxRecDepth 50000
namespace Go.Proofs.YtbdicafambkhdaaGreat
open Go.Proofs.Tryz
open Go.RowKit
def lD (l:List Label) (k:Nat):Bool:=aA (nth l k) && (decide (k=0) || (mW (nth l (k - 1)) (nth l k) && !decide (nth l (k - 1)=nth l k)))
def iJ (l:List Label):Bool:=jG l.length 1 4 && (List.range l.length).all (lD l)
def fJ (ns:List (List Label)):Bool:=jG ns.length 1 6 && ns.all iJ
def cleared (l:List Label) (a:Label):Bool:=l.any fun x=>decide (x=a)
def qG (ns:List (List Label)) (a:Label):Bool:=ns.any fun l=>cleared l a
def jU (k:Nat):Label:=⟨((k / 8:Nat):Int),((k % 8:Nat):Int)⟩
def jP (ns:List (List Label)) (k:Nat):List Label:=((List.range k).map jU).filter (qG ns)
def labelsIn (ns:List (List Label)):List Label:=jP ns 32
def samePair (x y:Pair):Bool:=decide (y.from_=x.from_) && decide (y.jA=x.jA)
def sF (ls:List Label) (x:Pair):Bool:=cleared ls x.from_ && cleared ls x.jA && !mW x.from_ x.jA && jG x.rate 1 3
def jW (ls:List Label) (ps:List Pair) (k:Nat):Bool:=sF ls (nth ps k) && !(ps.take k).any (samePair (nth ps k))
def iL (ls:List Label) (ps:List Pair):Bool:=decide (ps.length≤4) && (List.range ps.length).all (jW ls ps)
def fK (ls:List Label) (qs:List jk) (k:Nat):Bool:=cleared ls (nth qs k).label && jG (nth qs k).most 1 9 && (decide (k=0) || decide (keyOf (nth qs (k - 1)).label < keyOf (nth qs k).label))
def gY (ls:List Label) (qs:List jk):Bool:=decide (qs.length≤8) && (List.range qs.length).all (fK ls qs)
def aU (c:Config):Bool:=fJ c.nodes && jG c.half 1 9 && (decide ((labelsIn c.nodes).length≤8) && iL (labelsIn c.nodes) c.pairs && gY (labelsIn c.nodes) c.ay)
def eP (ns:List (List Label)) (a:Label) (k:Nat):List Int:=((List.range k).filter fun i=>cleared (nth ns i) a).map fun (i:Nat)=>(i:Int)
theorem jZ {l:List Label} {a:Label}:cleared l a=true↔a∈l:=by
 simp [cleared,List.any_eq_true]
theorem Kw {ns:List (List Label)} {a:Label}:qG ns a=true↔a∈ns.flatten:=by
 simp [qG,List.any_eq_true,jZ,List.mem_flatten]
theorem UG {l:List Label} (h:iJ l=true):∀ a∈l,aA a=true:=by
 intro a ha;obtain ⟨i,hi,rfl⟩:=List.getElem_of_mem ha;simp only [iJ,Bool.and_eq_true,List.all_eq_true,List.mem_range] at h;have:=h.2 i hi;simp only [lD,Bool.and_eq_true] at this;rw [← aO hi];exact this.1
theorem Ei {l:List Label} (h:iJ l=true):1≤l.length∧l.length≤4:=by
 simp only [iJ,Bool.and_eq_true] at h;have:=dR h.1;omega
theorem pY {ns:List (List Label)} (h:fJ ns=true):1≤ns.length∧ns.length≤6:=by
 simp only [fJ,Bool.and_eq_true] at h;have:=dR h.1;omega
theorem yK {ns:List (List Label)} (h:fJ ns=true):∀ l∈ns,iJ l=true:=by
 simp only [fJ,Bool.and_eq_true,List.all_eq_true] at h;exact h.2
theorem yL {ns:List (List Label)} (h:fJ ns=true):∀ a∈ns.flatten,aA a=true:=by
 intro a ha;obtain ⟨l,hl,hal⟩:=List.mem_flatten.1 ha;exact UG (yK h l hl) a hal
theorem Lh {α:Type} {n:Nat}:∀ {ns:List (List α)},(∀ l∈ns,l.length≤n)→ns.flatten.length≤ns.length * n
 | [],_=>by simp
 | l :: ns,h=>by
   have h1:=h l (by simp);have h2:=Lh (ns:=ns) fun m hm=>h m (List.mem_cons_of_mem _ hm);rw [List.flatten_cons,List.length_append,List.length_cons,Nat.add_mul,Nat.one_mul];omega
theorem abz {ns:List (List Label)} (h:fJ ns=true):ns.flatten.length≤24:=by
 have h1:=Lh (n:=4) (ns:=ns) fun l hl=>(Ei (yK h l hl)).2;have h2:=pY h;omega
theorem XU {ns:List (List Label)} (h:fJ ns=true):0 < ns.flatten.length:=by
 have h2:=pY h
 match ns,h,h2 with
 | l :: ns,h,_ =>
   have:=(Ei (yK h l (by simp))).1;rw [List.flatten_cons,List.length_append];omega
theorem Sl {k:Nat}:keyOf (jU k)=(k:Int):=by
 unfold keyOf jU;simp only;omega
theorem Qv {k:Nat} (h:k < 32):aA (jU k)=true:=by
 have h1:jG ((k / 8:Nat):Int) 0 3=true:=J7.2 (by omega);have h2:jG ((k % 8:Nat):Int) 0 7=true:=J7.2 (by omega);simp only [aA,jU,h1,h2,Bool.and_self]
theorem Dp {a:Label} (h:aA a=true):0≤keyOf a∧keyOf a < 32:=by
 simp only [aA,jG,Bool.and_eq_true,decide_eq_true_eq] at h;unfold keyOf;omega
theorem afA {a:Label} (h:aA a=true):jU (keyOf a).toNat=a:=by
 have hb:=Dp h;refine key_inj (Qv (by omega)) h ?_;rw [Sl];omega
def Up (l:List Label):Prop:=l.Pairwise fun a b=>keyOf a < keyOf b
theorem Ue (ns:List (List Label)) (k:Nat):Up (jP ns k):=by
 unfold Up jP;refine List.Pairwise.filter _ ?_;rw [List.pairwise_map];refine List.Pairwise.imp (fun {a b} h=>?_) (List.pairwise_lt_range (n:=k));rw [Sl,Sl];omega
theorem xH {ns:List (List Label)} {a:Label} (h:aA a=true):a∈labelsIn ns↔a∈ns.flatten:=by
 unfold labelsIn jP;rw [List.mem_filter,Kw];refine ⟨fun h=>h.2,fun h2=>⟨List.mem_map.2 ⟨(keyOf a).toNat,List.mem_range.2 ?_,afA h⟩,h2⟩⟩;have:=Dp h;omega
theorem kS {ns:List (List Label)} {a:Label} (h:a∈labelsIn ns):aA a=true:=by
 unfold labelsIn jP at h;obtain ⟨h1,_⟩:=List.mem_filter.1 h;obtain ⟨k,hk,rfl⟩:=List.mem_map.1 h1;exact Qv (List.mem_range.1 hk)
theorem abj:∀ {l m:List Label},Up l→Up m→(∀ a,a∈l↔a∈m)→l=m
 | [],[],_,_,_=>rfl
 | [],b :: m,_,_,h=>absurd ((h b).2 (by simp)) (by simp)
 | a :: l,[],_,_,h=>absurd ((h a).1 (by simp)) (by simp)
 | a :: l,b :: m,hl,hm,h=>by
   unfold Up at hl hm;rw [List.pairwise_cons] at hl hm;have hab:a=b:=by
    rcases List.mem_cons.1 ((h a).1 (by simp)) with e | h1
    · exact e
    · rcases List.mem_cons.1 ((h b).2 (by simp)) with e | h2
      · exact e.symm
      · have:=hl.1 b h2;have:=hm.1 a h1;omega
   subst hab;congr 1;refine abj hl.2 hm.2 fun c=>⟨fun hc=>?_,fun hc=>?_⟩
   · rcases List.mem_cons.1 ((h c).1 (List.mem_cons_of_mem _ hc)) with e | h1
     · have:=hl.1 c hc;rw [e] at this;omega
     · exact h1
   · rcases List.mem_cons.1 ((h c).2 (List.mem_cons_of_mem _ hc)) with e | h1
     · have:=hm.1 c hc;rw [e] at this;omega
     · exact h1
theorem up_sub:∀ {m l:List Label},Up l→Up m→(∀ a∈l,a∈m)→l.length≤m.length
 | [],[],_,_,_=>Nat.le_refl _
 | [],a :: l,_,_,h=>absurd (h a (by simp)) (by simp)
 | b :: m,[],_,_,_=>Nat.zero_le _
 | b :: m,a :: l,hl,hm,h=>by
   unfold Up at hl hm;rw [List.pairwise_cons] at hl hm;have:=up_sub (m:=m) (l:=l) hl.2 hm.2 fun c hc=>by
    rcases List.mem_cons.1 (h c (List.mem_cons_of_mem _ hc)) with e | h1
    · have h2:=hl.1 c hc;rcases List.mem_cons.1 (h a (by simp)) with e2 | h3
      · rw [e,e2] at h2;omega
      · have h4:=hm.1 a h3;rw [e] at h2;omega
    · exact h1
   simp only [List.length_cons];omega
def dW:List Label→List Label
 | []=>[]
 | [a]=>[a]
 | a :: b :: l=>if a=b then dW (b :: l) else a :: dW (b :: l)
theorem yM:∀ (l:List Label) (a:Label),a∈dW l↔a∈l
 | [],_=>Iff.rfl
 | [_],_=>Iff.rfl
 | x :: y :: l,a=>by
   have ih:=yM (y :: l) a;unfold dW;split
   · rename_i h
     subst h;rw [ih];simp
   · rw [List.mem_cons,ih,List.mem_cons,List.mem_cons,List.mem_cons]
theorem KP:∀ {l:List Label},(∀ a∈l,aA a=true)→(l.Pairwise fun a b=>keyOf a≤keyOf b)→Up (dW l)
 | [],_,_=>List.Pairwise.nil
 | [_],_,_=>List.pairwise_singleton _ _
 | x :: y :: l,hr,hp=>by
   rw [List.pairwise_cons] at hp;have ih:=KP (l:=y :: l) (fun a ha=>hr a (List.mem_cons_of_mem _ ha)) hp.2;unfold dW;split
   · exact ih
   · rename_i hne
     refine List.pairwise_cons.2 ⟨fun a ha=>?_,ih⟩;rw [yM] at ha;have h1:=hp.1 y (by simp);have h2:keyOf y≤keyOf a:=by
      rcases List.mem_cons.1 ha with rfl | h3
      · exact Int.le_refl _
      · exact (List.pairwise_cons.1 hp.2).1 a h3
     have h3:keyOf x≠keyOf y:=fun e=>hne (key_inj (hr x (by simp)) (hr y (by simp)) e);omega
theorem Cb {a b:Label} (ha:aA a=true) (hb:aA b=true):(bW a b < 0↔keyOf a < keyOf b)∧(bW a b≤0↔keyOf a≤keyOf b):=by
 simp only [aA,jG,Bool.and_eq_true,decide_eq_true_eq] at ha hb;rw [bW,Wh];unfold mQ keyOf;constructor;all_goals (repeat' split) <;> omega
theorem KO {ns:List (List Label)} {m:List Label} (hc:fJ ns=true) (hp:m.Perm ns.flatten) (hs:m.Pairwise fun a b=>bW a b≤0):dW m=labelsIn ns:=by
 have hr:∀ a∈m,aA a=true:=fun a ha=>yL hc a (hp.mem_iff.1 ha);refine abj (KP hr ?_) (Ue ns 32) fun a=>?_
 · refine List.Pairwise.imp_of_mem (fun {a b} ha hb h=>?_) hs;exact (Cb (hr a ha) (hr b hb)).2.1 h
 · rw [yM,hp.mem_iff];constructor
   · intro h;exact (xH (yL hc a h)).2 h
   · intro h;exact (xH (kS h)).1 h
theorem YF {ls:List Label} {qs:List jk} (hu:Up ls) (h8:ls.length≤8) (h:∀ k,k < qs.length→fK ls qs k=true):qs.length≤8:=by
 have hq:Up (qs.map (·.label)):=by
  unfold Up;rw [List.pairwise_map,List.pairwise_iff_getElem];have step:∀ d i,i+d+1 < qs.length→keyOf (nth qs i).label < keyOf (nth qs (i+d+1)).label:=by
   intro d;induction d with
   | zero =>
     intro i hi;have:=h (i+1) hi;simp only [fK,Bool.and_eq_true,Bool.or_eq_true,decide_eq_true_eq] at this;rcases this.2 with h0 | h0
     · omega
     · exact h0
   | succ d ih =>
     intro i hi;have h1:=ih i (by omega);have:=h (i+d+1+1) hi;simp only [fK,Bool.and_eq_true,Bool.or_eq_true,decide_eq_true_eq] at this;rcases this.2 with h0 | h0
     · omega
     · exact Int.lt_trans h1 h0
  intro i j hi hj hij;have:=step (j - i - 1) i (by omega);rw [show i+(j - i - 1)+1=j by omega,aO hi,aO hj] at this;exact this
 have:=up_sub hq hu fun a ha=>by
  obtain ⟨x,hx,rfl⟩:=List.mem_map.1 ha;obtain ⟨i,hi,rfl⟩:=List.getElem_of_mem hx;have:=h i hi;simp only [fK,Bool.and_eq_true] at this;rw [← aO hi];exact jZ.1 this.1.1
 rw [List.length_map] at this;omega
theorem WB {ls:List Label} {qs:List jk} (hu:Up ls) (h8:ls.length≤8) (h:∀ k,k < qs.length→fK ls qs k=true):gY ls qs=true:=by
 unfold gY;rw [Bool.and_eq_true,decide_eq_true_eq,List.all_eq_true];exact ⟨YF hu h8 h,fun k hk=>h k (List.mem_range.1 hk)⟩
theorem nV {ls:List Label} {qs:List jk} {k:Nat} (hk:k < qs.length) (h:fK ls qs k=false):gY ls qs=false:=by
 unfold gY;rw [List.all_eq_false.mpr ⟨k,List.mem_range.mpr hk,by simp [h]⟩,Bool.and_false]
theorem Nj {ls:List Label} {ps:List Pair} (h:∀ k,k < ps.length→jW ls ps k=true):iL ls ps=decide (ps.length≤4):=by
 unfold iL;rw [List.all_eq_true.mpr (fun k hk=>h k (List.mem_range.mp hk)),Bool.and_true]
theorem kC {ls:List Label} {ps:List Pair} {k:Nat} (hk:k < ps.length) (h:jW ls ps k=false):iL ls ps=false:=by
 unfold iL;rw [List.all_eq_false.mpr ⟨k,List.mem_range.mpr hk,by simp [h]⟩,Bool.and_false]
theorem KJ {l:List Label} (h:∀ k,k < l.length→lD l k=true):iJ l=jG l.length 1 4:=by
 unfold iJ;rw [List.all_eq_true.mpr (fun k hk=>h k (List.mem_range.mp hk)),Bool.and_true]
theorem pJ {l:List Label} {k:Nat} (hk:k < l.length) (h:lD l k=false):iJ l=false:=by
 unfold iJ;rw [List.all_eq_false.mpr ⟨k,List.mem_range.mpr hk,by simp [h]⟩,Bool.and_false]
theorem acE (ns:List (List Label)) (k:Nat):jP ns (k+1)=jP ns k ++ if qG ns (jU k)=true then [jU k] else []:=by
 unfold jP;rw [List.range_succ,List.map_append,List.filter_append];congr 1;simp [List.filter_cons]
theorem Xr (ns:List (List Label)) (k:Nat):(jP ns k).length≤k:=by
 unfold jP;refine Nat.le_trans (List.length_filter_le _ _) ?_;simp
theorem nP (ns:List (List Label)) (a:Label) (k:Nat):eP ns a (k+1)=eP ns a k ++ if cleared (nth ns k) a=true then [(k:Int)] else []:=by
 unfold eP;rw [List.range_succ,List.filter_append,List.map_append];congr 1;by_cases h:cleared (nth ns k) a=true <;> simp [h]
theorem um (ns:List (List Label)) (a:Label) (k:Nat):(eP ns a k).length≤k:=by
 unfold eP;rw [List.length_map];refine Nat.le_trans (List.length_filter_le _ _) ?_;simp
attribute [local irreducible] wpQuiet
theorem JK {S:Nat→Prop} (l:List Label) (p:Label→Bool) (v:Value) (f:Nat) (caps:Array Value) (w:World) (h:Rd aH S w v l) (hcall:∀ (args:Array Value) (W:World),(callFunc f args).run prog W=.ok (.enter f args) W)
 (hf:∀ (cs:List Value) (x:Label) (w1:World),Ext w w1→aH.rel S w1 cs x→Calls prog f (#[.agg cs.toArray] ++ caps) w1 fun e w'=>e=.returned (.bool (p x))∧Ext w1 w') :
 Calls prog 203 #[v,.func (.func f) #[] caps] w fun e w'=>e=.returned (.int .i64 (idxOf p l))∧Ext w w':=by
 obtain ⟨A,c,rfl,h1,h2,hk⟩:=h.open_;unfold maxLen at h2;have HK:=ah hk;have HF:=ah hf;clear hk h hf;go_enter func203,ntmps203;go_wp2_with fail;go_loopw [8] (fun i w'=>∃ k:Nat,k≤l.length∧i=.int .i64 k∧(∀ j,j < k→p (nth l j)=false)∧Ext w w') (fun i _=>l.length - (intOf i).toNat);case atStart=>exact ⟨0,by omega,rfl,fun j hj=>by omega,Ext.refl _⟩
 case round =>
  obtain ⟨k,hk1,rfl,hall,hx⟩:=hrel;have HA:=ah hall;have HX:=ah hx;clear hall;by_cases hlt:k < l.length
  · obtain ⟨b,o,cs,rfl,hb,hr,hc⟩:=HK.out k hlt;have HR:=ah (aH.keep (hx.same S) hr);have HC:=ah (hx.range hc);have HI:Hid ((prog.info? 47).map (·.size)=some cs.length):=ah (by rw [aH.len hr];kernel_rfl);clear hr hc hx;by_cases hp:p (nth l k)=true
    · have HE:Hid (idxOf p l=k):=ah (iP hlt HA.out hp);go_wp2_with (first | (refine wpList_load_mid rfl 47 _ rfl b (o+k * 2) rfl cs _ HC.out underlying47 rfl HI.out ?_) | ((with_reducible refine (HF.out cs (nth l k) _ HX.out HR.out).mono ?_);rintro e w1 ⟨rfl,hx1⟩;have jf:=ah hx1;clear hx1));go_ret;exact ⟨aI HE.out.symm,HX.out.trans jf.out⟩
    · simp only [Bool.not_eq_true] at hp;have HE:=ah (all_succ HA.out hp);go_wp2_with (first | (refine wpList_load_mid rfl 47 _ rfl b (o+k * 2) rfl cs _ HC.out underlying47 rfl HI.out ?_) | ((with_reducible refine (HF.out cs (nth l k) _ HX.out HR.out).mono ?_);rintro e w1 ⟨rfl,hx1⟩;have jf:=ah hx1;clear hx1));go_roundw;case rel=>exact ⟨k+1,by omega,by go_num,HE.out,HX.out.trans jf.out⟩
      case measure=>simp [intOf];omega
  · have HE:Hid (idxOf p l = -1):=ah (iO fun j hj=>HA.out j (by omega));go_wp2_with fail;go_ret;exact ⟨aI HE.out.symm,HX.out⟩
theorem uy {S:Nat→Prop} (l:List Label) (p:Label→Bool) (v:Value) (f:Nat) (caps:Array Value) (w:World) (h:Rd aH S w v l) (hcall:∀ (args:Array Value) (W:World),(callFunc f args).run prog W=.ok (.enter f args) W)
 (hf:∀ (cs:List Value) (x:Label) (w1:World),Ext w w1→aH.rel S w1 cs x→Calls prog f (#[.agg cs.toArray] ++ caps) w1 fun e w'=>e=.returned (.bool (p x))∧Ext w1 w') :
 Calls prog 106 #[v,.func (.func f) #[] caps] w fun e w'=>e=.returned (.bool (l.any p))∧Ext w w':=by
 have HE:=ah (jr (p:=p) (l:=l));have H:=ah (JK l p v f caps w h hcall hf);clear h hcall hf;go_enter func106,ntmps106;go_wp2_with (refine H.out.mono ?_;rintro e w1 ⟨rfl,hx1⟩;have jf:=ah hx1;clear hx1);go_ret;exact ⟨au HE.out,jf.out⟩
theorem rF {S:Nat→Prop} (l:List Label) (p:Label→Bool) (v:Value) (f:Nat) (w:World) (h:Rd aH S w v l) (hcall:∀ (args:Array Value) (W:World),(callFunc f args).run prog W=.ok (.enter f args) W)
 (hf:∀ (cs:List Value) (x:Label) (w1:World),Ext w w1→aH.rel S w1 cs x→Calls prog f #[.agg cs.toArray] w1 fun e w'=>e=.returned (.bool (p x))∧Ext w1 w') :
 Calls prog 106 #[v,.func (.func f) #[] #[]] w fun e w'=>e=.returned (.bool (l.any p))∧Ext w w' :=
 uy l p v f #[] w h hcall fun cs x w1 hx hr=>by rw [show (#[.agg cs.toArray] ++ #[]:Array Value) = #[.agg cs.toArray] from rfl];exact hf cs x w1 hx hr
theorem rG {S:Nat→Prop} (l:List Label) (p:Label→Bool) (v:Value) (f:Nat) (c1:Value) (w:World) (h:Rd aH S w v l) (hcall:∀ (args:Array Value) (W:World),(callFunc f args).run prog W=.ok (.enter f args) W)
 (hf:∀ (cs:List Value) (x:Label) (w1:World),Ext w w1→aH.rel S w1 cs x→Calls prog f #[.agg cs.toArray,c1] w1 fun e w'=>e=.returned (.bool (p x))∧Ext w1 w') :
 Calls prog 106 #[v,.func (.func f) #[] #[c1]] w fun e w'=>e=.returned (.bool (l.any p))∧Ext w w' :=
 uy l p v f #[c1] w h hcall fun cs x w1 hx hr=>by rw [show (#[.agg cs.toArray] ++ #[c1]:Array Value) = #[.agg cs.toArray,c1] from rfl];exact hf cs x w1 hx hr
theorem BM {S:Nat→Prop} (l:List (List Label)) (p:(List Label)→Bool) (v:Value) (f:Nat) (caps:Array Value) (w:World) (h:Rd (gU aH) S w v l) (hcall:∀ (args:Array Value) (W:World),(callFunc f args).run prog W=.ok (.enter f args) W)
 (hf:∀ (cs:List Value) (x:(List Label)) (w1:World),Ext w w1→(gU aH).rel S w1 cs x→Calls prog f (#[cs.headD undef] ++ caps) w1 fun e w'=>e=.returned (.bool (p x))∧Ext w1 w') :
 Calls prog 294 #[v,.func (.func f) #[] caps] w fun e w'=>e=.returned (.int .i64 (idxOf p l))∧Ext w w':=by
 obtain ⟨A,c,rfl,h1,h2,hk⟩:=h.open_;unfold maxLen at h2;have HK:=ah hk;have HF:=ah hf;clear hk h hf;go_enter func294,ntmps294;go_wp2_with fail;go_loopw [8] (fun i w'=>∃ k:Nat,k≤l.length∧i=.int .i64 k∧(∀ j,j < k→p (nth l j)=false)∧Ext w w') (fun i _=>l.length - (intOf i).toNat);case atStart=>exact ⟨0,by omega,rfl,fun j hj=>by omega,Ext.refl _⟩
 case round =>
  obtain ⟨k,hk1,rfl,hall,hx⟩:=hrel;have HA:=ah hall;have HX:=ah hx;clear hall;by_cases hlt:k < l.length
  · obtain ⟨b,o,cs,rfl,hb,hr,hc⟩:=HK.out k hlt;have HR:=ah ((gU aH).keep (hx.same S) hr);have hc0:=hx.range hc 0 _ (by rw [List.getElem?_eq_getElem (by rw [(gU aH).len hr];decide)]);have hcs:cs[0]'(by rw [(gU aH).len hr];decide)=cs.headD undef:=by cases cs with | nil=>exact absurd ((gU aH).len hr) (by decide) | cons a r=>rfl
    rw [hcs] at hc0;generalize hu:cs.headD undef=u at *;have HU:=ah hu;simp only [gU,Nat.mul_one,Nat.add_zero] at hc0;clear hr hc hx hcs hu;by_cases hp:p (nth l k)=true
    · have HE:Hid (idxOf p l=k):=ah (iP hlt HA.out hp);go_wp2_with (first | ((with_reducible refine ((show Calls _ _ (#[u] ++ caps) _ _ from HU.out ▸ HF.out cs (nth l k) _ HX.out HR.out)).mono ?_);rintro e w1 ⟨rfl,hx1⟩;have jf:=ah hx1;clear hx1));go_ret;exact ⟨aI HE.out.symm,HX.out.trans jf.out⟩
    · simp only [Bool.not_eq_true] at hp;have HE:=ah (all_succ HA.out hp);go_wp2_with (first | ((with_reducible refine ((show Calls _ _ (#[u] ++ caps) _ _ from HU.out ▸ HF.out cs (nth l k) _ HX.out HR.out)).mono ?_);rintro e w1 ⟨rfl,hx1⟩;have jf:=ah hx1;clear hx1));go_roundw;case rel=>exact ⟨k+1,by omega,by go_num,HE.out,HX.out.trans jf.out⟩
      case measure=>simp [intOf];omega
  · have HE:Hid (idxOf p l = -1):=ah (iO fun j hj=>HA.out j (by omega));go_wp2_with fail;go_ret;exact ⟨aI HE.out.symm,HX.out⟩
theorem wS {S:Nat→Prop} (l:List (List Label)) (p:(List Label)→Bool) (v:Value) (f:Nat) (caps:Array Value) (w:World) (h:Rd (gU aH) S w v l) (hcall:∀ (args:Array Value) (W:World),(callFunc f args).run prog W=.ok (.enter f args) W)
 (hf:∀ (cs:List Value) (x:(List Label)) (w1:World),Ext w w1→(gU aH).rel S w1 cs x→Calls prog f (#[cs.headD undef] ++ caps) w1 fun e w'=>e=.returned (.bool (p x))∧Ext w1 w') :
 Calls prog 255 #[v,.func (.func f) #[] caps] w fun e w'=>e=.returned (.bool (l.any p))∧Ext w w':=by
 have HE:=ah (jr (p:=p) (l:=l));have H:=ah (BM l p v f caps w h hcall hf);clear h hcall hf;go_enter func255,ntmps255;go_wp2_with (refine H.out.mono ?_;rintro e w1 ⟨rfl,hx1⟩;have jf:=ah hx1;clear hx1);go_ret;exact ⟨au HE.out,jf.out⟩
theorem vU {S:Nat→Prop} (l:List (List Label)) (p:(List Label)→Bool) (v:Value) (f:Nat) (w:World) (h:Rd (gU aH) S w v l) (hcall:∀ (args:Array Value) (W:World),(callFunc f args).run prog W=.ok (.enter f args) W)
 (hf:∀ (cs:List Value) (x:(List Label)) (w1:World),Ext w w1→(gU aH).rel S w1 cs x→Calls prog f #[cs.headD undef] w1 fun e w'=>e=.returned (.bool (p x))∧Ext w1 w') :
 Calls prog 255 #[v,.func (.func f) #[] #[]] w fun e w'=>e=.returned (.bool (l.any p))∧Ext w w' :=
 wS l p v f #[] w h hcall fun cs x w1 hx hr=>by rw [show (#[cs.headD undef] ++ #[]:Array Value) = #[cs.headD undef] from rfl];exact hf cs x w1 hx hr
def rM (x:Label):Bool:=!aA x
theorem II:∀ (args:Array Value) (W:World),(callFunc 295 args).run prog W=.ok (.enter 295 args) W:=by
 intro args W;go_simp
theorem KI {S:Nat→Prop} (x:Label) (cs:List Value) (w:World) (h:aH.rel S w cs x) :
 Calls prog 295 #[.agg cs.toArray] w fun e w'=>e=.returned (.bool (rM x))∧Ext w w':=by
 obtain ⟨rfl,hi⟩:=h;have HI:=ah hi;clear hi;simp only [aQ];go_enter func295,ntmps295;go_wp2_with (go_at_call 150;(with_reducible refine (gy (S:=S) x [x.level,x.set] _ (aC HI.out)).mono ?_);rintro e w1 ⟨rfl,hx1⟩;have jf:=ah hx1;clear hx1);go_ret;exact ⟨rfl,((Ext.refl _).alloc _).trans jf.out⟩
theorem nC {a b:Label} (h:a≠b):a.level≠b.level∨a.set≠b.set:=by
 by_cases h1:a.level=b.level
 · exact .inr fun h2=>h (Label.ext h1 h2)
 · exact .inl h1
theorem Kz {S S':Nat→Prop} (a b:Label) (cs ds:List Value) (w:World) (h:aH.rel S w cs a) (g:aH.rel S' w ds b) (r:Bool) (hr:mW a b=r) :
 Calls prog 260 #[.agg cs.toArray,.agg ds.toArray] w fun e w'=>e=.returned (.bool r)∧Ext w w':=by
 subst hr;exact P8 a b cs ds w h g
theorem IK {l:List Label} (h:l.length < 1):iJ l=false:=by unfold iJ jG;rw [decide_eq_false (by omega)];rfl
theorem KL {l:List Label} (h:4 < l.length):iJ l=false:=by unfold iJ jG;rw [decide_eq_false (by omega)];rfl
theorem Eh {l:List Label} (h:aA (nth l 0)=true):lD l 0=true:=by simp [lD,h]
theorem Ef {l:List Label} {m:Nat} (h:aA (nth l (m+1))=true):lD l (m+1)=(mW (nth l m) (nth l (m+1)) && !decide (nth l m=nth l (m+1))):=by simp [lD,h]
theorem IJ {l:List Label} {m:Nat} (h:aA (nth l m)=false):lD l m=false:=by simp [lD,h]
theorem U3 {l:List Label} (h:aA (nth l 0)=true):∀ j,j < 1→lD l j=true:=fun j hj=>by
 obtain rfl:j=0:=by omega
 exact Eh h
theorem afb {l:List Label} (h:l.any rM=false):∀ k,k < l.length→aA (nth l k)=true:=by
 intro k hk;rw [List.any_eq_false] at h;have:=h _ (bG hk);simpa [rM] using this
theorem aff {l:List Label} (h:l.any rM=true):iJ l=false:=by
 obtain ⟨x,hx,hb⟩:=List.any_eq_true.1 h;obtain ⟨k,hk,rfl⟩:=List.getElem_of_mem hx;refine pJ hk (IJ ?_);rw [aO hk];simpa [rM] using hb
theorem aby {S:Nat→Prop} (l:List Label) (v:Value) (w:World) (h:Rd aH S w v l) :
 Calls prog 257 #[v] w fun e w'=>e=.returned (.bool (iJ l))∧Ext w w':=by
 have HR:=ah h;obtain ⟨A,c,rfl,h1,h2,hk⟩:=h.open_;unfold maxLen at h2;have HK:=ah hk;clear hk h;by_cases h0:l.length < 1
 · have HN:=ah (IK h0);go_enter func257,ntmps257;go_wp2_with fail;go_ret;exact ⟨au HN.out.symm,Ext.refl _⟩
 by_cases h4:4 < l.length
 · have HN:=ah (KL h4);go_enter func257,ntmps257;go_wp2_with fail;go_ret;exact ⟨au HN.out.symm,Ext.refl _⟩
 have h0':1≤l.length:=by omega
 have h4':l.length≤4:=by omega
 clear h0 h4;cases hb:l.any rM with
 | true =>
   have HN:=ah (aff hb);have HB:=ah hb;clear hb;go_enter func257,ntmps257;go_wp2_with (go_at_call 106;refine (rF l rM _ _ _ HR.out II (fun cs x w1 _ hr=>KI x cs w1 hr)).mono ?_;rintro e w1 ⟨rfl,hx1⟩;rw [HB.out];have X1:=ah hx1;clear hx1);go_ret;exact ⟨au HN.out.symm,X1.out⟩
 | false =>
   have HN:=ah (afb hb);have HB:=ah hb;clear hb;go_enter func257,ntmps257;go_wp2_with (go_at_call 106;refine (rF l rM _ _ _ HR.out II (fun cs x w1 _ hr=>KI x cs w1 hr)).mono ?_;rintro e w1 ⟨rfl,hx1⟩;rw [HB.out];have X1:=ah hx1;clear hx1);go_loopw [3] (fun i w'=>∃ k:Nat,1≤k∧k≤l.length∧i=.int .i64 k∧(∀ j,j < k→lD l j=true)∧Ext w w') (fun i _=>l.length - (intOf i).toNat);case atStart=>exact ⟨1,by omega,by omega,rfl,U3 (HN.out 0 (by omega)),X1.out⟩
   case round =>
    obtain ⟨k,hk0,hk1,rfl,hall,hx⟩:=hrel;have HA:=ah hall;have HX:=ah hx;clear hall;by_cases hlt:k < l.length
    · obtain ⟨m,rfl⟩:∃ m,k=m+1:=⟨k - 1,by omega⟩
      obtain ⟨b,o,cs,rfl,_,⟨rfl,f1⟩,hc⟩:=HK.out (m+1) hlt;obtain ⟨b',o',ds,hA',_,⟨rfl,f2⟩,hd⟩:=HK.out m (by omega);injection hA' with hA'
      injection hA' with e1 e2
      subst e1;subst e2;have c0:=Ext.some hx (hc 0 _ rfl);have c1:=Ext.some hx (hc 1 _ rfl);simp only [aH,Nat.add_zero] at c0 c1;have d0:=Ext.some hx (hd 0 _ rfl);have d1:=Ext.some hx (hd 1 _ rfl);simp only [aH,Nat.add_zero] at d0 d1;have F1:=ah f1;have F2:=ah f2;have HC:=ah (Ef (HN.out (m+1) hlt));clear hc hd hx f1 f2;have i0:(0:Int)≤(m:Int)+1:=by omega
      have i1:(m:Int)+1 < (l.length:Int):=by omega
      have i2:((m:Int)+1).toNat=m+1:=by omega
      have i3:IntKind.i64.wrap (m:Int)=(m:Int):=IntWalk.i64_in _ (by omega);have i4:m < l.length:=by omega
      by_cases he:nth l m=nth l (m+1)
      · have HF:=ah (pJ hlt (by rw [HC.out,decide_eq_true he];simp));have g0:(nth l m).level=(nth l (m+1)).level:=by rw [he]
        have g1:(nth l m).set=(nth l (m+1)).set:=by rw [he]
        clear he;go_wp2_with fail;refine ak (by kernel_rfl) (by kernel_rfl) ?_;repeat (
         (refine wpQuiet_step (fun K hK=>?_)
          go_simp;first
           | (refine hK _ ?_;clear hK K)
           | (apply Exists.intro
              refine ⟨fun bH aj=>?_,hK _ ?_⟩
              · have kH:=Ext.some aj c0;have mX:=Ext.some aj c1;have jH:=Ext.some aj d0;have kJ:=Ext.some aj d1;first | exact rfl | (go_simp;done) | (go_simp;exact rfl)
              clear hK K)))
        refine wpQuiet_nil ?_;intro w1 hx1;have HE:=ah hx1;clear c0 c1 d0 d1 hx1;go_wp2_with fail;go_ret;exact ⟨au HF.out.symm,HX.out.trans HE.out⟩
      · cases hbl:mW (nth l m) (nth l (m+1)) with
        | false =>
          have HF:=ah (pJ hlt (by rw [HC.out,hbl];rfl));have Ug:=ah hbl;clear hbl;rcases nC he with g | g
          all_goals
           clear he;have jl:=@kL;go_wp2_with fail;refine ak (by kernel_rfl) (by kernel_rfl) ?_;repeat (
            (refine wpQuiet_step (fun K hK=>?_)
             go_simp;first
              | (refine hK _ ?_;clear hK K)
              | (apply Exists.intro
                 refine ⟨fun bH aj=>?_,hK _ ?_⟩
                 · have kH:=Ext.some aj c0;have mX:=Ext.some aj c1;have jH:=Ext.some aj d0;have kJ:=Ext.some aj d1;first | exact rfl | (go_simp;done) | (go_simp;exact rfl) | (go_at_call 260;exact aJ aj (Kz (S:=S) (S':=S) (nth l m) (nth l (m+1)) _ _ _ (aC F2.out) (aC F1.out) _ Ug.out))
                 clear hK K)))
           refine wpQuiet_nil ?_;intro w1 hx1;have HE:=ah hx1;clear c0 c1 d0 d1 hx1;go_wp2_with fail;go_ret;exact ⟨au HF.out.symm,HX.out.trans HE.out⟩
        | true =>
          have HG:=ah (all_succ (p:=fun j=>lD l j=true) HA.out (by rw [HC.out,hbl,decide_eq_false he];rfl));have Ug:=ah hbl;clear hbl;rcases nC he with g | g
          all_goals
           clear he;have jl:=@kL;go_wp2_with fail;refine ak (by kernel_rfl) (by kernel_rfl) ?_;repeat (
            (refine wpQuiet_step (fun K hK=>?_)
             go_simp;first
              | (refine hK _ ?_;clear hK K)
              | (apply Exists.intro
                 refine ⟨fun bH aj=>?_,hK _ ?_⟩
                 · have kH:=Ext.some aj c0;have mX:=Ext.some aj c1;have jH:=Ext.some aj d0;have kJ:=Ext.some aj d1;first | exact rfl | (go_simp;done) | (go_simp;exact rfl) | (go_at_call 260;exact aJ aj (Kz (S:=S) (S':=S) (nth l m) (nth l (m+1)) _ _ _ (aC F2.out) (aC F1.out) _ Ug.out))
                 clear hK K)))
           refine wpQuiet_nil ?_;intro w1 hx1;have HE:=ah hx1;clear c0 c1 d0 d1 hx1;go_wp2_with fail;go_roundw;case rel=>exact ⟨m+1+1,by omega,by omega,by go_num,HG.out,HX.out.trans HE.out⟩
           case measure=>simp [intOf];omega
    · have HF:=ah (KJ (l:=l) fun j hj=>HA.out j (by omega));have HI:Hid (jG (l.length:Int) 1 4=true):=ah (J7.2 (by omega));go_wp2_with fail;go_ret;exact ⟨au (by rw [HF.out,HI.out]),HX.out⟩
end Go.Proofs.YtbdicafambkhdaaGreat

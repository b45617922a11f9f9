/- slices.Concat at labels, and what it stands on: slices.Grow of nothing. slices.SortFunc at labels: the kit's contract, laid for this seat, told of memory that a slice has for itself. slices.Compact at labels, on a slice that lies in memory of its own. -/
import Derived.Test.YtbdicafambkhdaaGreatConf1
import Derived.Test.YtbdicafambkhdaaGreatInsSpan
import Derived.Test.YtbdicafambkhdaaGreatClones
import Derived.Lib.AppendZeros
import Derived.Test.YtbdicafambkhdaaGreatTaskRS
import Derived.Test.YtbdicafambkhdaaGreatSortLayL
import Derived.Test.YtbdicafambkhdaaGreatLabels
import Derived.Test.YtbdicafambkhdaaGreatUsesE
import Derived.Test.YtbdicafambkhdaaGreatOrdU
import Derived.Test.YtbdicafambkhdaaGreatGSmall
import Derived.Test.YtbdicafambkhdaaGreatGYardT
set_option maxHeartbeats 16000000
set_option maxRecDepth 100000
namespace Go.Proofs.YtbdicafambkhdaaGreat
open Go.Proofs.Tryz
open Go.RowKit
attribute [local irreducible] wpQuiet
theorem OI (n:Nat) (w:World) (h0:0 < n) (hn:n≤1000) :
 Calls prog 269 #[.slice none 0 0,.int .i64 n] w (kX eX 47 [] w):=by
 obtain ⟨i0,hi0,hz0,hzs,hzb⟩:=info_parts (P:=prog) (e:=47) (z:=.agg Zr.l) (size:=2) (bytes:=16) (by kernel_rfl);obtain ⟨G,hG⟩:∃ G,G=grownCap w n 0 47:=⟨_,rfl⟩
 obtain ⟨ROW,hROW⟩:∃ ROW:Array Value,ROW=Builtin.zeroCells (Value.agg Zr.l).cells n ++ Builtin.zeroCells (Value.agg Zr.l).cells (G - n):=⟨_,rfl⟩
 have hrz:∀ ty,(Builtin.append_ #[134,3] ty #[.slice none 0 0,.int .i64 (n:Int)]).run prog w=.ok (.slice (some ⟨w.heap.size,0,none⟩) n G) (w.drew.alloc (.cells ROW 47)):=fun ty=>by
  have h:=Lib.run_append_nil_zeros (P:=prog) w 134 3 ty 47 i0 _ .i64 .i64 underlying134 underlying3 hi0 hz0 n h0 (by omega) (by omega) (by rw [hzb];omega);rw [hROW,hG];exact h
 have hGn:n≤G:=by rw [hG];exact grownCap_ge w _ _ _
 have hGm:G≤maxLen:=by rw [hG];exact grownCap_le_maxLen w n 0 47 (by unfold maxLen;omega)
 have hRs:ROW.size=G * 2:=by
  rw [hROW,Array.size_append,size_zeroCells,size_zeroCells];simp only [Value.cells,Array.size];simp;omega
 have HGm:=ah hGm;have HRs:=ah hRs;have hG63:G≤9223372036854775807:=by
  have:=hGm;unfold maxLen at this;omega
 obtain ⟨W1,hW1⟩:∃ W1,W1=w.drew.alloc (.cells ROW 47):=⟨_,rfl⟩
 rw [← hW1] at hrz;have HB:Hid (aF W1 w.heap.size 47 ROW):=ah (by rw [hW1];exact aF.new w.drew _ _);have HX:Hid (Ext w W1):=ah (by rw [hW1];exact (Ext.refl w).drew.alloc _);have hnn:(0:Int) < (n:Int):=by omega
 clear hi0 hz0 hzs hzb hG hROW hRs hW1 hGm;go_enter func269,ntmps269;go_wp2_with (at_builtin;refine Lib.wpList_append_run _ rfl _ _ _ _ rfl _ _ rfl rfl _ _ (hrz _) ?_);go_ret;exact ⟨_,[w.heap.size],rfl,.inr ⟨w.heap.size,G,ROW,[],rfl,HB.out,Nat.zero_le _,HGm.out,HRs.out,rfl,rfl,by simp,fun k hk=>absurd hk (Nat.not_lt_zero _)⟩,fun b hb=>by rw [List.mem_singleton.1 hb];exact Nat.le_refl _,HX.out⟩
theorem wW {ns:List (List Label)} {k:Nat} (hk:k < ns.length):(ns.take (k+1)).flatten=(ns.take k).flatten ++ nth ns k:=by
 rw [aV hk,List.flatten_append];simp
theorem yw (ns:List (List Label)) (k:Nat):(ns.take k).flatten.length≤ns.flatten.length:=by
 conv=>rhs;rw [← List.take_append_drop k ns,List.flatten_append,List.length_append]
 omega
theorem MW {ns:List (List Label)} {k:Nat} (hk:k < ns.length):(ns.take k).flatten.length+(nth ns k).length≤ns.flatten.length:=by
 have:=yw ns (k+1);rw [wW hk,List.length_append] at this;exact this
theorem Jz {S:Nat→Prop} (ns:List (List Label)) (v:Value) (w:World) (h:Rd (gU aH) S w v ns) (h0:0 < ns.flatten.length) (hn:ns.flatten.length≤1000) :
 Calls prog 200 #[v] w (kX eX 47 ns.flatten w):=by
 obtain ⟨A,c,rfl,h1,h2,hk⟩:=h.open_;unfold maxLen at h2;have HK:=ah hk;obtain ⟨q0,hq0⟩:∃ q0,q0=ns.flatten.length:=⟨_,rfl⟩
 have H0:Hid (0 < q0):=ah (by omega);have HN:Hid (ns.flatten.length≤1000):=ah hn;have HQ:=ah hq0;clear hk h h0 hn hq0;go_enter func200,ntmps200;go_wp2_with fail;go_loopw [3,11] (fun a i w'=>∃ k:Nat,k≤ns.length∧i=.int .i64 k∧a=.int .i64 ((ns.take k).flatten.length:Nat)∧Ext w w') (fun _ i _=>ns.length - (intOf i).toNat);case atStart=>exact ⟨0,by omega,rfl,by simp,Ext.refl _⟩
 case round =>
  obtain ⟨k,hk1,rfl,rfl,hx⟩:=hrel;have HX:=ah hx;have hle:=yw ns k;have HLE:Hid ((ns.take k).flatten.length≤1000):=ah (Nat.le_trans hle HN.out);clear hle;by_cases hlt:k < ns.length
  · obtain ⟨b,o,cs,rfl,_,⟨v1,rfl,hr⟩,hc⟩:=HK.out k hlt;obtain ⟨A1,c1,rfl,-⟩:=hr.form;have c0:=Ext.some hx (hc 0 _ rfl);simp only [gU,Nat.mul_one,Nat.add_zero] at c0;have HE:Hid ((ns.take (k+1)).flatten.length=(ns.take k).flatten.length+(nth ns k).length):=ah (by rw [wW hlt,List.length_append]);have HL:=ah (MW hlt);clear hr hc hx;generalize hq:(ns.take k).flatten.length=q at *;have e1:¬ ((q:Int)+((nth ns k).length:Int) < 0):=by omega
    have e2:wrap64 ((q:Int)+((nth ns k).length:Int))=(q:Int)+((nth ns k).length:Int):=by have:=HL.out;have:=HN.out;unfold wrap64;omega
    clear hq;go_wp2_with fail;go_roundw;case rel=>exact ⟨k+1,by omega,by go_num,by rw [HE.out];go_num,HX.out⟩
    case measure=>simp [intOf];omega
  · obtain rfl:k=ns.length:=by omega
    clear hx;have HF:Hid ((ns.take ns.length).flatten.length=q0):=ah (by rw [List.take_length];exact HQ.out.symm);rw [HF.out];go_upto_region 10 with (go_at_call 269;(with_reducible refine (OI q0 _ H0.out (HQ.out ▸ HN.out)).mono ?_);rintro e w1 ⟨v1,F1,rfl,o1,f1,x1⟩;have O1:=ah o1;have F1h:Hid (∀ b∈F1,w.heap.size≤b):=ah (fun b hb=>Nat.le_trans HX.out.size (f1 b hb));have X1:=ah (HX.out.trans x1);clear o1 f1 x1)
    go_wp2_with fail;go_loopw [6,27] (fun a i w'=>∃ (k:Nat) (F:List Nat),k≤ns.length∧i=.int .i64 k∧aW eX 47 w' a (ns.take k).flatten F∧(∀ b∈F,w.heap.size≤b)∧Ext w w') (fun _ i _=>ns.length - (intOf i).toNat);case atStart=>exact ⟨0,F1,by omega,rfl,O1.out,F1h.out,X1.out⟩
    case round =>
     obtain ⟨k,F,hk1,rfl,ho,hF,hx⟩:=hrel;have HO:=ah ho;have uT:=ah hF;have HX2:=ah hx;obtain ⟨A2,c2,rfl,-⟩:=ho.form;clear ho hF;by_cases hlt:k < ns.length
     · obtain ⟨b,o,cs,rfl,_,⟨v1,rfl,hr⟩,hc⟩:=HK.out k hlt;obtain ⟨A1,c1,rfl,-⟩:=hr.form;have c0:=Ext.some hx (hc 0 _ rfl);simp only [gU,Nat.mul_one,Nat.add_zero] at c0;have HR:=ah (hr.ext hx);have HE:=ah (wW hlt);have HL:=ah (Nat.le_trans (MW hlt) HN.out);clear hr hc hx;go_wp2_with (at_builtin;refine gK (E:=aH) (T:=47) (hfl:=fun h=>h) (l:=(ns.take k).flatten) (ys:=nth ns k) (F:=F) (S:=S) rfl _ _ 134 rfl (.agg Zr.l) 2 16 underlying134 (by kernel_rfl) rfl rfl rfl HO.out rfl HR.out (by have:=HL.out;unfold maxLen;omega) (by have:=HL.out;omega) ?_;intro v3 w3 F3 o3 k3 f3;have O3:=ah o3;have K3:=ah k3;have G3:=ah f3;clear o3 k3 f3);refine ⟨⟨k+1,F3,by omega,by go_num,by rw [HE.out];exact O3.out,fun b hb=>?_,K3.out.ext HX2.out uT.out⟩,by simp [intOf];omega⟩;rcases G3.out b hb with h | h
       · exact uT.out b h
       · exact Nat.le_trans HX2.out.size h
     · obtain rfl:k=ns.length:=by omega
       go_wp2_with fail;go_ret;exact ⟨_,F,rfl,(show aW eX 47 wr (.slice A2 (List.take ns.length ns).flatten.length c2) ns.flatten F from by have h:=HO.out;rwa [List.take_length] at h ⊢),uT.out,HX2.out⟩
end Go.Proofs.YtbdicafambkhdaaGreat
namespace Go.Proofs.YtbdicafambkhdaaGreat
open Go.Proofs.Tryz
open Go.RowKit Go.Shelf Go.Lib Go.Sort
attribute [local irreducible] wpQuiet
theorem nD:FI bW:=by
 have:=FI.lex (EH.UL Label.level) (EH.UL Label.set);have e:bW=fun x y=>if mQ x.level y.level=0 then mQ x.set y.set else mQ x.level y.level:=by funext x y;rw [bW,Wh]
 rw [e];exact this
abbrev pW:={ x:Label // aP x }
instance:Inhabited pW:=⟨⟨⟨0,0⟩,by simp [aP,I64]⟩⟩
def wU (x:pW):List Value:=aQ x.1
theorem UW (x:pW):(wU x).length=2:=rfl
theorem aj1 {w:World} {B n:Nat} {d:Array pW} {os:Array Obj} {C:Array Value} {T:TypeId} (hB:aF w B T C) :
 (∃ C':Array Value,aF (sortWorldK wU 2 w B 0 n d os) B T C'∧C'.size=C.size)∧Kept [B] w (sortWorldK wU 2 w B 0 n d os):=by
 have hlt:=hB.lt;have hh:(sortWorldK wU 2 w B 0 n d os).heap=(w.heap.modify B (onCells (putCells id 0 (flatK wU 2 d)))) ++ os:=rfl;refine ⟨⟨putCells id 0 (flatK wU 2 d) C,?_,by simp [putCells]⟩,rfl,rfl,rfl,by rw [hh];simp,fun b hb hn=>?_⟩
 · show (sortWorldK wU 2 w B 0 n d os).heap[B]? = _;rw [hh,Array.getElem?_append_left (by simpa using hlt),Array.getElem?_modify,if_pos rfl,hB];rfl
 · rw [hh,Array.getElem?_append_left (by simpa using hb),Array.getElem?_modify,if_neg (fun e=>hn (by simp [e]))]
theorem abX {w:World} {B c:Nat} {C:Array Value} {T:TypeId} {d:Array pW} (hB:aF w B T C) (hC:C.size=c * 2) (hd:d.size≤c) (hc:c≤maxLen) (hH:HoldsK wU 2 w B 0 d) :
 aW eX T w (.slice (some ⟨B,0,none⟩) d.size c) (d.toList.map (·.1)) [B]:=by
 have hl:(d.toList.map (fun x:pW=>x.1)).length=d.size:=by simp
 refine .inr ⟨B,c,C,List.replicate d.size [],by rw [hl],hB,by rw [hl];exact hd,hc,hC,by simp,by rw [lS],by simp,fun k hk=>?_⟩;rw [hl] at hk;have e:nth (d.toList.map (fun x:pW=>x.1)) k=(d[k]'hk).1:=by rw [aO (by rw [hl];exact hk)];simp
 rw [e];refine ⟨aQ (d[k]'hk).1,⟨⟨rfl,(d[k]'hk).2⟩,Gv (α:=Label) hk⟩,fun j u hj=>?_⟩;have hj4:j < 2:=(List.getElem?_eq_some_iff.1 hj).1;have h1:=(hH (k * 2+j) (by rw [size_flatK];omega)).1;rw [Nat.zero_add,get_flatK _ _ _ _ (by omega),show (k * 2+j) / 2=k by omega,show (k * 2+j) % 2=j by omega,getElem!_pos d k hk] at h1;rw [show k * aH.size+j=k * 2+j from rfl,h1];have h2:(wU (d[k]'hk))[j]? = some u:=hj;obtain ⟨h3,h4⟩:=List.getElem?_eq_some_iff.1 h2;rw [getElem!_pos (wU (d[k]'hk)) j h3,h4];rfl
theorem YA {w:World} {v:Value} {T:TypeId} {l:List Label} {F:List Nat} (h:aW eX T w v l F) (hl:0 < l.length) :
 ∃ (B c:Nat) (C:Array Value) (d:Array pW),v=.slice (some ⟨B,0,none⟩) d.size c∧aF w B T C∧C.size=c * 2∧d.size≤c∧c≤maxLen∧F = [B]∧HoldsK wU 2 w B 0 d∧d.toList.map (·.1)=l:=by
 obtain ⟨A,c0,hv0,hc0,_⟩:=h.form;obtain ⟨B0,hB0⟩:∃ B0,A=some ⟨B0,0,none⟩:=by
  rcases h with ⟨rfl,_⟩ | ⟨B,_,_,_,hv,_⟩
  · simp at hl
  · rw [hv] at hv0;injection hv0 with e1;exact ⟨B,e1.symm⟩
 subst hB0;subst hv0;have hF:=aW.ny h (by omega);rcases h with ⟨rfl,_⟩ | ⟨B,c,C,Fs,hv,hB,h1,h2,h3,hlF,h4,hn,hk⟩
 · simp at hl
 · injection hv with e1 e2 e3
   cases e1;subst e3;have hfit:∀ x∈l,aP x:=fun x hx=>by
    obtain ⟨i,hi,rfl⟩:=List.getElem_of_mem hx;obtain ⟨cs,ho,_⟩:=hk i hi;rw [← aO hi];exact ho.1.2
   obtain ⟨d,hd⟩:∃ d:Array pW,d.toList.map (·.1)=l:=⟨(l.attach.map fun x=>(⟨x.1,hfit x.1 x.2⟩:pW)).toArray,by simp⟩
   have hs:d.size=l.length:=by rw [← hd];simp
   refine ⟨_,_,C,d,by rw [hs],hB,h3,by rw [hs];exact h1,h2,hF,fun t ht=>⟨?_,aF.frozen (t:=T) (cs:=C) hB _⟩,hd⟩;rw [size_flatK] at ht;have hk':t / 2 < l.length:=by omega
   obtain ⟨cs,ho,hc⟩:=hk _ hk';obtain ⟨⟨rfl,_⟩,_⟩:=ho;have hkd:t / 2 < d.size:=by omega
   rw [Nat.zero_add,get_flatK _ _ _ _ ht,getElem!_pos d _ hkd];have e:nth l (t / 2)=(d[t / 2]'hkd).1:=by
    rw [aO hk'];simp only [← hd];simp
   rw [e] at hc;have h5:t % 2 < (wU (d[t / 2]'hkd)).length:=by rw [UW];omega
   have h6:=hc (t % 2) _ (List.getElem?_eq_getElem (l:=wU (d[t / 2]'hkd)) h5);rw [getElem!_pos (wU (d[t / 2]'hkd)) _ h5];rw [show t / 2 * aH.size+t % 2=t from by show t / 2 * 2+t % 2=t;omega] at h6;exact h6
theorem apr:SWO (ltOf fun x y:pW=>bW x.1 y.1) where
 irrefl x:=by
  have:=nD.self x.1;simp [ltOf,this]
 trans x y z h1 h2:=by
  simp only [ltOf,decide_eq_true_eq] at *;exact nD.lt_trans h1 h2
 ntrans x y z h1 h2:=by
  simp only [ltOf,decide_eq_false_iff_not] at *;have a1:=nD.anti x.1 y.1;have a2:=nD.anti y.1 z.1;have a3:=nD.anti x.1 z.1;have:=nD.trans z.1 y.1 x.1 (by omega) (by omega);omega
theorem KF:∀ (args:Array Value) (W:World),(callFunc 117 args).run prog W=.ok (.enter 117 args) W:=by
 intro args W;go_simp
theorem ahu:∀ w,(isAgg 47).run prog w=.ok true w:=by intro w;go_simp
theorem amw:∀ w,(Go.sizeOf 47).run prog w=.ok 2 w:=by intro w;go_simp
def adg (v:Value) (l:List Label) (F:List Nat) (w:World) (e:Ending) (w':World):Prop:=e=.returned (.tuple #[])∧∃ m,aW eX 47 w' v m F∧m.Perm l∧(m.Pairwise fun a b=>bW a b≤0)∧Kept F w w'
theorem NM (l:List Label) (v:Value) (F:List Nat) (w:World) (h:aW eX 47 w v l F) (hl:0 < l.length) (hm:l.length≤1000) :
 Calls prog 201 #[v,.func (.func 117) #[] #[]] w (adg v l F w):=by
 obtain ⟨B,c,C,d,rfl,hB,hC,hd,hc,rfl,hH,hdl⟩:=YA h hl;have hs:d.size=l.length:=by rw [← hdl];simp
 have hcmp:CmpLays prog 117 #[] wU 2 (fun x y:pW=>bW x.1 y.1) B 0 d.size w:=fun m os dk _ x y=>by
  have:=qH (S:=fun _=>True) (S':=fun _=>True) x.1 y.1 (aQ x.1) (aQ y.1) (sortWorldK wU 2 w B 0 m dk os) ⟨rfl,x.2⟩ ⟨rfl,y.2⟩;exact this
 have hcon:=AnyQ.slices_SortFunc Tryz.sortLabel 2 ahu amw wU UW (fun x u hu=>by simp [wU,aQ] at hu;rcases hu with rfl | rfl <;> rfl) (fun x y:pW=>bW x.1 y.1) apr 117 #[] B 0 c d w KF hcmp hH hB.lt (by omega);refine Calls.mono (show Calls prog 201 _ _ _ from hcon) ?_;rintro e w' ⟨rfl,d',n,os,⟨hz,_,hp⟩,hso,rfl⟩;obtain ⟨⟨C',hB',hC'⟩,hk⟩:=aj1 (n:=n) (d:=d') (os:=os) hB;have hH':=holdsK_sortWorldK_c wU 2 w B 0 d d' n os hH hB.lt hz;have ho:=abX hB' (by rw [hC',hC]) (by rw [hz];exact hd) hc hH';rw [hz] at ho;refine ⟨rfl,d'.toList.map (·.1),ho,?_,?_,hk⟩
 · have e1:d'.extract 0 d.size=d':=by rw [← hz];simp
   have e2:d.extract 0 d.size=d:=by simp
   rw [e1,e2] at hp;have:=hp.map (fun x:pW=>x.1)
   rwa [hdl] at this
 · rw [List.pairwise_map,List.pairwise_iff_getElem];intro i j hi hj hij;have hj':j < d'.size:=by simpa using hj
   have h1:=hso i j (Nat.zero_le _) hij (by omega);rw [getElem!_pos d' i (by omega),getElem!_pos d' j hj'] at h1;simp only [ltOf,decide_eq_false_iff_not] at h1;have h2:=nD.anti (d'[i]'(by omega)).1 (d'[j]'hj').1;simp only [Array.getElem_toList];omega
end Go.Proofs.YtbdicafambkhdaaGreat
namespace Go.Proofs.YtbdicafambkhdaaGreat
open Go.Proofs.Tryz
open Go.RowKit
attribute [local irreducible] wpQuiet
theorem IQ (x y:Label):∀ a:List Label,dW (a ++ [x,y])=if x=y then dW (a ++ [x]) else dW (a ++ [x]) ++ [y]
 | []=>by
   by_cases h:x=y
   · subst h;simp [dW]
   · simp [dW,h]
 | [c]=>by
   by_cases h:x=y
   · subst h;simp [dW]
   · by_cases h2:c=x <;> simp [dW,h,h2]
 | c :: d :: r=>by
   have ih:=IQ x y (d :: r);simp only [List.cons_append] at ih ⊢;by_cases h:x=y
   · rw [if_pos h] at ih ⊢;by_cases h2:c=d <;> simp [dW,h2,ih]
   · rw [if_neg h] at ih ⊢;by_cases h2:c=d <;> simp [dW,h2,ih]
theorem En {l:List Label} {m:Nat} (h:m+1 < l.length):dW (l.take (m+2))=if nth l m=nth l (m+1) then dW (l.take (m+1)) else dW (l.take (m+1)) ++ [nth l (m+1)]:=by
 rw [aV (k:=m+1) h,aV (k:=m) (by omega),List.append_assoc];exact IQ _ _ _
theorem zV (n:Nat):(Builtin.zeroCells (Value.agg Zr.l).cells n).toList.length=n * 2∧∀ v∈(Builtin.zeroCells (Value.agg Zr.l).cells n).toList,v.oneCell'=true:=aaM n
theorem vC {w:World} {l:List Label} {B c:Nat} {F:List Nat} {T:TypeId} (h:aW eX T w (.slice (some ⟨B,0,none⟩) l.length c) l F) {j:Nat} (hj:j < l.length):w.rangeAt B (j * 2) (aQ (nth l j))∧aP (nth l j):=by
 obtain ⟨A2,c2,hv2,_,_,hk2⟩:=h.rd.open_;obtain ⟨b,q,cs,hA2,_,⟨rfl,hf⟩,hc2⟩:=hk2 j hj;injection hv2 with e1 e2 e3
 rw [← e1] at hA2;cases hA2;exact ⟨by simpa [aH] using hc2,hf⟩
def aox (l:List Label) (F:List Nat) (w:World) (e:Ending) (w':World):Prop:=∃ v' F',e=.returned v'∧aW eX 47 w' v' l F'∧(∀ b∈F',b∈F)∧Kept F w w'
theorem Gn (l:List Label) (v:Value) (F:List Nat) (w:World) (h:aW eX 47 w v l F) (h0:0 < l.length) (hl:l.length≤1000) :
 Calls prog 202 #[v] w (aox (dW l) F w):=by
 obtain ⟨A,c,rfl,h1,h2⟩:=h.form;unfold maxLen at h2;obtain ⟨B,rfl⟩:∃ B,A=some ⟨B,0,none⟩:=by
  rcases h with ⟨rfl,_⟩ | ⟨B,_,_,_,hv,_⟩
  · simp at h0
  · cases hv;exact ⟨B,rfl⟩
 have HO:=ah h;have Oj:Hid (B∈F):=ah (by
  rcases h with ⟨_,_,A',hv⟩ | ⟨B',c',C,Fs,hv,_,_,_,_,_,rfl,_⟩
  · injection hv with _ hh;omega
  · injection hv with e1 e2 e3;cases e1;exact List.mem_cons_self ..)
 clear h;by_cases h2':l.length < 2
 · have HE:Hid (dW l=l):=ah (by
    match l,h0,h2' with
    | [x],_,_=>rfl)
   go_enter func202,ntmps202;go_wp2_with fail;go_ret;exact ⟨_,F,rfl,by rw [HE.out];exact HO.out,fun b hb=>hb,Kept.refl _ _⟩
 · have atG:2≤l.length:=by omega
   clear h2';go_enter func202,ntmps202;go_wp2_with fail;go_loopw [3] (fun i w'=>∃ k:Nat,1≤k∧k≤l.length∧i=.int .i64 k∧dW (l.take k)=l.take k∧Ext w w') (fun i _=>l.length - (intOf i).toNat);case atStart=>exact ⟨1,by omega,by omega,rfl,by rw [aV (k:=0) (by omega)];rfl,Ext.refl _⟩
   case round =>
    obtain ⟨k,hk0,hk1,rfl,hc,hx⟩:=hrel;have HC:=ah hc;have HX:=ah hx;clear hc;by_cases hlt:k < l.length
    · obtain ⟨m,rfl⟩:∃ m,k=m+1:=⟨k - 1,by omega⟩
      obtain ⟨hca,hfa⟩:=vC (HO.out.ext hx) hlt;obtain ⟨hcb,hfb⟩:=vC (HO.out.ext hx) (j:=m) (by omega);have c0:=hca 0 _ rfl;have c1:=hca 1 _ rfl;have d0:=hcb 0 _ rfl;have d1:=hcb 1 _ rfl;simp only [Nat.add_zero] at c0 c1 d0 d1;have HT:=ah (En (l:=l) (m:=m) hlt);have i0:(0:Int)≤(m:Int)+1:=by omega
      have i1:(m:Int)+1 < (l.length:Int):=by omega
      have i2:((m:Int)+1).toNat=m+1:=by omega
      have i3:IntKind.i64.wrap (m:Int)=(m:Int):=IntWalk.i64_in _ (by omega);have i4:m < l.length:=by omega
      clear hca hcb hfa hfb hx;by_cases he:nth l m=nth l (m+1)
      · have HT2:Hid (dW (l.take (m+2))=l.take (m+1)):=ah (by rw [HT.out,if_pos he,HC.out]);have g0:(nth l (m+1)).level=(nth l m).level:=by rw [he]
        have g1:(nth l (m+1)).set=(nth l m).set:=by rw [he]
        clear he;go_wp2_with fail;refine ak (by kernel_rfl) (by kernel_rfl) ?_;repeat (
         (refine wpQuiet_step (fun K hK=>?_)
          go_simp;first
           | (refine hK _ ?_;clear hK K)
           | (apply Exists.intro
              refine ⟨fun bH aj=>?_,hK _ ?_⟩
              · have kH:=Ext.some aj c0;have mX:=Ext.some aj c1;have jH:=Ext.some aj d0;have kJ:=Ext.some aj d1;first | exact rfl | (go_simp;done) | (go_simp;exact rfl)
              clear hK K)))
        refine wpQuiet_nil ?_;intro w1 hx1;have HE:=ah hx1;clear c0 c1 d0 d1 hx1 g0 g1;have X1:=ah (HX.out.trans HE.out);have hmc:m+1≤c:=by omega
        go_wp2_with fail;go_loopw [3,5] (fun a b w'=>∃ (i k2:Nat) (q:List Label),a=.int .i64 i∧b=.int .i64 k2∧1≤k2∧i < m+1+k2∧m+1+k2≤l.length∧q.length=l.length∧q.take i=dW (l.take (m+1+k2))∧(∀ t,m+k2≤t→t < l.length→nth q t=nth l t)∧aW eX 47 w' (.slice (some ⟨B,0,none⟩) l.length c) q F∧Kept F w w') (fun _ b _=>l.length - (intOf b).toNat);case atStart=>exact ⟨m+1,1,l,rfl,rfl,Nat.le_refl _,by omega,by omega,rfl,HT2.out.symm,fun _ _ _=>rfl,HO.out.ext X1.out,Kept.dw X1.out⟩
        case round =>
         obtain ⟨i,k2,q,rfl,rfl,hk2,hij,hj,hql,hqt,hqn,hown,hkp⟩:=hrel;have XG:=ah hql;have HQT:=ah hqt;have HQN:=ah hqn;have HOW:=ah hown;have lJ:=ah hkp;clear hql hqt hqn hown hkp;by_cases hlt2:m+1+k2 < l.length
         · have hown':aW eX 47 wr (.slice (some ⟨B,0,none⟩) q.length c) q F:=by rw [XG.out];exact HOW.out
           obtain ⟨hca,hfa⟩:=vC hown' (j:=m+1+k2) (by rw [XG.out];exact hlt2);obtain ⟨hcb,hfb⟩:=vC hown' (j:=m+k2) (by rw [XG.out];omega);rw [HQN.out (m+1+k2) (by omega) hlt2] at hca hfa;rw [HQN.out (m+k2) (by omega) (by omega)] at hcb hfb;rw [show (m+1+k2) * 2=(m+1) * 2+k2 * 2 by omega] at hca;rw [show (m+k2) * 2=(m+1) * 2+(k2 - 1) * 2 by omega] at hcb;have c0:=hca 0 _ rfl;have c1:=hca 1 _ rfl;have d0:=hcb 0 _ rfl;have d1:=hcb 1 _ rfl;simp only [Nat.add_zero] at c0 c1 d0 d1;have em3:((k2:Nat):Int) - 1=((k2 - 1:Nat):Int):=by omega
           have i5:IntKind.i64.wrap ((k2 - 1:Nat):Int)=((k2 - 1:Nat):Int):=IntWalk.i64_in _ (by omega);have hk3:k2 < l.length - (m+1):=by omega
           have hk4:k2 - 1 < l.length - (m+1):=by omega
           have hk5:((k2:Nat):Int) < ((l.length - (m+1):Nat):Int):=by omega
           have hk6:(((k2 - 1:Nat):Nat):Int) < ((l.length - (m+1):Nat):Int):=by omega
           have lM:=ah hfa;have HT3:=ah (En (l:=l) (m:=m+k2) (by omega));clear hca hcb hfa hfb hown';by_cases he2:nth l (m+k2)=nth l (m+1+k2)
           · have g0:(nth l (m+1+k2)).level=(nth l (m+k2)).level:=by rw [he2]
             have g1:(nth l (m+1+k2)).set=(nth l (m+k2)).set:=by rw [he2]
             have HT4:Hid (dW (l.take (m+1+(k2+1)))=dW (l.take (m+1+k2))):=ah (by
              rw [show m+1+(k2+1)=m+k2+2 by omega,HT3.out,if_pos (by rw [he2];congr 1;omega),show m+k2+1=m+1+k2 by omega])
             clear he2;go_wp2_with fail;refine ak (by kernel_rfl) (by kernel_rfl) ?_;repeat (
              (refine wpQuiet_step (fun K hK=>?_)
               go_simp;first
                | (refine hK _ ?_;clear hK K)
                | (apply Exists.intro
                   refine ⟨fun bH aj=>?_,hK _ ?_⟩
                   · have kH:=Ext.some aj c0;have mX:=Ext.some aj c1;have jH:=Ext.some aj d0;have kJ:=Ext.some aj d1;first | exact rfl | (go_simp;done) | (go_simp;exact rfl)
                   clear hK K)))
             refine wpQuiet_nil ?_;intro w1 hx1;have HE2:=ah hx1;clear c0 c1 d0 d1 hx1 g0 g1;go_wp2_with fail;go_roundw;case rel=>exact ⟨i,k2+1,q,rfl,by go_num,by omega,by omega,by omega,XG.out,by rw [HT4.out];exact HQT.out,fun t h3 h4=>HQN.out t (by omega) h4,HOW.out.ext HE2.out,lJ.out.trans (Kept.dw HE2.out)⟩
             case measure=>simp [intOf];omega
           · have him:i < q.length:=by have:=XG.out;omega
             have HT4:Hid ((q.set i (nth l (m+1+k2))).take (i+1)=dW (l.take (m+1+(k2+1)))):=ah (by
              rw [CQ him,HQT.out,show m+1+(k2+1)=m+k2+2 by omega,HT3.out,if_neg (by intro e;exact he2 (by rw [e];congr 1;omega)),show m+k2+1=m+1+k2 by omega])
             have he3:nth l (m+1+k2)≠nth l (m+k2):=fun e=>he2 e.symm;rcases nC he3 with g | g
             all_goals
              clear he2 he3;have gb:=beq_eq_false_iff_ne.2 g;go_wp2_with fail;refine ak (by kernel_rfl) (by kernel_rfl) ?_;repeat (
               (refine wpQuiet_step (fun K hK=>?_)
                go_simp;first
                 | (refine hK _ ?_;clear hK K)
                 | (apply Exists.intro
                    refine ⟨fun bH aj=>?_,hK _ ?_⟩
                    · have kH:=Ext.some aj c0;have mX:=Ext.some aj c1;have jH:=Ext.some aj d0;have kJ:=Ext.some aj d1;first | exact rfl | (go_simp;done) | (go_simp;exact rfl)
                    clear hK K)))
              refine wpQuiet_nil ?_;intro w1 hx1;have HE2:=ah hx1;have c0':=Ext.some hx1 c0;have c1':=Ext.some hx1 c1;clear c0 c1 d0 d1 hx1;obtain ⟨B',c',G,cs,hv,yx,hBG,hGF,ho,hc,hfz,hth,hrow,hset⟩:=(HOW.out.ext HE2.out).at (k:=i) him;obtain ⟨⟨rfl,hfi⟩,rfl⟩:=ho;injection hv with hA hlen hcc
              clear hlen;subst hcc;cases hA;have d0:=hc 0 _ rfl;have d1:=hc 1 _ rfl;have z0:=hfz (i * 2);have z1:=hfz (i * 2+1);simp only [aH,Nat.add_zero] at d0 d1;have HN:Hid (aW eX 47 (w1.setCells B (i * 2) [.int .i64 (nth l (m+1+k2)).level,.int .i64 (nth l (m+1+k2)).set]) (.slice (some ⟨B,0,none⟩) l.length c) (q.set i (nth l (m+1+k2))) F):=ah (by
               refine hset _ _ [.int .i64 (nth l (m+1+k2)).level,.int .i64 (nth l (m+1+k2)).set] (Kept.setCells (by simp) _ _ _ (Kept.refl _ _)) (dD.setCells _ _ _ hrow (by simp [aH]) (by simp [aH])) ⟨aC lM.out,rfl⟩ ?_;exact World.rangeAt_setCells_same w1 B (i * 2) [.int .i64 (nth l (m+1+k2)).level,.int .i64 (nth l (m+1+k2)).set] hth)
              have hil:(i:Int) < (l.length:Int):=by have:=XG.out;omega
              clear hset hth hrow hc hfz hfi yx hBG hGF gb g;go_wp2_with fail;go_roundw;case rel=>exact ⟨i+1,k2+1,q.set i (nth l (m+1+k2)),by go_num,by go_num,by omega,by omega,by omega,by rw [List.length_set];exact XG.out,HT4.out,fun t h3 h4=>by rw [Du (by omega) (by rw [XG.out];exact h4)];exact HQN.out t (by omega) h4,HN.out,Kept.setCell (Kept.setCell (lJ.out.trans (Kept.dw HE2.out)) Oj.out _) Oj.out _⟩
              case measure=>simp [intOf];omega
         · have ao5:m+1+k2=l.length:=by omega
           have hil:(i:Int) < (l.length:Int):=by omega
           have hi0:(0:Int)≤(i:Int):=Int.natCast_nonneg _;obtain ⟨C,hB⟩:∃ C:Array Value,wr.heap[B]? = some (.cells C 47 (0,0))∧C.size=c * 2:=by
            rcases HOW.out with ⟨_,_,A',hv⟩ | ⟨B',c',C,Fs,hv,hB,_,_,h3,_⟩
            · injection hv with _ hh;omega
            · injection hv with e1 e2 e3;cases e1;subst e3;exact ⟨C,hB,by simpa [aH] using h3⟩
           have HTH:Hid (wr.there B (i * 2) ((l.length - i) * 2)):=ah (mZ hB.1 (by rw [hB.2];omega));have HRW:Hid (dD 47 B (i * 2) ((l.length - i) * 2) wr (wr.setCells B (i * 2) (Builtin.zeroCells (Value.agg Zr.l).cells (l.length - i)).toList)):=ah (dD.setCells _ _ _ (dD.refl hB.1) (Nat.le_refl _) (by rw [(zV _).1];exact Nat.le_refl _));clear hB;have aoj:Hid (q.take i=dW l):=ah (by rw [HQT.out,ao5,List.take_length]);have hik:¬ ((k2:Int) < ((l.length - (m+1):Nat):Int)):=by omega
           have ag1:=ru (P:=prog) wr 134 47 0 (.agg Zr.l) (l.length - i) underlying134 (by intro w;go_simp) (zV _).2 B (i * 2) (c - i) (by omega) (by rw [(zV _).1];exact HTH.out);go_wp2_with fail;go_ret;obtain ⟨F2,o2,f2⟩:=aW.cut (h:=by rw [XG.out];exact HOW.out) (by rw [XG.out];omega) (n:=i) (by rw [XG.out];omega) HRW.out;exact ⟨_,F2,rfl,by rw [← aoj.out];exact o2,f2,lJ.out.trans (Kept.setCells Oj.out _ _ _ (Kept.refl _ _))⟩
      · have HT2:Hid (dW (l.take (m+1+1))=l.take (m+1+1)):=ah (by rw [HT.out,if_neg he,HC.out,aV (k:=m+1) hlt]);have he3:nth l (m+1)≠nth l m:=fun e=>he e.symm;rcases nC he3 with g | g
        all_goals
         clear he he3;have gb:=beq_eq_false_iff_ne.2 g;go_wp2_with fail;refine ak (by kernel_rfl) (by kernel_rfl) ?_;repeat (
          (refine wpQuiet_step (fun K hK=>?_)
           go_simp;first
            | (refine hK _ ?_;clear hK K)
            | (apply Exists.intro
               refine ⟨fun bH aj=>?_,hK _ ?_⟩
               · have kH:=Ext.some aj c0;have mX:=Ext.some aj c1;have jH:=Ext.some aj d0;have kJ:=Ext.some aj d1;first | exact rfl | (go_simp;done) | (go_simp;exact rfl)
               clear hK K)))
         refine wpQuiet_nil ?_;intro w1 hx1;have HE:=ah hx1;clear c0 c1 d0 d1 hx1 gb g;go_wp2_with fail;go_roundw;case rel=>exact ⟨m+1+1,by omega,by omega,by go_num,HT2.out,HX.out.trans HE.out⟩
         case measure=>simp [intOf];omega
    · obtain rfl:k=l.length:=by omega
      have HE:Hid (dW l=l):=ah (by have:=HC.out;rwa [List.take_length] at this);go_wp2_with fail;go_ret;exact ⟨_,F,rfl,by rw [HE.out];exact HO.out.ext HX.out,fun b hb=>hb,Kept.dw HX.out⟩
end Go.Proofs.YtbdicafambkhdaaGreat
/- The words of memory that grew by draws and new blocks alone,as those of memory that only grew. What was left out of other texts of this seat,for the laws that need it. Printed by wip/rest.py. Who sorts a row and who inserts its elements one after another come to the same row. The walks of the rank functions. The order in which a yard's tasks are planned,in plain Lean. -/
namespace Go.Proofs.YtbdicafambkhdaaGreat
open Go.Proofs.Tryz
open Go.RowKit Go.Sort
attribute [local irreducible] wpQuiet
instance {a b:World}:Coe (Gr a b) (Ext a b):=⟨Gr.ext⟩
theorem Gr.some {w w':World} (h:Gr w w') {p:Addr} {u:Value} (hp:w.cell? p=some u):w'.cell? p=some u:=h.ext.some hp
theorem Gr.range {w w':World} (h:Gr w w') {b o:Nat} {cs:List Value} (hr:w.rangeAt b o cs):w'.rangeAt b o cs:=h.ext.range hr
theorem Gr.same {w w':World} (h:Gr w w') (S:Nat→Prop):Same S w w':=h.ext.same S
theorem Gr.size {w w':World} (h:Gr w w'):w.heap.size≤w'.heap.size:=h.ext.size
theorem uX {P:Program} {f:FuncId} {args:Array Value} {w w1:World} {v:Value} (hx:Gr w w1) (h:Calls P f args w1 fun e w'=>e=.returned v∧Gr w1 w') :
 Calls P f args w1 fun e w'=>e=.returned v∧Gr w w':=h.mono fun _ _ ⟨he,hk⟩=>⟨he,hx.trans hk⟩
theorem iM {P:Program} {f:FuncId} {args:Array Value} {w w1:World} {v:Value} (hx:Gr w w1) (h:Calls P f args w1 fun e w'=>e=.returned v∧w1=w') :
 Calls P f args w1 fun e w'=>e=.returned v∧Gr w w':=h.mono fun _ _ ⟨he,hk⟩=>⟨he,hk ▸ hx⟩
theorem jd {P:Program} {id:Nat} {Q:Exit→Act→World→Prop} {a:Act} {w:World} {l:List Oper} (hm:P.follows .mixedOrders=true) (hB:Region.lexB .any l.toArray=true)
 (h:wpQuiet P l.toArray (fun w'=>Gr w w') (fun a'=>∀ w',Gr w w'→Q .normal a' w') l a):(Code.region id l.toArray true).wp P Q a w :=
 wp_region_quiet (C:=fun w'=>Gr w w') hm hB (Gr.refl w).drew (by simpa using h)
theorem lN (w:World) (cs:Array Value) (T:TypeId):∃ W B,W=w.alloc (.cells cs T)∧B=w.heap.size∧Gr w W∧(∀ i u,cs[i]? = some u→W.cell? ⟨B,i,none⟩=some u):=by
 obtain ⟨W,B,h1,h2,_,h4⟩:=fH w cs T;exact ⟨W,B,h1,h2,by rw [h1];exact (Gr.refl w).alloc _,h4⟩
theorem Qb (w:World) (A O:Array Value) (T U:TypeId):∃ W B,W=(w.alloc (.cells A T)).alloc (.cells O U)∧B=w.heap.size∧Gr w W∧aF W B T A∧aF W (B+1) U O:=by
 obtain ⟨W,B,h1,h2,_,h4,h5⟩:=eY w A O T U;exact ⟨W,B,h1,h2,by rw [h1];exact ((Gr.refl w).alloc _).alloc _,h4,h5⟩
end Go.Proofs.YtbdicafambkhdaaGreat
namespace Go.Proofs.YtbdicafambkhdaaGreat
open Go.Proofs.Tryz
open Go.RowKit
attribute [local irreducible] wpQuiet
section
variable {α:Type} {c:α→α→Int}
theorem FI.flip (h:FI c):FI fun x y=>c y x:=⟨fun x y=>h.anti y x,fun x y z h1 h2=>h.trans z y x h2 h1⟩
theorem FI.af7 (h:FI c) {x y z:α} (h1:c x y≤0) (h2:c y z < 0):c x z < 0:=by
 have a1:=h.anti x z;have a2:=h.anti y z;have:=h.trans z x y;have:=h.trans x y z h1 (by omega);rcases (show c x z < 0∨0≤c x z by omega) with h3 | h3
 · exact h3
 · have:=h.trans z x y (by omega) h1;omega
def qO (c:α→α→Int) (l:List α) (x:α):Nat:=(l.takeWhile fun y=>decide (c y x < 0)).length
def xW (c:α→α→Int) (l:List α) (x:α):List α:=l.take (qO c l x) ++ x :: l.drop (qO c l x)
def sortL (c:α→α→Int) (l:List α):List α:=l.foldl (xW c) []
theorem afE (l:List α) (x:α):qO c l x≤l.length:=(List.takeWhile_sublist _).length_le
theorem Nq [Inhabited α]:∀ (l:List α) (x:α) (k:Nat),k < qO c l x→c (nth l k) x < 0
 | [],x,k,h=>by simp [qO] at h
 | y :: l,x,k,h=>by
   unfold qO at h;rw [List.takeWhile_cons] at h;split at h
   · rename_i hy
     cases k with
     | zero=>simpa [nth] using hy
     | succ k =>
       have:=Nq l x k (by unfold qO;simpa using h);simpa [nth] using this
   · simp at h
theorem Tm [Inhabited α]:∀ (l:List α) (x:α),qO c l x < l.length→¬ c (nth l (qO c l x)) x < 0
 | [],x,h=>by simp at h
 | y :: l,x,h=>by
   unfold qO at h ⊢;rw [List.takeWhile_cons] at h ⊢;split
   · rename_i hy
     rw [if_pos hy] at h;have:=Tm l x (by unfold qO;simpa using h);simpa [nth,qO] using this
   · rename_i hy
     simpa [nth] using hy
theorem QE [Inhabited α] {l:List α} {x:α} {k:Nat} (hk:k≤l.length) (h:∀ j,j < k→c (nth l j) x < 0) (he:k=l.length∨¬ c (nth l k) x < 0):qO c l x=k:=by
 rcases Nat.lt_trichotomy (qO c l x) k with h1 | h1 | h1
 · exact absurd (h _ h1) (Tm l x (by omega))
 · exact h1
 · rcases he with he | he
   · have:=afE (c:=c) l x;omega
   · exact absurd (Nq l x k h1) he
theorem Iq (l:List α) (x:α):(xW c l x).Perm (l ++ [x]):=by
 unfold xW;have h1:(List.take (qO c l x) l ++ x :: List.drop (qO c l x) l).Perm (x :: (List.take (qO c l x) l ++ List.drop (qO c l x) l)):=List.perm_middle;rw [List.take_append_drop] at h1;exact h1.trans (List.perm_append_singleton x l).symm
theorem Wv [Inhabited α] (h:FI c) {l:List α} {x:α} (hl:l.Pairwise fun a b=>c a b < 0) (hn:∀ y∈l,c y x≠0):(xW c l x).Pairwise fun a b=>c a b < 0:=by
 have low:∀ a∈l.take (qO c l x),c a x < 0:=fun a ha=>by
  obtain ⟨i,hi,rfl⟩:=List.getElem_of_mem ha;rw [List.length_take] at hi;have:=Nq (c:=c) l x i (by omega);rw [aO (by omega)] at this;simpa using this
 have high:∀ b∈l.drop (qO c l x),c x b < 0:=fun b hb=>by
  obtain ⟨i,hi,rfl⟩:=List.getElem_of_mem hb;rw [List.length_drop] at hi;have h1:=Tm (c:=c) l x (by omega);have h2:=hn _ (bG (show qO c l x < l.length by omega));have h3:=h.anti (nth l (qO c l x)) x;have h4:c x (nth l (qO c l x)) < 0:=by omega
  rw [List.getElem_drop];rcases Nat.eq_zero_or_pos i with h0 | h0
  · subst h0;rw [aO (by omega)] at h4;simpa using h4
  · have h5:=List.pairwise_iff_getElem.1 hl (qO c l x) (qO c l x+i) (by omega) (by omega) (by omega);rw [aO (by omega)] at h4;exact h.af7 (Int.le_of_lt h4) h5
 unfold xW;rw [List.pairwise_append];refine ⟨hl.sublist (List.take_sublist _ _),List.pairwise_cons.2 ⟨high,hl.sublist (List.drop_sublist _ _)⟩,fun a ha b hb=>?_⟩;rcases List.mem_cons.1 hb with rfl | hb
 · exact low a ha
 · exact h.af7 (Int.le_of_lt (low a ha)) (high b hb)
theorem yX [Inhabited α] (h:FI c):∀ (l acc:List α),acc.Pairwise (fun a b=>c a b < 0)→(acc ++ l).Pairwise (fun a b=>c a b≠0)→(l.foldl (xW c) acc).Pairwise (fun a b=>c a b < 0)∧(l.foldl (xW c) acc).Perm (acc ++ l)
 | [],acc,ha,_=>by simpa using ha
 | x :: l,acc,ha,hn=>by
   have sym:∀ {a b:α},c a b≠0→c b a≠0:=fun {a b} h1=>by have:=h.anti a b;omega
   have hp:=Iq (c:=c) acc x;have hs:=Wv h (x:=x) ha (fun y hy=>(List.pairwise_append.1 hn).2.2 y hy x (by simp));have e:acc ++ x :: l=(acc ++ [x]) ++ l:=by simp
   have hp2:(xW c acc x ++ l).Perm (acc ++ x :: l):=by rw [e];exact hp.append_right l
   obtain ⟨g1,g2⟩:=yX h l (xW c acc x) hs (hp2.symm.pairwise hn sym);exact ⟨g1,g2.trans hp2⟩
theorem TG [Inhabited α] (h:FI c) {l:List α} (hn:l.Pairwise fun a b=>c a b≠0):(sortL c l).Pairwise fun a b=>c a b < 0:=(yX h l [] List.Pairwise.nil (by simpa using hn)).1
theorem NK [Inhabited α] (h:FI c) {l:List α} (hn:l.Pairwise fun a b=>c a b≠0):(sortL c l).Perm l:=(yX h l [] List.Pairwise.nil (by simpa using hn)).2
theorem TI [Inhabited α] (h:FI c) {l m:List α} (hn:l.Pairwise fun a b=>c a b≠0) (hp:m.Perm l) (hs:m.Pairwise fun a b=>c a b≤0):m=sortL c l:=by
 have hi:=TG h hn;have hp2:m.Perm (sortL c l):=hp.trans (NK h hn).symm;refine List.Perm.eq_of_pairwise (le:=fun a b=>c a b≤0) ?_ hs (hi.imp fun h=>Int.le_of_lt h) hp2;intro a b ha hb h1 h2;have ha':=hp2.mem_iff.1 ha;obtain ⟨i,hi1,rfl⟩:=List.getElem_of_mem ha';obtain ⟨j,hj1,rfl⟩:=List.getElem_of_mem hb;rcases Nat.lt_trichotomy i j with g | g | g
 · have:=List.pairwise_iff_getElem.1 hi i j hi1 hj1 g;have h3:=h.anti (sortL c l)[i] (sortL c l)[j];omega
 · subst g;rfl
 · have:=List.pairwise_iff_getElem.1 hi j i hj1 hi1 g;have h3:=h.anti (sortL c l)[j] (sortL c l)[i];omega
theorem aan (l:List α) (x:α):sortL c (l ++ [x])=xW c (sortL c l) x:=by rw [sortL,List.foldl_append];rfl
end
def DC (p a u:Int):Int:=if jG p 0 9 && oD a && oD u then 100 * p+min a 50 - min u 90 else 0
theorem vK {n:Int} (h:oD n=true):0≤n∧n≤1000000:=dR h
theorem MB (a b:Int) (w:World) :
 Calls prog 141 #[.int .i64 a,.int .i64 b] w fun e w'=>e=.returned (.int .i64 (min a b))∧w=w':=by
 go_enter func141,ntmps141;go_wp2;all_goals (go_ret;exact ⟨aI (by omega),rfl⟩)
theorem TK (p a u:Int) (w:World) :
 Calls prog 292 #[.int .i64 p,.int .i64 a,.int .i64 u] w fun e w'=>e=.returned (.int .i64 (DC p a u))∧w=w':=by
 by_cases hp:jG p 0 9=true <;> by_cases ha:oD a=true <;> by_cases hu:oD u=true
 · have h1:=dR hp;have h2:=vK ha;have h3:=vK hu;go_enter func292,ntmps292;go_wp2_with (first | (go_at_call 32;refine (fG _ _ _ _).mono ?_;rintro e w' ⟨rfl,rfl⟩) | (go_at_call 249;refine (uZ _ _).mono ?_;rintro e w' ⟨rfl,rfl⟩) | (go_at_call 141;refine (MB _ _ _).mono ?_;rintro e w' ⟨rfl,rfl⟩));go_ret;exact ⟨aI (by simp [DC,hp,ha,hu]),rfl⟩
 all_goals
  simp only [Bool.not_eq_true] at *;go_enter func292,ntmps292;go_wp2_with (first | (go_at_call 32;refine (fG _ _ _ _).mono ?_;rintro e w' ⟨rfl,rfl⟩) | (go_at_call 249;refine (uZ _ _).mono ?_;rintro e w' ⟨rfl,rfl⟩) | (go_at_call 141;refine (MB _ _ _).mono ?_;rintro e w' ⟨rfl,rfl⟩));go_ret;exact ⟨aI (by simp [DC, *]),rfl⟩
theorem aee (p a u:Int) (w:World) :
 Calls prog 211 #[.int .i64 p,.int .i64 a,.int .i64 u] w fun e w'=>e=.returned (.int .i64 (DC p a u))∧w=w':=by
 by_cases hp:jG p 0 9=true <;> by_cases ha:oD a=true <;> by_cases hu:oD u=true
 · have h1:=dR hp;have h2:=vK ha;have h3:=vK hu;go_enter func211,ntmps211;go_wp2_with (first | (go_at_call 42;refine (bI _ _ _ _).mono ?_;rintro e w' ⟨rfl,rfl⟩) | (go_at_call 265;refine (xq _ _).mono ?_;rintro e w' ⟨rfl,rfl⟩));all_goals (go_ret;exact ⟨aI (by simp [DC,hp,ha,hu];try omega),rfl⟩)
 all_goals
  simp only [Bool.not_eq_true] at *;go_enter func211,ntmps211;go_wp2_with (first | (go_at_call 42;refine (bI _ _ _ _).mono ?_;rintro e w' ⟨rfl,rfl⟩) | (go_at_call 265;refine (xq _ _).mono ?_;rintro e w' ⟨rfl,rfl⟩));go_ret;exact ⟨aI (by simp [DC, *]),rfl⟩
def lC (y:aK) (t:Task):Int:=DC t.prio (y.now - t.born) (uO y.uses t.label t.owner)
def ng (y:aK) (a b:Task):Int:=vW [bW a.label b.label,mQ (lC y b) (lC y a),mQ a.id b.id]
def iq (y:aK) (t:Task):Bool:=decide (t.state=2) || sG y.tasks t
def jQ (y:aK):List Task:=sortL (ng y) (y.tasks.filter (iq y))
def firstT (y:aK) (a b:Task):Bool:=if ¬ a.label=b.label then decide (keyOf a.label < keyOf b.label) else if ¬ lC y a=lC y b then decide (lC y b < lC y a) else decide (a.id < b.id)
theorem Dw (a b c:Int):vW [a,b,c]=if a=0 then (if b=0 then c else b) else a:=by
 simp only [vW];split <;> (try split) <;> (try split) <;> simp_all
theorem EG (y:aK):FI (ng y):=by
 have:=FI.lex (nD.UL Task.label) (FI.lex ((FI.flip EH).UL (lC y)) (EH.UL Task.id));have e:ng y=fun a b=>if bW a.label b.label=0 then (if mQ (lC y b) (lC y a)=0 then mQ a.id b.id else mQ (lC y b) (lC y a)) else bW a.label b.label:=by funext a b;rw [ng,Dw]
 rw [e];exact this
theorem aaZ {a b:Int}:mQ a b < 0↔a < b:=by
 unfold mQ;split
 · omega
 · split <;> omega
theorem Qi {y:aK} {a b:Task} (ha:aA a.label=true) (hb:aA b.label=true):firstT y a b=decide (ng y a b < 0):=by
 unfold firstT ng;rw [Dw];rcases qX ha hb with ⟨h1,h2⟩ | ⟨h1,h2⟩ | ⟨h1,h2⟩
 · have hne:¬ a.label=b.label:=fun e=>by rw [e] at h1;omega
   rw [if_pos hne,if_neg (by omega),decide_eq_true h1,decide_eq_true h2]
 · rw [if_neg (by simp [h1]),if_pos h2];by_cases hr:lC y a=lC y b
   · rw [if_neg (by simp [hr]),hr,if_pos (by simp [mQ]),decide_eq_decide];exact aaZ.symm
   · have h3:¬ mQ (lC y b) (lC y a)=0:=fun e=>hr (aaY e).symm;rw [if_pos hr,if_neg h3,decide_eq_decide];exact aaZ.symm
 · have hne:¬ a.label=b.label:=fun e=>by rw [e] at h1;omega
   rw [if_pos hne,if_neg (by omega),decide_eq_decide];omega
theorem WV {l:List Task} (h:bn l=true) {k:Nat} (hk:k < l.length):bJ (nth l k)=true:=by
 simp only [bn,Bool.and_eq_true,List.all_eq_true,List.mem_range] at h;have:=h.2 k hk;simp only [tI,Bool.and_eq_true] at this;exact this.1.1
theorem apart {y:aK} {i j:Nat} (h:bn y.tasks=true) (hj:j < y.tasks.length) (hij:i < j):ng y (nth y.tasks i) (nth y.tasks j)≠0:=by
 unfold ng;rw [Dw];have hr:=fun k hk=>(WV h (k:=k) hk);rcases qX (dQ (hr i (by omega))) (dQ (hr j hj)) with ⟨h1,h2⟩ | ⟨h1,h2⟩ | ⟨h1,h2⟩
 · rw [if_neg (by omega)];omega
 · rw [if_pos h2];have ho:=(Nh hj (fun k hk=>by
    have h':=h;simp only [bn,Bool.and_eq_true,List.all_eq_true,List.mem_range] at h';exact h'.2 k hk) (Nat.le_of_lt hij)).2 h1
   split
   · intro e;have:=aaY e;omega
   · assumption
 · rw [if_neg (by omega)];omega
theorem abu {y:aK} (h:bn y.tasks=true):y.tasks.Pairwise fun a b=>ng y a b≠0:=by
 rw [List.pairwise_iff_getElem];intro i j hi hj hij;have:=apart h hj hij
 rwa [aO hi,aO hj] at this
theorem Ky {y:aK} (h:bn y.tasks=true) (p:Task→Bool):(y.tasks.filter p).Pairwise fun a b=>ng y a b≠0:=(abu h).filter p
end Go.Proofs.YtbdicafambkhdaaGreat

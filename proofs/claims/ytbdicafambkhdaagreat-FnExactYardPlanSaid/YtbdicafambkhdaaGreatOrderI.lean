/- What becomes of a yard in which a task gets another state, in plain Lean; its memory. The walks of the program's isLabelOf, find, turn. The walks of the program's turn, and of what calls it. Printed by wip/yardt.py. -/
import Derived.Test.YtbdicafambkhdaaGreatClones
import Derived.Test.YtbdicafambkhdaaGreatInsSpan
import Derived.Test.YtbdicafambkhdaaGreatConf1
import Derived.Test.YtbdicafambkhdaaGreatGYardT
import Derived.Deep.RegionHeld3
import Derived.Deep.RegionLaw
import Derived.Test.YtbdicafambkhdaaGreatCopies
import Derived.Test.YtbdicafambkhdaaGreatYardS
import Derived.Test.YtbdicafambkhdaaGreatRows
import Derived.Laws.IdiomStrings
import Derived.Laws.BytesArg
import Derived.Test.YtbdicafambkhdaaGreatLabels
import Derived.Test.YtbdicafambkhdaaGreatGSmall
import Derived.Test.YtbdicafambkhdaaGreatRankC
import Derived.Test.YtbdicafambkhdaaGreatSortLayT
import Derived.Laws.EntriesVeiled
namespace Go.Proofs.YtbdicafambkhdaaGreat
open Go.Proofs.Tryz
open Go.RowKit
attribute [local irreducible] wpQuiet
theorem qA {y:aK} (h:bD y=true):aU y.config=true:=by
 simp only [bD,fF,Bool.and_eq_true] at h;exact h.1.1.1.1.1.1.1.1
theorem Jj {y:aK} (h:bD y=true):bn y.tasks=true:=by
 simp only [bD,fF,Bool.and_eq_true] at h;exact h.1.1.1.1.1.2
end Go.Proofs.YtbdicafambkhdaaGreat
/- slices.SortFunc at tasks: the kit's contract,laid for this seat,told of memory that a slice has for itself. The walks of the program's taskOrder and TaskOrder. Printed by wip/orderi.py. -/
namespace Go.Proofs.YtbdicafambkhdaaGreat
open Go.Proofs.Tryz
open Go.RowKit Go.Shelf Go.Lib Go.Sort
attribute [local irreducible] wpQuiet
def Gj (x:Task):Prop:=0≤x.born∧x.born≤1000000
abbrev FT:={ e:Task × (Option Addr × Nat × Nat) × List Nat // eH e.1∧Gj e.1 }
instance:Inhabited FT:=⟨⟨(⟨⟨0,0⟩,0,⟨#[]⟩,0,0,0,⟨0,0⟩,0,0,0,0,[]⟩,(none,0,0),[]),by simp [eH,I64,Str];exact Nat.zero_le _,by simp [Gj]⟩⟩
def Xt (e:FT):Value:=.slice e.1.2.1.1 e.1.2.1.2.1 e.1.2.1.2.2
def oJ (e:FT):List Nat:=e.1.2.2
def pF (e:FT):List Value:=aB e.1.1 (Xt e)
theorem UY (e:FT):(pF e).length=14:=rfl
theorem adD (e:FT):∀ u∈pF e,u.oneCell'=true:=fun u hu=>by
 simp only [pF,aB,Xt,List.mem_cons,List.not_mem_nil,or_false] at hu;rcases hu with rfl | rfl | rfl | rfl | rfl | rfl | rfl | rfl | rfl | rfl | rfl | rfl | rfl | rfl <;> rfl
theorem aev {w:World} {B n:Nat} {d:Array FT} {os:Array Obj} {C:Array Value} {T:TypeId} (hB:aF w B T C) :
 (∃ C':Array Value,aF (sortWorldK pF 14 w B 0 n d os) B T C'∧C'.size=C.size)∧Kept [B] w (sortWorldK pF 14 w B 0 n d os):=by
 have hlt:=hB.lt;have hh:(sortWorldK pF 14 w B 0 n d os).heap=(w.heap.modify B (onCells (putCells id 0 (flatK pF 14 d)))) ++ os:=rfl;refine ⟨⟨putCells id 0 (flatK pF 14 d) C,?_,by simp [putCells]⟩,rfl,rfl,rfl,by rw [hh];simp,fun b hb hn=>?_⟩
 · show (sortWorldK pF 14 w B 0 n d os).heap[B]? = _;rw [hh,Array.getElem?_append_left (by simpa using hlt),Array.getElem?_modify,if_pos rfl,hB];rfl
 · rw [hh,Array.getElem?_append_left (by simpa using hb),Array.getElem?_modify,if_neg (fun e=>hn (by simp [e]))]
theorem aeE {w:World} {B c:Nat} {C:Array Value} {T:TypeId} {d:Array FT} (hB:aF w B T C) (hC:C.size=c * 14) (hd:d.size≤c) (hc:c≤maxLen) (hH:HoldsK pF 14 w B 0 d)
 (hn:(B :: (d.toList.map oJ).flatten).Nodup) (ho:∀ e∈d.toList,aW jD 2 w (Xt e) e.1.1.nodes (oJ e)) :
 aW iW T w (.slice (some ⟨B,0,none⟩) d.size c) (d.toList.map (·.1.1)) (B :: (d.toList.map oJ).flatten):=by
 have hl:(d.toList.map (fun x:FT=>x.1.1)).length=d.size:=by simp
 refine .inr ⟨B,c,C,d.toList.map oJ,by rw [hl],hB,by rw [hl];exact hd,hc,hC,by simp,rfl,hn,fun k hk=>?_⟩;rw [hl] at hk;have e:nth (d.toList.map (fun x:FT=>x.1.1)) k=(d[k]'hk).1.1:=by rw [aO (by rw [hl];exact hk)];simp
 have e2:nth (d.toList.map oJ) k=oJ (d[k]'hk):=by rw [aO (by simpa using hk)];simp
 rw [e,e2];refine ⟨pF (d[k]'hk),⟨Xt (d[k]'hk),rfl,(d[k]'hk).2.1,ho _ (by simp)⟩,fun j u hj=>?_⟩;have hj4:j < 14:=(List.getElem?_eq_some_iff.1 hj).1;have h1:=(hH (k * 14+j) (by rw [size_flatK];omega)).1;rw [Nat.zero_add,get_flatK _ _ _ _ (by omega),show (k * 14+j) / 14=k by omega,show (k * 14+j) % 14=j by omega,getElem!_pos d k hk] at h1;rw [show k * ETask.size+j=k * 14+j from rfl,h1];have h2:(pF (d[k]'hk))[j]? = some u:=hj;obtain ⟨h3,h4⟩:=List.getElem?_eq_some_iff.1 h2;rw [getElem!_pos (pF (d[k]'hk)) j h3,h4];rfl
theorem ad9 {w:World} {v:Value} {T:TypeId} {l:List Task} {F:List Nat} (h:aW iW T w v l F) (hl:0 < l.length) (hb:∀ x∈l,Gj x) :
 ∃ (B c:Nat) (C:Array Value) (d:Array FT),v=.slice (some ⟨B,0,none⟩) d.size c∧aF w B T C∧C.size=c * 14∧d.size≤c∧c≤maxLen∧F=B :: (d.toList.map oJ).flatten∧F.Nodup∧HoldsK pF 14 w B 0 d∧d.toList.map (·.1.1)=l ∧
   ∀ e∈d.toList,aW jD 2 w (Xt e) e.1.1.nodes (oJ e):=by
 rcases h with ⟨rfl,_⟩ | ⟨B,c,C,Fs,rfl,hB,h1,h2,h3,hlF,h4,hn,hk⟩
 · simp at hl
 have key:∀ i:Fin l.length,∃ e:FT,e.1.1=nth l i∧oJ e=nth Fs i∧aW jD 2 w (Xt e) e.1.1.nodes (oJ e)∧w.rangeAt B (i * 14) (pF e):=fun i=>by
  obtain ⟨cs,⟨u,rfl,hf,q⟩,hc⟩:=hk i i.2;obtain ⟨A,c',rfl,-⟩:=q.form;exact ⟨⟨(nth l i,(A,(nth l i).nodes.length,c'),nth Fs i),hf,hb _ (bG i.2)⟩,rfl,rfl,q,hc⟩
 have key2:∃ f:Fin l.length→FT,∀ i,(f i).1.1=nth l i∧oJ (f i)=nth Fs i∧aW jD 2 w (Xt (f i)) (f i).1.1.nodes (oJ (f i))∧w.rangeAt B (i * 14) (pF (f i)):=⟨fun i=>Classical.choose (key i),fun i=>Classical.choose_spec (key i)⟩
 obtain ⟨f,hf⟩:=key2;have hs:(Array.ofFn f).size=l.length:=by simp
 have m1:(Array.ofFn f).toList.map (·.1.1)=l:=by
  refine List.ext_getElem (by simp) fun i h1 h2=>?_;have:=(hf ⟨i,h2⟩).1;simp only [List.getElem_map,Array.getElem_toList,Array.getElem_ofFn];rw [this,aO h2]
 have m2:(Array.ofFn f).toList.map oJ=Fs:=by
  refine List.ext_getElem (by simp [hlF]) fun i h1 h2=>?_;have:=(hf ⟨i,by omega⟩).2.1;simp only [List.getElem_map,Array.getElem_toList,Array.getElem_ofFn];rw [this,aO h2]
 refine ⟨B,c,C,Array.ofFn f,by rw [hs],hB,h3,by rw [hs];exact h1,h2,by rw [m2];exact h4,hn,fun t ht=>⟨?_,aF.frozen (t:=T) (cs:=C) hB _⟩,m1,fun e he=>?_⟩
 · rw [size_flatK] at ht;have hk':t / 14 < l.length:=by omega
   have hkd:t / 14 < (Array.ofFn f).size:=by omega
   rw [Nat.zero_add,get_flatK _ _ _ _ ht,getElem!_pos (Array.ofFn f) _ hkd,Array.getElem_ofFn];have hc:=(hf ⟨t / 14,hk'⟩).2.2.2;have h5:t % 14 < (pF (f ⟨t / 14,hk'⟩)).length:=by rw [UY];omega
   have h6:=hc (t % 14) _ (List.getElem?_eq_getElem (l:=pF (f ⟨t / 14,hk'⟩)) h5);rw [getElem!_pos (pF (f ⟨t / 14,hk'⟩)) _ h5];rw [show (⟨t / 14,hk'⟩:Fin l.length).val * 14+t % 14=t from by show t / 14 * 14+t % 14=t;omega] at h6;exact h6
 · obtain ⟨i,hi,rfl⟩:=List.getElem_of_mem he;have hi':i < l.length:=by simpa using hi
   have e1:(Array.ofFn f).toList[i]=f ⟨i,hi'⟩:=by simp
   rw [e1];exact (hf ⟨i,hi'⟩).2.2.1
theorem aps (y:aK):SWO (ltOf fun a b:FT=>ng y a.1.1 b.1.1) where
 irrefl x:=by
  have:=(EG y).self x.1.1;simp [ltOf,this]
 trans x z u h1 h2:=by
  simp only [ltOf,decide_eq_true_eq] at *;exact (EG y).lt_trans h1 h2
 ntrans x z u h1 h2:=by
  simp only [ltOf,decide_eq_false_iff_not] at *;have a1:=(EG y).anti x.1.1 z.1.1;have a2:=(EG y).anti z.1.1 u.1.1;have a3:=(EG y).anti x.1.1 u.1.1;have:=(EG y).trans u.1.1 z.1.1 x.1.1 (by omega) (by omega);omega
theorem ahv:∀ w,(isAgg 76).run prog w=.ok true w:=by intro w;go_simp
theorem sizeT:∀ w,(Go.sizeOf 76).run prog w=.ok 14 w:=by intro w;go_simp
def D5 (y:aK) (v:Value) (l:List Task) (F:List Nat) (w:World) (e:Ending) (w':World):Prop:=e=.returned (.tuple #[])∧∃ m F',aW iW 76 w' v m F'∧m.Perm l∧(m.Pairwise fun a b=>ng y a b≤0)∧(∀ b∈F',b∈F)∧Kept F w w'
theorem zJ (y:aK) (B c:Nat) (C:Array Value) (d:Array FT) (caps:Array Value) (w:World) (hB:aF w B 76 C) (hC:C.size=c * 14) (hd:d.size≤c) (hc:c≤maxLen) (hnd:(B :: (d.toList.map oJ).flatten).Nodup) (hH:HoldsK pF 14 w B 0 d)
 (ho:∀ e∈d.toList,aW jD 2 w (Xt e) e.1.1.nodes (oJ e)) (hm:d.size≤1000)
 (hq:∀ W,Kept (B :: (d.toList.map oJ).flatten) w W→∀ a b:FT,Calls prog 214 (#[.agg (pF a).toArray,.agg (pF b).toArray] ++ caps) W fun e w'=>e=.returned (.int .i64 (ng y a.1.1 b.1.1))∧Gr W w') :
 Calls prog 213 #[.slice (some ⟨B,0,none⟩) d.size c,.func (.func 214) #[] caps] w (D5 y (.slice (some ⟨B,0,none⟩) d.size c) (d.toList.map (·.1.1)) (B :: (d.toList.map oJ).flatten) w):=by
 have hcmp:CmpLays prog 214 caps pF 14 (fun a b:FT=>ng y a.1.1 b.1.1) B 0 d.size w:=fun m os dk _ a b =>
  hq _ ((aev (n:=m) (d:=dk) (os:=os) hB).2.sub fun b _ hb=>by rw [List.mem_singleton.1 hb];exact List.mem_cons_self ..) a b
 have hcon:=AnyQ.slices_SortFunc Tryz.sortTask 14 ahv sizeT pF UY adD (fun a b:FT=>ng y a.1.1 b.1.1) (aps y) 214 caps B 0 c d w UC hcmp hH hB.lt (by omega);refine Calls.mono (show Calls prog 213 _ _ _ from hcon) ?_;rintro e w' ⟨rfl,d',n,os,⟨hz,_,hp⟩,hso,rfl⟩;obtain ⟨⟨C',hB',hC'⟩,hk⟩:=aev (n:=n) (d:=d') (os:=os) hB;have hH':=holdsK_sortWorldK_c pF 14 w B 0 d d' n os hH hB.lt hz;have hpl:d'.toList.Perm d.toList:=by
  have e1:d'.extract 0 d.size=d':=by rw [← hz];simp
  have e2:d.extract 0 d.size=d:=by simp
  rw [e1,e2] at hp;exact hp
 have hpf:(B :: (d'.toList.map oJ).flatten).Perm (B :: (d.toList.map oJ).flatten):=((hpl.map oJ).flatten).cons B;have ao2:∀ e∈d.toList,∀ b∈oJ e,b∉[B]:=fun e he b hb hm=>by
  have h1:=(List.nodup_cons.1 hnd).1;rw [List.mem_singleton.1 hm] at hb;exact h1 (List.mem_flatten.2 ⟨_,List.mem_map.2 ⟨e,he,rfl⟩,hb⟩)
 have hown:=aeE hB' (by rw [hC',hC]) (by rw [hz];exact hd) hc hH' (hpf.symm.nodup hnd) (fun e he=>(ho e (hpl.mem_iff.1 he)).kept hk (ao2 e (hpl.mem_iff.1 he)));rw [hz] at hown;refine ⟨rfl,d'.toList.map (·.1.1),_,hown,hpl.map (fun x:FT=>x.1.1),?_,fun b hb=>hpf.mem_iff.1 hb,hk.sub fun b _ hb=>by rw [List.mem_singleton.1 hb];exact List.mem_cons_self ..⟩;rw [List.pairwise_map,List.pairwise_iff_getElem];intro i j hi hj hij;have hj':j < d'.size:=by simpa using hj
 have h1:=hso i j (Nat.zero_le _) hij (by omega);rw [getElem!_pos d' i (by omega),getElem!_pos d' j hj'] at h1;simp only [ltOf,decide_eq_false_iff_not] at h1;have h2:=(EG y).anti (d'[i]'(by omega)).1.1 (d'[j]'hj').1.1;simp only [Array.getElem_toList];omega
theorem Px (y:aK) (l:List Task) (v:Value) (F:List Nat) (caps:Array Value) (w:World) (h:aW iW 76 w v l F) (hl:0 < l.length) (hm:l.length≤1000) (hb:∀ x∈l,Gj x)
 (hq:∀ W,Kept F w W→∀ a b:FT,Calls prog 214 (#[.agg (pF a).toArray,.agg (pF b).toArray] ++ caps) W fun e w'=>e=.returned (.int .i64 (ng y a.1.1 b.1.1))∧Gr W w') :
 Calls prog 213 #[v,.func (.func 214) #[] caps] w (D5 y v l F w):=by
 obtain ⟨B,c,C,d,rfl,hB,hC,hd,hc,rfl,hnd,hH,rfl,ho⟩:=ad9 h hl hb;exact zJ y B c C d caps w hB hC hd hc hnd hH ho (by simpa using hm) hq
theorem TJ (y:aK) (B:Nat) (caps:Array Value) (w:World) (hB:aF w B 76 #[])
 (hq:∀ W,Kept [B] w W→∀ a b:FT,Calls prog 214 (#[.agg (pF a).toArray,.agg (pF b).toArray] ++ caps) W fun e w'=>e=.returned (.int .i64 (ng y a.1.1 b.1.1))∧Gr W w') :
 Calls prog 213 #[.slice (some ⟨B,0,none⟩) 0 0,.func (.func 214) #[] caps] w (D5 y (.slice (some ⟨B,0,none⟩) 0 0) [] [B] w) :=
 zJ y B 0 #[] #[] caps w hB rfl (Nat.le_refl _) (Nat.zero_le _) (by simp) (fun t ht=>absurd ht (by simp [flatK])) (fun e he=>absurd he (by simp)) (by simp) hq
end Go.Proofs.YtbdicafambkhdaaGreat
namespace Go.Proofs.YtbdicafambkhdaaGreat
open Go.Proofs.Tryz
open Go.RowKit
attribute [local irreducible] wpQuiet
theorem abx (a b u:Value):(#[a,b] ++ #[u]:Array Value) = #[a,b,u]:=rfl
theorem Lj {y:aK} {k:Nat} (h:k < y.tasks.length) (e:iq y (nth y.tasks k)=true):(y.tasks.take (k+1)).filter (iq y)=(y.tasks.take k).filter (iq y) ++ [nth y.tasks k]:=by
 rw [aV h,List.filter_append];simp [e]
theorem aa0 {y:aK} {k:Nat} (h:k < y.tasks.length) (e:iq y (nth y.tasks k)=false):(y.tasks.take (k+1)).filter (iq y)=(y.tasks.take k).filter (iq y):=by
 rw [aV h,List.filter_append];simp [e]
theorem ahy {y:aK} (h:bD y=true):0≤y.now∧y.now≤1000000:=by
 simp only [bD,fF,Bool.and_eq_true] at h;have:=dR h.1.1.1.2;omega
theorem RF {x:Task} (h:bJ x=true):Gj x:=by
 simp only [bJ,Bool.and_eq_true] at h;have:=dR h.1.1.1.2;unfold Gj;omega
structure Uw (y:aK):Prop where
 tasks:bn y.tasks=true
 now:0≤y.now∧y.now≤1000000
theorem ahB {y:aK} (h:bD y=true):Uw y:=⟨Jj h,ahy h⟩
theorem Qy {y:aK} (h:Uw y) {k:Nat} (hk:k < y.tasks.length):(nth y.tasks k).nodes.length≤1000000000:=by
 have h:=qF h.tasks hk;simp only [bJ,xu,jG,xQ,Bool.and_eq_true,decide_eq_true_eq] at h;split at h <;> simp only [Bool.and_eq_true,decide_eq_true_eq] at h <;> omega
set_option maxHeartbeats 32000000 in
set_option maxRecDepth 100000 in
theorem PK {S:Nat→Prop} (y:aK) (cs:List Value) (w:World) (h:eF.rel S w cs y) (hr:Uw y) :
 Calls prog 116 #[.agg cs.toArray] w (kX iW 76 (jQ y) w):=by
 obtain ⟨v1,v2,v3,v4,v5,v6,rfl,hf,h1,h2,h3,h4,h5,h6⟩:=h;obtain ⟨A1,c1,rfl,-⟩:=h1.form;obtain ⟨A2,c2,rfl,-⟩:=h2.form;obtain ⟨A3,c3,rfl,-⟩:=h3.form;obtain ⟨A4,c4,rfl,-⟩:=h4.form;have H5:=ah h5;obtain ⟨A5,c5,rfl,l5,m5,hk5⟩:=h5.open_;unfold maxLen at m5;obtain ⟨A6,c6,rfl,-⟩:=h6.form;have HF:=ah hf;have Oo:Hid (iC y.config):=ah hf.1;have H1:=ah h1;have H2:=ah h2;have H3:=ah h3;have H4:=ah h4;have H6:=ah h6;have K5:=ah hk5;have HR:=ah hr;have HTR:=ah hr.tasks;have HLN:Hid (y.tasks.length≤96):=ah (zZ hr.tasks);have hln:=HLN.out;clear hf h1 h2 h3 h4 h5 h6 hk5 hr;simp only [bV];go_enter func116,ntmps116;go_wp2_with fail;obtain ⟨W,B,hW,hB,hx0,a0,b0⟩:=eY w (Ry y A1 c1 A2 c2 A3 c3 A4 c4 A5 c5 A6 c6) #[] 45 76;rw [← hW,← hB];have HB:Hid (w.heap.size≤B):=ah (by omega);have QA:=ah a0;have QB:=ah b0;have X:=ah hx0;clear hW hB hx0 a0 b0;go_loopw [3,11] (fun v i w'=>∃ (k:Nat) (F:List Nat),k≤y.tasks.length∧i=.int .i64 k∧aW iW 76 w' v ((y.tasks.take k).filter (iq y)) F∧(∀ b∈F,B < b)∧aF w' B 45 (Ry y A1 c1 A2 c2 A3 c3 A4 c4 A5 c5 A6 c6)∧Ext w w'∧(0 < ((y.tasks.take k).filter (iq y)).length∨(v=.slice (some ⟨B+1,0,none⟩) 0 0∧aF w' (B+1) 76 #[]))) (fun _ i _=>y.tasks.length - (intOf i).toNat);case atStart=>exact ⟨0,[B+1],by omega,rfl,.inr ⟨B+1,0,#[],[],rfl,QB.out,Nat.le_refl _,Nat.zero_le _,rfl,rfl,rfl,by simp,fun k hk=>absurd hk (Nat.not_lt_zero _)⟩,fun b hb=>by rw [List.mem_singleton.1 hb];omega,QA.out,X.out,.inr ⟨rfl,QB.out⟩⟩
 case round =>
  obtain ⟨k,F,hk1,rfl,hown,hF,hbb,hx,hz⟩:=hrel;have HO:=ah hown;have HF:=ah hF;have HX:=ah hx;have PX:Hid (aF wr B 45 (Ry y A1 c1 A2 c2 A3 c3 A4 c4 A5 c5 A6 c6)):=ah hbb;have LF:=ah hown.lt;have HZ:=ah hz;clear hown hF hz;by_cases hlt:k < y.tasks.length
  · have qa:=PX.out.cell;have qaa:=fun ob:Obj=>(PX.out.ext ((Ext.refl _).alloc ob)).cell;obtain ⟨b,q,cs,rfl,_,⟨v1,rfl,hfit,hrd⟩,hc⟩:=K5.out k hlt;obtain ⟨A1',c1',rfl,-⟩:=hrd.form;have z0:=Ext.some hx (hc 0 _ rfl);have z1:=Ext.some hx (hc 1 _ rfl);have z2:=Ext.some hx (hc 2 _ rfl);have z3:=Ext.some hx (hc 3 _ rfl);have z4:=Ext.some hx (hc 4 _ rfl);have z5:=Ext.some hx (hc 5 _ rfl);have z6:=Ext.some hx (hc 6 _ rfl);have z7:=Ext.some hx (hc 7 _ rfl);have z8:=Ext.some hx (hc 8 _ rfl);have z9:=Ext.some hx (hc 9 _ rfl);have z10:=Ext.some hx (hc 10 _ rfl);have z11:=Ext.some hx (hc 11 _ rfl);have z12:=Ext.some hx (hc 12 _ rfl);have z13:=Ext.some hx (hc 13 _ rfl);simp only [ETask,Nat.add_zero] at z0 z1 z2 z3 z4 z5 z6 z7 z8 z9 z10 z11 z12 z13;have lM:=ah hfit;have uQ:=ah (hrd.ext hx);have DY:=ah (qF HTR.out hlt);have zW:=ah (Qy HR.out hlt);clear hc hfit hx hrd hbb;by_cases hst:(nth y.tasks k).state=2
    · have HT:=ah (Lj hlt (by simp [iq,hst]));have hs2:((nth y.tasks k).state == 2)=true:=by simp [hst]
      clear hst;have X0:Hid (Ext wr (wr.alloc (.cells (Rt (nth y.tasks k) (.slice A1' (nth y.tasks k).nodes.length c1')) 76))):=ah ((Ext.refl _).alloc _);go_wp2_with (first
       | (go_at_call 209;go_loud ((with_reducible refine (Eu (S:=S) (nth y.tasks k) _ _ (eU lM.out (uQ.out.ext X0.out)) zW.out).mono ?_);rintro e w1 ⟨cs1,G1,rfl,⟨u1,rfl,f1,q1⟩,g1,hx1⟩;obtain ⟨p1,k1,rfl,-⟩:=q1.form;have Q1:=ah q1;have X1:=ah (X0.out.trans hx1);have Z1:Hid (∀ b∈G1,wr.heap.size≤b):=ah (fun b hb=>Nat.le_trans X0.out.size (g1 b hb));clear f1 q1 g1 hx1;simp only [aB]))
       | (at_builtin;refine bM (O:=iW) (T:=76) (l:=(y.tasks.take k).filter (iq y)) (F:=F) (G:=G1) (y:=nth y.tasks k) (cs:=aB (nth y.tasks k) (.slice p1 (nth y.tasks k).nodes.length k1)) rfl _ _ 42 rfl (.agg Zr.t) 14 136 underlying42 (by kernel_rfl) rfl rfl rfl ?ow _ 0 1 rfl ?own ?rng ?nd ?len (by decide) ?_;rotate_right;intro v' w2 F' how hkp hF';have HOW:=ah how;have lJ:=ah hkp;have uT:=ah hF';clear how hkp hF'))
      case ow=>exact HO.out.ext (X1.out.alloc _)
      case own=>exact ⟨_,rfl,lM.out,Q1.out.ext ((Ext.refl _).alloc _)⟩
      case rng =>
       have h:=(aF.new w1 76 (aB (nth y.tasks k) (.slice p1 (nth y.tasks k).nodes.length k1)).toArray).range;simpa [aB] using h
      case nd=>exact fV HO.out.nodup Q1.out.nodup (fun b h1 h2=>by have a:=LF.out b h1;have c:=Z1.out b h2;omega)
      case len=>have:=List.length_filter_le (iq y) (y.tasks.take k);rw [List.length_take] at this;have:=HLN.out;omega
      refine ⟨⟨k+1,F',by omega,by go_num,by rw [HT.out];exact HOW.out,fun b hb=>?_,(lJ.out.block B (PX.out.ext (X1.out.alloc _)).lt (fun hm=>by have:=HF.out B hm;omega)).trans (PX.out.ext (X1.out.alloc _)),lJ.out.ext ((HX.out.trans X1.out).alloc _) (fun b hb=>by have:=HF.out b hb;have:=HB.out;omega),.inl (by rw [HT.out,List.length_append];simp)⟩,by simp [intOf];omega⟩;have hbw:=PX.out.lt;rcases uT.out b hb with h | h | h
      · exact HF.out b h
      · have:=Z1.out b h;omega
      · have:=X1.out.size;have:=((Ext.refl w1).alloc (.cells (aB (nth y.tasks k) (.slice p1 (nth y.tasks k).nodes.length k1)).toArray 76)).size;simp only [aB] at *;omega
    · obtain ⟨r,hrr⟩:∃ r,sG y.tasks (nth y.tasks k)=r:=⟨_,rfl⟩
      have HRR:=ah hrr;have HRY:Hid (∀ V,Ext wr V→Calls prog 208 #[.slice (some ⟨b,q,none⟩) y.tasks.length c5,.agg (Rt (nth y.tasks k) (.slice A1' (nth y.tasks k).nodes.length c1'))] V fun e w'=>e=.returned (.bool r)∧Ext V w'):=ah fun V hV=>by
       rw [← hrr];exact acg (S:=S) (S':=S) y.tasks (nth y.tasks k) _ _ V (H5.out.ext (HX.out.trans hV)) (eU lM.out (uQ.out.ext hV))
      clear hrr;go_upto_region 5 with (fail)
      obtain ⟨W5,B5,IZ,Hz,hx5,b5⟩:∃ V C,V=wr.alloc (.cells (Rt (nth y.tasks k) (.slice A1' (nth y.tasks k).nodes.length c1')) 76)∧C=wr.heap.size∧Ext wr V∧aF V C 76 (Rt (nth y.tasks k) (.slice A1' (nth y.tasks k).nodes.length c1')):=⟨_,_,rfl,rfl,(Ext.refl wr).alloc _,aF.new _ _ _⟩
      rw [← IZ,← Hz];have X9:=ah hx5;have Q5:=ah b5;clear IZ Hz hx5 b5 qa qaa z0 z1 z2 z3 z4 z5 z6 z7 z8 z9 z10 z11 z12 z13;have q5:=Q5.out.cell;have qa5:=(PX.out.ext X9.out).cell;cases r with
      | true =>
        have HT:=ah (Lj hlt (by simp [iq,HRR.out]));go_upto_region 6 with (go_at_call 208;(with_reducible refine (HRY.out _ X9.out).mono ?_);rintro e w9 ⟨rfl,jO⟩;have X0:=ah (X9.out.trans jO);have q6:=(Q5.out.ext jO).cell;clear jO q5 qa5)
        go_wp2_with (first
         | (go_at_call 209;go_loud ((with_reducible refine (Eu (S:=S) (nth y.tasks k) _ _ (eU lM.out (uQ.out.ext X0.out)) zW.out).mono ?_);rintro e w1 ⟨cs1,G1,rfl,⟨u1,rfl,f1,q1⟩,g1,hx1⟩;obtain ⟨p1,k1,rfl,-⟩:=q1.form;have Q1:=ah q1;have X1:=ah (X0.out.trans hx1);have Z1:Hid (∀ b∈G1,wr.heap.size≤b):=ah (fun b hb=>Nat.le_trans X0.out.size (g1 b hb));clear f1 q1 g1 hx1;simp only [aB]))
         | (at_builtin;refine bM (O:=iW) (T:=76) (l:=(y.tasks.take k).filter (iq y)) (F:=F) (G:=G1) (y:=nth y.tasks k) (cs:=aB (nth y.tasks k) (.slice p1 (nth y.tasks k).nodes.length k1)) rfl _ _ 42 rfl (.agg Zr.t) 14 136 underlying42 (by kernel_rfl) rfl rfl rfl ?ow _ 0 1 rfl ?own ?rng ?nd ?len (by decide) ?_;rotate_right;intro v' w2 F' how hkp hF';have HOW:=ah how;have lJ:=ah hkp;have uT:=ah hF';clear how hkp hF'))
        case ow=>exact HO.out.ext (X1.out.alloc _)
        case own=>exact ⟨_,rfl,lM.out,Q1.out.ext ((Ext.refl _).alloc _)⟩
        case rng =>
         have h:=(aF.new w1 76 (aB (nth y.tasks k) (.slice p1 (nth y.tasks k).nodes.length k1)).toArray).range;simpa [aB] using h
        case nd=>exact fV HO.out.nodup Q1.out.nodup (fun b h1 h2=>by have a:=LF.out b h1;have c:=Z1.out b h2;omega)
        case len=>have:=List.length_filter_le (iq y) (y.tasks.take k);rw [List.length_take] at this;have:=HLN.out;omega
        refine ⟨⟨k+1,F',by omega,by go_num,by rw [HT.out];exact HOW.out,fun b hb=>?_,(lJ.out.block B (PX.out.ext (X1.out.alloc _)).lt (fun hm=>by have:=HF.out B hm;omega)).trans (PX.out.ext (X1.out.alloc _)),lJ.out.ext ((HX.out.trans X1.out).alloc _) (fun b hb=>by have:=HF.out b hb;have:=HB.out;omega),.inl (by rw [HT.out,List.length_append];simp)⟩,by simp [intOf];omega⟩;have hbw:=PX.out.lt;rcases uT.out b hb with h | h | h
        · exact HF.out b h
        · have:=Z1.out b h;omega
        · have:=X1.out.size;have:=((Ext.refl w1).alloc (.cells (aB (nth y.tasks k) (.slice p1 (nth y.tasks k).nodes.length k1)).toArray 76)).size;simp only [aB] at *;omega
      | false =>
        have HT:=ah (aa0 hlt (by simp [iq,HRR.out,hst]));go_wp2_with (go_at_call 208;(with_reducible refine (HRY.out _ X9.out).mono ?_);rintro e w9 ⟨rfl,jO⟩;have X0:=ah (X9.out.trans jO);have q6:=(Q5.out.ext jO).cell;clear jO q5 qa5);refine ⟨⟨k+1,F,by omega,by go_num,by rw [HT.out];exact HO.out.ext X0.out,HF.out,PX.out.ext X0.out,HX.out.trans X0.out,?_⟩,by simp [intOf];omega⟩;rw [HT.out];rcases HZ.out with h | ⟨h,h'⟩
        · exact .inl h
        · exact .inr ⟨h,h'.ext X0.out⟩
  · obtain rfl:k=y.tasks.length:=by omega
    rw [List.take_length] at HO HZ;obtain ⟨A9,c9,rfl,-⟩:=HO.out.form;go_upto_region 9 with (fail)
    obtain ⟨W8,C8,Yf,hC8,eu,b8⟩:∃ V C,V=wr.alloc (.cells #[.func (.func 210) #[] #[.pointer (some ⟨B,0,none⟩)]] 106)∧C=wr.heap.size∧Ext wr V∧aF V C 106 #[.func (.func 210) #[] #[.pointer (some ⟨B,0,none⟩)]]:=⟨_,_,rfl,rfl,(Ext.refl wr).alloc _,aF.new _ _ _⟩
    rw [← Yf,← hC8];have X8:=ah eu;have Q8:=ah b8;have HW8:=ah hC8;clear Yf hC8 eu b8 hx hbb;have HQ:Hid (∀ (F':List Nat),(∀ b∈F',B < b∧b < C8)→∀ V,Kept F' W8 V→∀ a b:FT,Calls prog 214 (#[.agg (pF a).toArray,.agg (pF b).toArray] ++ #[.pointer (some ⟨C8,0,none⟩)]) V fun e w'=>e=.returned (.int .i64 (ng y a.1.1 b.1.1))∧Gr V w'):=ah fun F' hF' V hV a b=>by
     have yb:aF V B 45 (Ry y A1 c1 A2 c2 A3 c3 A4 c4 A5 c5 A6 c6):=(hV.block B (PX.out.ext X8.out).lt (fun hm=>by have:=(hF' B hm).1;omega)).trans (PX.out.ext X8.out);have cb:aF V C8 106 _:=(hV.block C8 Q8.out.lt (fun hm=>by have:=(hF' C8 hm).2;omega)).trans Q8.out;have hxV:Ext w V:=Kept.ext (HX.out.trans X8.out) hV (fun b hb=>by have:=(hF' b hb).1;have:=HB.out;omega);rw [abx];exact ab9 (S:=S) y a.1.1 b.1.1 _ _ _ _ _ _ _ _ B C8 _ V a.2.1 b.2.1 a.2.2 b.2.2 HR.out.now (yb.cell 6) (yb.cell 7) (H6.out.ext hxV) cb
    have HSO:Hid (∃ F',(∀ b∈F',B < b)∧Calls prog 213 #[.slice A9 (y.tasks.filter (iq y)).length c9,.func (.func 214) #[] #[.pointer (some ⟨C8,0,none⟩)]] W8 (D5 y (.slice A9 (y.tasks.filter (iq y)).length c9) (y.tasks.filter (iq y)) F' W8)):=ah (by
     rcases HZ.out with h | ⟨h,h'⟩
     · refine ⟨F,HF.out,Px y _ _ F _ W8 (HO.out.ext X8.out) h (by have:=List.length_filter_le (iq y) y.tasks;have:=HLN.out;omega) (fun x hx=>RF ?_) (HQ.out F fun b hb=>⟨HF.out b hb,by rw [HW8.out];exact LF.out b hb⟩)⟩;obtain ⟨j,hj,rfl⟩:=List.getElem_of_mem (List.mem_filter.1 hx).1;rw [← aO hj];exact qF HTR.out hj
     · injection h with e1 e2 e3
       have e4:y.tasks.filter (iq y) = []:=List.eq_nil_of_length_eq_zero e2;rw [e4,e1,e3];refine ⟨[B+1],fun b hb=>by rw [List.mem_singleton.1 hb];omega,TJ y (B+1) _ W8 (h'.ext X8.out) (HQ.out [B+1] fun b hb=>?_)⟩;rw [List.mem_singleton.1 hb,HW8.out];exact ⟨by omega,h'.lt⟩)
    obtain ⟨F',hF',hso⟩:=HSO.out;have Kq:=ah hF';have HSS:=ah hso;clear hF' hso;go_wp2_with (go_at_call 213;(with_reducible refine HSS.out.mono ?_);rintro e w10 ⟨rfl,m,F2,ho,hp,hs,hf2,hk⟩;have HO2:=ah ho;have HP2:=ah hp;have HS2:=ah hs;have HF2:=ah hf2;have HK2:=ah hk;clear ho hp hs hf2 hk);go_ret;have hu:=TI (EG y) (Ky HTR.out (iq y)) HP2.out HS2.out;exact ⟨_,F2,rfl,by rw [jQ,← hu];exact HO2.out,fun b hb=>by have:=Kq.out b (HF2.out b hb);have:=HB.out;omega,Kept.ext (HX.out.trans X8.out) HK2.out (fun b hb=>by have:=Kq.out b hb;have:=HB.out;omega)⟩
end Go.Proofs.YtbdicafambkhdaaGreat

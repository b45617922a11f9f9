/- Words for the walk of the program's planLabel: the planner at work. -/
import Derived.Test.YtbdicafambkhdaaGreatPlanI
import Derived.Test.YtbdicafambkhdaaGreatLib
import Derived.Test.YtbdicafambkhdaaGreatProg
namespace Go.Proofs.YtbdicafambkhdaaGreat
open Go.RowKit
attribute [local irreducible] wpQuiet
theorem Kept.same {F:List Nat} {S:Nat→Prop} {w w':World} (h:Kept F w w') (hs:∀ b,S b→b∉F):Same S w w':=fun b _ _ hb hc=>h.cell (hs b hb) hc
theorem Kept.step {F G:List Nat} {w a b:World} (h:Kept F w a) (k:Kept G a b) (hG:∀ x∈G,x∈F∨w.heap.size≤x):Kept F w b :=
 ⟨k.os.trans h.os,k.tape.trans h.tape,k.output.trans h.output,Nat.le_trans h.size k.size,fun x hx hn=>(k.block x (Nat.lt_of_lt_of_le hx h.size) (fun hm=>by rcases hG x hm with h1 | h1;exact hn h1;omega)).trans (h.block x hx hn)⟩
theorem uN {w:World} {b:Nat} {T T':TypeId} {C C':Array Value} (h:aF w b T C) (h':aF w b T' C'):T=T':=by
 unfold aF at h h';rw [h] at h';injection h' with h'
 injection h' with _ h2
def tV (w0:World) (B:Nat) (F0 G0:List Nat) (y:aK) (v1 v2 v3 v4 v5 v6 vs vh:Value) (w:World) (ps:List Place):Prop :=
 ∃ (vp:Value) (m:List PV) (F:List Nat),Uh w B y v1 v2 v3 v4 v5 v6 vs vh vp∧m.map PV.x=ps∧aW DZ 78 w vp m F∧(∀ b∈F,b∈F0∨w0.heap.size≤b)∧(∀ e∈m,aW jD 2 w e.v e.x.nodes e.F)∧((m.map PV.F).flatten).Nodup∧(∀ b∈(m.map PV.F).flatten,b∈G0∨w0.heap.size≤b)∧Kept (B :: F0) w0 w
section
variable {w0:World} {B:Nat} {F0 G0:List Nat} {y:aK} {v1 v2 v3 v4 v5 v6 vs vh:Value} {w w':World} {ps:List Place}
theorem tV.keep (h:tV w0 B F0 G0 y v1 v2 v3 v4 v5 v6 vs vh w ps) {G:List Nat} (hk:Kept G w w') (hG:∀ b∈G,w0.heap.size≤b) (ht:∀ b∈G,b < w.heap.size→∃ C,aF w b 76 C):tV w0 B F0 G0 y v1 v2 v3 v4 v5 v6 vs vh w' ps:=by
 obtain ⟨vp,m,F,hC,hm,ho,hF,hn,hnd,hg,hkp⟩:=h;have far:∀ {b:Nat} {T:TypeId} {C:Array Value},aF w b T C→T≠76→b∉G:=fun hb hne hm=>by
  obtain ⟨C',h'⟩:=ht _ hm hb.lt;exact hne (uN hb h')
 refine ⟨vp,m,F,(hk.block B hC.lt (far hC (by decide))).trans hC,hm,ho.kept hk (fun b hb=>?_),hF,fun e he=>(hn e he).kept hk (fun b hb=>?_),hnd,hg,hkp.step hk (fun b hb=>.inr (hG b hb))⟩
 · obtain ⟨C,hc⟩:=ho.tag b hb;exact far hc (by decide)
 · obtain ⟨C,hc⟩:=(hn e he).tag b hb;exact far hc (by decide)
theorem tV.ext (h:tV w0 B F0 G0 y v1 v2 v3 v4 v5 v6 vs vh w ps) (hx:Ext w w'):tV w0 B F0 G0 y v1 v2 v3 v4 v5 v6 vs vh w' ps :=
 h.keep (G:=[]) (Kept.dw hx) (by simp) (by simp)
theorem tV.push {vp:Value} {m:List PV} {F F':List Nat} {w2 w3:World} {v':Value} {e:PV} (hC:Uh w B y v1 v2 v3 v4 v5 v6 vs vh vp) (hm:m.map PV.x=ps) (ho:aW DZ 78 w vp m F) (hF:∀ b∈F,b∈F0∨w0.heap.size≤b)
 (hn:∀ e∈m,aW jD 2 w e.v e.x.nodes e.F) (hnd:((m.map PV.F).flatten).Nodup) (hg:∀ b∈(m.map PV.F).flatten,b∈G0∨w0.heap.size≤b) (hkp:Kept (B :: F0) w0 w)
 (hx:Ext w w2) (he:aW jD 2 w2 e.v e.x.nodes e.F) (hf:∀ b∈e.F,w.heap.size≤b) (ha:aW DZ 78 w3 v' (m ++ [e]) F') (hk:Kept F w2 w3) (hF':∀ b∈F',b∈F∨w2.heap.size≤b) :
 tV w0 B F0 G0 y v1 v2 v3 v4 v5 v6 vs vh (w3.setCell ⟨B,10,none⟩ v') (ps ++ [e.x]):=by
 have hC2:Uh w2 B y v1 v2 v3 v4 v5 v6 vs vh vp:=hC.ext hx;have ho2:=ho.ext hx;have yx:B∉F:=ho2.apart hC2 (by decide);have hC3:Uh w3 B y v1 v2 v3 v4 v5 v6 vs vh vp:=(hk.block B hC2.lt yx).trans hC2;have hn3:∀ d∈m ++ [e],aW jD 2 w3 d.v d.x.nodes d.F:=fun d hd=>by
  have h2:aW jD 2 w2 d.v d.x.nodes d.F:=by
   rcases List.mem_append.1 hd with h | h
   · exact (hn d h).ext hx
   · rw [List.mem_singleton.1 h];exact he
  exact h2.kept hk (fun b hb hm=>by
   obtain ⟨C,hc⟩:=h2.tag b hb;exact ho2.apart hc (by decide) hm)
 have hks:Kept [B] w3 (w3.setCell ⟨B,10,none⟩ v'):=Kept.setCell (Kept.refl _ _) (by simp) _;refine ⟨v',m ++ [e],F',by simpa [Uh] using hC3.bQ 10 v',by rw [List.map_append,hm];rfl,ha.kept hks (fun b hb hm=>?_),fun b hb=>?_,fun d hd=>(hn3 d hd).kept hks (fun b hb hm=>?_),?_,fun b hb=>?_,?_⟩
 · rw [List.mem_singleton.1 hm] at hb;exact ha.apart hC3 (by decide) hb
 · rcases hF' b hb with h | h
   · exact hF b h
   · exact .inr (Nat.le_trans (Nat.le_trans hkp.size hx.size) h)
 · rw [List.mem_singleton.1 hm] at hb;exact (hn3 d hd).apart hC3 (by decide) hb
 · rw [List.map_append,List.flatten_append];refine fV hnd (by simpa using he.nodup) (fun b h1 h2=>?_);have h2':b∈e.F:=by simpa using h2
   obtain ⟨G,hG,hb⟩:=List.mem_flatten.1 h1;obtain ⟨d,hd,rfl⟩:=List.mem_map.1 hG;have:=(hn d hd).lt b hb;have:=hf b h2';omega
 · rw [List.map_append,List.flatten_append] at hb;rcases List.mem_append.1 hb with h | h
   · exact hg b h
   · have h2':b∈e.F:=by simpa using h
     exact .inr (Nat.le_trans hkp.size (hf b h2'))
 · refine ((hkp.step (Kept.dw (F:=[]) hx) (by simp)).step hk (fun b hb=>(hF b hb).imp_left (List.mem_cons_of_mem _))).step hks (fun b hb=>.inl ?_);rw [List.mem_singleton.1 hb];exact List.mem_cons_self ..
end
theorem Dv {p:Place} (h:P7 p):iQ p:=by
 have h1:=h.lab;simp only [aA,Bool.and_eq_true] at h1;have h2:=dR h1.1;have h3:=dR h1.2;have:=h.id;have:=h.lo;have:=h.ord;have:=h.hi;unfold iQ I64;omega
theorem iF {B:Nat} {y:aK} {v1 v2 v3 v4 v5 v6 vs vh vp:Value} {w w2 w9:World} {m:List PV} {F:List Nat} (hC:Uh w B y v1 v2 v3 v4 v5 v6 vs vh vp) (ho:aW DZ 78 w vp m F) (hx:Ext w w2) (hk:Kept F w2 w9):Uh w9 B y v1 v2 v3 v4 v5 v6 vs vh vp :=
 (hk.block B (hC.ext hx).lt ((ho.ext hx).apart (hC.ext hx) (by decide))).trans (hC.ext hx)
theorem xX {b:Nat} {C:Array Value} {w w2 w9:World} {vp:Value} {m:List PV} {F:List Nat} {T:TypeId} (hb:aF w b T C) (ho:aW DZ 78 w vp m F) (hx:Ext w w2) (hk:Kept F w2 w9) (hT:T≠78):aF w9 b T C :=
 (hk.block b (hb.ext hx).lt ((ho.ext hx).apart (hb.ext hx) hT)).trans (hb.ext hx)
theorem J5 {w:World} {g b i:Nat} {T T':TypeId} {C C':Array Value} {u:Value} (h:aF w g T C) (h':aF w b T' C') (hT:T≠T'):aF (w.setCell ⟨b,i,none⟩ u) g T C :=
 h.far (fun e=>hT (uN h (by rw [show g=b from e];exact h'))) u
theorem iD {w w2 w9:World} {B i:Nat} {v vp u:Value} {ml:List TV} {Fl F:List Nat} {m:List PV} {C:Array Value} (hr:aW sK 76 w v ml Fl) (ho:aW DZ 78 w vp m F) (hC:aF w B 94 C) (hx:Ext w w2) (hk:Kept F w2 w9) :
 aW sK 76 (w9.setCell ⟨B,i,none⟩ u) v ml Fl:=by
 have h9:aW sK 76 w9 v ml Fl:=(hr.ext hx).kept hk fun b hb hm=>by
  obtain ⟨C',hc⟩:=(hr.ext hx).tag b hb;exact (ho.ext hx).apart hc (by decide) hm
 have hC9:aF w9 B 94 C:=(hk.block B (hC.ext hx).lt ((ho.ext hx).apart (hC.ext hx) (by decide))).trans (hC.ext hx);exact h9.kept (Kept.setCell (Kept.refl [B] _) (by simp) _) fun b hb hm=>by
  rw [List.mem_singleton.1 hm] at hb;exact h9.apart hC9 (by decide) hb
theorem Ip {w w2 w9:World} {v:Value} {mk:List TV} {Fl Fk:List Nat} (hk:aW sK 76 w v mk Fk) (hx:Ext w w2) (hkp:Kept Fl w2 w9) (hd:∀ b∈Fl,b∉Fk):aW sK 76 w9 v mk Fk :=
 (hk.ext hx).kept hkp fun b hb hm=>hd b hm hb
theorem Tj {w0:World} {B:Nat} {F0 G0:List Nat} {y:aK} {v1 v2 v3 v4 v5 v6 vs vh v:Value} {w w2 w9:World} {ps:List Place} {ml:List TV} {Fl:List Nat} (h:tV w0 B F0 G0 y v1 v2 v3 v4 v5 v6 vs vh w ps) (hl:aW sK 76 w v ml Fl) (hx:Ext w w2) (hkp:Kept Fl w2 w9) (hf:∀ b∈Fl,w0.heap.size≤b):tV w0 B F0 G0 y v1 v2 v3 v4 v5 v6 vs vh w9 ps :=
 (h.ext hx).keep hkp hf fun b hb _=>(hl.ext hx).tag b hb
theorem Yt {w0 w w2:World} {Fl F':List Nat} (hf:∀ b∈Fl,w0.heap.size≤b) (h0:w0.heap.size≤w.heap.size) (hx:Ext w w2) (hF':∀ b∈F',b∈Fl∨b∈([]:List Nat)∨w2.heap.size≤b):∀ b∈F',w0.heap.size≤b:=fun b hb=>by
 rcases hF' b hb with h | h | h
 · exact hf b h
 · simp at h
 · have:=hx.size;omega
theorem SK {w w2:World} {v:Value} {mk:List TV} {Fl Fk F':List Nat} (hk:aW sK 76 w v mk Fk) (hd:∀ b∈Fl,b∉Fk) (hx:Ext w w2) (hF':∀ b∈F',b∈Fl∨b∈([]:List Nat)∨w2.heap.size≤b):∀ b∈F',b∉Fk:=fun b hb hm=>by
 rcases hF' b hb with h | h | h
 · exact hd b h hm
 · simp at h
 · have:=hx.size;have:=hk.lt b hm;omega
theorem Np {w0:World} {B:Nat} {F0 G0:List Nat} {y:aK} {v1 v2 v3 v4 v5 v6 vs vh:Value} {w:World} {ps:List Place} (h:tV w0 B F0 G0 y v1 v2 v3 v4 v5 v6 vs vh w ps):w0.heap.size≤w.heap.size:=by
 obtain ⟨_,_,_,_,_,_,_,_,_,_,h⟩:=h;exact h.size
theorem zS {S:Nat→Prop} {w:World} {ml:List TV} {e:TV} (h:Rw S w ml) (he:Rd fC S w e.v e.x.nodes):Rw S w (ml ++ [e]):=fun d hd=>by
 rcases List.mem_append.1 hd with h' | h'
 · exact h d h'
 · rw [List.mem_singleton.1 h'];exact he
theorem Ya {y:aK} {l:List Task} {k:Nat} {s:List Task × List Task × List Place} (hk:k < l.length):(l.take (k+1)).foldl (step2 y) s=step2 y ((l.take k).foldl (step2 y) s) (nth l k):=by
 rw [aV hk,List.foldl_append];rfl
def ahD (B:Nat) (V:World):Value:=(V.cell? ⟨B,10,none⟩).getD undef
def dK (w9:World) (B:Nat) (F2:List Nat) (V:World):Prop:=Kept (B :: F2) w9 V∧B∉F2∧∃ C:Array Value,aF V B 94 C∧10 < C.size
section
variable {w9 V V':World} {B:Nat} {F2:List Nat}
theorem dK.ext (h:dK w9 B F2 V) (hx:Ext V V'):dK w9 B F2 V':=⟨h.1.trans (Kept.dw hx),h.2.1,by obtain ⟨C,hc,hs⟩:=h.2.2;exact ⟨C,hc.ext hx,hs⟩⟩
theorem dK.drew (h:dK w9 B F2 V):dK w9 B F2 V.drew:=h.ext (Ext.refl _).drew
theorem dK.alloc (h:dK w9 B F2 V) (o:Obj):dK w9 B F2 (V.alloc o):=h.ext ((Ext.refl _).alloc _)
theorem dK.app (h:dK w9 B F2 V) (hk:Kept F2 V V'):dK w9 B F2 V':=⟨h.1.trans (hk.sub fun _ _ hb=>List.mem_cons_of_mem _ hb),h.2.1,by obtain ⟨C,hc,hs⟩:=h.2.2;exact ⟨C,(hk.block B hc.lt h.2.1).trans hc,hs⟩⟩
theorem dK.set (h:dK w9 B F2 V) (u:Value):dK w9 B F2 (V.setCell ⟨B,10,none⟩ u):=⟨Kept.setCell h.1 (by simp) _,h.2.1,by obtain ⟨C,hc,hs⟩:=h.2.2;exact ⟨_,hc.bQ 10 u,by simpa using hs⟩⟩
theorem dK.cells (h:dK w9 B F2 V) {b:Nat} {T:TypeId} {C:Array Value} (hb:aF w9 b T C) (hn:b∉B :: F2) (i:Nat):V.cell? ⟨b,i,none⟩=C[i]?:=aF.cell ((h.1.block b hb.lt hn).trans hb) i
theorem dK.pv (h:dK w9 B F2 V):V.cell? ⟨B,10,none⟩=some (ahD B V):=by
 obtain ⟨C,hc,hs⟩:=h.2.2;have:=hc.cell 10;rw [Array.getElem?_eq_getElem hs] at this;rw [ahD,this];rfl
theorem dK.fz (h:dK w9 B F2 V):V.frozen? ⟨B,10,none⟩=false:=by
 obtain ⟨C,hc,hs⟩:=h.2.2;exact hc.frozen 10
theorem Aj {vp:Value} {m:List PV} {v1 v2 v3 v4 v5 v6 vs vh:Value} {y:aK} (hC:Uh w9 B y v1 v2 v3 v4 v5 v6 vs vh vp) (ho:aW DZ 78 w9 vp m F2):dK w9 B F2 w9:=⟨Kept.refl _ _,ho.apart hC (by decide),_,hC,by simp⟩
end
def Ai (t:Task):Option (Int × List Int)→Place
 | some (f,ns)=>if f=t.start then iY t else jI t f ns
 | none=>iY t
def Am (t:Task):Option (Int × List Int)→Bool
 | some (f,_)=>decide (f=t.start)
 | none=>true
theorem ad1 {y:aK} {ps:List Place} {t:Task} {r:Option (Int × List Int)} (h:bP y ps t.label t.need t.long (t.start+1 - y.now).toNat y.now=r):moved y ps t=Ai t r:=by
 unfold moved;rw [h];cases r with
 | none=>rfl
 | some fn=>rfl
theorem Yq {t:Task} {r:Option (Int × List Int)} (h:Am t r=true):Ai t r=iY t:=by
 cases r with
 | none=>rfl
 | some fn=>obtain ⟨f,ns⟩:=fn;simp only [Am,decide_eq_true_eq] at h;simp [Ai,h]
theorem VR {t:Task} {f:Int} {ns:List Int} (h:Am t (some (f,ns))=false):Ai t (some (f,ns))=jI t f ns:=by
 simp only [Am,decide_eq_false_iff_not] at h;simp [Ai,h]
theorem Yb {y:aK} {l:List Task} {k:Nat} {s:List Place} (hk:k < l.length):(l.take (k+1)).foldl (step3 y) s=step3 y ((l.take k).foldl (step3 y) s) (nth l k):=by
 rw [aV hk,List.foldl_append];rfl
theorem Ci {α β:Type} (f:α→β):∀ (l:List α) (k:Nat),(l.eraseIdx k).map f=(l.map f).eraseIdx k
 | [],k=>by simp
 | x :: l,0=>by simp
 | x :: l,k+1=>by simp [Ci f l k]
theorem U8 {α:Type} {l m:List (List α)} (h:l.Sublist m):l.flatten.Sublist m.flatten:=by
 induction h with
 | slnil=>exact List.Sublist.refl _
 | cons a _ ih=>rw [List.flatten_cons];exact ih.trans (List.sublist_append_right ..)
 | cons_cons a _ ih=>rw [List.flatten_cons,List.flatten_cons];exact (List.Sublist.refl _).append ih
theorem tV.cut {w0:World} {B:Nat} {F0 G0:List Nat} {y:aK} {v1 v2 v3 v4 v5 v6 vs vh:Value} {w w3:World} {ps:List Place} {vp:Value} {m:List PV} {F F':List Nat} {v':Value} {d:Nat} (hC:Uh w B y v1 v2 v3 v4 v5 v6 vs vh vp) (hm:m.map PV.x=ps) (ho:aW DZ 78 w vp m F) (hF:∀ b∈F,b∈F0∨w0.heap.size≤b)
 (hn:∀ e∈m,aW jD 2 w e.v e.x.nodes e.F) (hnd:((m.map PV.F).flatten).Nodup) (hg:∀ b∈(m.map PV.F).flatten,b∈G0∨w0.heap.size≤b) (hkp:Kept (B :: F0) w0 w)
 (ha:aW DZ 78 w3 v' (m.eraseIdx d) F') (hk:Kept F w w3) (hF':∀ b∈F',b∈F) :
 tV w0 B F0 G0 y v1 v2 v3 v4 v5 v6 vs vh (w3.setCell ⟨B,10,none⟩ v') (ps.eraseIdx d):=by
 have yx:B∉F:=ho.apart hC (by decide);have hC3:Uh w3 B y v1 v2 v3 v4 v5 v6 vs vh vp:=(hk.block B hC.lt yx).trans hC;have hsub:(m.eraseIdx d).Sublist m:=List.eraseIdx_sublist ..;have hn3:∀ e∈m.eraseIdx d,aW jD 2 w3 e.v e.x.nodes e.F:=fun e he=>(hn e (hsub.subset he)).kept hk fun b hb hmm=>by
  obtain ⟨C,hc⟩:=(hn e (hsub.subset he)).tag b hb;exact ho.apart hc (by decide) hmm
 have hks:Kept [B] w3 (w3.setCell ⟨B,10,none⟩ v'):=Kept.setCell (Kept.refl _ _) (by simp) _;have hfl:((m.eraseIdx d).map PV.F).flatten.Sublist ((m.map PV.F).flatten):=U8 (hsub.map PV.F);refine ⟨v',m.eraseIdx d,F',by simpa [Uh] using hC3.bQ 10 v',by rw [Ci,hm],ha.kept hks (fun b hb hmm=>?_),fun b hb=>hF b (hF' b hb),fun e he=>(hn3 e he).kept hks (fun b hb hmm=>?_),hfl.nodup hnd,fun b hb=>hg b (hfl.subset hb),?_⟩
 · rw [List.mem_singleton.1 hmm] at hb;exact ha.apart hC3 (by decide) hb
 · rw [List.mem_singleton.1 hmm] at hb;exact (hn3 e he).apart hC3 (by decide) hb
 · refine (hkp.step hk (fun b hb=>(hF b hb).imp_left (List.mem_cons_of_mem _))).step hks (fun b hb=>.inl ?_);rw [List.mem_singleton.1 hb];exact List.mem_cons_self ..
theorem pR {w:World} {vp:Value} {m:List PV} {F:List Nat} {ps:List Place} (hm:m.map PV.x=ps) (ho:aW DZ 78 w vp m F) (hn:∀ e∈m,aW jD 2 w e.v e.x.nodes e.F):Rd dG (fun _=>True) w vp ps :=
 hm ▸ QF (ho.rd.sub fun _ _=>trivial) fun e he=>(hn e he).rd.sub fun _ _=>trivial
theorem acw {y:aK} {ps:List Place} {l:List Task} {k:Nat} (hk:k < l.length) (h:uK y ((l.take k).foldl (step1 y) ps) (nth l k)=true):(l.take (k+1)).foldl (step1 y) ps=(l.take k).foldl (step1 y) ps ++ [lI y ((l.take k).foldl (step1 y) ps) (nth l k)]:=by
 rw [aV hk,List.foldl_append];simp only [List.foldl_cons,List.foldl_nil];rw [step1,if_pos h]
theorem aez {y:aK} {ps:List Place} {l:List Task} {k:Nat} (hk:k < l.length) (h:uK y ((l.take k).foldl (step1 y) ps) (nth l k)=false):(l.take (k+1)).foldl (step1 y) ps=(l.take k).foldl (step1 y) ps:=by
 rw [aV hk,List.foldl_append];simp only [List.foldl_cons,List.foldl_nil];rw [step1,if_neg (by simp [h])]
end Go.Proofs.YtbdicafambkhdaaGreat
/- Where a piece of a function's code stands. (For walks parted by loops: a theorem a loop.) Printed by wip/plansplit.py. -/
namespace Go.Proofs.YtbdicafambkhdaaGreat
def nav:List Nat→Code→Code
 | [],c=>c
 | 0 :: p,.seq a _=>nav p a
 | 1 :: p,.seq _ b=>nav p b
 | _ :: p,.block _ c=>nav p c
 | _ :: p,.loop c=>nav p c
 | _,c=>c
def codeOf (f:Func):Code:=f.body.getD Code.skip
end Go.Proofs.YtbdicafambkhdaaGreat

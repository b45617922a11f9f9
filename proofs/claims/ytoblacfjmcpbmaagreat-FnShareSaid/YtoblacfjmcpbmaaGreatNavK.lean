/- Words for the walk of the program's planLabel: the planner at work. -/
import Derived.Test.YtoblacfjmcpbmaaGreatPlanI
import Derived.Test.YtoblacfjmcpbmaaGreatLib
import Derived.Test.YtoblacfjmcpbmaaGreatProg
namespace Go.Proofs.YtoblacfjmcpbmaaGreat
open Go.RowKit
attribute [local irreducible] wpQuiet
theorem Kept.same {F:List Nat} {S:Nat→Prop} {w w':World} (h:Kept F w w') (hs:∀ b,S b→b∉F):Same S w w':=fun b _ _ hb hc=>h.cell (hs b hb) hc
theorem Kept.step {F G:List Nat} {w a b:World} (h:Kept F w a) (k:Kept G a b) (hG:∀ x∈G,x∈F∨w.heap.size≤x):Kept F w b :=
 ⟨k.os.trans h.os,k.tape.trans h.tape,k.output.trans h.output,Nat.le_trans h.size k.size,fun x hx hn=>(k.block x (Nat.lt_of_lt_of_le hx h.size) (fun hm=>by rcases hG x hm with h1 | h1;exact hn h1;omega)).trans (h.block x hx hn)⟩
theorem tag_ne {w:World} {b:Nat} {T T':TypeId} {C C':Array Value} (h:Blk w b T C) (h':Blk w b T' C'):T=T':=by
 unfold Blk at h h'
 rw [h] at h'
 injection h' with h'
 injection h' with _ h2
def PlS (w0:World) (B:Nat) (F0 G0:List Nat) (y:Yard) (v1 v2 v3 v4 v5 v6 vs vh:Value) (w:World) (ps:List Place):Prop :=
 ∃ (vp:Value) (m:List PV) (F:List Nat),PlC w B y v1 v2 v3 v4 v5 v6 vs vh vp∧m.map PV.x=ps∧OwS OPV 138 w vp m F∧(∀ b∈F,b∈F0∨w0.heap.size≤b)∧(∀ e∈m,OwS OInt 2 w e.v e.x.nodes e.F)∧((m.map PV.F).flatten).Nodup∧(∀ b∈(m.map PV.F).flatten,b∈G0∨w0.heap.size≤b)∧Kept (B :: F0) w0 w
section
variable {w0:World} {B:Nat} {F0 G0:List Nat} {y:Yard} {v1 v2 v3 v4 v5 v6 vs vh:Value} {w w':World} {ps:List Place}
theorem PlS.keep (h:PlS w0 B F0 G0 y v1 v2 v3 v4 v5 v6 vs vh w ps) {G:List Nat} (hk:Kept G w w') (hG:∀ b∈G,w0.heap.size≤b) (ht:∀ b∈G,b < w.heap.size→∃ C,Blk w b 46 C):PlS w0 B F0 G0 y v1 v2 v3 v4 v5 v6 vs vh w' ps:=by
 obtain ⟨vp,m,F,hC,hm,ho,hF,hn,hnd,hg,hkp⟩:=h
 have far:∀ {b:Nat} {T:TypeId} {C:Array Value},Blk w b T C→T≠46→b∉G:=fun hb hne hm=>by
  obtain ⟨C',h'⟩:=ht _ hm hb.lt
  exact hne (tag_ne hb h')
 refine ⟨vp,m,F,(hk.block B hC.lt (far hC (by decide))).trans hC,hm,ho.kept hk (fun b hb=>?_),hF,fun e he=>(hn e he).kept hk (fun b hb=>?_),hnd,hg,hkp.step hk (fun b hb=>.inr (hG b hb))⟩
 · obtain ⟨C,hc⟩:=ho.tag b hb
   exact far hc (by decide)
 · obtain ⟨C,hc⟩:=(hn e he).tag b hb
   exact far hc (by decide)
theorem PlS.ext (h:PlS w0 B F0 G0 y v1 v2 v3 v4 v5 v6 vs vh w ps) (hx:Ext w w'):PlS w0 B F0 G0 y v1 v2 v3 v4 v5 v6 vs vh w' ps :=
 h.keep (G:=[]) (Kept.of_ext hx) (by simp) (by simp)
theorem PlS.push {vp:Value} {m:List PV} {F F':List Nat} {w2 w3:World} {v':Value} {e:PV} (hC:PlC w B y v1 v2 v3 v4 v5 v6 vs vh vp) (hm:m.map PV.x=ps) (ho:OwS OPV 138 w vp m F) (hF:∀ b∈F,b∈F0∨w0.heap.size≤b)
 (hn:∀ e∈m,OwS OInt 2 w e.v e.x.nodes e.F) (hnd:((m.map PV.F).flatten).Nodup) (hg:∀ b∈(m.map PV.F).flatten,b∈G0∨w0.heap.size≤b) (hkp:Kept (B :: F0) w0 w)
 (hx:Ext w w2) (he:OwS OInt 2 w2 e.v e.x.nodes e.F) (hf:∀ b∈e.F,w.heap.size≤b) (ha:OwS OPV 138 w3 v' (m ++ [e]) F') (hk:Kept F w2 w3) (hF':∀ b∈F',b∈F∨w2.heap.size≤b) :
 PlS w0 B F0 G0 y v1 v2 v3 v4 v5 v6 vs vh (w3.setCell ⟨B,10,none⟩ v') (ps ++ [e.x]):=by
 have hC2:PlC w2 B y v1 v2 v3 v4 v5 v6 vs vh vp:=hC.ext hx
 have ho2:=ho.ext hx
 have hBF:B∉F:=ho2.apart hC2 (by decide)
 have hC3:PlC w3 B y v1 v2 v3 v4 v5 v6 vs vh vp:=(hk.block B hC2.lt hBF).trans hC2
 have hn3:∀ d∈m ++ [e],OwS OInt 2 w3 d.v d.x.nodes d.F:=fun d hd=>by
  have h2:OwS OInt 2 w2 d.v d.x.nodes d.F:=by
   rcases List.mem_append.1 hd with h | h
   · exact (hn d h).ext hx
   · rw [List.mem_singleton.1 h];exact he
  exact h2.kept hk (fun b hb hm=>by
   obtain ⟨C,hc⟩:=h2.tag b hb
   exact ho2.apart hc (by decide) hm)
 have hks:Kept [B] w3 (w3.setCell ⟨B,10,none⟩ v'):=Kept.setCell (Kept.refl _ _) (by simp) _
 refine ⟨v',m ++ [e],F',by simpa [PlC] using hC3.set_ 10 v',by rw [List.map_append,hm];rfl,ha.kept hks (fun b hb hm=>?_),fun b hb=>?_,fun d hd=>(hn3 d hd).kept hks (fun b hb hm=>?_),?_,fun b hb=>?_,?_⟩
 · rw [List.mem_singleton.1 hm] at hb
   exact ha.apart hC3 (by decide) hb
 · rcases hF' b hb with h | h
   · exact hF b h
   · exact .inr (Nat.le_trans (Nat.le_trans hkp.size hx.size) h)
 · rw [List.mem_singleton.1 hm] at hb
   exact (hn3 d hd).apart hC3 (by decide) hb
 · rw [List.map_append,List.flatten_append]
   refine nodup_two hnd (by simpa using he.nodup) (fun b h1 h2=>?_)
   have h2':b∈e.F:=by simpa using h2
   obtain ⟨G,hG,hb⟩:=List.mem_flatten.1 h1
   obtain ⟨d,hd,rfl⟩:=List.mem_map.1 hG
   have:=(hn d hd).lt b hb
   have:=hf b h2'
   omega
 · rw [List.map_append,List.flatten_append] at hb
   rcases List.mem_append.1 hb with h | h
   · exact hg b h
   · have h2':b∈e.F:=by simpa using h
     exact .inr (Nat.le_trans hkp.size (hf b h2'))
 · refine ((hkp.step (Kept.of_ext (F:=[]) hx) (by simp)).step hk (fun b hb=>(hF b hb).imp_left (List.mem_cons_of_mem _))).step hks (fun b hb=>.inl ?_)
   rw [List.mem_singleton.1 hb]
   exact List.mem_cons_self ..
end
theorem ok_fit {p:Place} (h:OkP p):FitPlace p:=by
 have h1:=h.lab
 simp only [labelRight,Bool.and_eq_true] at h1
 have h2:=isB_true h1.1
 have h3:=isB_true h1.2
 have:=h.id
 have:=h.lo
 have:=h.ord
 have:=h.hi
 unfold FitPlace I64
 omega
theorem planner_after {B:Nat} {y:Yard} {v1 v2 v3 v4 v5 v6 vs vh vp:Value} {w w2 w9:World} {m:List PV} {F:List Nat} (hC:PlC w B y v1 v2 v3 v4 v5 v6 vs vh vp) (ho:OwS OPV 138 w vp m F) (hx:Ext w w2) (hk:Kept F w2 w9):PlC w9 B y v1 v2 v3 v4 v5 v6 vs vh vp :=
 (hk.block B (hC.ext hx).lt ((ho.ext hx).apart (hC.ext hx) (by decide))).trans (hC.ext hx)
theorem span_after {b:Nat} {C:Array Value} {w w2 w9:World} {vp:Value} {m:List PV} {F:List Nat} {T:TypeId} (hb:Blk w b T C) (ho:OwS OPV 138 w vp m F) (hx:Ext w w2) (hk:Kept F w2 w9) (hT:T≠138):Blk w9 b T C :=
 (hk.block b (hb.ext hx).lt ((ho.ext hx).apart (hb.ext hx) hT)).trans (hb.ext hx)
theorem far_tag {w:World} {g b i:Nat} {T T':TypeId} {C C':Array Value} {u:Value} (h:Blk w g T C) (h':Blk w b T' C') (hT:T≠T'):Blk (w.setCell ⟨b,i,none⟩ u) g T C :=
 h.far (fun e=>hT (tag_ne h (by rw [show g=b from e];exact h'))) u
theorem row_after {w w2 w9:World} {B i:Nat} {v vp u:Value} {ml:List TV} {Fl F:List Nat} {m:List PV} {C:Array Value} (hr:OwS OTV 46 w v ml Fl) (ho:OwS OPV 138 w vp m F) (hC:Blk w B 87 C) (hx:Ext w w2) (hk:Kept F w2 w9) :
 OwS OTV 46 (w9.setCell ⟨B,i,none⟩ u) v ml Fl:=by
 have h9:OwS OTV 46 w9 v ml Fl:=(hr.ext hx).kept hk fun b hb hm=>by
  obtain ⟨C',hc⟩:=(hr.ext hx).tag b hb
  exact (ho.ext hx).apart hc (by decide) hm
 have hC9:Blk w9 B 87 C:=(hk.block B (hC.ext hx).lt ((ho.ext hx).apart (hC.ext hx) (by decide))).trans (hC.ext hx)
 exact h9.kept (Kept.setCell (Kept.refl [B] _) (by simp) _) fun b hb hm=>by
  rw [List.mem_singleton.1 hm] at hb
  exact h9.apart hC9 (by decide) hb
theorem other_row {w w2 w9:World} {v:Value} {mk:List TV} {Fl Fk:List Nat} (hk:OwS OTV 46 w v mk Fk) (hx:Ext w w2) (hkp:Kept Fl w2 w9) (hd:∀ b∈Fl,b∉Fk):OwS OTV 46 w9 v mk Fk :=
 (hk.ext hx).kept hkp fun b hb hm=>hd b hm hb
theorem pls_row {w0:World} {B:Nat} {F0 G0:List Nat} {y:Yard} {v1 v2 v3 v4 v5 v6 vs vh v:Value} {w w2 w9:World} {ps:List Place} {ml:List TV} {Fl:List Nat} (h:PlS w0 B F0 G0 y v1 v2 v3 v4 v5 v6 vs vh w ps) (hl:OwS OTV 46 w v ml Fl) (hx:Ext w w2) (hkp:Kept Fl w2 w9) (hf:∀ b∈Fl,w0.heap.size≤b):PlS w0 B F0 G0 y v1 v2 v3 v4 v5 v6 vs vh w9 ps :=
 (h.ext hx).keep hkp hf fun b hb _=>(hl.ext hx).tag b hb
theorem new_fl {w0 w w2:World} {Fl F':List Nat} (hf:∀ b∈Fl,w0.heap.size≤b) (h0:w0.heap.size≤w.heap.size) (hx:Ext w w2) (hF':∀ b∈F',b∈Fl∨b∈([]:List Nat)∨w2.heap.size≤b):∀ b∈F',w0.heap.size≤b:=fun b hb=>by
 rcases hF' b hb with h | h | h
 · exact hf b h
 · simp at h
 · have:=hx.size;omega
theorem new_dis {w w2:World} {v:Value} {mk:List TV} {Fl Fk F':List Nat} (hk:OwS OTV 46 w v mk Fk) (hd:∀ b∈Fl,b∉Fk) (hx:Ext w w2) (hF':∀ b∈F',b∈Fl∨b∈([]:List Nat)∨w2.heap.size≤b):∀ b∈F',b∉Fk:=fun b hb hm=>by
 rcases hF' b hb with h | h | h
 · exact hd b h hm
 · simp at h
 · have:=hx.size;have:=hk.lt b hm;omega
theorem pls_size {w0:World} {B:Nat} {F0 G0:List Nat} {y:Yard} {v1 v2 v3 v4 v5 v6 vs vh:Value} {w:World} {ps:List Place} (h:PlS w0 B F0 G0 y v1 v2 v3 v4 v5 v6 vs vh w ps):w0.heap.size≤w.heap.size:=by
 obtain ⟨_,_,_,_,_,_,_,_,_,_,h⟩:=h
 exact h.size
theorem tat_push {S:Nat→Prop} {w:World} {ml:List TV} {e:TV} (h:TAt S w ml) (he:Rd EInt S w e.v e.x.nodes):TAt S w (ml ++ [e]):=fun d hd=>by
 rcases List.mem_append.1 hd with h' | h'
 · exact h d h'
 · rw [List.mem_singleton.1 h'];exact he
theorem fold2_step {y:Yard} {l:List Task} {k:Nat} {s:List Task × List Task × List Place} (hk:k < l.length):(l.take (k+1)).foldl (step2 y) s=step2 y ((l.take k).foldl (step2 y) s) (nth l k):=by
 rw [take_succ_nth hk,List.foldl_append];rfl
def pvOf (B:Nat) (V:World):Value:=(V.cell? ⟨B,10,none⟩).getD undef
def PSx (w9:World) (B:Nat) (F2:List Nat) (V:World):Prop:=Kept (B :: F2) w9 V∧B∉F2∧∃ C:Array Value,Blk V B 87 C∧10 < C.size
section
variable {w9 V V':World} {B:Nat} {F2:List Nat}
theorem PSx.ext (h:PSx w9 B F2 V) (hx:Ext V V'):PSx w9 B F2 V':=⟨h.1.trans (Kept.of_ext hx),h.2.1,by obtain ⟨C,hc,hs⟩:=h.2.2;exact ⟨C,hc.ext hx,hs⟩⟩
theorem PSx.drew (h:PSx w9 B F2 V):PSx w9 B F2 V.drew:=h.ext (Ext.refl _).drew
theorem PSx.alloc (h:PSx w9 B F2 V) (o:Obj):PSx w9 B F2 (V.alloc o):=h.ext ((Ext.refl _).alloc _)
theorem PSx.app (h:PSx w9 B F2 V) (hk:Kept F2 V V'):PSx w9 B F2 V':=⟨h.1.trans (hk.sub fun _ _ hb=>List.mem_cons_of_mem _ hb),h.2.1,by obtain ⟨C,hc,hs⟩:=h.2.2;exact ⟨C,(hk.block B hc.lt h.2.1).trans hc,hs⟩⟩
theorem PSx.set (h:PSx w9 B F2 V) (u:Value):PSx w9 B F2 (V.setCell ⟨B,10,none⟩ u):=⟨Kept.setCell h.1 (by simp) _,h.2.1,by obtain ⟨C,hc,hs⟩:=h.2.2;exact ⟨_,hc.set_ 10 u,by simpa using hs⟩⟩
theorem PSx.cells (h:PSx w9 B F2 V) {b:Nat} {T:TypeId} {C:Array Value} (hb:Blk w9 b T C) (hn:b∉B :: F2) (i:Nat):V.cell? ⟨b,i,none⟩=C[i]?:=Blk.cell ((h.1.block b hb.lt hn).trans hb) i
theorem PSx.pv (h:PSx w9 B F2 V):V.cell? ⟨B,10,none⟩=some (pvOf B V):=by
 obtain ⟨C,hc,hs⟩:=h.2.2
 have:=hc.cell 10
 rw [Array.getElem?_eq_getElem hs] at this
 rw [pvOf,this];rfl
theorem PSx.fz (h:PSx w9 B F2 V):V.frozen? ⟨B,10,none⟩=false:=by
 obtain ⟨C,hc,hs⟩:=h.2.2
 exact hc.frozen 10
theorem psx_start {vp:Value} {m:List PV} {v1 v2 v3 v4 v5 v6 vs vh:Value} {y:Yard} (hC:PlC w9 B y v1 v2 v3 v4 v5 v6 vs vh vp) (ho:OwS OPV 138 w9 vp m F2):PSx w9 B F2 w9:=⟨Kept.refl _ _,ho.apart hC (by decide),_,hC,by simp⟩
end
def movedOf (t:Task):Option (Int × List Int)→Place
 | some (f,ns)=>if f=t.start then keptP t else foundP t f ns
 | none=>keptP t
def staysAt (t:Task):Option (Int × List Int)→Bool
 | some (f,_)=>decide (f=t.start)
 | none=>true
theorem moved_of {y:Yard} {ps:List Place} {t:Task} {r:Option (Int × List Int)} (h:searchY y ps t.label t.need t.long (t.start+1 - y.now).toNat y.now=r):moved y ps t=movedOf t r:=by
 unfold moved
 rw [h]
 cases r with
 | none=>rfl
 | some fn=>rfl
theorem moved_kept {t:Task} {r:Option (Int × List Int)} (h:staysAt t r=true):movedOf t r=keptP t:=by
 cases r with
 | none=>rfl
 | some fn=>obtain ⟨f,ns⟩:=fn;simp only [staysAt,decide_eq_true_eq] at h;simp [movedOf,h]
theorem moved_found {t:Task} {f:Int} {ns:List Int} (h:staysAt t (some (f,ns))=false):movedOf t (some (f,ns))=foundP t f ns:=by
 simp only [staysAt,decide_eq_false_iff_not] at h
 simp [movedOf,h]
theorem fold3_step {y:Yard} {l:List Task} {k:Nat} {s:List Place} (hk:k < l.length):(l.take (k+1)).foldl (step3 y) s=step3 y ((l.take k).foldl (step3 y) s) (nth l k):=by
 rw [take_succ_nth hk,List.foldl_append];rfl
theorem map_eraseIdx' {α β:Type} (f:α→β):∀ (l:List α) (k:Nat),(l.eraseIdx k).map f=(l.map f).eraseIdx k
 | [],k=>by simp
 | x :: l,0=>by simp
 | x :: l,k+1=>by simp [map_eraseIdx' f l k]
theorem flatten_sub {α:Type} {l m:List (List α)} (h:l.Sublist m):l.flatten.Sublist m.flatten:=by
 induction h with
 | slnil=>exact List.Sublist.refl _
 | cons a _ ih=>rw [List.flatten_cons];exact ih.trans (List.sublist_append_right ..)
 | cons_cons a _ ih=>rw [List.flatten_cons,List.flatten_cons];exact (List.Sublist.refl _).append ih
theorem PlS.cut {w0:World} {B:Nat} {F0 G0:List Nat} {y:Yard} {v1 v2 v3 v4 v5 v6 vs vh:Value} {w w3:World} {ps:List Place} {vp:Value} {m:List PV} {F F':List Nat} {v':Value} {d:Nat} (hC:PlC w B y v1 v2 v3 v4 v5 v6 vs vh vp) (hm:m.map PV.x=ps) (ho:OwS OPV 138 w vp m F) (hF:∀ b∈F,b∈F0∨w0.heap.size≤b)
 (hn:∀ e∈m,OwS OInt 2 w e.v e.x.nodes e.F) (hnd:((m.map PV.F).flatten).Nodup) (hg:∀ b∈(m.map PV.F).flatten,b∈G0∨w0.heap.size≤b) (hkp:Kept (B :: F0) w0 w)
 (ha:OwS OPV 138 w3 v' (m.eraseIdx d) F') (hk:Kept F w w3) (hF':∀ b∈F',b∈F) :
 PlS w0 B F0 G0 y v1 v2 v3 v4 v5 v6 vs vh (w3.setCell ⟨B,10,none⟩ v') (ps.eraseIdx d):=by
 have hBF:B∉F:=ho.apart hC (by decide)
 have hC3:PlC w3 B y v1 v2 v3 v4 v5 v6 vs vh vp:=(hk.block B hC.lt hBF).trans hC
 have hsub:(m.eraseIdx d).Sublist m:=List.eraseIdx_sublist ..
 have hn3:∀ e∈m.eraseIdx d,OwS OInt 2 w3 e.v e.x.nodes e.F:=fun e he=>(hn e (hsub.subset he)).kept hk fun b hb hmm=>by
  obtain ⟨C,hc⟩:=(hn e (hsub.subset he)).tag b hb
  exact ho.apart hc (by decide) hmm
 have hks:Kept [B] w3 (w3.setCell ⟨B,10,none⟩ v'):=Kept.setCell (Kept.refl _ _) (by simp) _
 have hfl:((m.eraseIdx d).map PV.F).flatten.Sublist ((m.map PV.F).flatten):=flatten_sub (hsub.map PV.F)
 refine ⟨v',m.eraseIdx d,F',by simpa [PlC] using hC3.set_ 10 v',by rw [map_eraseIdx',hm],ha.kept hks (fun b hb hmm=>?_),fun b hb=>hF b (hF' b hb),fun e he=>(hn3 e he).kept hks (fun b hb hmm=>?_),hfl.nodup hnd,fun b hb=>hg b (hfl.subset hb),?_⟩
 · rw [List.mem_singleton.1 hmm] at hb
   exact ha.apart hC3 (by decide) hb
 · rw [List.mem_singleton.1 hmm] at hb
   exact (hn3 e he).apart hC3 (by decide) hb
 · refine (hkp.step hk (fun b hb=>(hF b hb).imp_left (List.mem_cons_of_mem _))).step hks (fun b hb=>.inl ?_)
   rw [List.mem_singleton.1 hb]
   exact List.mem_cons_self ..
theorem places_read {w:World} {vp:Value} {m:List PV} {F:List Nat} {ps:List Place} (hm:m.map PV.x=ps) (ho:OwS OPV 138 w vp m F) (hn:∀ e∈m,OwS OInt 2 w e.v e.x.nodes e.F):Rd EPlace (fun _=>True) w vp ps :=
 hm ▸ rd_places (ho.rd.sub fun _ _=>trivial) fun e he=>(hn e he).rd.sub fun _ _=>trivial
theorem step1_yes {y:Yard} {ps:List Place} {l:List Task} {k:Nat} (hk:k < l.length) (h:staysB y ((l.take k).foldl (step1 y) ps) (nth l k)=true):(l.take (k+1)).foldl (step1 y) ps=(l.take k).foldl (step1 y) ps ++ [stayP y ((l.take k).foldl (step1 y) ps) (nth l k)]:=by
 rw [take_succ_nth hk,List.foldl_append];simp only [List.foldl_cons,List.foldl_nil];rw [step1,if_pos h]
theorem step1_no {y:Yard} {ps:List Place} {l:List Task} {k:Nat} (hk:k < l.length) (h:staysB y ((l.take k).foldl (step1 y) ps) (nth l k)=false):(l.take (k+1)).foldl (step1 y) ps=(l.take k).foldl (step1 y) ps:=by
 rw [take_succ_nth hk,List.foldl_append];simp only [List.foldl_cons,List.foldl_nil];rw [step1,if_neg (by simp [h])]
end Go.Proofs.YtoblacfjmcpbmaaGreat
/- Where a piece of a function's code stands. (For walks parted by loops: a theorem a loop.) Printed by wip/plansplit.py. -/
namespace Go.Proofs.YtoblacfjmcpbmaaGreat
def nav:List Nat→Code→Code
 | [],c=>c
 | 0 :: p,.seq a _=>nav p a
 | 1 :: p,.seq _ b=>nav p b
 | _ :: p,.block _ c=>nav p c
 | _ :: p,.loop c=>nav p c
 | _,c=>c
def codeOf (f:Func):Code:=f.body.getD Code.skip
end Go.Proofs.YtoblacfjmcpbmaaGreat

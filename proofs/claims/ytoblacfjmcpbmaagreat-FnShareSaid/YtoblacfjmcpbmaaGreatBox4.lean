/- How long one that runs may stay; the plan over all labels; in plain Lean. No program in sight. -/
import Derived.Test.YtoblacfjmcpbmaaGreatPlanP
import Derived.Test.YtoblacfjmcpbmaaGreatLib
import Derived.Test.YtoblacfjmcpbmaaGreatOwn
import Derived.Deep.MidRow
namespace Go.Proofs.YtoblacfjmcpbmaaGreat
open Go.RowKit
theorem stayTo_le (now:Int):∀ (occ:List Span) (e:Int),stayTo now occ e≤e
 | [],e=>Int.le_refl _
 | o :: r,e=>by
   have:=stayTo_le now r (if now < o.from_ then min e o.from_ else e)
   unfold stayTo at this ⊢
   rw [List.foldl_cons]
   split at this <;> split <;> omega
theorem stayTo_gt (now:Int):∀ (occ:List Span) (e:Int),now < e→now < stayTo now occ e
 | [],e,h=>h
 | o :: r,e,h=>by
   have:=stayTo_gt now r (if now < o.from_ then min e o.from_ else e) (by split <;> omega)
   unfold stayTo at this ⊢
   rw [List.foldl_cons]
   exact this
theorem stayEnd_le (y:Yard) (ps:List Place):∀ (l:List Int) (e:Int),stayEnd y ps l e≤e
 | [],e=>Int.le_refl _
 | n :: l,e=>by
   have h1:=stayEnd_le y ps l (stayTo y.now (occOf (rowN (hardR y) n) ps n) e)
   have h2:=stayTo_le y.now (occOf (rowN (hardR y) n) ps n) e
   unfold stayEnd at h1 ⊢
   rw [List.foldl_cons]
   omega
theorem stayEnd_gt (y:Yard) (ps:List Place):∀ (l:List Int) (e:Int),y.now < e→y.now < stayEnd y ps l e
 | [],e,h=>h
 | n :: l,e,h=>by
   have h1:=stayEnd_gt y ps l (stayTo y.now (occOf (rowN (hardR y) n) ps n) e) (stayTo_gt _ _ _ h)
   unfold stayEnd at h1 ⊢
   rw [List.foldl_cons]
   exact h1
structure OkP (p:Place):Prop where
 lab:labelRight p.label=true
 id:1≤p.id∧p.id≤12
 lo:0≤p.from_
 ord:p.from_ < p.to_
 hi:p.to_≤2000000
 few:p.nodes.length≤6
def labTasks (l:List Task) (a:Label):List Task:=l.filter fun t=>decide (t.label=a)
def planOver (f:List Place→List Task→List Place) (order:List Task) (ls:List Label):List Place:=ls.foldl (fun ps a=>f ps (labTasks order a)) []
structure TaskFit (y:Yard) (t:Task):Prop where
 lab:labelRight t.label=true
 id:1≤t.id∧t.id≤12
 long:1≤t.long∧t.long≤20
 need:1≤t.need∧t.need≤6
 few:t.nodes.length≤6
 start:0≤t.start∧t.start≤1000000
 nodes:∀ n∈t.nodes,0≤n∧n.toNat < y.nodes.length
 run:t.state=2→t.start≤y.now∧y.now < endOf t
 wait:t.state=1→0 < t.nodes.length→y.now≤t.start
 now:0≤y.now∧y.now≤999900
section
variable {y:Yard}
theorem ok_stay {ps:List Place} {t:Task} (h:TaskFit y t) (hr:runsB t=true):OkP (stayP y ps t):=by
 have hs:t.state=2:=by simpa [runsB] using hr
 have h1:=h.run hs
 have h2:=stayEnd_gt y ps t.nodes (endOf t) h1.2
 have h3:=stayEnd_le y ps t.nodes (endOf t)
 have h4:=h.start
 have h5:=h.long
 refine ⟨h.lab,h.id,h.now.1,h2,?_,h.few⟩
 show stayEnd y ps t.nodes (endOf t)≤2000000
 unfold endOf at *
 omega
theorem ok_kept {t:Task} (h:TaskFit y t):OkP (keptP t):=by
 have h4:=h.start
 have h5:=h.long
 refine ⟨h.lab,h.id,h4.1,?_,?_,h.few⟩
 · show t.start < endOf t
   unfold endOf;omega
 · show endOf t≤2000000
   unfold endOf;omega
theorem ok_found {ps:List Place} {t:Task} {k:Nat} {f:Int} {ns:List Int} (h:TaskFit y t) (hs:searchY y ps t.label t.need t.long k y.now=some (f,ns)) (hk:y.now+k≤1000050):OkP (foundP t f ns):=by
 have h1:=searchY_range _ _ hs
 have h2:=searchY_len hs (by have:=h.need;omega)
 have h4:=h.now
 have h5:=h.long
 have h6:=h.need
 have h7:=h1.2.1
 have h8:=h1.1
 refine ⟨h.lab,h.id,?_,?_,?_,?_⟩
 · show 0≤f
   omega
 · show f < f+1+t.long
   omega
 · show f+1+t.long≤2000000
   omega
 · show ns.length≤6
   omega
theorem ok_moved {ps:List Place} {t:Task} (h:TaskFit y t):OkP (moved y ps t):=by
 unfold moved
 split
 · rename_i f ns hs
   split
   · exact ok_kept h
   · exact ok_found h hs (by have:=h.start;have:=h.now;omega)
 · exact ok_kept h
theorem ok_new {ps:List Place} {t:Task} (h:TaskFit y t):∀ p∈newP y ps t,OkP p∧p.label=t.label:=by
 intro p hp
 unfold newP at hp
 split at hp
 · rename_i f ns hs
   rw [List.mem_singleton.1 hp]
   exact ⟨ok_found h hs (by have:=h.now;omega),rfl⟩
 · simp at hp
theorem moved_label {ps:List Place} {t:Task}:(moved y ps t).label=t.label:=by
 unfold moved
 split
 · split <;> rfl
 · rfl
theorem cutP_sub {ps:List Place} {t:Task}:∀ p∈cutP ps t,p∈ps:=fun _ hp=>List.mem_of_mem_eraseIdx hp
def Fine (a:Label) (ps:List Place) (p:Place):Prop:=p∈ps∨(OkP p∧p.label=a)
theorem foldl_inv {α β:Type} {f:β→α→β} {p:β→Prop}:∀ {l:List α} {b:β},p b→(∀ b x,x∈l→p b→p (f b x))→p (l.foldl f b)
 | [],_,h,_=>h
 | x :: l,b,h,hf=>foldl_inv (l:=l) (hf b x (by simp) h) fun c z hz hb=>hf c z (by simp [hz]) hb
theorem foldl_size {α β:Type} {f:β→α→β} {s:β→Nat} (h:∀ b x,s (f b x)≤s b+1):∀ (l:List α) (b:β),s (l.foldl f b)≤s b+l.length
 | [],b=>by simp
 | x :: l,b=>by
   rw [List.foldl_cons,List.length_cons]
   have:=foldl_size h l (f b x)
   have:=h b x
   omega
section
variable {a:Label} {ps0:List Place} {l:List Task}
theorem fine1 {ps:List Place} {t:Task} (ht:TaskFit y t) (ha:t.label=a) (h:∀ p∈ps,Fine a ps0 p):∀ p∈step1 y ps t,Fine a ps0 p:=by
 unfold step1
 split
 · rename_i hs
   simp only [staysB,Bool.and_eq_true] at hs
   intro p hp
   rcases List.mem_append.1 hp with hp | hp
   · exact h p hp
   · rw [List.mem_singleton.1 hp]
     exact .inr ⟨ok_stay ht hs.1,ha⟩
 · exact h
theorem fine2 {s:List Task × List Task × List Place} {t:Task} (ht:TaskFit y t) (ha:t.label=a) (h:∀ p∈s.2.2,Fine a ps0 p):∀ p∈(step2 y s t).2.2,Fine a ps0 p:=by
 unfold step2
 split
 · split <;> exact h
 · split
   · intro p hp
     rcases List.mem_append.1 hp with hp | hp
     · exact h p hp
     · rw [List.mem_singleton.1 hp]
       exact .inr ⟨ok_kept ht,ha⟩
   · exact h
theorem fine3 {ps:List Place} {t:Task} (ht:TaskFit y t) (ha:t.label=a) (h:∀ p∈ps,Fine a ps0 p):∀ p∈step3 y ps t,Fine a ps0 p:=by
 unfold step3
 intro p hp
 rcases List.mem_append.1 hp with hp | hp
 · exact h p (cutP_sub p hp)
 · rw [List.mem_singleton.1 hp]
   exact .inr ⟨ok_moved ht,moved_label.trans ha⟩
theorem fine4 {ps:List Place} {t:Task} (ht:TaskFit y t) (ha:t.label=a) (h:∀ p∈ps,Fine a ps0 p):∀ p∈step4 y ps t,Fine a ps0 p:=by
 unfold step4
 intro p hp
 rcases List.mem_append.1 hp with hp | hp
 · exact h p hp
 · exact .inr ⟨(ok_new ht p hp).1,(ok_new ht p hp).2.trans ha⟩
theorem sub2 {s:List Task × List Task × List Place} {t:Task} (ht:t∈l) (h:(∀ u∈s.1,u∈l)∧∀ u∈s.2.1,u∈l∧0 < u.nodes.length):(∀ u∈(step2 y s t).1,u∈l)∧∀ u∈(step2 y s t).2.1,u∈l∧0 < u.nodes.length:=by
 unfold step2
 have snoc:∀ {m:List Task} {q:Task→Prop},(∀ u∈m,q u)→q t→∀ u∈m ++ [t],q u:=fun hm hq u hu=>by
  rcases List.mem_append.1 hu with hu | hu
  · exact hm u hu
  · rw [List.mem_singleton.1 hu];exact hq
 split
 · split
   · exact h
   · exact ⟨snoc h.1 ht,h.2⟩
 · split
   · rename_i hk
     simp only [keepB,Bool.and_eq_true,decide_eq_true_eq] at hk
     exact ⟨h.1,snoc h.2 ⟨ht,hk.1⟩⟩
   · exact ⟨snoc h.1 ht,h.2⟩
theorem fine_run2 (hf:∀ t∈l,TaskFit y t∧t.label=a) (h:∀ p∈ps0,Fine a ps0 p):∀ p∈(run2 y ps0 l).2.2,Fine a ps0 p :=
 foldl_inv (p:=fun s:List Task × List Task × List Place=>∀ p∈s.2.2,Fine a ps0 p) (foldl_inv (p:=fun ps=>∀ p∈ps,Fine a ps0 p) h fun _ x hx hb=>fine1 (hf x hx).1 (hf x hx).2 hb) fun _ x hx hb=>fine2 (hf x hx).1 (hf x hx).2 hb
theorem sub_run2:(∀ u∈(run2 y ps0 l).1,u∈l)∧∀ u∈(run2 y ps0 l).2.1,u∈l∧0 < u.nodes.length :=
 foldl_inv (p:=fun s:List Task × List Task × List Place=>(∀ u∈s.1,u∈l)∧∀ u∈s.2.1,u∈l∧0 < u.nodes.length) ⟨by simp,by simp⟩ fun _ _ hx hb=>sub2 hx hb
theorem fine_plan (hf:∀ t∈l,TaskFit y t∧t.label=a):∀ p∈planLabel y ps0 l,Fine a ps0 p:=by
 have h0:∀ p∈ps0,Fine a ps0 p:=fun p hp=>.inl hp
 have hs:=sub_run2 (y:=y) (ps0:=ps0) (l:=l)
 refine foldl_inv (p:=fun ps=>∀ p∈ps,Fine a ps0 p) (foldl_inv (p:=fun ps=>∀ p∈ps,Fine a ps0 p) (fine_run2 hf h0) fun b x hx hb=>?_) fun b x hx hb=>?_
 · exact fine3 (hf x (hs.2 x hx).1).1 (hf x (hs.2 x hx).1).2 hb
 · exact fine4 (hf x (hs.1 x hx)).1 (hf x (hs.1 x hx)).2 hb
theorem Fine.ok {p:Place} (h:Fine a ps0 p) (h0:∀ p∈ps0,OkP p):OkP p:=h.elim (h0 p) fun h=>h.1
end
theorem len1 (ps:List Place) (t:Task):(step1 y ps t).length≤ps.length+1:=by
 unfold step1;split <;> simp
theorem len2 (s:List Task × List Task × List Place) (t:Task):(step2 y s t).2.2.length≤s.2.2.length+1∧(step2 y s t).1.length≤s.1.length+1∧(step2 y s t).2.1.length≤s.2.1.length+1:=by
 unfold step2;split <;> split <;> simp
theorem len3 (ps:List Place) (t:Task):(step3 y ps t).length≤ps.length+1:=by
 unfold step3 cutP
 rw [List.length_append,List.length_eraseIdx]
 simp only [List.length_singleton]
 split <;> omega
theorem len4 (ps:List Place) (t:Task):(step4 y ps t).length≤ps.length+1:=by
 unfold step4 newP;split <;> simp
theorem len_run2 (ps:List Place) (l:List Task):(run2 y ps l).2.2.length≤ps.length+l.length+l.length∧(run2 y ps l).1.length≤l.length∧(run2 y ps l).2.1.length≤l.length:=by
 have h1:=foldl_size (s:=fun ps:List Place=>ps.length) (f:=step1 y) len1 l ps
 have h2:=foldl_size (s:=fun s:List Task × List Task × List Place=>s.2.2.length) (f:=step2 y) (fun b x=>(len2 b x).1) l ([],[],l.foldl (step1 y) ps)
 have h3:=foldl_size (s:=fun s:List Task × List Task × List Place=>s.1.length) (f:=step2 y) (fun b x=>(len2 b x).2.1) l ([],[],l.foldl (step1 y) ps)
 have h4:=foldl_size (s:=fun s:List Task × List Task × List Place=>s.2.1.length) (f:=step2 y) (fun b x=>(len2 b x).2.2) l ([],[],l.foldl (step1 y) ps)
 simp only [List.length_nil] at h1 h2 h3 h4
 unfold run2
 omega
theorem len_plan (ps:List Place) (l:List Task):(planLabel y ps l).length≤ps.length+4 * l.length:=by
 have h:=len_run2 (y:=y) ps l
 have h3:=foldl_size (s:=fun ps:List Place=>ps.length) (f:=step3 y) len3 (run2 y ps l).2.1 (run2 y ps l).2.2
 have h4:=foldl_size (s:=fun ps:List Place=>ps.length) (f:=step4 y) len4 (run2 y ps l).1 ((run2 y ps l).2.1.foldl (step3 y) (run2 y ps l).2.2)
 unfold planLabel
 omega
theorem planOver_eq {order:List Task} (hf:∀ t∈order,TaskFit y t∧(t.state=2∨t.state=1)) (hid:∀ a,(labTasks order a).Pairwise fun s t=>s.id≠t.id) :
 ∀ ls:List Label,ls.Nodup→planOver (planLabel y) order ls=planOver (labelS y) order ls∧(∀ p∈planOver (planLabel y) order ls,OkP p∧p.label∈ls)∧∀ a,a∉ls→Turn y a (planOver (planLabel y) order ls) (labTasks order a):=by
 have hl:∀ a,∀ t∈labTasks order a,t∈order∧t.label=a:=fun a t ht=>by
  have:=List.mem_filter.1 ht
  exact ⟨this.1,by simpa using this.2⟩
 have turn:∀ (a:Label) (ps:List Place),(∀ p∈ps,p.label≠a)→Turn y a ps (labTasks order a):=fun a ps hp =>
  ⟨fun t ht=>(hl a t ht).2,hid a,hp,fun t ht=>(hf t (hl a t ht).1).2,fun t ht=>(hf t (hl a t ht).1).1.wait,fun t ht=>(hf t (hl a t ht).1).1.need.1⟩
 intro ls
 induction ls using snoc_rec with
 | nil=>intro _;exact ⟨rfl,by simp [planOver],fun a _=>turn a _ (by simp [planOver])⟩
 | snoc ls a ih =>
   intro hn
   obtain ⟨n1,n2,n3⟩:=List.nodup_append.1 hn
   obtain ⟨h1,h2,h3⟩:=ih n1
   have ha:a∉ls:=fun h=>n3 a h a (by simp) rfl
   have e:∀ f:List Place→List Task→List Place,planOver f order (ls ++ [a])=f (planOver f order ls) (labTasks order a):=fun f=>by simp [planOver,List.foldl_append]
   have hm:∀ p∈planOver (planLabel y) order (ls ++ [a]),OkP p∧p.label∈ls ++ [a]:=by
    rw [e]
    intro p hp
    rcases fine_plan (a:=a) (fun t ht=>⟨(hf t (hl a t ht).1).1,(hl a t ht).2⟩) p hp with h | h
    · exact ⟨(h2 p h).1,List.mem_append_left _ (h2 p h).2⟩
    · exact ⟨h.1,by rw [h.2];simp⟩
   refine ⟨?_,hm,fun b hb=>turn b _ fun p hp he=>hb (he ▸ (hm p hp).2)⟩
   rw [e,e,planLabel_eq (h3 a ha),h1]
theorem len_over {order:List Task} (ls:List Label):(planOver (planLabel y) order ls).length≤ls.length * (4 * order.length):=by
 induction ls using snoc_rec with
 | nil=>simp [planOver]
 | snoc ls a ih =>
   have e:planOver (planLabel y) order (ls ++ [a])=planLabel y (planOver (planLabel y) order ls) (labTasks order a):=by simp [planOver,List.foldl_append]
   rw [e,List.length_append]
   have h1:=len_plan (y:=y) (planOver (planLabel y) order ls) (labTasks order a)
   have h2:(labTasks order a).length≤order.length:=List.length_filter_le ..
   have h3:(ls.length + [a].length) * (4 * order.length)=ls.length * (4 * order.length)+4 * order.length:=by simp [Nat.add_mul]
   omega
end
end Go.Proofs.YtoblacfjmcpbmaaGreat
/- A variable that is made at any time beside a call,and stored into behind it: the value stays shut. -/
namespace Go.Proofs.YtoblacfjmcpbmaaGreat
open Go.RowKit
theorem box_new3 {bw V wn:World} {cs:Array Value} {T:TypeId} (hx:Ext (V.alloc (.cells cs T)) wn) (h:Ext bw V):Blk wn V.heap.size T cs∧bw.heap.size≤V.heap.size∧V.heap.size < (V.alloc (.cells cs T)).heap.size :=
 ⟨(Blk.new V T cs).ext hx,h.size,by simp⟩
theorem store_shut {P:Program} {cs:List Value} {n:Nat} (hl:cs.length=n) (h1:∀ v∈cs,v.oneCell'=true) (V:World) (b:Nat) (ht:V.there b 0 n) :
 (storeCells ⟨b,0,none⟩ cs).run P V=.ok () (V.setCells b 0 cs):=by
 have:=run_storeCells_cells (P:=P) b 0 cs 0 V (fun j hj=>by simpa using (ht j (by omega)).1) (fun j hj=>by simpa using (ht j (by omega)).2) h1
 simpa using this
theorem drew_size (w:World):w.drew.heap.size=w.heap.size:=rfl
theorem box_new4 {bw V wn:World} {cs:Array Value} {T:TypeId} (hx:Ext (V.alloc (.cells cs T)).drew wn) (h:Ext bw V):Blk wn V.heap.size T cs∧bw.heap.size≤V.heap.size∧V.heap.size < (V.alloc (.cells cs T)).drew.heap.size :=
 box_new3 (V:=V) (Ext.trans ((Ext.refl _).drew) hx) h
theorem there_alloc {V:World} {C:Array Value} {T:TypeId} {n:Nat} (h:C.size=n):(V.alloc (.cells C T)).there V.heap.size 0 n:=by
 have:=(Blk.new V T C).there
 rwa [h] at this
section
variable {α:Type} {E:Elem α} {O:Own E} {x:α} {w W:World} {B:Nat} {T:TypeId} {C:Array Value} {cs:List Value} {F:List Nat}
theorem box_pre (hb:Blk W B T C) (hc:C.size=cs.length) (ho:O.own W cs x F) (hB:w.heap.size≤B) (hF:∀ b∈F,B < b) (hx:Ext w W) :
 Blk (W.setCells B 0 cs) B T cs.toArray∧O.own (W.setCells B 0 cs) cs x F∧B∉F∧w.heap.size≤B∧Ext w (W.setCells B 0 cs):=by
 have hn:B∉F:=fun h=>Nat.lt_irrefl _ (hF _ h)
 refine ⟨by simpa using hb.setAll (vs:=cs.toArray) (by simpa using hc),O.keep (fun b h=>?_) ho,hn,hB,setCells_ext hB _ _ _ hx⟩
 exact (Kept.setCells (F:=[B]) (by simp) cs W 0 (Kept.refl _ W)).block b (O.lt ho b h) (by simp;rintro rfl;exact hn h)
theorem box_post (hc:C.size=cs.length) (ho:O.own W cs x F) (hx:Ext w W) :
 Blk ((W.alloc (.cells C T)).setCells W.heap.size 0 cs) W.heap.size T cs.toArray∧O.own ((W.alloc (.cells C T)).setCells W.heap.size 0 cs) cs x F∧W.heap.size∉F∧w.heap.size≤W.heap.size∧Ext w ((W.alloc (.cells C T)).setCells W.heap.size 0 cs):=by
 have hn:W.heap.size∉F:=fun h=>Nat.lt_irrefl _ (O.lt ho _ h)
 have ho2:O.own (W.alloc (.cells C T)) cs x F:=O.keep (fun b h=>Below.block ((Ext.refl W).alloc _) b (O.lt ho b h)) ho
 refine ⟨by simpa using (Blk.new W T C).setAll (vs:=cs.toArray) (by simpa using hc),O.keep (fun b h=>?_) ho2,hn,hx.size,setCells_ext hx.size _ _ _ (hx.alloc _)⟩
 exact (Kept.setCells (F:=[W.heap.size]) (by simp) cs _ 0 (Kept.refl _ _)).block b (O.lt ho2 b h) (by simp;rintro rfl;exact hn h)
end
end Go.Proofs.YtoblacfjmcpbmaaGreat

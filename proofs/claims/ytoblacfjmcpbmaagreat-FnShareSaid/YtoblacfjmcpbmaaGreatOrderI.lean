/- slices.SortFunc at tasks: the kit's contract, laid for this seat, told of memory that a slice has for itself. The walks of the program's taskOrder and TaskOrder. Printed by wip/orderi.py. -/
import Derived.Test.YtoblacfjmcpbmaaGreatRankC
import Derived.Test.YtoblacfjmcpbmaaGreatGYardT
import Derived.Test.YtoblacfjmcpbmaaGreatSortLayT
import Derived.Test.YtoblacfjmcpbmaaGreatCopies
import Derived.Test.YtoblacfjmcpbmaaGreatYardTt
import Derived.Laws.EntriesVeiled
set_option maxHeartbeats 32000000
set_option maxRecDepth 100000
namespace Go.Proofs.YtoblacfjmcpbmaaGreat
open Go.RowKit Go.Shelf Go.Lib Go.Sort
attribute [local irreducible] wpQuiet
def bornOk (x:Task):Prop:=0≤x.born∧x.born≤1000000
abbrev FT:={ e:Task × (Option Addr × Nat × Nat) × List Nat // FitTask e.1∧bornOk e.1 }
instance:Inhabited FT:=⟨⟨(⟨⟨0,0⟩,0,⟨#[]⟩,0,0,0,⟨0,0⟩,0,0,0,0,[]⟩,(none,0,0),[]),by simp [FitTask,I64,Str];exact Nat.zero_le _,by simp [bornOk]⟩⟩
def valT (e:FT):Value:=.slice e.1.2.1.1 e.1.2.1.2.1 e.1.2.1.2.2
def blksT (e:FT):List Nat:=e.1.2.2
def encT (e:FT):List Value:=cellsTask e.1.1 (valT e)
theorem encT_len (e:FT):(encT e).length=14:=rfl
theorem encT_one (e:FT):∀ u∈encT e,u.oneCell'=true:=fun u hu=>by
 simp only [encT,cellsTask,valT,List.mem_cons,List.not_mem_nil,or_false] at hu
 rcases hu with rfl | rfl | rfl | rfl | rfl | rfl | rfl | rfl | rfl | rfl | rfl | rfl | rfl | rfl <;> rfl
theorem sortWT {w:World} {B n:Nat} {d:Array FT} {os:Array Obj} {C:Array Value} {T:TypeId} (hB:Blk w B T C) :
 (∃ C':Array Value,Blk (sortWorldK encT 14 w B 0 n d os) B T C'∧C'.size=C.size)∧Kept [B] w (sortWorldK encT 14 w B 0 n d os):=by
 have hlt:=hB.lt
 have hh:(sortWorldK encT 14 w B 0 n d os).heap=(w.heap.modify B (onCells (putCells id 0 (flatK encT 14 d)))) ++ os:=rfl
 refine ⟨⟨putCells id 0 (flatK encT 14 d) C,?_,by simp [putCells]⟩,rfl,rfl,rfl,by rw [hh];simp,fun b hb hn=>?_⟩
 · show (sortWorldK encT 14 w B 0 n d os).heap[B]? = _
   rw [hh,Array.getElem?_append_left (by simpa using hlt),Array.getElem?_modify,if_pos rfl,hB]
   rfl
 · rw [hh,Array.getElem?_append_left (by simpa using hb),Array.getElem?_modify,if_neg (fun e=>hn (by simp [e]))]
theorem task_own {w:World} {B c:Nat} {C:Array Value} {T:TypeId} {d:Array FT} (hB:Blk w B T C) (hC:C.size=c * 14) (hd:d.size≤c) (hc:c≤maxLen) (hH:HoldsK encT 14 w B 0 d)
 (hn:(B :: (d.toList.map blksT).flatten).Nodup) (ho:∀ e∈d.toList,OwS OInt 2 w (valT e) e.1.1.nodes (blksT e)) :
 OwS OTask T w (.slice (some ⟨B,0,none⟩) d.size c) (d.toList.map (·.1.1)) (B :: (d.toList.map blksT).flatten):=by
 have hl:(d.toList.map (fun x:FT=>x.1.1)).length=d.size:=by simp
 refine .inr ⟨B,c,C,d.toList.map blksT,by rw [hl],hB,by rw [hl];exact hd,hc,hC,by simp,rfl,hn,fun k hk=>?_⟩
 rw [hl] at hk
 have e:nth (d.toList.map (fun x:FT=>x.1.1)) k=(d[k]'hk).1.1:=by rw [nth_eq (by rw [hl];exact hk)];simp
 have e2:nth (d.toList.map blksT) k=blksT (d[k]'hk):=by rw [nth_eq (by simpa using hk)];simp
 rw [e,e2]
 refine ⟨encT (d[k]'hk),⟨valT (d[k]'hk),rfl,(d[k]'hk).2.1,ho _ (by simp)⟩,fun j u hj=>?_⟩
 have hj4:j < 14:=(List.getElem?_eq_some_iff.1 hj).1
 have h1:=(hH (k * 14+j) (by rw [size_flatK];omega)).1
 rw [Nat.zero_add,get_flatK _ _ _ _ (by omega),show (k * 14+j) / 14=k by omega,show (k * 14+j) % 14=j by omega,getElem!_pos d k hk] at h1
 rw [show k * ETask.size+j=k * 14+j from rfl,h1]
 have h2:(encT (d[k]'hk))[j]? = some u:=hj
 obtain ⟨h3,h4⟩:=List.getElem?_eq_some_iff.1 h2
 rw [getElem!_pos (encT (d[k]'hk)) j h3,h4]
 rfl
theorem own_task {w:World} {v:Value} {T:TypeId} {l:List Task} {F:List Nat} (h:OwS OTask T w v l F) (hl:0 < l.length) (hb:∀ x∈l,bornOk x) :
 ∃ (B c:Nat) (C:Array Value) (d:Array FT),v=.slice (some ⟨B,0,none⟩) d.size c∧Blk w B T C∧C.size=c * 14∧d.size≤c∧c≤maxLen∧F=B :: (d.toList.map blksT).flatten∧F.Nodup∧HoldsK encT 14 w B 0 d∧d.toList.map (·.1.1)=l ∧
   ∀ e∈d.toList,OwS OInt 2 w (valT e) e.1.1.nodes (blksT e):=by
 rcases h with ⟨rfl,_⟩ | ⟨B,c,C,Fs,rfl,hB,h1,h2,h3,hlF,h4,hn,hk⟩
 · simp at hl
 have key:∀ i:Fin l.length,∃ e:FT,e.1.1=nth l i∧blksT e=nth Fs i∧OwS OInt 2 w (valT e) e.1.1.nodes (blksT e)∧w.rangeAt B (i * 14) (encT e):=fun i=>by
  obtain ⟨cs,⟨u,rfl,hf,q⟩,hc⟩:=hk i i.2
  obtain ⟨A,c',rfl,-⟩:=q.form
  exact ⟨⟨(nth l i,(A,(nth l i).nodes.length,c'),nth Fs i),hf,hb _ (nth_mem i.2)⟩,rfl,rfl,q,hc⟩
 have key2:∃ f:Fin l.length→FT,∀ i,(f i).1.1=nth l i∧blksT (f i)=nth Fs i∧OwS OInt 2 w (valT (f i)) (f i).1.1.nodes (blksT (f i))∧w.rangeAt B (i * 14) (encT (f i)):=⟨fun i=>Classical.choose (key i),fun i=>Classical.choose_spec (key i)⟩
 obtain ⟨f,hf⟩:=key2
 have hs:(Array.ofFn f).size=l.length:=by simp
 have m1:(Array.ofFn f).toList.map (·.1.1)=l:=by
  refine List.ext_getElem (by simp) fun i h1 h2=>?_
  have:=(hf ⟨i,h2⟩).1
  simp only [List.getElem_map,Array.getElem_toList,Array.getElem_ofFn]
  rw [this,nth_eq h2]
 have m2:(Array.ofFn f).toList.map blksT=Fs:=by
  refine List.ext_getElem (by simp [hlF]) fun i h1 h2=>?_
  have:=(hf ⟨i,by omega⟩).2.1
  simp only [List.getElem_map,Array.getElem_toList,Array.getElem_ofFn]
  rw [this,nth_eq h2]
 refine ⟨B,c,C,Array.ofFn f,by rw [hs],hB,h3,by rw [hs];exact h1,h2,by rw [m2];exact h4,hn,fun t ht=>⟨?_,Blk.frozen (t:=T) (cs:=C) hB _⟩,m1,fun e he=>?_⟩
 · rw [size_flatK] at ht
   have hk':t / 14 < l.length:=by omega
   have hkd:t / 14 < (Array.ofFn f).size:=by omega
   rw [Nat.zero_add,get_flatK _ _ _ _ ht,getElem!_pos (Array.ofFn f) _ hkd,Array.getElem_ofFn]
   have hc:=(hf ⟨t / 14,hk'⟩).2.2.2
   have h5:t % 14 < (encT (f ⟨t / 14,hk'⟩)).length:=by rw [encT_len];omega
   have h6:=hc (t % 14) _ (List.getElem?_eq_getElem (l:=encT (f ⟨t / 14,hk'⟩)) h5)
   rw [getElem!_pos (encT (f ⟨t / 14,hk'⟩)) _ h5]
   rw [show (⟨t / 14,hk'⟩:Fin l.length).val * 14+t % 14=t from by show t / 14 * 14+t % 14=t;omega] at h6
   exact h6
 · obtain ⟨i,hi,rfl⟩:=List.getElem_of_mem he
   have hi':i < l.length:=by simpa using hi
   have e1:(Array.ofFn f).toList[i]=f ⟨i,hi'⟩:=by simp
   rw [e1]
   exact (hf ⟨i,hi'⟩).2.2.1
theorem swoT (y:Yard):SWO (ltOf fun a b:FT=>cmpT y a.1.1 b.1.1) where
 irrefl x:=by
  have:=(lin_T y).self x.1.1
  simp [ltOf,this]
 trans x z u h1 h2:=by
  simp only [ltOf,decide_eq_true_eq] at *
  exact (lin_T y).lt_trans h1 h2
 ntrans x z u h1 h2:=by
  simp only [ltOf,decide_eq_false_iff_not] at *
  have a1:=(lin_T y).anti x.1.1 z.1.1
  have a2:=(lin_T y).anti z.1.1 u.1.1
  have a3:=(lin_T y).anti x.1.1 u.1.1
  have:=(lin_T y).trans u.1.1 z.1.1 x.1.1 (by omega) (by omega)
  omega
theorem isAggT:∀ w,(isAgg 46).run Tryz.prog w=.ok true w:=by intro w;go_simp
theorem sizeT:∀ w,(Go.sizeOf 46).run Tryz.prog w=.ok 14 w:=by intro w;go_simp
def RetSortT (y:Yard) (v:Value) (l:List Task) (F:List Nat) (w:World) (e:Ending) (w':World):Prop:=e=.returned (.tuple #[])∧∃ m F',OwS OTask 46 w' v m F'∧m.Perm l∧(m.Pairwise fun a b=>cmpT y a b≤0)∧(∀ b∈F',b∈F)∧Kept F w w'
theorem sortTasks_core (y:Yard) (B c:Nat) (C:Array Value) (d:Array FT) (caps:Array Value) (w:World) (hB:Blk w B 46 C) (hC:C.size=c * 14) (hd:d.size≤c) (hc:c≤maxLen) (hnd:(B :: (d.toList.map blksT).flatten).Nodup) (hH:HoldsK encT 14 w B 0 d)
 (ho:∀ e∈d.toList,OwS OInt 2 w (valT e) e.1.1.nodes (blksT e)) (hm:d.size≤1000)
 (hq:∀ W,Kept (B :: (d.toList.map blksT).flatten) w W→∀ a b:FT,Calls Tryz.prog 87 (#[.agg (encT a).toArray,.agg (encT b).toArray] ++ caps) W fun e w'=>e=.returned (.int .i64 (cmpT y a.1.1 b.1.1))∧Gr W w') :
 Calls Tryz.prog 86 #[.slice (some ⟨B,0,none⟩) d.size c,.func (.func 87) #[] caps] w (RetSortT y (.slice (some ⟨B,0,none⟩) d.size c) (d.toList.map (·.1.1)) (B :: (d.toList.map blksT).flatten) w):=by
 have hcmp:CmpLays Tryz.prog 87 caps encT 14 (fun a b:FT=>cmpT y a.1.1 b.1.1) B 0 d.size w:=fun m os dk _ a b =>
  hq _ ((sortWT (n:=m) (d:=dk) (os:=os) hB).2.sub fun b _ hb=>by rw [List.mem_singleton.1 hb];exact List.mem_cons_self ..) a b
 have hcon:=AnyQ.slices_SortFunc Tryz.sortTask 14 isAggT sizeT encT encT_len encT_one (fun a b:FT=>cmpT y a.1.1 b.1.1) (swoT y) 87 caps B 0 c d w call_order2 hcmp hH hB.lt (by omega)
 refine Calls.mono (show Calls Tryz.prog 86 _ _ _ from hcon) ?_
 rintro e w' ⟨rfl,d',n,os,⟨hz,_,hp⟩,hso,rfl⟩
 obtain ⟨⟨C',hB',hC'⟩,hk⟩:=sortWT (n:=n) (d:=d') (os:=os) hB
 have hH':=holdsK_sortWorldK_c encT 14 w B 0 d d' n os hH hB.lt hz
 have hpl:d'.toList.Perm d.toList:=by
  have e1:d'.extract 0 d.size=d':=by rw [← hz];simp
  have e2:d.extract 0 d.size=d:=by simp
  rw [e1,e2] at hp
  exact hp
 have hpf:(B :: (d'.toList.map blksT).flatten).Perm (B :: (d.toList.map blksT).flatten):=((hpl.map blksT).flatten).cons B
 have hfar:∀ e∈d.toList,∀ b∈blksT e,b∉[B]:=fun e he b hb hm=>by
  have h1:=(List.nodup_cons.1 hnd).1
  rw [List.mem_singleton.1 hm] at hb
  exact h1 (List.mem_flatten.2 ⟨_,List.mem_map.2 ⟨e,he,rfl⟩,hb⟩)
 have hown:=task_own hB' (by rw [hC',hC]) (by rw [hz];exact hd) hc hH' (hpf.symm.nodup hnd) (fun e he=>(ho e (hpl.mem_iff.1 he)).kept hk (hfar e (hpl.mem_iff.1 he)))
 rw [hz] at hown
 refine ⟨rfl,d'.toList.map (·.1.1),_,hown,hpl.map (fun x:FT=>x.1.1),?_,fun b hb=>hpf.mem_iff.1 hb,hk.sub fun b _ hb=>by rw [List.mem_singleton.1 hb];exact List.mem_cons_self ..⟩
 rw [List.pairwise_map,List.pairwise_iff_getElem]
 intro i j hi hj hij
 have hj':j < d'.size:=by simpa using hj
 have h1:=hso i j (Nat.zero_le _) hij (by omega)
 rw [getElem!_pos d' i (by omega),getElem!_pos d' j hj'] at h1
 simp only [ltOf,decide_eq_false_iff_not] at h1
 have h2:=(lin_T y).anti (d'[i]'(by omega)).1.1 (d'[j]'hj').1.1
 simp only [Array.getElem_toList]
 omega
theorem sortTasks_any (y:Yard) (l:List Task) (v:Value) (F:List Nat) (caps:Array Value) (w:World) (h:OwS OTask 46 w v l F) (hl:0 < l.length) (hm:l.length≤1000) (hb:∀ x∈l,bornOk x)
 (hq:∀ W,Kept F w W→∀ a b:FT,Calls Tryz.prog 87 (#[.agg (encT a).toArray,.agg (encT b).toArray] ++ caps) W fun e w'=>e=.returned (.int .i64 (cmpT y a.1.1 b.1.1))∧Gr W w') :
 Calls Tryz.prog 86 #[v,.func (.func 87) #[] caps] w (RetSortT y v l F w):=by
 obtain ⟨B,c,C,d,rfl,hB,hC,hd,hc,rfl,hnd,hH,rfl,ho⟩:=own_task h hl hb
 exact sortTasks_core y B c C d caps w hB hC hd hc hnd hH ho (by simpa using hm) hq
theorem sortNone_any (y:Yard) (B:Nat) (caps:Array Value) (w:World) (hB:Blk w B 46 #[])
 (hq:∀ W,Kept [B] w W→∀ a b:FT,Calls Tryz.prog 87 (#[.agg (encT a).toArray,.agg (encT b).toArray] ++ caps) W fun e w'=>e=.returned (.int .i64 (cmpT y a.1.1 b.1.1))∧Gr W w') :
 Calls Tryz.prog 86 #[.slice (some ⟨B,0,none⟩) 0 0,.func (.func 87) #[] caps] w (RetSortT y (.slice (some ⟨B,0,none⟩) 0 0) [] [B] w) :=
 sortTasks_core y B 0 #[] #[] caps w hB rfl (Nat.le_refl _) (Nat.zero_le _) (by simp) (fun t ht=>absurd ht (by simp [flatK])) (fun e he=>absurd he (by simp)) (by simp) hq
end Go.Proofs.YtoblacfjmcpbmaaGreat
namespace Go.Proofs.YtoblacfjmcpbmaaGreat
open Go.RowKit
attribute [local irreducible] wpQuiet
def orderY (y:Yard):List Task:=if yardRight y=true then orderT y else []
theorem caps2_one (a b u:Value):(#[a,b] ++ #[u]:Array Value) = #[a,b,u]:=rfl
theorem goes_yes {y:Yard} {k:Nat} (h:k < y.tasks.length) (e:goesT y (nth y.tasks k)=true):(y.tasks.take (k+1)).filter (goesT y)=(y.tasks.take k).filter (goesT y) ++ [nth y.tasks k]:=by
 rw [take_succ_nth h,List.filter_append]
 simp [e]
theorem goes_no {y:Yard} {k:Nat} (h:k < y.tasks.length) (e:goesT y (nth y.tasks k)=false):(y.tasks.take (k+1)).filter (goesT y)=(y.tasks.take k).filter (goesT y):=by
 rw [take_succ_nth h,List.filter_append]
 simp [e]
theorem now_of {y:Yard} (h:yardRight y=true):0≤y.now∧y.now≤1000000:=by
 simp only [yardRight,yardHead,Bool.and_eq_true] at h
 have:=isB_true h.1.1.1.2
 omega
theorem born_of {x:Task} (h:taskRight x=true):bornOk x:=by
 simp only [taskRight,Bool.and_eq_true] at h
 have:=isB_true h.1.1.1.2
 unfold bornOk
 omega
structure OrdOk (y:Yard):Prop where
 tasks:tasksRight y.tasks=true
 now:0≤y.now∧y.now≤1000000
theorem ord_of {y:Yard} (h:yardRight y=true):OrdOk y:=⟨right_tasks h,now_of h⟩
theorem ord_nodes {y:Yard} (h:OrdOk y) {k:Nat} (hk:k < y.tasks.length):(nth y.tasks k).nodes.length≤1000000000:=by
 have h:=all_right h.tasks hk
 simp only [taskRight,isWorkB,isB,placeOk,Bool.and_eq_true,decide_eq_true_eq] at h
 split at h <;> simp only [Bool.and_eq_true,decide_eq_true_eq] at h <;> omega
theorem taskOrder_any {S:Nat→Prop} (y:Yard) (cs:List Value) (w:World) (h:EYard.rel S w cs y) (hr:OrdOk y) :
 Calls Tryz.prog 35 #[.agg cs.toArray] w (RetO OTask 46 (orderT y) w):=by
 obtain ⟨v1,v2,v3,v4,v5,v6,rfl,hf,h1,h2,h3,h4,h5,h6⟩:=h
 obtain ⟨A1,c1,rfl,-⟩:=h1.form
 obtain ⟨A2,c2,rfl,-⟩:=h2.form
 obtain ⟨A3,c3,rfl,-⟩:=h3.form
 obtain ⟨A4,c4,rfl,-⟩:=h4.form
 have H5:=Lib.hid h5
 obtain ⟨A5,c5,rfl,l5,m5,hk5⟩:=h5.open_
 unfold maxLen at m5
 obtain ⟨A6,c6,rfl,-⟩:=h6.form
 have HF:=Lib.hid hf
 have HFC:Hid (FitConfig y.config):=Lib.hid hf.1
 have H1:=Lib.hid h1
 have H2:=Lib.hid h2
 have H3:=Lib.hid h3
 have H4:=Lib.hid h4
 have H6:=Lib.hid h6
 have K5:=Lib.hid hk5
 have HR:=Lib.hid hr
 have HTR:=Lib.hid hr.tasks
 have HLN:Hid (y.tasks.length≤96):=Lib.hid (few_tasks hr.tasks)
 have hln:=HLN.out
 clear hf h1 h2 h3 h4 h5 h6 hk5 hr
 simp only [cellsYard]
 go_enter Tryz.func35,Tryz.ntmps35
 go_wp2_with fail
 obtain ⟨W,B,hW,hB,hx0,a0,b0⟩:=boxes2 w #[.slice A1 y.config.nodes.length c1,.slice A2 y.config.pairs.length c2,.slice A3 y.config.quotas.length c3,.int .i64 y.config.half,.slice A4 y.nodes.length c4,.slice A5 y.tasks.length c5,.slice A6 y.uses.length c6,.int .i64 y.now] #[] 35 46
 rw [← hW,← hB]
 have HB:Hid (w.heap.size≤B):=Lib.hid (by omega)
 have QA:=Lib.hid a0
 have QB:=Lib.hid b0
 have X:=Lib.hid hx0
 clear hW hB hx0 a0 b0
 go_loopw [3,11] (fun v i w'=>∃ (k:Nat) (F:List Nat),k≤y.tasks.length∧i=.int .i64 k∧OwS OTask 46 w' v ((y.tasks.take k).filter (goesT y)) F∧(∀ b∈F,B < b)∧Blk w' B 35 #[.slice A1 y.config.nodes.length c1,.slice A2 y.config.pairs.length c2,.slice A3 y.config.quotas.length c3,.int .i64 y.config.half,.slice A4 y.nodes.length c4,.slice A5 y.tasks.length c5,.slice A6 y.uses.length c6,.int .i64 y.now]∧Ext w w'∧(0 < ((y.tasks.take k).filter (goesT y)).length∨(v=.slice (some ⟨B+1,0,none⟩) 0 0∧Blk w' (B+1) 46 #[]))) (fun _ i _=>y.tasks.length - (intOf i).toNat)
 case atStart=>exact ⟨0,[B+1],by omega,rfl,.inr ⟨B+1,0,#[],[],rfl,QB.out,Nat.le_refl _,Nat.zero_le _,rfl,rfl,rfl,by simp,fun k hk=>absurd hk (Nat.not_lt_zero _)⟩,fun b hb=>by rw [List.mem_singleton.1 hb];omega,QA.out,X.out,.inr ⟨rfl,QB.out⟩⟩
 case round =>
  obtain ⟨k,F,hk1,rfl,hown,hF,hbb,hx,hz⟩:=hrel
  have HO:=Lib.hid hown
  have HF:=Lib.hid hF
  have HX:=Lib.hid hx
  have HBB:Hid (Blk wr B 35 #[.slice A1 y.config.nodes.length c1,.slice A2 y.config.pairs.length c2,.slice A3 y.config.quotas.length c3,.int .i64 y.config.half,.slice A4 y.nodes.length c4,.slice A5 y.tasks.length c5,.slice A6 y.uses.length c6,.int .i64 y.now]):=Lib.hid hbb
  have LF:=Lib.hid hown.lt
  have HZ:=Lib.hid hz
  clear hown hF hz
  by_cases hlt:k < y.tasks.length
  · have qa:=HBB.out.cell
    have qaa:=fun ob:Obj=>(HBB.out.ext ((Ext.refl _).alloc ob)).cell
    obtain ⟨b,q,cs,rfl,_,⟨v1,rfl,hfit,hrd⟩,hc⟩:=K5.out k hlt
    obtain ⟨A1',c1',rfl,-⟩:=hrd.form
    have z0:=Ext.some hx (hc 0 _ rfl)
    have z1:=Ext.some hx (hc 1 _ rfl)
    have z2:=Ext.some hx (hc 2 _ rfl)
    have z3:=Ext.some hx (hc 3 _ rfl)
    have z4:=Ext.some hx (hc 4 _ rfl)
    have z5:=Ext.some hx (hc 5 _ rfl)
    have z6:=Ext.some hx (hc 6 _ rfl)
    have z7:=Ext.some hx (hc 7 _ rfl)
    have z8:=Ext.some hx (hc 8 _ rfl)
    have z9:=Ext.some hx (hc 9 _ rfl)
    have z10:=Ext.some hx (hc 10 _ rfl)
    have z11:=Ext.some hx (hc 11 _ rfl)
    have z12:=Ext.some hx (hc 12 _ rfl)
    have z13:=Ext.some hx (hc 13 _ rfl)
    simp only [ETask,Nat.add_zero] at z0 z1 z2 z3 z4 z5 z6 z7 z8 z9 z10 z11 z12 z13
    have HFit:=Lib.hid hfit
    have HRD:=Lib.hid (hrd.ext hx)
    have HTK:=Lib.hid (all_right HTR.out hlt)
    have HNN:=Lib.hid (ord_nodes HR.out hlt)
    clear hc hfit hx hrd hbb
    by_cases hst:(nth y.tasks k).state=2
    · have HT:=Lib.hid (goes_yes hlt (by simp [goesT,hst]))
      have hs2:((nth y.tasks k).state == 2)=true:=by simp [hst]
      clear hst
      have X0:Hid (Ext wr (wr.alloc (.cells #[.int .i64 (nth y.tasks k).label.level,.int .i64 (nth y.tasks k).label.set,.int .i64 (nth y.tasks k).id,.string (nth y.tasks k).owner,.int .i64 (nth y.tasks k).need,.int .i64 (nth y.tasks k).long,.int .i64 (nth y.tasks k).prio,.int .i64 (nth y.tasks k).under.level,.int .i64 (nth y.tasks k).under.set,.int .i64 (nth y.tasks k).after,.int .i64 (nth y.tasks k).born,.int .i64 (nth y.tasks k).state,.int .i64 (nth y.tasks k).start,.slice A1' (nth y.tasks k).nodes.length c1'] 46))):=Lib.hid ((Ext.refl _).alloc _)
      go_wp2_with (first
       | (go_at_call 32;go_loud ((with_reducible refine (copyTask_own (S:=S) (nth y.tasks k) _ _ (rel_Task HFit.out (HRD.out.ext X0.out)) HNN.out).mono ?_);rintro e w1 ⟨cs1,G1,rfl,⟨u1,rfl,f1,q1⟩,g1,hx1⟩;obtain ⟨p1,k1,rfl,-⟩:=q1.form;have Q1:=Lib.hid q1;have X1:=Lib.hid (X0.out.trans hx1);have Z1:Hid (∀ b∈G1,wr.heap.size≤b):=Lib.hid (fun b hb=>Nat.le_trans X0.out.size (g1 b hb));clear f1 q1 g1 hx1;simp only [cellsTask]))
       | (at_builtin;refine wpList_append_one (O:=OTask) (T:=46) (l:=(y.tasks.take k).filter (goesT y)) (F:=F) (G:=G1) (y:=nth y.tasks k) (cs:=cellsTask (nth y.tasks k) (.slice p1 (nth y.tasks k).nodes.length k1)) rfl _ _ 32 rfl (.agg #[.int .i64 0,.int .i64 0,.int .i64 0,.string ⟨#[]⟩,.int .i64 0,.int .i64 0,.int .i64 0,.int .i64 0,.int .i64 0,.int .i64 0,.int .i64 0,.int .i64 0,.int .i64 0,.slice none 0 0]) 14 136 Tryz.underlying32 (by kernel_rfl) rfl rfl rfl ?ow _ 0 1 rfl ?own ?rng ?nd ?len (by decide) ?_;rotate_right;intro v' w2 F' how hkp hF';have HOW:=Lib.hid how;have HKP:=Lib.hid hkp;have HFF:=Lib.hid hF';clear how hkp hF'))
      case ow=>exact HO.out.ext (X1.out.alloc _)
      case own=>exact ⟨_,rfl,HFit.out,Q1.out.ext ((Ext.refl _).alloc _)⟩
      case rng =>
       have h:=(Blk.new w1 46 (cellsTask (nth y.tasks k) (.slice p1 (nth y.tasks k).nodes.length k1)).toArray).range
       simpa [cellsTask] using h
      case nd=>exact nodup_two HO.out.nodup Q1.out.nodup (fun b h1 h2=>by have a:=LF.out b h1;have c:=Z1.out b h2;omega)
      case len=>have:=List.length_filter_le (goesT y) (y.tasks.take k);rw [List.length_take] at this;have:=HLN.out;omega
      refine ⟨⟨k+1,F',by omega,by go_num,by rw [HT.out];exact HOW.out,fun b hb=>?_,(HKP.out.block B (HBB.out.ext (X1.out.alloc _)).lt (fun hm=>by have:=HF.out B hm;omega)).trans (HBB.out.ext (X1.out.alloc _)),HKP.out.ext ((HX.out.trans X1.out).alloc _) (fun b hb=>by have:=HF.out b hb;have:=HB.out;omega),.inl (by rw [HT.out,List.length_append];simp)⟩,by simp [intOf];omega⟩
      have hbw:=HBB.out.lt
      rcases HFF.out b hb with h | h | h
      · exact HF.out b h
      · have:=Z1.out b h;omega
      · have:=X1.out.size;have:=((Ext.refl w1).alloc (.cells (cellsTask (nth y.tasks k) (.slice p1 (nth y.tasks k).nodes.length k1)).toArray 46)).size;simp only [cellsTask] at *;omega
    · obtain ⟨r,hrr⟩:∃ r,readyB y.tasks (nth y.tasks k)=r:=⟨_,rfl⟩
      have HRR:=Lib.hid hrr
      have HRY:Hid (∀ V,Ext wr V→Calls Tryz.prog 83 #[.slice (some ⟨b,q,none⟩) y.tasks.length c5,.agg #[.int .i64 (nth y.tasks k).label.level,.int .i64 (nth y.tasks k).label.set,.int .i64 (nth y.tasks k).id,.string (nth y.tasks k).owner,.int .i64 (nth y.tasks k).need,.int .i64 (nth y.tasks k).long,.int .i64 (nth y.tasks k).prio,.int .i64 (nth y.tasks k).under.level,.int .i64 (nth y.tasks k).under.set,.int .i64 (nth y.tasks k).after,.int .i64 (nth y.tasks k).born,.int .i64 (nth y.tasks k).state,.int .i64 (nth y.tasks k).start,.slice A1' (nth y.tasks k).nodes.length c1']] V fun e w'=>e=.returned (.bool r)∧Ext V w'):=Lib.hid fun V hV=>by
       rw [← hrr]
       exact ready_any (S:=S) (S':=S) y.tasks (nth y.tasks k) _ _ V (H5.out.ext (HX.out.trans hV)) (rel_Task HFit.out (HRD.out.ext hV))
      clear hrr
      go_upto_region 5 with (fail)
      obtain ⟨W5,B5,hW5,hB5,hx5,b5⟩:∃ V C,V=wr.alloc (.cells #[.int .i64 (nth y.tasks k).label.level,.int .i64 (nth y.tasks k).label.set,.int .i64 (nth y.tasks k).id,.string (nth y.tasks k).owner,.int .i64 (nth y.tasks k).need,.int .i64 (nth y.tasks k).long,.int .i64 (nth y.tasks k).prio,.int .i64 (nth y.tasks k).under.level,.int .i64 (nth y.tasks k).under.set,.int .i64 (nth y.tasks k).after,.int .i64 (nth y.tasks k).born,.int .i64 (nth y.tasks k).state,.int .i64 (nth y.tasks k).start,.slice A1' (nth y.tasks k).nodes.length c1'] 46)∧C=wr.heap.size∧Ext wr V∧Blk V C 46 #[.int .i64 (nth y.tasks k).label.level,.int .i64 (nth y.tasks k).label.set,.int .i64 (nth y.tasks k).id,.string (nth y.tasks k).owner,.int .i64 (nth y.tasks k).need,.int .i64 (nth y.tasks k).long,.int .i64 (nth y.tasks k).prio,.int .i64 (nth y.tasks k).under.level,.int .i64 (nth y.tasks k).under.set,.int .i64 (nth y.tasks k).after,.int .i64 (nth y.tasks k).born,.int .i64 (nth y.tasks k).state,.int .i64 (nth y.tasks k).start,.slice A1' (nth y.tasks k).nodes.length c1']:=⟨_,_,rfl,rfl,(Ext.refl wr).alloc _,Blk.new _ _ _⟩
      rw [← hW5,← hB5]
      have X9:=Lib.hid hx5
      have Q5:=Lib.hid b5
      clear hW5 hB5 hx5 b5 qa qaa z0 z1 z2 z3 z4 z5 z6 z7 z8 z9 z10 z11 z12 z13
      have q5:=Q5.out.cell
      have qa5:=(HBB.out.ext X9.out).cell
      cases r with
      | true =>
        have HT:=Lib.hid (goes_yes hlt (by simp [goesT,HRR.out]))
        go_upto_region 6 with (go_at_call 83;(with_reducible refine (HRY.out _ X9.out).mono ?_);rintro e w9 ⟨rfl,hx9⟩;have X0:=Lib.hid (X9.out.trans hx9);have q6:=(Q5.out.ext hx9).cell;clear hx9 q5 qa5)
        go_wp2_with (first
         | (go_at_call 32;go_loud ((with_reducible refine (copyTask_own (S:=S) (nth y.tasks k) _ _ (rel_Task HFit.out (HRD.out.ext X0.out)) HNN.out).mono ?_);rintro e w1 ⟨cs1,G1,rfl,⟨u1,rfl,f1,q1⟩,g1,hx1⟩;obtain ⟨p1,k1,rfl,-⟩:=q1.form;have Q1:=Lib.hid q1;have X1:=Lib.hid (X0.out.trans hx1);have Z1:Hid (∀ b∈G1,wr.heap.size≤b):=Lib.hid (fun b hb=>Nat.le_trans X0.out.size (g1 b hb));clear f1 q1 g1 hx1;simp only [cellsTask]))
         | (at_builtin;refine wpList_append_one (O:=OTask) (T:=46) (l:=(y.tasks.take k).filter (goesT y)) (F:=F) (G:=G1) (y:=nth y.tasks k) (cs:=cellsTask (nth y.tasks k) (.slice p1 (nth y.tasks k).nodes.length k1)) rfl _ _ 32 rfl (.agg #[.int .i64 0,.int .i64 0,.int .i64 0,.string ⟨#[]⟩,.int .i64 0,.int .i64 0,.int .i64 0,.int .i64 0,.int .i64 0,.int .i64 0,.int .i64 0,.int .i64 0,.int .i64 0,.slice none 0 0]) 14 136 Tryz.underlying32 (by kernel_rfl) rfl rfl rfl ?ow _ 0 1 rfl ?own ?rng ?nd ?len (by decide) ?_;rotate_right;intro v' w2 F' how hkp hF';have HOW:=Lib.hid how;have HKP:=Lib.hid hkp;have HFF:=Lib.hid hF';clear how hkp hF'))
        case ow=>exact HO.out.ext (X1.out.alloc _)
        case own=>exact ⟨_,rfl,HFit.out,Q1.out.ext ((Ext.refl _).alloc _)⟩
        case rng =>
         have h:=(Blk.new w1 46 (cellsTask (nth y.tasks k) (.slice p1 (nth y.tasks k).nodes.length k1)).toArray).range
         simpa [cellsTask] using h
        case nd=>exact nodup_two HO.out.nodup Q1.out.nodup (fun b h1 h2=>by have a:=LF.out b h1;have c:=Z1.out b h2;omega)
        case len=>have:=List.length_filter_le (goesT y) (y.tasks.take k);rw [List.length_take] at this;have:=HLN.out;omega
        refine ⟨⟨k+1,F',by omega,by go_num,by rw [HT.out];exact HOW.out,fun b hb=>?_,(HKP.out.block B (HBB.out.ext (X1.out.alloc _)).lt (fun hm=>by have:=HF.out B hm;omega)).trans (HBB.out.ext (X1.out.alloc _)),HKP.out.ext ((HX.out.trans X1.out).alloc _) (fun b hb=>by have:=HF.out b hb;have:=HB.out;omega),.inl (by rw [HT.out,List.length_append];simp)⟩,by simp [intOf];omega⟩
        have hbw:=HBB.out.lt
        rcases HFF.out b hb with h | h | h
        · exact HF.out b h
        · have:=Z1.out b h;omega
        · have:=X1.out.size;have:=((Ext.refl w1).alloc (.cells (cellsTask (nth y.tasks k) (.slice p1 (nth y.tasks k).nodes.length k1)).toArray 46)).size;simp only [cellsTask] at *;omega
      | false =>
        have HT:=Lib.hid (goes_no hlt (by simp [goesT,HRR.out,hst]))
        go_wp2_with (go_at_call 83;(with_reducible refine (HRY.out _ X9.out).mono ?_);rintro e w9 ⟨rfl,hx9⟩;have X0:=Lib.hid (X9.out.trans hx9);have q6:=(Q5.out.ext hx9).cell;clear hx9 q5 qa5)
        refine ⟨⟨k+1,F,by omega,by go_num,by rw [HT.out];exact HO.out.ext X0.out,HF.out,HBB.out.ext X0.out,HX.out.trans X0.out,?_⟩,by simp [intOf];omega⟩
        rw [HT.out]
        rcases HZ.out with h | ⟨h,h'⟩
        · exact .inl h
        · exact .inr ⟨h,h'.ext X0.out⟩
  · obtain rfl:k=y.tasks.length:=by omega
    rw [List.take_length] at HO HZ
    obtain ⟨A9,c9,rfl,-⟩:=HO.out.form
    go_upto_region 9 with (fail)
    obtain ⟨W8,C8,hW8,hC8,hx8,b8⟩:∃ V C,V=wr.alloc (.cells #[.func (.func 84) #[] #[.pointer (some ⟨B,0,none⟩)]] 129)∧C=wr.heap.size∧Ext wr V∧Blk V C 129 #[.func (.func 84) #[] #[.pointer (some ⟨B,0,none⟩)]]:=⟨_,_,rfl,rfl,(Ext.refl wr).alloc _,Blk.new _ _ _⟩
    rw [← hW8,← hC8]
    have X8:=Lib.hid hx8
    have Q8:=Lib.hid b8
    have HW8:=Lib.hid hC8
    clear hW8 hC8 hx8 b8 hx hbb
    have HQ:Hid (∀ (F':List Nat),(∀ b∈F',B < b∧b < C8)→∀ V,Kept F' W8 V→∀ a b:FT,Calls Tryz.prog 87 (#[.agg (encT a).toArray,.agg (encT b).toArray] ++ #[.pointer (some ⟨C8,0,none⟩)]) V fun e w'=>e=.returned (.int .i64 (cmpT y a.1.1 b.1.1))∧Gr V w'):=Lib.hid fun F' hF' V hV a b=>by
     have yb:Blk V B 35 #[.slice A1 y.config.nodes.length c1,.slice A2 y.config.pairs.length c2,.slice A3 y.config.quotas.length c3,.int .i64 y.config.half,.slice A4 y.nodes.length c4,.slice A5 y.tasks.length c5,.slice A6 y.uses.length c6,.int .i64 y.now]:=(hV.block B (HBB.out.ext X8.out).lt (fun hm=>by have:=(hF' B hm).1;omega)).trans (HBB.out.ext X8.out)
     have cb:Blk V C8 129 _:=(hV.block C8 Q8.out.lt (fun hm=>by have:=(hF' C8 hm).2;omega)).trans Q8.out
     have hxV:Ext w V:=Kept.ext (HX.out.trans X8.out) hV (fun b hb=>by have:=(hF' b hb).1;have:=HB.out;omega)
     rw [caps2_one]
     exact order2_gr (S:=S) y a.1.1 b.1.1 _ _ _ _ _ _ _ _ B C8 _ V a.2.1 b.2.1 a.2.2 b.2.2 HR.out.now (yb.cell 6) (yb.cell 7) (H6.out.ext hxV) cb
    have HSO:Hid (∃ F',(∀ b∈F',B < b)∧Calls Tryz.prog 86 #[.slice A9 (y.tasks.filter (goesT y)).length c9,.func (.func 87) #[] #[.pointer (some ⟨C8,0,none⟩)]] W8 (RetSortT y (.slice A9 (y.tasks.filter (goesT y)).length c9) (y.tasks.filter (goesT y)) F' W8)):=Lib.hid (by
     rcases HZ.out with h | ⟨h,h'⟩
     · refine ⟨F,HF.out,sortTasks_any y _ _ F _ W8 (HO.out.ext X8.out) h (by have:=List.length_filter_le (goesT y) y.tasks;have:=HLN.out;omega) (fun x hx=>born_of ?_) (HQ.out F fun b hb=>⟨HF.out b hb,by rw [HW8.out];exact LF.out b hb⟩)⟩
       obtain ⟨j,hj,rfl⟩:=List.getElem_of_mem (List.mem_filter.1 hx).1
       rw [← nth_eq hj]
       exact all_right HTR.out hj
     · injection h with e1 e2 e3
       have e4:y.tasks.filter (goesT y) = []:=List.eq_nil_of_length_eq_zero e2
       rw [e4,e1,e3]
       refine ⟨[B+1],fun b hb=>by rw [List.mem_singleton.1 hb];omega,sortNone_any y (B+1) _ W8 (h'.ext X8.out) (HQ.out [B+1] fun b hb=>?_)⟩
       rw [List.mem_singleton.1 hb,HW8.out]
       exact ⟨by omega,h'.lt⟩)
    obtain ⟨F',hF',hso⟩:=HSO.out
    have HFP:=Lib.hid hF'
    have HSS:=Lib.hid hso
    clear hF' hso
    go_wp2_with (go_at_call 86;(with_reducible refine HSS.out.mono ?_);rintro e w10 ⟨rfl,m,F2,ho,hp,hs,hf2,hk⟩;have HO2:=Lib.hid ho;have HP2:=Lib.hid hp;have HS2:=Lib.hid hs;have HF2:=Lib.hid hf2;have HK2:=Lib.hid hk;clear ho hp hs hf2 hk)
    go_ret
    have hu:=sortL_unique (lin_T y) (apart_some HTR.out (goesT y)) HP2.out HS2.out
    exact ⟨_,F2,rfl,by rw [orderT,← hu];exact HO2.out,fun b hb=>by have:=HFP.out b (HF2.out b hb);have:=HB.out;omega,Kept.ext (HX.out.trans X8.out) HK2.out (fun b hb=>by have:=HFP.out b hb;have:=HB.out;omega)⟩
theorem implTaskOrder_any {S:Nat→Prop} (y:Yard) (cs:List Value) (w:World) (h:EYard.rel S w cs y) :
 Calls Tryz.prog 11 #[.agg cs.toArray] w (RetO OTask 46 (orderY y) w):=by
 have H:=Lib.hid h
 obtain ⟨v1,v2,v3,v4,v5,v6,rfl,hf,h1,h2,h3,h4,h5,h6⟩:=h
 obtain ⟨A1,c1,rfl,-⟩:=h1.form
 obtain ⟨A2,c2,rfl,-⟩:=h2.form
 obtain ⟨A3,c3,rfl,-⟩:=h3.form
 obtain ⟨A4,c4,rfl,-⟩:=h4.form
 obtain ⟨A5,c5,rfl,-⟩:=h5.form
 obtain ⟨A6,c6,rfl,-⟩:=h6.form
 clear hf h1 h2 h3 h4 h5 h6
 have HYR:Hid (∀ V,Ext w V→EYard.rel S V [.slice A1 y.config.nodes.length c1,.slice A2 y.config.pairs.length c2,.slice A3 y.config.quotas.length c3,.int .i64 y.config.half,.slice A4 y.nodes.length c4,.slice A5 y.tasks.length c5,.slice A6 y.uses.length c6,.int .i64 y.now] y):=Lib.hid fun V hV=>EYard.keep (hV.same _) H.out
 obtain ⟨t,ht⟩:∃ t,yardRight y=t:=⟨_,rfl⟩
 have HT:=Lib.hid ht
 clear ht
 simp only [cellsYard]
 go_enter Tryz.func11,Tryz.ntmps11
 go_upto_region 1 with (fail)
 obtain ⟨W,B,hW,hB,hx0,a0⟩:∃ W B,W=w.alloc (.cells #[.slice A1 y.config.nodes.length c1,.slice A2 y.config.pairs.length c2,.slice A3 y.config.quotas.length c3,.int .i64 y.config.half,.slice A4 y.nodes.length c4,.slice A5 y.tasks.length c5,.slice A6 y.uses.length c6,.int .i64 y.now] 35)∧B=w.heap.size∧Ext w W∧Blk W B 35 #[.slice A1 y.config.nodes.length c1,.slice A2 y.config.pairs.length c2,.slice A3 y.config.quotas.length c3,.int .i64 y.config.half,.slice A4 y.nodes.length c4,.slice A5 y.tasks.length c5,.slice A6 y.uses.length c6,.int .i64 y.now]:=⟨_,_,rfl,rfl,(Ext.refl w).alloc _,Blk.new _ _ _⟩
 rw [← hW,← hB]
 have X:=Lib.hid hx0
 have QA:=Lib.hid a0
 clear hW hB hx0 a0
 have qa:=QA.out.cell
 cases t with
 | false =>
   go_wp2_with (go_at_call 20;(with_reducible refine (yardRight_is (S:=S) y _ _ (HYR.out _ X.out) _ HT.out).mono ?_);rintro e w7 ⟨rfl,hx7⟩;have X7:=Lib.hid (X.out.trans hx7);clear hx7)
   go_ret
   exact ⟨_,[],rfl,by rw [orderY,if_neg (by simp [HT.out])];exact OwS.nil _,fun b hb=>absurd hb (by simp),X7.out⟩
 | true =>
   go_wp2_with (first
    | (go_at_call 20;(with_reducible refine (yardRight_is (S:=S) y _ _ (HYR.out _ X.out) _ HT.out).mono ?_);rintro e w7 ⟨rfl,hx7⟩;replace X:=Lib.hid (X.out.trans hx7);replace QA:=Lib.hid (QA.out.ext hx7);clear hx7 qa;have qa:=QA.out.cell)
    | (go_at_call 35;(with_reducible refine (taskOrder_any (S:=S) y _ _ (HYR.out _ X.out) (ord_of HT.out)).mono ?_);rintro e w8 ⟨v8,F8,rfl,o8,g8,hx8⟩;have O8:=Lib.hid o8;have G8:=Lib.hid g8;have X8:=Lib.hid (X.out.trans hx8);clear o8 g8 hx8))
   go_ret
   exact ⟨_,F8,rfl,by rw [orderY,if_pos HT.out];exact O8.out,fun b hb=>Nat.le_trans X.out.size (G8.out b hb),X8.out⟩
end Go.Proofs.YtoblacfjmcpbmaaGreat

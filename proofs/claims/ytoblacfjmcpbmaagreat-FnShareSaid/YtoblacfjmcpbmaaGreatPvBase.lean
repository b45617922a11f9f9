/- Places and tasks as rows of structs whose slice is taken as it stands; slices.Delete at places, slices.DeleteFunc and slices.Clone at tasks in that form. Printed by wip/pvbase.py. -/
import Derived.Test.YtoblacfjmcpbmaaGreatOrderS
set_option maxHeartbeats 8000000
set_option maxRecDepth 100000
namespace Go.Proofs.YtoblacfjmcpbmaaGreat
open Go.RowKit
attribute [local irreducible] wpQuiet
structure PV where
 x:Place
 A:Option Addr
 n:Nat
 c:Nat
 F:List Nat
instance:Inhabited PV:=⟨⟨default,none,0,0,[]⟩⟩
structure TV where
 x:Task
 A:Option Addr
 n:Nat
 c:Nat
instance:Inhabited TV:=⟨⟨default,none,0,0⟩⟩
abbrev PV.v (e:PV):Value:=.slice e.A e.n e.c
abbrev TV.v (e:TV):Value:=.slice e.A e.n e.c
def EPV:Elem PV where
 size:=7
 rel _ _ cs e:=cs=cellsPlace e.x (.slice e.A e.n e.c)∧FitPlace e.x
 len h:=by rw [h.1];rfl
 keep _ h:=h
 sub _ h:=h
 one h v hv:=by
  rw [h.1] at hv
  simp only [cellsPlace,List.mem_cons,List.not_mem_nil,or_false] at hv
  rcases hv with rfl | rfl | rfl | rfl | rfl | rfl | rfl <;> rfl
def ETV:Elem TV where
 size:=14
 rel _ _ cs e:=cs=cellsTask e.x (.slice e.A e.n e.c)∧FitTask e.x
 len h:=by rw [h.1];rfl
 keep _ h:=h
 sub _ h:=h
 one h v hv:=by
  rw [h.1] at hv
  simp only [cellsTask,List.mem_cons,List.not_mem_nil,or_false] at hv
  rcases hv with rfl | rfl | rfl | rfl | rfl | rfl | rfl | rfl | rfl | rfl | rfl | rfl | rfl | rfl <;> rfl
def OPV:Own EPV:=OFlat EPV fun h=>h
def OTV:Own ETV:=OFlat ETV fun h=>h
theorem rel_TV {S:Nat→Prop} {w:World} {e:TV} (hf:FitTask e.x):ETV.rel S w (cellsTask e.x (.slice e.A e.n e.c)) e:=⟨rfl,hf⟩
section
variable {S S':Nat→Prop} {w w':World} {v:Value}
def PAt (S:Nat→Prop) (w:World) (l:List PV):Prop:=∀ e∈l,Rd EInt S w e.v e.x.nodes
def TAt (S:Nat→Prop) (w:World) (l:List TV):Prop:=∀ e∈l,Rd EInt S w e.v e.x.nodes
theorem PAt.keep {l:List PV} (h:PAt S w l) (hs:Same S w w'):PAt S w' l:=fun e he=>(h e he).keep hs
theorem TAt.keep {l:List TV} (h:TAt S w l) (hs:Same S w w'):TAt S w' l:=fun e he=>(h e he).keep hs
theorem PAt.sub {l:List PV} (h:PAt S w l) (hs:∀ b,S b→S' b):PAt S' w l:=fun e he=>(h e he).sub hs
theorem TAt.sub {l:List TV} (h:TAt S w l) (hs:∀ b,S b→S' b):TAt S' w l:=fun e he=>(h e he).sub hs
theorem rd_places {l:List PV} (h:Rd EPV S w v l) (hn:PAt S w l):Rd EPlace S w v (l.map PV.x):=by
 obtain ⟨A,c,rfl,h1,h2,hk⟩:=h
 refine ⟨A,c,by rw [List.length_map],by rw [List.length_map];exact h1,h2,fun k x hx=>?_⟩
 rw [List.getElem?_map] at hx
 obtain ⟨e,he,rfl⟩:=Option.map_eq_some_iff.1 hx
 obtain ⟨b,o,cs,hA,hS,⟨rfl,hf⟩,hc⟩:=hk k e he
 exact ⟨b,o,_,hA,hS,rel_Place hf (hn e (List.mem_of_getElem? he)),hc⟩
theorem rd_tasks {l:List TV} (h:Rd ETV S w v l) (hn:TAt S w l):Rd ETask S w v (l.map TV.x):=by
 obtain ⟨A,c,rfl,h1,h2,hk⟩:=h
 refine ⟨A,c,by rw [List.length_map],by rw [List.length_map];exact h1,h2,fun k x hx=>?_⟩
 rw [List.getElem?_map] at hx
 obtain ⟨e,he,rfl⟩:=Option.map_eq_some_iff.1 hx
 obtain ⟨b,o,cs,hA,hS,⟨rfl,hf⟩,hc⟩:=hk k e he
 exact ⟨b,o,_,hA,hS,rel_Task hf (hn e (List.mem_of_getElem? he)),hc⟩
theorem list_choose {α β:Type} {p:α→β→Prop}:∀ {l:List α},(∀ (k:Nat) (x:α),l[k]? = some x→∃ e,p x e)→∃ m:List β,m.length=l.length∧∀ (k:Nat) (x:α),l[k]? = some x→∃ e,m[k]? = some e∧p x e
 | [],_=>⟨[],rfl,fun k x h=>by simp at h⟩
 | a :: l,h=>by
   obtain ⟨e,he⟩:=h 0 a rfl
   obtain ⟨m,h1,h2⟩:=list_choose (l:=l) (fun k x hx=>h (k+1) x (by simpa using hx))
   refine ⟨e :: m,by simp [h1],fun k x hx=>?_⟩
   cases k with
   | zero=>injection hx with hx;subst hx;exact ⟨e,rfl,he⟩
   | succ k =>
     obtain ⟨e',h3,h4⟩:=h2 k x (by simpa using hx)
     exact ⟨e',by simpa using h3,h4⟩
theorem tasks_rd {l:List Task} (h:Rd ETask S w v l):∃ m:List TV,m.map TV.x=l∧Rd ETV S w v m∧TAt S w m:=by
 obtain ⟨A,c,rfl,h1,h2,hk⟩:=h
 have key2:∀ (k:Nat) (x:Nat × Task),((List.range l.length).zip l)[k]? = some x→∃ e:TV,e.x=x.2∧Rd EInt S w e.v x.2.nodes∧∃ b o,A=some ⟨b,o,none⟩∧S b∧FitTask x.2∧w.rangeAt b (o+x.1 * 14) (cellsTask x.2 e.v):=fun k x hx=>by
  rw [List.getElem?_zip_eq_some] at hx
  obtain ⟨hx1,hx2⟩:=hx
  obtain ⟨b,o,cs,hA,hS,⟨u,rfl,hf,hr⟩,hc⟩:=hk k x.2 hx2
  have hkl:k < l.length:=(List.getElem?_eq_some_iff.1 hx2).1
  rw [List.getElem?_range hkl] at hx1
  injection hx1 with hx1
  obtain ⟨A',c',rfl,-⟩:=hr.form
  exact ⟨⟨x.2,A',x.2.nodes.length,c'⟩,rfl,hr,b,o,hA,hS,hf,by rw [← hx1];exact hc⟩
 obtain ⟨m,hm1,hm2⟩:=list_choose key2
 have hz:∀ k x,l[k]? = some x→((List.range l.length).zip l)[k]? = some (k,x):=fun k x hx=>by
  have hkl:k < l.length:=(List.getElem?_eq_some_iff.1 hx).1
  rw [List.getElem?_zip_eq_some]
  exact ⟨List.getElem?_range hkl,hx⟩
 have hml:m.length=l.length:=by rw [hm1];simp
 have hget:∀ (k:Nat) (e:TV),m[k]? = some e→∃ x,l[k]? = some x∧e.x=x∧Rd EInt S w e.v x.nodes∧∃ b o,A=some ⟨b,o,none⟩∧S b∧FitTask x∧w.rangeAt b (o+k * 14) (cellsTask x e.v):=fun k e he=>by
  have hkl:k < l.length:=by rw [← hml];exact (List.getElem?_eq_some_iff.1 he).1
  obtain ⟨e',h3,h4⟩:=hm2 k _ (hz k _ (List.getElem?_eq_getElem hkl))
  rw [h3] at he
  injection he with he
  subst he
  exact ⟨_,List.getElem?_eq_getElem hkl,h4⟩
 refine ⟨m,?_,⟨A,c,by rw [hml],by rw [hml];exact h1,h2,fun k e he=>?_⟩,fun e he=>?_⟩
 · refine List.ext_getElem? fun k=>?_
   rw [List.getElem?_map]
   cases he:m[k]? with
   | none =>
     have:l.length≤k:=by rw [← hml];exact List.getElem?_eq_none_iff.1 he
     rw [List.getElem?_eq_none this];rfl
   | some e =>
     obtain ⟨x,hx,rfl,_⟩:=hget k e he
     rw [hx];rfl
 · obtain ⟨x,hx,rfl,hr,b,o,hA,hS,hf,hc⟩:=hget k e he
   exact ⟨b,o,_,hA,hS,⟨rfl,hf⟩,hc⟩
 · obtain ⟨k,hk',rfl⟩:=List.getElem_of_mem he
   obtain ⟨x,hx,h3,hr,_⟩:=hget k _ (List.getElem?_eq_getElem hk')
   rw [h3];exact hr
end
theorem zero_places (n:Nat):(Builtin.zeroCells (Value.agg #[.int .i64 0,.int .i64 0,.int .i64 0,.int .i64 0,.int .i64 0,.bool false,.slice none 0 0]).cells n).toList.length=n * 7∧∀ v∈(Builtin.zeroCells (Value.agg #[.int .i64 0,.int .i64 0,.int .i64 0,.int .i64 0,.int .i64 0,.bool false,.slice none 0 0]).cells n).toList,v.oneCell'=true:=by
 refine ⟨by rw [Array.length_toList,size_zeroCells];rfl,fun v hv=>?_⟩
 obtain ⟨i,hi,rfl⟩:=List.getElem_of_mem hv
 simp only [Builtin.zeroCells,Array.getElem_toList,Array.getElem_map,Array.getElem_range]
 have h2:i % 7 < 7:=Nat.mod_lt _ (by decide)
 rcases (show i % 7=0∨i % 7=1∨i % 7=2∨i % 7=3∨i % 7=4∨i % 7=5∨i % 7=6 by omega) with h | h | h | h | h | h | h <;> simp [Value.cells,h,Value.oneCell']
theorem zero_tasks (n:Nat):(Builtin.zeroCells (Value.agg #[.int .i64 0,.int .i64 0,.int .i64 0,.string ⟨#[]⟩,.int .i64 0,.int .i64 0,.int .i64 0,.int .i64 0,.int .i64 0,.int .i64 0,.int .i64 0,.int .i64 0,.int .i64 0,.slice none 0 0]).cells n).toList.length=n * 14∧∀ v∈(Builtin.zeroCells (Value.agg #[.int .i64 0,.int .i64 0,.int .i64 0,.string ⟨#[]⟩,.int .i64 0,.int .i64 0,.int .i64 0,.int .i64 0,.int .i64 0,.int .i64 0,.int .i64 0,.int .i64 0,.int .i64 0,.slice none 0 0]).cells n).toList,v.oneCell'=true:=by
 refine ⟨by rw [Array.length_toList,size_zeroCells];rfl,fun v hv=>?_⟩
 obtain ⟨i,hi,rfl⟩:=List.getElem_of_mem hv
 simp only [Builtin.zeroCells,Array.getElem_toList,Array.getElem_map,Array.getElem_range]
 have h2:i % 14 < 14:=Nat.mod_lt _ (by decide)
 rcases (show i % 14=0∨i % 14=1∨i % 14=2∨i % 14=3∨i % 14=4∨i % 14=5∨i % 14=6∨i % 14=7∨i % 14=8∨i % 14=9∨i % 14=10∨i % 14=11∨i % 14=12∨i % 14=13 by omega) with h | h | h | h | h | h | h | h | h | h | h | h | h | h <;> simp [Value.cells,h,Value.oneCell']
theorem delete_PV (l:List PV) (k:Nat) (v:Value) (F:List Nat) (w:World) (h:OwS OPV 138 w v l F) (hl:l.length≤1000000) (hk:k < l.length) :
 Calls Tryz.prog 138 #[v,.int .i64 k,.int .i64 ((k:Int)+1)] w fun e w'=>∃ v' F',e=.returned v'∧OwS OPV 138 w' v' (l.eraseIdx k) F'∧(∀ b∈F',b∈F)∧Kept F w w':=by
 obtain ⟨A,c,rfl,h1,h2⟩:=h.form
 unfold maxLen at h2
 have HO:=Lib.hid h
 obtain ⟨B,rfl⟩:∃ B,A=some ⟨B,0,none⟩:=by
  rcases h with ⟨rfl,_⟩ | ⟨B,_,_,_,hv,_⟩
  · simp at hk
  · injection hv with e1;exact ⟨B,e1⟩
 clear h
 have i0:(0:Int)≤(k:Int):=Int.natCast_nonneg _
 have i1:(k:Int)≤(l.length:Int):=by omega
 have i2:(k:Int)+1≤(l.length:Int):=by omega
 have i3:(k:Int)≤(k:Int)+1:=by omega
 have i4:((k:Int)+1).toNat=k+1:=by omega
 have i5:(l.length:Int)≤(c:Int):=by omega
 go_enter Tryz.func138,Tryz.ntmps138
 go_upto_region 5 with (fail)
 have i6:(k:Int)≤(c:Int):=by omega
 have i7:(k:Int)+1≤(c:Int):=by omega
 have i8:(0:Int)≤(k:Int)+1:=by omega
 obtain ⟨F1,o1,f1⟩:=HO.out.take (n:=k) (by omega) _ _ rfl
 have O1:=Lib.hid o1
 have HY:Hid (∀ j,j < l.length - (k+1)→∃ cs,EPV.rel (fun b=>b∈F) w cs (nth (l.drop (k+1)) j)∧w.rangeAt B ((k+1) * 7+j * 7) cs):=Lib.hid fun j hj=>by
  obtain ⟨A2,c2,hv2,_,_,hk2⟩:=HO.out.rd.open_
  obtain ⟨b,q,cs,hA2,_,hr2,hc2⟩:=hk2 (k+1+j) (by omega)
  injection hv2 with e1 e2 e3
  rw [← e1] at hA2
  cases hA2
  have e:nth (l.drop (k+1)) j=nth l (k+1+j):=by rw [nth_eq (by rw [List.length_drop];omega),nth_eq (by omega)];simp
  rw [e]
  refine ⟨cs,hr2,?_⟩
  have e2:0+(k+1+j) * EPV.size=(k+1) * 7+j * 7:=by simp [EPV];omega
  rwa [e2] at hc2
 have LT:Hid ((l.take k).length=k):=Lib.hid (by rw [List.length_take];omega)
 have LD:Hid ((l.drop (k+1)).length=l.length - (k+1)):=Lib.hid (by rw [List.length_drop])
 clear o1
 have HC0:Hid (0 < c):=Lib.hid (by omega)
 rcases Classical.em (c=k+1) with rfl | hck
 · skip
   go_region_held3 (fun _=>True) (exact trivial) (first | (refine step_append_flat_room (E:=EPV) (T:=138) (hfl:=fun h=>h) (S:=fun b=>b∈F) (B:=B) (cap:=(k+1)) (n:=k) (m:=0) (F:=F1) (l:=l.take k) (ys:=l.drop (k+1)) (by rfl) _ _ 53 (by rfl) (.agg #[.int .i64 0,.int .i64 0,.int .i64 0,.int .i64 0,.int .i64 0,.bool false,.slice none 0 0]) 7 72 Tryz.underlying53 (by kernel_rfl) rfl rfl LT.out (by rw [LD.out];omega) (by rfl) (O1.out.ext (by first | exact Ext.refl _ | exact (Ext.refl _).drew)) (by omega) B 0 0 (by rfl) (fun j hj=>absurd hj (by omega)) (by omega) (by unfold maxLen;omega) (by omega) ?_;intro w1 F2 o2 k2 f2))
   have HO2:=Lib.hid o2
   have HK2:=Lib.hid k2
   have HF2:=Lib.hid f2
   clear o2 k2 f2
   have hlen:k+0=k:=by omega
   have HO3:Hid (OwS OPV 138 w1 (.slice (some ⟨B,0,none⟩) k (k+1)) (l.take k ++ l.drop (k+1)) F2):=Lib.hid (by have:=HO2.out;rwa [hlen] at this)
   have HLA:Hid ((l.take k ++ l.drop (k+1)).length=k):=Lib.hid (by rw [List.length_append,LT.out,LD.out];omega)
   obtain ⟨C,hC,hCs⟩:∃ C:Array Value,w1.heap[B]? = some (.cells C 138 (0,0))∧C.size=(k+1) * 7:=by
    rcases HO3.out with ⟨_,_,A',hv⟩ | ⟨B',c',C,Fs,hv,hB,_,_,h3,_⟩
    · injection hv with _ _ hh;omega
    · injection hv with e1 e2 e3;cases e1;subst e3;exact ⟨C,hB,by simpa [EPV] using h3⟩
   have HBF:Hid (B∈F2):=Lib.hid (by
    rcases HO3.out with ⟨_,_,A',hv⟩ | ⟨B',c',C,Fs,hv,_,_,_,_,_,rfl,_⟩
    · injection hv with _ _ hh;omega
    · injection hv with e1 e2 e3;cases e1;exact List.mem_cons_self ..)
   have HTH:Hid (w1.there B (k * 7) 7):=Lib.hid (cells_there hC (by rw [hCs];omega))
   have HRW:Hid (RowBut 138 B (k * 7) 7 w1 (w1.setCells B (k * 7) (Builtin.zeroCells (Value.agg #[.int .i64 0,.int .i64 0,.int .i64 0,.int .i64 0,.int .i64 0,.bool false,.slice none 0 0]).cells 1).toList)):=Lib.hid (RowBut.setCells _ _ _ (RowBut.refl hC) (Nat.le_refl _) (by rw [(zero_places _).1];exact Nat.le_refl _))
   have hclr:=run_clear_row (P:=Tryz.prog) w1 53 138 0 (.agg #[.int .i64 0,.int .i64 0,.int .i64 0,.int .i64 0,.int .i64 0,.bool false,.slice none 0 0]) 1 Tryz.underlying53 (by intro w;go_simp) (zero_places _).2 B (k * 7) 1 (by omega) (by rw [(zero_places _).1];exact HTH.out)
   rw [hlen]
   have j1:(k:Int)≤(l.length:Int):=by omega
   have j2:(0:Int)≤(k:Int):=Int.natCast_nonneg _
   have j3:l.length - k=1:=by omega
   have j4:¬ (k+1)=k:=by omega
   clear hC hCs i0 i1 i2 i3 i4 i6 i7 i8 hlen
   go_wp2_with fail
   go_ret
   have hE:l.take k ++ l.drop (k+1)=l.eraseIdx k:=(List.eraseIdx_eq_take_drop_succ ..).symm
   exact ⟨_,F2,rfl,by rw [← hE];exact OwS.cut2 HO3.out HLA.out HC0.out HRW.out,fun b hb=>by rw [HO3.out.flat_blocks HC0.out] at hb;rw [HO.out.flat_blocks HC0.out];exact hb,(Kept.trans (Kept.of_ext (Ext.refl _).drew) (HK2.out.sub fun b _ hb=>f1 b hb)).trans (Kept.setCells (by rw [HO.out.flat_blocks HC0.out];simp) _ _ _ (Kept.refl _ _))⟩
 · skip
   go_region_held3 (fun _=>True) (exact trivial) (first | (refine step_append_flat_room (E:=EPV) (T:=138) (hfl:=fun h=>h) (S:=fun b=>b∈F) (B:=B) (cap:=c) (n:=k) (m:=l.length - (k+1)) (F:=F1) (l:=l.take k) (ys:=l.drop (k+1)) (by rfl) _ _ 53 (by rfl) (.agg #[.int .i64 0,.int .i64 0,.int .i64 0,.int .i64 0,.int .i64 0,.bool false,.slice none 0 0]) 7 72 Tryz.underlying53 (by kernel_rfl) rfl rfl LT.out LD.out (by rfl) (O1.out.ext (by first | exact Ext.refl _ | exact (Ext.refl _).drew)) (by omega) B ((k+1) * 7) (c - (k+1)) (by rfl) (by first | exact HY.out | exact fun j hj=>(let ⟨cs,a,b⟩:=HY.out j hj;⟨cs,EPV.keep ((Ext.refl _).drew.same _) a,(Ext.refl _).drew.range b⟩)) (by omega) (by unfold maxLen;omega) (by omega) ?_;intro w1 F2 o2 k2 f2))
   have HO2:=Lib.hid o2
   have HK2:=Lib.hid k2
   have HF2:=Lib.hid f2
   clear o2 k2 f2
   have hlen:k+(l.length - (k+1))=l.length - 1:=by omega
   have HO3:Hid (OwS OPV 138 w1 (.slice (some ⟨B,0,none⟩) (l.length - 1) c) (l.take k ++ l.drop (k+1)) F2):=Lib.hid (by have:=HO2.out;rwa [hlen] at this)
   have HLA:Hid ((l.take k ++ l.drop (k+1)).length=l.length - 1):=Lib.hid (by rw [List.length_append,LT.out,LD.out];omega)
   obtain ⟨C,hC,hCs⟩:∃ C:Array Value,w1.heap[B]? = some (.cells C 138 (0,0))∧C.size=c * 7:=by
    rcases HO3.out with ⟨_,_,A',hv⟩ | ⟨B',c',C,Fs,hv,hB,_,_,h3,_⟩
    · injection hv with _ _ hh;omega
    · injection hv with e1 e2 e3;cases e1;subst e3;exact ⟨C,hB,by simpa [EPV] using h3⟩
   have HBF:Hid (B∈F2):=Lib.hid (by
    rcases HO3.out with ⟨_,_,A',hv⟩ | ⟨B',c',C,Fs,hv,_,_,_,_,_,rfl,_⟩
    · injection hv with _ _ hh;omega
    · injection hv with e1 e2 e3;cases e1;exact List.mem_cons_self ..)
   have HTH:Hid (w1.there B ((l.length - 1) * 7) 7):=Lib.hid (cells_there hC (by rw [hCs];omega))
   have HRW:Hid (RowBut 138 B ((l.length - 1) * 7) 7 w1 (w1.setCells B ((l.length - 1) * 7) (Builtin.zeroCells (Value.agg #[.int .i64 0,.int .i64 0,.int .i64 0,.int .i64 0,.int .i64 0,.bool false,.slice none 0 0]).cells 1).toList)):=Lib.hid (RowBut.setCells _ _ _ (RowBut.refl hC) (Nat.le_refl _) (by rw [(zero_places _).1];exact Nat.le_refl _))
   have hclr:=run_clear_row (P:=Tryz.prog) w1 53 138 0 (.agg #[.int .i64 0,.int .i64 0,.int .i64 0,.int .i64 0,.int .i64 0,.bool false,.slice none 0 0]) 1 Tryz.underlying53 (by intro w;go_simp) (zero_places _).2 B ((l.length - 1) * 7) (c - (l.length - 1)) (by omega) (by rw [(zero_places _).1];exact HTH.out)
   rw [hlen]
   have j1:((l.length - 1:Nat):Int)≤(l.length:Int):=by omega
   have j2:(0:Int)≤((l.length - 1:Nat):Int):=Int.natCast_nonneg _
   have j3:l.length - (l.length - 1)=1:=by omega
   have j4:¬ c=l.length - 1:=by omega
   clear hC hCs i0 i1 i2 i3 i4 i6 i7 i8 hlen
   go_wp2_with fail
   go_ret
   have hE:l.take k ++ l.drop (k+1)=l.eraseIdx k:=(List.eraseIdx_eq_take_drop_succ ..).symm
   exact ⟨_,F2,rfl,by rw [← hE];exact OwS.cut2 HO3.out HLA.out HC0.out HRW.out,fun b hb=>by rw [HO3.out.flat_blocks HC0.out] at hb;rw [HO.out.flat_blocks HC0.out];exact hb,(Kept.trans (Kept.of_ext (Ext.refl _).drew) (HK2.out.sub fun b _ hb=>f1 b hb)).trans (Kept.setCells (by rw [HO.out.flat_blocks HC0.out];simp) _ _ _ (Kept.refl _ _))⟩
theorem indexFunc_TV {S:Nat→Prop} (l:List TV) (p:TV→Bool) (v:Value) (f:Nat) (caps:Array Value) (w:World) (h:Rd ETV S w v l) (hcall:∀ (args:Array Value) (W:World),(callFunc f args).run Tryz.prog W=.ok (.enter f args) W)
 (hf:∀ (cs:List Value) (x:TV) (w1:World),Ext w w1→ETV.rel S w1 cs x→Calls Tryz.prog f (#[.agg cs.toArray] ++ caps) w1 fun e w'=>e=.returned (.bool (p x))∧Ext w1 w') :
 Calls Tryz.prog 68 #[v,.func (.func f) #[] caps] w fun e w'=>e=.returned (.int .i64 (idxOf p l))∧Ext w w':=by
 obtain ⟨A,c,rfl,h1,h2,hk⟩:=h.open_
 unfold maxLen at h2
 have HK:=Lib.hid hk
 have HF:=Lib.hid hf
 clear hk h hf
 go_enter Tryz.func68,Tryz.ntmps68
 go_wp2_with fail
 go_loopw [8] (fun i w'=>∃ k:Nat,k≤l.length∧i=.int .i64 k∧(∀ j,j < k→p (nth l j)=false)∧Ext w w') (fun i _=>l.length - (intOf i).toNat)
 case atStart=>exact ⟨0,by omega,rfl,fun j hj=>by omega,Ext.refl _⟩
 case round =>
  obtain ⟨k,hk1,rfl,hall,hx⟩:=hrel
  have HA:=Lib.hid hall
  have HX:=Lib.hid hx
  clear hall
  by_cases hlt:k < l.length
  · obtain ⟨b,o,cs,rfl,hb,hr,hc⟩:=HK.out k hlt
    have HR:=Lib.hid (ETV.keep (hx.same S) hr)
    have HC:=Lib.hid (hx.range hc)
    have HI:Hid ((Tryz.prog.info? 46).map (·.size)=some cs.length):=Lib.hid (by rw [ETV.len hr];kernel_rfl)
    clear hr hc hx
    by_cases hp:p (nth l k)=true
    · have HE:Hid (idxOf p l=k):=Lib.hid (idxOf_some hlt HA.out hp)
      go_wp2_with (first | (refine wpList_load_mid rfl 46 _ rfl b (o+k * 14) rfl cs _ HC.out Tryz.underlying46 rfl HI.out ?_) | ((with_reducible refine (HF.out cs (nth l k) _ HX.out HR.out).mono ?_);rintro e w1 ⟨rfl,hx1⟩;have HX1:=Lib.hid hx1;clear hx1))
      go_ret
      exact ⟨ret_int HE.out.symm,HX.out.trans HX1.out⟩
    · simp only [Bool.not_eq_true] at hp
      have HE:=Lib.hid (all_succ HA.out hp)
      go_wp2_with (first | (refine wpList_load_mid rfl 46 _ rfl b (o+k * 14) rfl cs _ HC.out Tryz.underlying46 rfl HI.out ?_) | ((with_reducible refine (HF.out cs (nth l k) _ HX.out HR.out).mono ?_);rintro e w1 ⟨rfl,hx1⟩;have HX1:=Lib.hid hx1;clear hx1))
      go_roundw
      case rel=>exact ⟨k+1,by omega,by go_num,HE.out,HX.out.trans HX1.out⟩
      case measure=>simp [intOf];omega
  · have HE:Hid (idxOf p l = -1):=Lib.hid (idxOf_none fun j hj=>HA.out j (by omega))
    go_wp2_with fail
    go_ret
    exact ⟨ret_int HE.out.symm,HX.out⟩
theorem indexFunc_TV_1 {S:Nat→Prop} (l:List TV) (p:TV→Bool) (v:Value) (f:Nat) (c1:Value) (w:World) (h:Rd ETV S w v l) (hcall:∀ (args:Array Value) (W:World),(callFunc f args).run Tryz.prog W=.ok (.enter f args) W)
 (hf:∀ (cs:List Value) (x:TV) (w1:World),Ext w w1→ETV.rel S w1 cs x→Calls Tryz.prog f #[.agg cs.toArray,c1] w1 fun e w'=>e=.returned (.bool (p x))∧Ext w1 w') :
 Calls Tryz.prog 68 #[v,.func (.func f) #[] #[c1]] w fun e w'=>e=.returned (.int .i64 (idxOf p l))∧Ext w w' :=
 indexFunc_TV l p v f #[c1] w h hcall fun cs x w1 hx hr=>by rw [show (#[.agg cs.toArray] ++ #[c1]:Array Value) = #[.agg cs.toArray,c1] from rfl];exact hf cs x w1 hx hr
theorem cloneTV_any {S:Nat→Prop} (l:List TV) (v:Value) (w:World) (h:Rd ETV S w v l) (hl:l.length≤1000000000) :
 Calls Tryz.prog 98 #[v] w (RetO OTV 46 l w):=by
 have HR:=Lib.hid h
 obtain ⟨A,c,rfl,h1,h2,hk⟩:=h.open_
 unfold maxLen at h2
 have HK:=Lib.hid hk
 have HL:=Lib.hid hl
 clear hk h hl
 have hnil:=fun (W:World) (a:Option Addr) (n c:Nat)=>Go.Lib.run_eql_slice_nil (P:=Tryz.prog) W 32 46 a n c 0 0 Tryz.underlying32
 cases A with
 | none =>
   obtain rfl:l = []:=by
    rcases Nat.eq_zero_or_pos l.length with h0 | h0
    · exact List.eq_nil_of_length_eq_zero h0
    · obtain ⟨_,_,_,h',_⟩:=HK.out 0 h0
      cases h'
   go_enter Tryz.func98,Tryz.ntmps98
   go_wp2_with fail
   go_ret
   exact ⟨_,[],rfl,OwS.nil _,fun b hb=>(by cases hb),Ext.refl _⟩
 | some a =>
   obtain ⟨B,o,sp⟩:=a
   go_enter Tryz.func98,Tryz.ntmps98
   go_wp2_with (at_builtin;refine wpList_append_flat (E:=ETV) (T:=46) (hfl:=fun h=>h) (l:=[]) (ys:=l) (F:=[]) (S:=S) rfl _ _ 32 rfl (.agg #[.int .i64 0,.int .i64 0,.int .i64 0,.string ⟨#[]⟩,.int .i64 0,.int .i64 0,.int .i64 0,.int .i64 0,.int .i64 0,.int .i64 0,.int .i64 0,.int .i64 0,.int .i64 0,.slice none 0 0]) 14 136 Tryz.underlying32 (by kernel_rfl) rfl rfl rfl ?ow rfl ?rd ?b1 ?b2 ?_;rotate_right;intro v' w1 F' how hkp hF';have HOW:=Lib.hid how;have HKP:=Lib.hid hkp;have HFF:=Lib.hid hF';clear how hkp hF')
   case ow=>exact OwS.nil _
   case rd=>exact HR.out.ext ((Ext.refl _).alloc _)
   case b1=>have:=HL.out;simp only [List.length_nil,maxLen];omega
   case b2=>have:=HL.out;simp only [List.length_nil];omega
   go_ret
   exact ⟨_,F',rfl,HOW.out,fun b hb=>(by rcases HFF.out b hb with h | h;cases h;exact Nat.le_trans ((Ext.refl w).alloc _).size h),HKP.out.ext ((Ext.refl _).alloc _) (fun b hb=>by cases hb)⟩
theorem deleteFunc_TV (l:List TV) (p:TV→Bool) (v:Value) (f:Nat) (c1:Value) (F:List Nat) (w:World) (h:OwS OTV 46 w v l F) (hl:l.length≤1000000) (hcall:∀ (args:Array Value) (W:World),(callFunc f args).run Tryz.prog W=.ok (.enter f args) W)
 (hf:∀ (cs:List Value) (x:TV) (w1:World),Kept F w w1→ETV.rel (fun _=>False) w1 cs x→Calls Tryz.prog f #[.agg cs.toArray,c1] w1 fun e w'=>e=.returned (.bool (p x))∧Ext w1 w') :
 Calls Tryz.prog 97 #[v,.func (.func f) #[] #[c1]] w fun e w'=>∃ v' F',e=.returned v'∧OwS OTV 46 w' v' (l.filter fun x=>!p x) F'∧(∀ b∈F',b∈F)∧Kept F w w':=by
 obtain ⟨A,c,rfl,h1,h2⟩:=h.form
 unfold maxLen at h2
 have HO:=Lib.hid h
 have HC:=Lib.hid hcall
 have HF:=Lib.hid hf
 clear h
 have hcall':=hcall
 go_enter Tryz.func97,Tryz.ntmps97
 clear hcall hf hcall'
 go_wp2_with fail
 refine (indexFunc_TV_1 (S:=fun b=>b∈F) l p _ f c1 w HO.out.rd HC.out (fun cs x w1 hx hr=>HF.out cs x w1 (Kept.of_ext hx) hr)).mono ?_
 rintro e w1 ⟨rfl,hx1⟩
 have X1:=Lib.hid hx1
 clear hx1
 rcases idxOf_cases p l with ⟨hi,hn⟩ | ⟨k0,hk0,hi,hq,hn⟩
 · have HI:Hid (idxOf p l = -1):=Lib.hid hi
   have HE:Hid (l.filter (fun x=>!p x)=l):=Lib.hid (filter_all_nth fun j hj=>by rw [hn j hj];rfl)
   clear hi hn
   rw [HI.out]
   go_wp2_with fail
   go_ret
   exact ⟨_,F,rfl,by rw [HE.out];exact HO.out.ext X1.out,fun b hb=>hb,Kept.of_ext X1.out⟩
 · have HI:Hid (idxOf p l=k0):=Lib.hid hi
   have HS:Hid (l.take k0=(l.take (k0+1)).filter fun x=>!p x):=Lib.hid (by
    rw [filter_take_no hk0 (by rw [hq];rfl)]
    exact (filter_all_nth fun j hj=>by rw [List.length_take] at hj;rw [nth_eq (by rw [List.length_take];omega)];have:=hn j (by omega);rw [nth_eq (by omega)] at this;simp [this]).symm)
   obtain ⟨B,rfl⟩:∃ B,A=some ⟨B,0,none⟩:=by
    rcases HO.out with ⟨rfl,_⟩ | ⟨B,_,_,_,hv,_⟩
    · simp at hk0
    · cases hv;exact ⟨B,rfl⟩
   clear hi hq hn
   rw [HI.out]
   have hne1:((k0:Int) == -1)=false:=beq_eq_false_iff_ne.2 (by omega)
   go_wp2_with fail
   clear hne1
   go_loopw [5,6] (fun a b w'=>∃ (i j:Nat) (m:List TV),a=.int .i64 i∧b=.int .i64 j∧i < j∧j≤l.length∧m.length=l.length∧m.take i=(l.take j).filter (fun x=>!p x)∧(∀ t,j≤t→t < l.length→nth m t=nth l t)∧OwS OTV 46 w' (.slice (some ⟨B,0,none⟩) l.length c) m F∧Kept F w w') (fun _ b _=>l.length - (intOf b).toNat)
   case atStart=>exact ⟨k0,k0+1,l,rfl,by go_num,by omega,by omega,rfl,HS.out,fun _ _ _=>rfl,HO.out.ext X1.out,Kept.of_ext X1.out⟩
   case round =>
    obtain ⟨i,j,m,rfl,rfl,hij,hj,hml,hmt,hmn,hown,hkp⟩:=hrel
    have HML:=Lib.hid hml
    have HMT:=Lib.hid hmt
    have HMN:=Lib.hid hmn
    have HOW:=Lib.hid hown
    have HKP:=Lib.hid hkp
    clear hml hmt hmn hown hkp
    by_cases hlt:j < l.length
    · obtain ⟨cs,hcs,hc⟩:∃ cs,ETV.rel (fun b=>b∈F) wr cs (nth l j)∧wr.rangeAt B (j * 14) cs:=by
       obtain ⟨A2,c2,hv2,_,_,hk2⟩:=HOW.out.rd.open_
       obtain ⟨b,q,cs,hA2,_,hr2,hc2⟩:=hk2 j (by rw [HML.out];exact hlt)
       injection hv2 with e1 e2 e3
       rw [← e1] at hA2
       cases hA2
       rw [HMN.out j (Nat.le_refl _) hlt] at hr2
       exact ⟨cs,hr2,by simpa [ETV] using hc2⟩
      obtain ⟨rfl,hfit⟩:=hcs
      simp only [cellsTask] at hc
      have e0:=hc 0 _ rfl
      have e1:=hc 1 _ rfl
      have e2:=hc 2 _ rfl
      have e3:=hc 3 _ rfl
      have e4:=hc 4 _ rfl
      have e5:=hc 5 _ rfl
      have e6:=hc 6 _ rfl
      have e7:=hc 7 _ rfl
      have e8:=hc 8 _ rfl
      have e9:=hc 9 _ rfl
      have e10:=hc 10 _ rfl
      have e11:=hc 11 _ rfl
      have e12:=hc 12 _ rfl
      have e13:=hc 13 _ rfl
      simp only [Nat.add_zero] at e0
      have HFit:=Lib.hid hfit
      clear hc hfit
      have hcall:=HC.out
      go_wp2_with fail
      obtain ⟨W5,B5,hW5,hB5,hx5,b5⟩:∃ W B,W=wr.alloc (.cells #[.int .i64 (nth l j).x.label.level,.int .i64 (nth l j).x.label.set,.int .i64 (nth l j).x.id,.string (nth l j).x.owner,.int .i64 (nth l j).x.need,.int .i64 (nth l j).x.long,.int .i64 (nth l j).x.prio,.int .i64 (nth l j).x.under.level,.int .i64 (nth l j).x.under.set,.int .i64 (nth l j).x.after,.int .i64 (nth l j).x.born,.int .i64 (nth l j).x.state,.int .i64 (nth l j).x.start,.slice (nth l j).A (nth l j).n (nth l j).c] 46)∧B=wr.heap.size∧Ext wr W∧Blk W B 46 #[.int .i64 (nth l j).x.label.level,.int .i64 (nth l j).x.label.set,.int .i64 (nth l j).x.id,.string (nth l j).x.owner,.int .i64 (nth l j).x.need,.int .i64 (nth l j).x.long,.int .i64 (nth l j).x.prio,.int .i64 (nth l j).x.under.level,.int .i64 (nth l j).x.under.set,.int .i64 (nth l j).x.after,.int .i64 (nth l j).x.born,.int .i64 (nth l j).x.state,.int .i64 (nth l j).x.start,.slice (nth l j).A (nth l j).n (nth l j).c]:=⟨_,_,rfl,rfl,(Ext.refl _).alloc _,Blk.new _ _ _⟩
      rw [← hW5,← hB5]
      have X5:=Lib.hid hx5
      have BB5:=Lib.hid b5
      clear hW5 hB5 hx5 b5 e0 e1 e2 e3 e4 e5 e6 e7 e8 e9 e10 e11 e12 e13
      refine (HF.out [.int .i64 (nth l j).x.label.level,.int .i64 (nth l j).x.label.set,.int .i64 (nth l j).x.id,.string (nth l j).x.owner,.int .i64 (nth l j).x.need,.int .i64 (nth l j).x.long,.int .i64 (nth l j).x.prio,.int .i64 (nth l j).x.under.level,.int .i64 (nth l j).x.under.set,.int .i64 (nth l j).x.after,.int .i64 (nth l j).x.born,.int .i64 (nth l j).x.state,.int .i64 (nth l j).x.start,.slice (nth l j).A (nth l j).n (nth l j).c] (nth l j) _ (HKP.out.trans (Kept.of_ext X5.out)) (rel_TV HFit.out)).mono ?_
      rintro e w2 ⟨rfl,hx2⟩
      have X2:=Lib.hid (X5.out.trans hx2)
      have BB2:=Lib.hid (BB5.out.ext hx2)
      clear hx2
      have e0:=BB2.out.cell 0
      have e1:=BB2.out.cell 1
      have e2:=BB2.out.cell 2
      have e3:=BB2.out.cell 3
      have e4:=BB2.out.cell 4
      have e5:=BB2.out.cell 5
      have e6:=BB2.out.cell 6
      have e7:=BB2.out.cell 7
      have e8:=BB2.out.cell 8
      have e9:=BB2.out.cell 9
      have e10:=BB2.out.cell 10
      have e11:=BB2.out.cell 11
      have e12:=BB2.out.cell 12
      have e13:=BB2.out.cell 13
      simp only [List.getElem?_toArray,List.getElem?_cons_succ,List.getElem?_cons_zero] at e0 e1 e2 e3 e4 e5 e6 e7 e8 e9 e10 e11 e12 e13
      cases hp:p (nth l j) with
      | true =>
        have HT2:Hid (m.take i=(l.take (j+1)).filter fun x=>!p x):=Lib.hid (by rw [filter_take_no hlt (by rw [hp];rfl)];exact HMT.out)
        clear hp
        go_wp2_with fail
        go_roundw
        case rel=>exact ⟨i,j+1,m,by go_num,by go_num,by omega,by omega,HML.out,HT2.out,fun t h3 h4=>HMN.out t (by omega) h4,HOW.out.ext X2.out,HKP.out.trans (Kept.of_ext X2.out)⟩
        case measure=>simp [intOf];omega
      | false =>
        have him:i < m.length:=by have:=HML.out;omega
        have HT2:Hid ((m.set i (nth l j)).take (i+1)=(l.take (j+1)).filter fun x=>!p x):=Lib.hid (by rw [take_set_succ him,filter_take_yes hlt (by rw [hp];rfl),HMT.out])
        clear hp
        obtain ⟨B',c',G,cs,hv,hBF,hBG,hGF,ho,hc,hfz,hth,hrow,hset⟩:=(HOW.out.ext X2.out).at (k:=i) him
        obtain ⟨⟨rfl,hfi⟩,rfl⟩:=ho
        injection hv with hA hlen hcc
        clear hlen
        subst hcc
        cases hA
        have d0:=hc 0 _ rfl
        have d1:=hc 1 _ rfl
        have d2:=hc 2 _ rfl
        have d3:=hc 3 _ rfl
        have d4:=hc 4 _ rfl
        have d5:=hc 5 _ rfl
        have d6:=hc 6 _ rfl
        have d7:=hc 7 _ rfl
        have d8:=hc 8 _ rfl
        have d9:=hc 9 _ rfl
        have d10:=hc 10 _ rfl
        have d11:=hc 11 _ rfl
        have d12:=hc 12 _ rfl
        have d13:=hc 13 _ rfl
        have z0:=hfz (i * 14)
        have z1:=hfz (i * 14+1)
        have z2:=hfz (i * 14+2)
        have z3:=hfz (i * 14+3)
        have z4:=hfz (i * 14+4)
        have z5:=hfz (i * 14+5)
        have z6:=hfz (i * 14+6)
        have z7:=hfz (i * 14+7)
        have z8:=hfz (i * 14+8)
        have z9:=hfz (i * 14+9)
        have z10:=hfz (i * 14+10)
        have z11:=hfz (i * 14+11)
        have z12:=hfz (i * 14+12)
        have z13:=hfz (i * 14+13)
        simp only [ETV,Nat.add_zero] at d0 d1 d2 d3 d4 d5 d6 d7 d8 d9 d10 d11 d12 d13
        have HN:Hid (OwS OTV 46 (w2.setCells B (i * 14) [.int .i64 (nth l j).x.label.level,.int .i64 (nth l j).x.label.set,.int .i64 (nth l j).x.id,.string (nth l j).x.owner,.int .i64 (nth l j).x.need,.int .i64 (nth l j).x.long,.int .i64 (nth l j).x.prio,.int .i64 (nth l j).x.under.level,.int .i64 (nth l j).x.under.set,.int .i64 (nth l j).x.after,.int .i64 (nth l j).x.born,.int .i64 (nth l j).x.state,.int .i64 (nth l j).x.start,.slice (nth l j).A (nth l j).n (nth l j).c]) (.slice (some ⟨B,0,none⟩) l.length c) (m.set i (nth l j)) F):=Lib.hid (by
         refine hset _ _ [.int .i64 (nth l j).x.label.level,.int .i64 (nth l j).x.label.set,.int .i64 (nth l j).x.id,.string (nth l j).x.owner,.int .i64 (nth l j).x.need,.int .i64 (nth l j).x.long,.int .i64 (nth l j).x.prio,.int .i64 (nth l j).x.under.level,.int .i64 (nth l j).x.under.set,.int .i64 (nth l j).x.after,.int .i64 (nth l j).x.born,.int .i64 (nth l j).x.state,.int .i64 (nth l j).x.start,.slice (nth l j).A (nth l j).n (nth l j).c] (Kept.setCells (by simp) _ _ _ (Kept.refl _ _)) (RowBut.setCells _ _ _ hrow (by simp [ETV]) (by simp [ETV])) ⟨rel_TV HFit.out,rfl⟩ ?_
         exact World.rangeAt_setCells_same w2 B (i * 14) [.int .i64 (nth l j).x.label.level,.int .i64 (nth l j).x.label.set,.int .i64 (nth l j).x.id,.string (nth l j).x.owner,.int .i64 (nth l j).x.need,.int .i64 (nth l j).x.long,.int .i64 (nth l j).x.prio,.int .i64 (nth l j).x.under.level,.int .i64 (nth l j).x.under.set,.int .i64 (nth l j).x.after,.int .i64 (nth l j).x.born,.int .i64 (nth l j).x.state,.int .i64 (nth l j).x.start,.slice (nth l j).A (nth l j).n (nth l j).c] hth)
        have HBF:=Lib.hid hBF
        have hil:(i:Int) < (l.length:Int):=by have:=HML.out;omega
        clear hset hth hrow hc hfz hfi hBF hBG hGF
        go_wp2_with fail
        go_roundw
        case rel=>exact ⟨i+1,j+1,m.set i (nth l j),by go_num,by go_num,by omega,by omega,by rw [List.length_set];exact HML.out,HT2.out,fun t h3 h4=>by rw [nth_set_ne (by omega) (by rw [HML.out];exact h4)];exact HMN.out t (by omega) h4,HN.out,(Kept.setCell (Kept.setCell (Kept.setCell (Kept.setCell (Kept.setCell (Kept.setCell (Kept.setCell (Kept.setCell (Kept.setCell (Kept.setCell (Kept.setCell (Kept.setCell (Kept.setCell (Kept.setCell (HKP.out.trans (Kept.of_ext X2.out)) HBF.out _) HBF.out _) HBF.out _) HBF.out _) HBF.out _) HBF.out _) HBF.out _) HBF.out _) HBF.out _) HBF.out _) HBF.out _) HBF.out _) HBF.out _) HBF.out _)⟩
        case measure=>simp [intOf];omega
    · obtain rfl:j=l.length:=by omega
      have hil:(i:Int) < (l.length:Int):=by omega
      have hi0:(0:Int)≤(i:Int):=Int.natCast_nonneg _
      obtain ⟨C,hB⟩:∃ C:Array Value,wr.heap[B]? = some (.cells C 46 (0,0))∧C.size=c * 14:=by
       rcases HOW.out with ⟨_,_,A',hv⟩ | ⟨B',c',C,Fs,hv,hB,_,_,h3,_⟩
       · injection hv with _ hh;omega
       · injection hv with e1 e2 e3;cases e1;subst e3;exact ⟨C,hB,by simpa [ETV] using h3⟩
      have HTH:Hid (wr.there B (i * 14) ((l.length - i) * 14)):=Lib.hid (cells_there hB.1 (by rw [hB.2];omega))
      have HRW:Hid (RowBut 46 B (i * 14) ((l.length - i) * 14) wr (wr.setCells B (i * 14) (Builtin.zeroCells (Value.agg #[.int .i64 0,.int .i64 0,.int .i64 0,.string ⟨#[]⟩,.int .i64 0,.int .i64 0,.int .i64 0,.int .i64 0,.int .i64 0,.int .i64 0,.int .i64 0,.int .i64 0,.int .i64 0,.slice none 0 0]).cells (l.length - i)).toList)):=Lib.hid (RowBut.setCells _ _ _ (RowBut.refl hB.1) (Nat.le_refl _) (by rw [(zero_tasks _).1];exact Nat.le_refl _))
      have HBF:Hid (B∈F):=Lib.hid (by
       rcases HOW.out with ⟨_,_,A',hv⟩ | ⟨B',c',C,Fs,hv,_,_,_,_,_,rfl,_⟩
       · injection hv with _ hh;omega
       · injection hv with e1 e2 e3;cases e1;exact List.mem_cons_self ..)
      clear hB
      have hclr:=run_clear_row (P:=Tryz.prog) wr 32 46 0 (.agg #[.int .i64 0,.int .i64 0,.int .i64 0,.string ⟨#[]⟩,.int .i64 0,.int .i64 0,.int .i64 0,.int .i64 0,.int .i64 0,.int .i64 0,.int .i64 0,.int .i64 0,.int .i64 0,.slice none 0 0]) (l.length - i) Tryz.underlying32 (by intro w;go_simp) (zero_tasks _).2 B (i * 14) (c - i) (by omega) (by rw [(zero_tasks _).1];exact HTH.out)
      go_wp2_with fail
      go_ret
      obtain ⟨F2,o2,f2⟩:=OwS.cut (h:=by rw [HML.out];exact HOW.out) (by rw [HML.out];omega) (n:=i) (by rw [HML.out];omega) HRW.out
      have hE:m.take i=l.filter fun x=>!p x:=by have:=HMT.out;rwa [List.take_length] at this
      have hlen:(l.filter fun x=>!p x).length=i:=by rw [← hE,List.length_take,HML.out];omega
      exact ⟨_,F2,rfl,by rw [← hE];exact o2,f2,HKP.out.trans (Kept.setCells HBF.out _ _ _ (Kept.refl _ _))⟩
end Go.Proofs.YtoblacfjmcpbmaaGreat

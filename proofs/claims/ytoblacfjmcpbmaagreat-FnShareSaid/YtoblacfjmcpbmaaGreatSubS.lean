/- FnShare in plain Lean: what the program computes at each drawn number. No program in sight. -/
import Derived.Test.YtoblacfjmcpbmaaGreatTickD
import Derived.Test.YtoblacfjmcpbmaaGreatSubP
import Derived.Test.YtoblacfjmcpbmaaGreatOrderS
import Derived.Test.YtoblacfjmcpbmaaGreatYardW
import Derived.Test.YtoblacfjmcpbmaaGreatLib
import Derived.Test.YtoblacfjmcpbmaaGreatProg
import Derived.Deep.RegionHeld3
import Derived.Test.YtoblacfjmcpbmaaGreatSortLayI
set_option maxRecDepth 100000
namespace Go.Proofs.YtoblacfjmcpbmaaGreat
open Go.RowKit
def lowL:Label:=⟨0,0⟩
def annB:ByteArray:=⟨#[97,110,110]⟩
def bobB:ByteArray:=⟨#[98,111,98]⟩
def shCfg:Config:=⟨[[lowL]],[],[],9⟩
def shX:YardOut:=yardNew shCfg
def shA (l:Int):YardOut:=subY shX.yard lowL ⟨annB,1,l,5,lowL,0,1⟩
def shB (l:Int):YardOut:=ticksY (shA l).yard (2+l)
def shC (l p:Int):YardOut:=subY (shB l).yard lowL ⟨annB,1,3,p,lowL,0,1⟩
def shD (l p:Int):YardOut:=subY (shC l p).yard lowL ⟨bobB,1,3,p,lowL,0,1⟩
def shE (l p:Int):YardOut:=tickY (shD l p).yard
def shFacts (l p:Int):Bool :=
 decide (shX.code=0) && decide (shX.yard.tasks.length=0) && decide ((shA l).code=0) && decide ((shB l).code=0) && decide ((shB l).yard.tasks.length=1) && decide ((shC l p).code=0) && decide ((shC l p).yard.tasks.length=2) && decide ((shD l p).code=0) &&
 decide ((taskOf (shD l p).yard.tasks lowL 1).state=5) && decide (useOf (shD l p).yard.uses lowL annB=1+l) && decide (useOf (shD l p).yard.uses lowL bobB=0) &&
 decide ((orderY (shD l p).yard).length=2) && decide ((nth (orderY (shD l p).yard) 0).owner=bobB) && decide ((nth (orderY (shD l p).yard) 1).owner=annB) &&
 decide ((taskOf (shE l p).yard.tasks lowL 3).state=2) && decide ((taskOf (shE l p).yard.tasks lowL 2).state=1) && decide ((taskOf (shE l p).yard.tasks lowL 2).start=(shD l p).yard.now+5) && decide ((shD l p).yard.now < 1000)
theorem sh_all:((List.range 5).all fun (i:Nat)=>(List.range 10).all fun (j:Nat)=>shFacts (1+i) j)=true:=by decide +kernel
theorem sh_facts {l p:Int} (h1:1≤l) (h2:l≤5) (h3:0≤p) (h4:p≤9):shFacts l p=true:=by
 have h:=sh_all
 rw [List.all_eq_true] at h
 have h5:=h (l - 1).toNat (List.mem_range.2 (by omega))
 rw [List.all_eq_true] at h5
 have h6:=h5 p.toNat (List.mem_range.2 (by omega))
 have e1:(1:Int)+((l - 1).toNat:Nat)=l:=by omega
 have e2:((p.toNat:Nat):Int)=p:=by omega
 rwa [e1,e2] at h6
end Go.Proofs.YtoblacfjmcpbmaaGreat
/- A number drawn at a place of the code: lwAt. -/
namespace Go.Proofs.YtoblacfjmcpbmaaGreat
open Go.RowKit
attribute [local irreducible] wpQuiet
def lwA (l:List Int) (i n:Int):Int:=if n≤1∨l.length=0 then 0 else nth l (i.tmod l.length).toNat % n
theorem lwA_range (l:List Int) (i n:Int) (hn:1≤n):0≤lwA l i n∧lwA l i n < n:=by
 unfold lwA
 split
 · omega
 · exact ⟨Int.emod_nonneg _ (by omega),Int.emod_lt_of_pos _ (by omega)⟩
theorem lwAt_any {S:Nat→Prop} (l:List Int) (v:Value) (w:World) (h:Rd EByte S w v l) (i n:Int) (hi:0≤i) (_hi2:i≤100000) (hn:1≤n) (hn2:n≤100000) :
 Calls Tryz.prog 5 #[v,.int .i64 i,.int .i64 n] w fun e w'=>e=.returned (.int .i64 (lwA l i n))∧w=w':=by
 obtain ⟨A,c,rfl,h1,h2,hk⟩:=h.open_
 unfold maxLen at h2
 by_cases hc:n≤1
 · have HE:Hid (lwA l i n=0):=Lib.hid (by rw [lwA,if_pos (.inl hc)])
   go_enter Tryz.func5,Tryz.ntmps5
   go_wp2_with fail
   go_ret
   exact ⟨ret_int HE.out.symm,rfl⟩
 · by_cases hl:l.length=0
   · have HE:Hid (lwA l i n=0):=Lib.hid (by rw [lwA,if_pos (.inr hl)])
     have hlb:((l.length:Int) == 0)=true:=by simp [hl]
     clear hl
     go_enter Tryz.func5,Tryz.ntmps5
     go_wp2_with fail
     go_ret
     exact ⟨ret_int HE.out.symm,rfl⟩
   · have hlb:((l.length:Int) == 0)=false:=by simp [hl]
     have hlp:(0:Int) < l.length:=by omega
     obtain ⟨j,hj⟩:∃ j,(i.tmod l.length)=j:=⟨_,rfl⟩
     have hj0:0≤j:=by rw [← hj];exact Int.tmod_nonneg _ hi
     have hjl:j < l.length:=by rw [← hj];exact Int.tmod_lt_of_pos _ hlp
     have hjn:j.toNat < l.length:=by omega
     obtain ⟨b,q,cs,rfl,-,⟨rfl,g1,g2⟩,hcc⟩:=hk j.toNat hjn
     have c0:=hcc 0 _ rfl
     simp only [EByte,Nat.add_zero,Nat.mul_one] at c0
     have HE:Hid (lwA l i n=nth l j.toNat % n):=Lib.hid (by rw [lwA,if_neg (by omega),hj])
     clear hcc hk h
     generalize nth l j.toNat=x at c0 g1 g2 HE
     have hjw:IntKind.i64.wrap j=j:=IntWalk.i64_in _ (by omega)
     have hl0:¬ (l.length:Int)=0:=by omega
     go_enter Tryz.func5,Tryz.ntmps5
     go_wp2_with fail
     go_ret
     exact ⟨ret_int HE.out.symm,rfl⟩
end Go.Proofs.YtoblacfjmcpbmaaGreat
/- GR-TEXT. The comparison of two tasks by label and number. -/
namespace Go.Proofs.YtoblacfjmcpbmaaGreat
open Go.RowKit
attribute [local irreducible] wpQuiet
theorem call_compareTasks:∀ (args:Array Value) (W:World),(callFunc 29 args).run Tryz.prog W=.ok (.enter 29 args) W:=by
 intro args W
 go_simp
set_option maxHeartbeats 16000000 in
theorem compareTasks_gr (a b:Task) (A A':Option Addr) (n c n' c':Nat) (w:World) (fa:FitTask a) (fb:FitTask b) :
 Calls Tryz.prog 29 #[.agg (cellsTask a (.slice A n c)).toArray,.agg (cellsTask b (.slice A' n' c')).toArray] w fun e w'=>e=.returned (.int .i64 (cmpI a b))∧Gr w w':=by
 have HA:Hid (FitLabel a.label):=Lib.hid ⟨fa.1,fa.2.1⟩
 have HB:Hid (FitLabel b.label):=Lib.hid ⟨fb.1,fb.2.1⟩
 clear fa fb
 simp only [cellsTask]
 go_enter Tryz.func29,Tryz.ntmps29
 go_upto_region 1 with (fail)
 obtain ⟨W,B,hW,hB,hx0,a0,b0⟩:=boxes2_gr w #[.int .i64 a.label.level,.int .i64 a.label.set,.int .i64 a.id,.string a.owner,.int .i64 a.need,.int .i64 a.long,.int .i64 a.prio,.int .i64 a.under.level,.int .i64 a.under.set,.int .i64 a.after,.int .i64 a.born,.int .i64 a.state,.int .i64 a.start,.slice A n c] #[.int .i64 b.label.level,.int .i64 b.label.set,.int .i64 b.id,.string b.owner,.int .i64 b.need,.int .i64 b.long,.int .i64 b.prio,.int .i64 b.under.level,.int .i64 b.under.set,.int .i64 b.after,.int .i64 b.born,.int .i64 b.state,.int .i64 b.start,.slice A' n' c'] 46 46
 rw [← hW,← hB]
 clear hW hB
 have XX:=Lib.hid hx0
 have al:∀ V,Gr W V→∀ i,V.cell? ⟨B,i,none⟩=_:=fun V hx=>(a0.ext hx).cell
 have bl:∀ V,Gr W V→∀ i,V.cell? ⟨B+1,i,none⟩=_:=fun V hx=>(b0.ext hx).cell
 clear hx0 a0 b0
 go_region_held3 (fun w'=>Gr W w') (first | exact (Gr.refl _).drew | assumption | exact Gr.alloc (by assumption) _ | exact Gr.trans (by assumption) hx9 | exact Gr.trans (by assumption) hx8) (first
  | (go_at_call 75;(refine (compareLabels_gr (S:=fun _=>True) (S':=fun _=>True) a.label b.label _ _ _ (rel_Label HA.out) (rel_Label HB.out)).mono ?_);rintro e w8 ⟨rfl,hx8⟩)
  | (go_at_call 76;refine (compare_any _ _ _).mono ?_;rintro e w1 ⟨rfl,rfl⟩)
  | (go_at_call 74;refine (or_gr [cmpLabels a.label b.label,cmp3 a.id b.id] _ _ (rd_two _ _ _ _ (cmpLabels_i64 _ _) (cmp3_i64' _ _))).mono ?_;rintro e w9 ⟨rfl,hx9⟩))
 all_goals
  clear al bl
  go_wp2_with fail
  go_ret
  exact ⟨rfl,XX.out.trans (by assumption)⟩
end Go.Proofs.YtoblacfjmcpbmaaGreat
/- slices.SortStableFunc at a row of few tasks: one block,sorted by insertion. -/
namespace Go.Proofs.YtoblacfjmcpbmaaGreat
open Go.RowKit Go.Shelf Go.Lib Go.Sort
attribute [local irreducible] wpQuiet
def cfI (a b:FT):Int:=cmpI a.1.1 b.1.1
theorem lt_I {x z:FT}:ltOf cfI x z=true↔cmpI x.1.1 z.1.1 < 0:=decide_eq_true_iff
theorem ge_I {x z:FT}:ltOf cfI x z=false↔¬ cmpI x.1.1 z.1.1 < 0:=decide_eq_false_iff_not
theorem swoI:SWO (ltOf cfI) where
 irrefl x:=by
  have:=lin_I.self x.1.1
  exact ge_I.2 (by omega)
 trans x z u h1 h2:=lt_I.2 (lin_I.lt_trans (lt_I.1 h1) (lt_I.1 h2))
 ntrans x z u h1 h2:=by
  have b1:=ge_I.1 h1
  have b2:=ge_I.1 h2
  have a1:=lin_I.anti x.1.1 z.1.1
  have a2:=lin_I.anti z.1.1 u.1.1
  have a3:=lin_I.anti x.1.1 u.1.1
  have:=lin_I.trans u.1.1 z.1.1 x.1.1 (by omega) (by omega)
  exact ge_I.2 (by omega)
theorem cmpI_lays (B:Nat) (n:Nat) (w:World):CmpLays Tryz.prog 29 #[] encT 14 cfI B 0 n w:=fun _ _ _ _ a b =>
 compareTasks_gr a.1.1 b.1.1 a.1.2.1.1 b.1.2.1.1 a.1.2.1.2.1 a.1.2.1.2.2 b.1.2.1.2.1 b.1.2.1.2.2 _ a.2.1 b.2.1
theorem insI_any (B c:Nat) (d:Array FT) (a b:Nat) (w:World) (hH:HoldsK encT 14 w B 0 d) (hB:B < w.heap.size) (hab:a≤b) (hb:b≤d.size) (hm:d.size≤1000) :
 Calls Tryz.prog 122 #[.slice (some ⟨B,0,none⟩) d.size c,.int .i64 a,.int .i64 b,.func (.func 29) #[] #[]] w fun e w' =>
  e=.returned (.tuple #[])∧∃ n os,w'=sortWorldK encT 14 w B 0 n (Go.Sort.insertionSort (ltOf cfI) d a b) os :=
 AnyQ.insertionSortCmpFunc Tryz.insTask 14 isAggT sizeT encT encT_len encT_one cfI 29 #[] B 0 c a b d w call_compareTasks (cmpI_lays B d.size w) hH hB hab hb (by omega)
theorem stableFew_core (B c:Nat) (d:Array FT) (w:World) (hH:HoldsK encT 14 w B 0 d) (hB:B < w.heap.size) (hm:d.size < 20) :
 Calls Tryz.prog 73 #[.slice (some ⟨B,0,none⟩) d.size c,.int .i64 d.size,.func (.func 29) #[] #[]] w fun e w' =>
  e=.returned (.tuple #[])∧∃ n os,w'=sortWorldK encT 14 w B 0 n (Go.Sort.insertionSort (ltOf cfI) d 0 d.size) os:=by
 have HI:Hid (Calls Tryz.prog 122 #[.slice (some ⟨B,0,none⟩) d.size c,.int .i64 0,.int .i64 d.size,.func (.func 29) #[] #[]] w _):=Lib.hid (insI_any B c d 0 d.size w hH hB (Nat.zero_le _) (Nat.le_refl _) (by omega))
 have HM:=Lib.hid hm
 clear hH hB
 have hle:¬ (20:Int)≤(d.size:Int):=by omega
 have hlt:¬ (20:Int) < (d.size:Int):=by omega
 clear hm
 go_enter Tryz.func73,Tryz.ntmps73
 go_wp2_with fail
 go_loopw [7,8] (fun x y w'=>x=.int .i64 0∧y=.int .i64 20∧w'=w) (fun _ _ _=>0)
 case atStart=>exact ⟨rfl,rfl,rfl⟩
 case round =>
  obtain ⟨rfl,rfl,rfl⟩:=hrel
  go_wp2_with (go_at_call 122;refine HI.out.mono ?_;rintro e w1 ⟨rfl,hw1⟩;have HW:=Lib.hid hw1;clear hw1)
  go_loopw [6] (fun x w'=>x=.int .i64 20∧w'=w1) (fun _ _=>0)
  case atStart=>exact ⟨rfl,rfl⟩
  case round =>
   obtain ⟨rfl,rfl⟩:=hrel
   go_wp2_with fail
   go_end0
   exact ⟨rfl,HW.out⟩
def RetSortI (v:Value) (l:List Task) (F:List Nat) (w:World) (e:Ending) (w':World):Prop:=e=.returned (.tuple #[])∧∃ m F',OwS OTask 46 w' v m F'∧m.Perm l∧(m.Pairwise fun a b=>cmpI a b≤0)∧(∀ b∈F',b∈F)∧Kept F w w'
theorem stableFew_any (l:List Task) (v:Value) (F:List Nat) (w:World) (h:OwS OTask 46 w v l F) (hl:0 < l.length) (hm:l.length < 20) (hb:∀ x∈l,bornOk x) :
 Calls Tryz.prog 28 #[v,.func (.func 29) #[] #[]] w (RetSortI v l F w):=by
 obtain ⟨B,c,C,d,rfl,hB,hC,hd,hc,rfl,hnd,hH,rfl,ho⟩:=own_task h hl hb
 have hm':d.size < 20:=by simpa using hm
 have HS:Hid (Calls Tryz.prog 73 #[.slice (some ⟨B,0,none⟩) d.size c,.int .i64 d.size,.func (.func 29) #[] #[]] w _):=Lib.hid (stableFew_core B c d w hH hB.lt hm')
 have HB:=Lib.hid hB
 have HC:=Lib.hid hC
 have HD:=Lib.hid hd
 have HCC:=Lib.hid hc
 have HND:=Lib.hid hnd
 have HH:=Lib.hid hH
 have HO:=Lib.hid ho
 clear h hl hm hb hB hC hd hc hnd hH ho hm'
 go_enter Tryz.func28,Tryz.ntmps28
 go_wp2_with (go_at_call 73;refine HS.out.mono ?_;rintro e w1 ⟨rfl,n,os,hw1⟩;have HW:=Lib.hid hw1;clear hw1)
 go_end0
 refine ⟨rfl,?_⟩
 obtain ⟨⟨hz,-,hp⟩,hso⟩:=Go.Sort.insertionSort_holds (lt:=ltOf cfI) swoI d 0 d.size (Nat.zero_le _) (Nat.le_refl _)
 rw [HW.out]
 generalize Go.Sort.insertionSort (ltOf cfI) d 0 d.size=d' at hz hp hso
 obtain ⟨⟨C',hB',hC'⟩,hk⟩:=sortWT (n:=n) (d:=d') (os:=os) HB.out
 have hH':=holdsK_sortWorldK_c encT 14 w B 0 d d' n os HH.out HB.out.lt hz
 have hpl:d'.toList.Perm d.toList:=by
  have e1:d'.extract 0 d.size=d':=by rw [← hz];simp
  have e2:d.extract 0 d.size=d:=by simp
  rw [e1,e2] at hp
  exact hp
 have hpf:(B :: (d'.toList.map blksT).flatten).Perm (B :: (d.toList.map blksT).flatten):=((hpl.map blksT).flatten).cons B
 have hfar:∀ e∈d.toList,∀ b∈blksT e,b∉[B]:=fun e he b hb hm=>by
  have h1:=(List.nodup_cons.1 HND.out).1
  rw [List.mem_singleton.1 hm] at hb
  exact h1 (List.mem_flatten.2 ⟨_,List.mem_map.2 ⟨e,he,rfl⟩,hb⟩)
 have hown:=task_own hB' (by rw [hC',HC.out]) (by rw [hz];exact HD.out) HCC.out hH' (hpf.symm.nodup HND.out) (fun e he=>(HO.out e (hpl.mem_iff.1 he)).kept hk (hfar e (hpl.mem_iff.1 he)))
 rw [hz] at hown
 refine ⟨d'.toList.map (·.1.1),_,hown,hpl.map (fun x:FT=>x.1.1),?_,fun b hb=>hpf.mem_iff.1 hb,hk.sub fun b _ hb=>by rw [List.mem_singleton.1 hb];exact List.mem_cons_self ..⟩
 rw [List.pairwise_map,List.pairwise_iff_getElem]
 intro i j hi hj hij
 have hj':j < d'.size:=by simpa using hj
 have h1:=hso i j (Nat.zero_le _) hij (by omega)
 rw [getElem!_pos d' i (by omega),getElem!_pos d' j hj'] at h1
 have h1:=ge_I.1 h1
 have h2:=lin_I.anti (d'[i]'(by omega)).1.1 (d'[j]'hj').1.1
 simp only [Array.getElem_toList]
 omega
end Go.Proofs.YtoblacfjmcpbmaaGreat

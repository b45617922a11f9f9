/- The walk of the law FnShare. Printed by wip/scratch/mkfs.py. -/
import Derived.Test.YtoblacfjmcpbmaaGreatSubS
import Derived.Test.YtoblacfjmcpbmaaGreatSubI
import Derived.Test.YtoblacfjmcpbmaaGreatPlanI
import Derived.Test.YtoblacfjmcpbmaaGreatBox4
import Derived.Test.YtoblacfjmcpbmaaGreatNavK
import Derived.Deep.RegionHeld3
import Derived.Deep.RegionLaw
import Derived.Deep.CutBlock
set_option maxHeartbeats 16000000
set_option maxRecDepth 100000
namespace Go.Proofs.YtoblacfjmcpbmaaGreat
open Go.RowKit
attribute [local irreducible] wpQuiet
theorem ret_r {x:YardOut} {w:World} {e:Ending} {w':World} (h:RetOS OYardOut x w e w'):RetR x w e w':=by
 obtain ⟨cs,F,rfl,ho,hF,hx⟩:=h
 exact ⟨cs,rfl,EYardOut.sub hF (OYardOut.rel ho),hx⟩
theorem submit_r {S:Nat→Prop} (y:Yard) (a:Label) (x:Wish) (cs:List Value) (w:World) (h:EYard.rel S w cs y) (ha:FitLabel a) (hx:FitWish x) (hm:y.tasks.length≤14) :
 Calls Tryz.prog 7 #[.agg cs.toArray,.agg #[.int .i64 a.level,.int .i64 a.set],.agg #[.string x.owner,.int .i64 x.need,.int .i64 x.long,.int .i64 x.prio,.int .i64 x.under.level,.int .i64 x.under.set,.int .i64 x.after,.int .i64 x.count]] w (RetR (subY y a x) w):=(submit_any y a x cs w h ha hx hm).mono fun _ _=>ret_r
theorem yardNew_r {S:Nat→Prop} (c:Config) (cs:List Value) (w:World) (h:EConfig.rel S w cs c):Calls Tryz.prog 6 #[.agg cs.toArray] w (RetR (yardNew c) w):=(yardNew_any c cs w h).mono fun _ _=>ret_r
theorem rd_one {α:Type} {E:Elem α} {w:World} {B:Nat} {T:TypeId} {cs:List Value} {x:α} (hB:Blk w B T cs.toArray) (h:E.rel (fun _=>True) w cs x):Rd E (fun _=>True) w (.slice (some ⟨B,0,none⟩) 1 1) [x]:=by
 refine ⟨_,_,rfl,Nat.le_refl _,by decide,fun k z hk=>?_⟩
 rcases k with _ | k
 · obtain rfl:x=z:=by simpa using hk
   refine ⟨_,_,cs,rfl,trivial,h,?_⟩
   have:=hB.range
   simpa using this
 · simp at hk
theorem low_fit:FitLabel lowL:=⟨show I64 0 by unfold I64;decide,show I64 0 by unfold I64;decide⟩
theorem cfg_rel {w:World} {B C:Nat} {T U:TypeId} (hB:Blk w B T #[.int .i64 0,.int .i64 0]) (hC:Blk w C U #[.slice (some ⟨B,0,none⟩) 1 1]):EConfig.rel (fun _=>True) w [.slice (some ⟨C,0,none⟩) 1 1,.slice none 0 0,.slice none 0 0,.int .i64 9] shCfg :=
 ⟨_,_,_,rfl,show I64 9 by unfold I64;decide,rd_one (E:=ERow ELabel) (x:=[lowL]) (cs:=[.slice (some ⟨B,0,none⟩) 1 1]) hC ⟨_,rfl,rd_one (E:=ELabel) (x:=lowL) (cs:=[.int .i64 0,.int .i64 0]) hB ⟨rfl,low_fit⟩⟩,(OwS.nil (O:=OPair) (T:=100) (w:=w) none).rd.sub fun _ _=>trivial,(OwS.nil (O:=OQuota) (T:=103) (w:=w) none).rd.sub fun _ _=>trivial⟩
theorem two_new (w:World) (A O:Array Value) (T U:TypeId):Blk ((w.alloc (.cells A T)).alloc (.cells O U)) w.heap.size T A∧Blk ((w.alloc (.cells A T)).alloc (.cells O U)) (w.heap.size+1) U O∧Ext w ((w.alloc (.cells A T)).alloc (.cells O U)) :=
 ⟨(Blk.new w T A).ext ((Ext.refl _).alloc _),by have h:=Blk.new (w.alloc (.cells A T)) U O;rwa [World.size_alloc] at h,((Ext.refl w).alloc _).alloc _⟩
theorem or_ext {w w':World} {cs:List Value} {x:YardOut} (h:EYardOut.rel (fun _=>True) w cs x) (hx:Ext w w'):EYardOut.rel (fun _=>True) w' cs x:=EYardOut.keep (hx.same _) h
theorem field_state (l s i:Int) (o:ByteArray) (ne lo pr ul us af bo st sa:Int) (A:Option Addr) (n c:Nat) (w:World):(Instr.field 46 (.agg #[.int .i64 l,.int .i64 s,.int .i64 i,.string o,.int .i64 ne,.int .i64 lo,.int .i64 pr,.int .i64 ul,.int .i64 us,.int .i64 af,.int .i64 bo,.int .i64 st,.int .i64 sa,.slice A n c]) 9).run Tryz.prog w=.ok (.int .i64 st) w:=by kernel_rfl
theorem field_start (l s i:Int) (o:ByteArray) (ne lo pr ul us af bo st sa:Int) (A:Option Addr) (n c:Nat) (w:World):(Instr.field 46 (.agg #[.int .i64 l,.int .i64 s,.int .i64 i,.string o,.int .i64 ne,.int .i64 lo,.int .i64 pr,.int .i64 ul,.int .i64 us,.int .i64 af,.int .i64 bo,.int .i64 st,.int .i64 sa,.slice A n c]) 10).run Tryz.prog w=.ok (.int .i64 sa) w:=by kernel_rfl
theorem cells_state {z:Task} {st sa:Int} (h:z.state=st) (g:z.start=sa) (P:Option Addr) (m k:Nat):cellsTask z (.slice P m k) = [.int .i64 z.label.level,.int .i64 z.label.set,.int .i64 z.id,.string z.owner,.int .i64 z.need,.int .i64 z.long,.int .i64 z.prio,.int .i64 z.under.level,.int .i64 z.under.set,.int .i64 z.after,.int .i64 z.born,.int .i64 st,.int .i64 sa,.slice P m k]:=by
 subst h g
 rfl
theorem taskOf_c {S:Nat→Prop} (l:List Task) (n st sa:Int) (v:Value) (w:World) (h:Rd ETask S w v l) (h1:(taskOf l lowL n).state=st) (h2:(taskOf l lowL n).start=sa) :
 Calls Tryz.prog 9 #[v,.agg #[.int .i64 0,.int .i64 0],.int .i64 n] w fun e w'=>∃ (z:Task) (P:Option Addr) (m k:Nat),e=.returned (.agg #[.int .i64 z.label.level,.int .i64 z.label.set,.int .i64 z.id,.string z.owner,.int .i64 z.need,.int .i64 z.long,.int .i64 z.prio,.int .i64 z.under.level,.int .i64 z.under.set,.int .i64 z.after,.int .i64 z.born,.int .i64 st,.int .i64 sa,.slice P m k])∧Ext w w':=by
 refine (taskOf_any l lowL n v w h).mono ?_
 rintro e w' ⟨cs,F,rfl,⟨u,rfl,-,q⟩,-,hx⟩
 obtain ⟨A',c',rfl,-⟩:=OwS.form q
 rw [cells_state h1 h2]
 exact ⟨_,_,_,_,rfl,hx⟩
theorem out_tasks {w:World} {x:YardOut} {v1 v2 v3 v4 v5 v6:Value} (h:EYardOut.rel (fun _=>True) w [v1,v2,v3,.int .i64 x.yard.config.half,v4,v5,v6,.int .i64 x.yard.now,.int .i64 x.id,.int .i64 x.code] x):Rd ETask (fun _=>True) w v5 x.yard.tasks:=by
 obtain ⟨u1,u2,u3,u4,u5,u6,hc,-,g1,g2,g3,g4,g5,g6⟩:=h
 simp only [cellsYardOut,List.cons.injEq,true_and,and_true] at hc
 obtain ⟨rfl,rfl,rfl,rfl,rfl,rfl⟩:=hc
 exact g5
theorem str_small {s:ByteArray} (h:s.size≤100):Str s:=by
 unfold Str maxLen
 omega
theorem wish_fitS {o:ByteArray} {l p:Int} (ho:o.size≤100) (h1:1≤l∧l≤5) (h2:0≤p∧p < 10):FitWish ⟨o,1,l,p,lowL,0,1⟩ :=
 ⟨str_small ho,show I64 1 by unfold I64;decide,show I64 l by unfold I64;omega,show I64 p by unfold I64;omega,low_fit.1,low_fit.2,show I64 0 by unfold I64;decide,show I64 1 by unfold I64;decide⟩
theorem fs_end {WE:World} (w:World) (xd xe:YardOut) (BL BD BE b o C4:Nat) (Dp1 Dp2 Dp3 Dp4 Dp5 Dp6 Ep1 Ep2 Ep3 Ep4 Ep5 Ep6:Option Addr) (Dk1 Dk2 Dk3 Dk4 Dk5 Dk6 Ek1 Ek2 Ek3 Ek4 Ek5 Ek6:Nat)
 (DBL:Hid (Blk WE BL 24 #[.int .i64 0,.int .i64 0])) (DBD:Hid (Blk WE BD 37 #[.slice Dp1 xd.yard.config.nodes.length Dk1,.slice Dp2 xd.yard.config.pairs.length Dk2,.slice Dp3 xd.yard.config.quotas.length Dk3,.int .i64 xd.yard.config.half,.slice Dp4 xd.yard.nodes.length Dk4,.slice Dp5 xd.yard.tasks.length Dk5,.slice Dp6 xd.yard.uses.length Dk6,.int .i64 xd.yard.now,.int .i64 xd.id,.int .i64 xd.code])) (DBE:Hid (Blk WE BE 37 #[.slice Ep1 xe.yard.config.nodes.length Ek1,.slice Ep2 xe.yard.config.pairs.length Ek2,.slice Ep3 xe.yard.config.quotas.length Ek3,.int .i64 xe.yard.config.half,.slice Ep4 xe.yard.nodes.length Ek4,.slice Ep5 xe.yard.tasks.length Ek5,.slice Ep6 xe.yard.uses.length Ek6,.int .i64 xe.yard.now,.int .i64 xe.id,.int .i64 xe.code]))
 (D1:Hid (WE.cell? ⟨b,o+3,none⟩=some (.string ⟨#[98,111,98]⟩))) (D2:Hid (WE.cell? ⟨b,o+14+3,none⟩=some (.string ⟨#[97,110,110]⟩)))
 (HT3:Hid (∀ V,Ext WE V→Calls Tryz.prog 9 #[.slice Ep5 xe.yard.tasks.length Ek5,.agg #[.int .i64 0,.int .i64 0],.int .i64 3] V fun e w'=>∃ (z:Task) (P:Option Addr) (m k:Nat),e=.returned (.agg #[.int .i64 z.label.level,.int .i64 z.label.set,.int .i64 z.id,.string z.owner,.int .i64 z.need,.int .i64 z.long,.int .i64 z.prio,.int .i64 z.under.level,.int .i64 z.under.set,.int .i64 z.after,.int .i64 z.born,.int .i64 2,.int .i64 (taskOf xe.yard.tasks lowL 3).start,.slice P m k])∧Ext V w'))
 (HT2:Hid (∀ V,Ext WE V→Calls Tryz.prog 9 #[.slice Ep5 xe.yard.tasks.length Ek5,.agg #[.int .i64 0,.int .i64 0],.int .i64 2] V fun e w'=>∃ (z:Task) (P:Option Addr) (m k:Nat),e=.returned (.agg #[.int .i64 z.label.level,.int .i64 z.label.set,.int .i64 z.id,.string z.owner,.int .i64 z.need,.int .i64 z.long,.int .i64 z.prio,.int .i64 z.under.level,.int .i64 z.under.set,.int .i64 z.after,.int .i64 z.born,.int .i64 1,.int .i64 (xd.yard.now+5),.slice P m k])∧Ext V w'))
 (hlw2:IntKind.i64.wrap (xd.yard.now+5)=xd.yard.now+5) (YE:Hid (Ext w WE)) {s0 s1 s2 s4 s5 s6 s7 s8 s12 s13 s14 s15 s16 s17 s18 s19 s20 s21 s22 s23 s24 s25 s26 s27 s28 s29 s30 s31 s32 s33 s34 s35 s36 s37 s38 s39 s40 s41 s42 s43 s44 s45 s46 s47 s48 s49 s50 s51 s52 s53 s54 s55 s56 s57 s58 s59 s60 s61 s62 s63 s64 s65 s66 s67 s68 s69 s70 s71 s72 s73 s74 s75 s76 s77 s78 s79 s80 s81 s82 s83 s84 s85 s86 s87 s88 s89 s90 s91 s92 s93 s94 s95 s96 s97 s98 s99 s100 s101 s102 s103 s104 s105 s106 s107 s108 s109 s110 s111 s112 s113 s114 s115 s116 s117 s118 s119 s120 s121 s122 s123 s124 s125 s126 s127 s128 s129 s130 s131 s132 s133 s134 s135 s136 s137 s138 s139 s140 s141 s142 s143 s144 s145 s146 s147 s148 s149 s150:Value}
 {K:Act→World→Prop} (hK:∀ (z:Act) (w':World),Code.wp Tryz.prog (nav [1,1,1,1,1,1,1,1,1,1,1,1,1,1] (codeOf Tryz.f3)) (bodyPost Tryz.prog Tryz.f3 fun e w'=>e=.returned (.bool true)∧Ext w w') z w'→K z w') :
 Code.wp Tryz.prog (nav [1,1,1,1,1,1,1,1,1,1,1,1,1,0] (codeOf Tryz.f3)) (Exit.then K (bodyPost Tryz.prog Tryz.f3 fun e w'=>e=.returned (.bool true)∧Ext w w')) { tmps:=#[s0,s1,s2,.pointer (some ⟨BL,0,none⟩),s4,s5,s6,s7,s8,.pointer (some ⟨BD,0,none⟩),.slice (some ⟨b,o,none⟩) 2 C4,.pointer (some ⟨BE,0,none⟩),s12,s13,s14,s15,s16,s17,s18,s19,s20,s21,s22,s23,s24,s25,s26,s27,s28,s29,s30,s31,s32,s33,s34,s35,s36,s37,s38,s39,s40,s41,s42,s43,s44,s45,s46,s47,s48,s49,s50,s51,s52,s53,s54,s55,s56,s57,s58,s59,s60,s61,s62,s63,s64,s65,s66,s67,s68,s69,s70,s71,s72,s73,s74,s75,s76,s77,s78,s79,s80,s81,s82,s83,s84,s85,s86,s87,s88,s89,s90,s91,s92,s93,s94,s95,s96,s97,s98,s99,s100,s101,s102,s103,s104,s105,s106,s107,s108,s109,s110,s111,s112,s113,s114,s115,s116,s117,s118,s119,s120,s121,s122,s123,s124,s125,s126,s127,s128,s129,s130,s131,s132,s133,s134,s135,s136,s137,s138,s139,s140,s141,s142,s143,s144,s145,s146,s147,s148,s149,s150],defers:=[] } WE:=by
 conv=>arg 2;simp only [nav,codeOf,Tryz.f3,Option.getD_some]
 conv at hK=>enter [z,w',1,2];simp only [nav,codeOf,Tryz.f3,Option.getD_some]
 have bl:∀ V,Ext WE V→∀ i,V.cell? ⟨BL,i,none⟩=_:=fun V hV=>(DBL.out.ext hV).cell
 have bd:∀ V,Ext WE V→∀ i,V.cell? ⟨BD,i,none⟩=_:=fun V hV=>(DBD.out.ext hV).cell
 have be:∀ V,Ext WE V→∀ i,V.cell? ⟨BE,i,none⟩=_:=fun V hV=>(DBE.out.ext hV).cell
 have bd1:=fun V (hV:Ext WE V)=>Ext.some hV D1.out
 have bd2:=fun V (hV:Ext WE V)=>Ext.some hV D2.out
 have fst:=field_state
 have fsa:=field_start
 go_region_held3 (fun w'=>Ext WE w') (exact (by repeat (first | with_reducible assumption | with_reducible exact Ext.refl _ | with_reducible refine Ext.alloc ?_ _ | with_reducible refine Ext.drew ?_ | with_reducible refine Ext.setCell ?_ (by first | exact Nat.le_refl _ | exact Ext.size (by assumption) | (simp;done) | (simp;omega) | (show _≤_;omega)) _ | with_reducible refine Ext.trans ?_ hx8 | with_reducible refine Ext.trans ?_ hx9))) (first
  | (go_at_call 9;with_reducible show Calls Tryz.prog 9 #[_,_,.int .i64 3] _ _;(with_reducible refine (HT3.out _ (by repeat (first | with_reducible assumption | with_reducible exact Ext.refl _ | with_reducible refine Ext.alloc ?_ _ | with_reducible refine Ext.drew ?_ | with_reducible refine Ext.setCell ?_ (by first | exact Nat.le_refl _ | exact Ext.size (by assumption) | (simp;done) | (simp;omega) | (show _≤_;omega)) _ | with_reducible refine Ext.trans ?_ hx8 | with_reducible refine Ext.trans ?_ hx9))).mono ?_);rintro e w8 ⟨z8,zp8,zm8,zk8,rfl,hx8⟩)
  | (go_at_call 9;(with_reducible refine (HT2.out _ (by repeat (first | with_reducible assumption | with_reducible exact Ext.refl _ | with_reducible refine Ext.alloc ?_ _ | with_reducible refine Ext.drew ?_ | with_reducible refine Ext.setCell ?_ (by first | exact Nat.le_refl _ | exact Ext.size (by assumption) | (simp;done) | (simp;omega) | (show _≤_;omega)) _ | with_reducible refine Ext.trans ?_ hx8 | with_reducible refine Ext.trans ?_ hx9))).mono ?_);rintro e w9 ⟨z9,zp9,zm9,zk9,rfl,hx9⟩))
 all_goals clear bl bd be bd1 bd2 fst fsa
 all_goals go_wp2_with fail
 all_goals go_ret
 all_goals exact ⟨rfl,YE.out.trans (by assumption)⟩
theorem fnShare_walk {S:Nat→Prop} (l:List Int) (v:Value) (w:World) (h:Rd EByte S w v l) :
 Calls Tryz.prog 3 #[v] w fun e w'=>e=.returned (.bool true)∧Ext w w':=by
 have HR:=Lib.hid h
 obtain ⟨A,c,rfl,l1,l2⟩:=h.form
 unfold maxLen at l2
 clear h
 by_cases hl:l.length≤1048576
 case neg =>
  go_enter Tryz.func3,Tryz.ntmps3
  go_wp2_with fail
  go_ret
  exact ⟨rfl,Ext.refl _⟩
 case pos =>
  obtain ⟨L,hL⟩:∃ L,1+lwA l 0 5=L:=⟨_,rfl⟩
  obtain ⟨p,hp⟩:∃ p,lwA l 1 10=p:=⟨_,rfl⟩
  have hL5:1≤L∧L≤5:=by have:=lwA_range l 0 5 (by decide);omega
  have hp9:0≤p∧p < 10:=by have:=lwA_range l 1 10 (by decide);omega
  have HL0:Hid (lwA l 0 5=L - 1):=Lib.hid (by omega)
  have HP:=Lib.hid hp
  have HL5:=Lib.hid hL5
  have HP9:=Lib.hid hp9
  have facts:=sh_facts hL5.1 hL5.2 hp9.1 (by omega:p≤9)
  simp only [shFacts,Bool.and_eq_true,decide_eq_true_eq] at facts
  obtain ⟨xx,hxx⟩:∃ z,shX=z:=⟨_,rfl⟩
  obtain ⟨xa,hxa⟩:∃ z,shA L=z:=⟨_,rfl⟩
  obtain ⟨xb,hxb⟩:∃ z,shB L=z:=⟨_,rfl⟩
  obtain ⟨xc,hxc⟩:∃ z,shC L p=z:=⟨_,rfl⟩
  obtain ⟨xd,hxd⟩:∃ z,shD L p=z:=⟨_,rfl⟩
  obtain ⟨xe,hxe⟩:∃ z,shE L p=z:=⟨_,rfl⟩
  rw [hxx,hxa,hxb,hxc,hxd,hxe] at facts
  have EX:Hid (yardNew shCfg=xx):=Lib.hid hxx
  have EA:Hid (subY xx.yard lowL ⟨annB,1,L,5,lowL,0,1⟩=xa):=Lib.hid (by rw [← hxx];exact hxa)
  have EB:Hid (ticksY xa.yard (2+L)=xb):=Lib.hid (by rw [← hxa];exact hxb)
  have EC:Hid (subY xb.yard lowL ⟨annB,1,3,p,lowL,0,1⟩=xc):=Lib.hid (by rw [← hxb];exact hxc)
  have ED:Hid (subY xc.yard lowL ⟨bobB,1,3,p,lowL,0,1⟩=xd):=Lib.hid (by rw [← hxc];exact hxd)
  have EE:Hid (tickY xd.yard=xe):=Lib.hid (by rw [← hxd];exact hxe)
  obtain ⟨⟨⟨⟨⟨⟨⟨⟨⟨⟨⟨⟨⟨⟨⟨⟨⟨f1,f2⟩,f3⟩,f4⟩,f5⟩,f6⟩,f7⟩,f8⟩,f9⟩,f10⟩,f11⟩,f12⟩,f13⟩,f14⟩,f15⟩,f16⟩,f17⟩,f18⟩:=facts
  have F1:=Lib.hid f1
  have F2:Hid (xx.yard.tasks.length≤14):=Lib.hid (by omega)
  have F3:=Lib.hid f3
  have F4:=Lib.hid f4
  have F5:Hid (xb.yard.tasks.length≤14):=Lib.hid (by omega)
  have F6:=Lib.hid f6
  have F7:Hid (xc.yard.tasks.length≤14):=Lib.hid (by omega)
  have F8:=Lib.hid f8
  have F9:=Lib.hid f9
  have F10:=Lib.hid f10
  have F11:=Lib.hid f11
  have F12:=Lib.hid f12
  have F13:=Lib.hid f13
  have F14:=Lib.hid f14
  have F15:=Lib.hid f15
  have F16:=Lib.hid f16
  have F17:=Lib.hid f17
  have F18:=Lib.hid f18
  clear hL hp hL5 hp9 hxx hxa hxb hxc hxd hxe f1 f2 f3 f4 f5 f6 f7 f8 f9 f10 f11 f12 f13 f14 f15 f16 f17 f18
  go_enter Tryz.func3,Tryz.ntmps3
  go_upto_region 4 with (fail)
  obtain ⟨W1,BL,hW__,hB__,hx__,hb__⟩:=new_box w #[.int .i64 0,.int .i64 0] 24
  rw [← hW__,← hB__]
  have XW1:=Lib.hid hx__
  have QBL:=Lib.hid hb__
  clear hW__ hB__ hx__ hb__
  have XZ:=Lib.hid XW1.out
  have hlw:IntKind.i64.wrap (1+(L - 1))=L:=by rw [show 1+(L - 1)=L by omega];exact IntWalk.i64_in _ (by have:=HL5.out;omega)
  have qq:=QBL.out.cell
  go_upto_region 5 with (go_at_call 5;(with_reducible refine (lwAt_any (S:=S) l _ _ (HR.out.ext XW1.out) 0 5 (by decide) (by decide) (by decide) (by decide)).mono ?_);rintro e ww ⟨rfl,rfl⟩;rw [HL0.out])
  clear hlw
  go_upto_region 6 with (go_at_call 6;(with_reducible refine (yardNew_r shCfg _ _ (cfg_rel (two_new W1 _ _ _ _).1 (two_new W1 _ _ _ _).2.1)).mono ?_);rintro e w5 ⟨cs5,rfl,r5,hx5⟩;rw [EX.out] at r5;obtain ⟨u1,u2,u3,u4,u5,u6,rfl,f5,g1,g2,g3,g4,g5,g6⟩:=r5;obtain ⟨Xp1,Xk1,rfl,-⟩:=g1.form;obtain ⟨Xp2,Xk2,rfl,-⟩:=g2.form;obtain ⟨Xp3,Xk3,rfl,-⟩:=g3.form;obtain ⟨Xp4,Xk4,rfl,-⟩:=g4.form;obtain ⟨Xp5,Xk5,rfl,-⟩:=g5.form;obtain ⟨Xp6,Xk6,rfl,-⟩:=g6.form;have RX:Hid (EYardOut.rel (fun _=>True) w5 [.slice Xp1 xx.yard.config.nodes.length Xk1,.slice Xp2 xx.yard.config.pairs.length Xk2,.slice Xp3 xx.yard.config.quotas.length Xk3,.int .i64 xx.yard.config.half,.slice Xp4 xx.yard.nodes.length Xk4,.slice Xp5 xx.yard.tasks.length Xk5,.slice Xp6 xx.yard.uses.length Xk6,.int .i64 xx.yard.now,.int .i64 xx.id,.int .i64 xx.code] xx):=Lib.hid ⟨_,_,_,_,_,_,rfl,f5,g1.sub fun _ _=>trivial,g2.sub fun _ _=>trivial,g3.sub fun _ _=>trivial,g4.sub fun _ _=>trivial,g5.sub fun _ _=>trivial,g6.sub fun _ _=>trivial⟩;have XX:=Lib.hid ((two_new W1 _ _ _ _).2.2.trans hx5);clear f5 g1 g2 g3 g4 g5 g6 hx5;simp only [cellsYardOut])
  clear qq
  obtain ⟨WX,BX,hW__,hB__,hx__,hb__⟩:=new_box w5 #[.slice Xp1 xx.yard.config.nodes.length Xk1,.slice Xp2 xx.yard.config.pairs.length Xk2,.slice Xp3 xx.yard.config.quotas.length Xk3,.int .i64 xx.yard.config.half,.slice Xp4 xx.yard.nodes.length Xk4,.slice Xp5 xx.yard.tasks.length Xk5,.slice Xp6 xx.yard.uses.length Xk6,.int .i64 xx.yard.now,.int .i64 xx.id,.int .i64 xx.code] 37
  rw [← hW__,← hB__]
  have XWX:=Lib.hid hx__
  have QBX:=Lib.hid hb__
  clear hW__ hB__ hx__ hb__
  have XXN:=XX.out.trans XWX.out;replace QBL:=Lib.hid (QBL.out.ext XXN);replace RX:=Lib.hid (or_ext RX.out XWX.out);replace XZ:=Lib.hid (XZ.out.trans XXN);clear XXN XX XWX
  have HSA:Hid (Calls Tryz.prog 7 #[.agg #[.slice Xp1 xx.yard.config.nodes.length Xk1,.slice Xp2 xx.yard.config.pairs.length Xk2,.slice Xp3 xx.yard.config.quotas.length Xk3,.int .i64 xx.yard.config.half,.slice Xp4 xx.yard.nodes.length Xk4,.slice Xp5 xx.yard.tasks.length Xk5,.slice Xp6 xx.yard.uses.length Xk6,.int .i64 xx.yard.now],.agg #[.int .i64 0,.int .i64 0],.agg #[.string ⟨#[97,110,110]⟩,.int .i64 1,.int .i64 L,.int .i64 5,.int .i64 0,.int .i64 0,.int .i64 0,.int .i64 1]] WX (RetR xa WX)):=Lib.hid (by
   have h:=submit_r xx.yard lowL ⟨annB,1,L,5,lowL,0,1⟩ _ WX (rel_out RX.out) low_fit (wish_fitS (by decide) HL5.out (by decide)) F2.out
   rw [EA.out] at h
   exact h)
  have qq:=QBL.out.cell
  have qx:=QBX.out.cell
  go_upto_region 7 with (go_at_call 7;(with_reducible refine (HSA.out).mono ?_);rintro e w5 ⟨cs5,rfl,r5,hx5⟩;obtain ⟨u1,u2,u3,u4,u5,u6,rfl,f5,g1,g2,g3,g4,g5,g6⟩:=r5;obtain ⟨Ap1,Ak1,rfl,-⟩:=g1.form;obtain ⟨Ap2,Ak2,rfl,-⟩:=g2.form;obtain ⟨Ap3,Ak3,rfl,-⟩:=g3.form;obtain ⟨Ap4,Ak4,rfl,-⟩:=g4.form;obtain ⟨Ap5,Ak5,rfl,-⟩:=g5.form;obtain ⟨Ap6,Ak6,rfl,-⟩:=g6.form;have RA:Hid (EYardOut.rel (fun _=>True) w5 [.slice Ap1 xa.yard.config.nodes.length Ak1,.slice Ap2 xa.yard.config.pairs.length Ak2,.slice Ap3 xa.yard.config.quotas.length Ak3,.int .i64 xa.yard.config.half,.slice Ap4 xa.yard.nodes.length Ak4,.slice Ap5 xa.yard.tasks.length Ak5,.slice Ap6 xa.yard.uses.length Ak6,.int .i64 xa.yard.now,.int .i64 xa.id,.int .i64 xa.code] xa):=Lib.hid ⟨_,_,_,_,_,_,rfl,f5,g1.sub fun _ _=>trivial,g2.sub fun _ _=>trivial,g3.sub fun _ _=>trivial,g4.sub fun _ _=>trivial,g5.sub fun _ _=>trivial,g6.sub fun _ _=>trivial⟩;have XA:=Lib.hid hx5;clear f5 g1 g2 g3 g4 g5 g6 hx5;simp only [cellsYardOut])
  clear qq qx
  obtain ⟨WA,BA,hW__,hB__,hx__,hb__⟩:=new_box w5 #[.slice Ap1 xa.yard.config.nodes.length Ak1,.slice Ap2 xa.yard.config.pairs.length Ak2,.slice Ap3 xa.yard.config.quotas.length Ak3,.int .i64 xa.yard.config.half,.slice Ap4 xa.yard.nodes.length Ak4,.slice Ap5 xa.yard.tasks.length Ak5,.slice Ap6 xa.yard.uses.length Ak6,.int .i64 xa.yard.now,.int .i64 xa.id,.int .i64 xa.code] 37
  rw [← hW__,← hB__]
  have XWA:=Lib.hid hx__
  have QBA:=Lib.hid hb__
  clear hW__ hB__ hx__ hb__
  have XXN:=XA.out.trans XWA.out;replace QBL:=Lib.hid (QBL.out.ext XXN);replace QBX:=Lib.hid (QBX.out.ext XXN);replace RX:=Lib.hid (or_ext RX.out XXN);replace RA:=Lib.hid (or_ext RA.out XWA.out);replace XZ:=Lib.hid (XZ.out.trans XXN);clear XXN XA XWA
  have HTB:Hid (Calls Tryz.prog 8 #[.agg #[.slice Ap1 xa.yard.config.nodes.length Ak1,.slice Ap2 xa.yard.config.pairs.length Ak2,.slice Ap3 xa.yard.config.quotas.length Ak3,.int .i64 xa.yard.config.half,.slice Ap4 xa.yard.nodes.length Ak4,.slice Ap5 xa.yard.tasks.length Ak5,.slice Ap6 xa.yard.uses.length Ak6,.int .i64 xa.yard.now],.int .i64 (2+L)] WA (RetR xb WA)):=Lib.hid (by
   have h:=ticks_any xa.yard (2+L) _ WA (rel_out RA.out)
   rw [EB.out] at h
   exact h)
  have qa:=QBA.out.cell
  have hlw:IntKind.i64.wrap (2+L)=2+L:=IntWalk.i64_in _ (by have:=HL5.out;omega)
  go_upto_region 8 with (go_at_call 8;(with_reducible refine (HTB.out).mono ?_);rintro e w5 ⟨cs5,rfl,r5,hx5⟩;obtain ⟨u1,u2,u3,u4,u5,u6,rfl,f5,g1,g2,g3,g4,g5,g6⟩:=r5;obtain ⟨Bp1,Bk1,rfl,-⟩:=g1.form;obtain ⟨Bp2,Bk2,rfl,-⟩:=g2.form;obtain ⟨Bp3,Bk3,rfl,-⟩:=g3.form;obtain ⟨Bp4,Bk4,rfl,-⟩:=g4.form;obtain ⟨Bp5,Bk5,rfl,-⟩:=g5.form;obtain ⟨Bp6,Bk6,rfl,-⟩:=g6.form;have RB:Hid (EYardOut.rel (fun _=>True) w5 [.slice Bp1 xb.yard.config.nodes.length Bk1,.slice Bp2 xb.yard.config.pairs.length Bk2,.slice Bp3 xb.yard.config.quotas.length Bk3,.int .i64 xb.yard.config.half,.slice Bp4 xb.yard.nodes.length Bk4,.slice Bp5 xb.yard.tasks.length Bk5,.slice Bp6 xb.yard.uses.length Bk6,.int .i64 xb.yard.now,.int .i64 xb.id,.int .i64 xb.code] xb):=Lib.hid ⟨_,_,_,_,_,_,rfl,f5,g1.sub fun _ _=>trivial,g2.sub fun _ _=>trivial,g3.sub fun _ _=>trivial,g4.sub fun _ _=>trivial,g5.sub fun _ _=>trivial,g6.sub fun _ _=>trivial⟩;have XB:=Lib.hid hx5;clear f5 g1 g2 g3 g4 g5 g6 hx5;simp only [cellsYardOut])
  clear qa hlw
  obtain ⟨WB,BB,hW__,hB__,hx__,hb__⟩:=new_box w5 #[.slice Bp1 xb.yard.config.nodes.length Bk1,.slice Bp2 xb.yard.config.pairs.length Bk2,.slice Bp3 xb.yard.config.quotas.length Bk3,.int .i64 xb.yard.config.half,.slice Bp4 xb.yard.nodes.length Bk4,.slice Bp5 xb.yard.tasks.length Bk5,.slice Bp6 xb.yard.uses.length Bk6,.int .i64 xb.yard.now,.int .i64 xb.id,.int .i64 xb.code] 37
  rw [← hW__,← hB__]
  have XWB:=Lib.hid hx__
  have QBB:=Lib.hid hb__
  clear hW__ hB__ hx__ hb__
  have XXN:=XB.out.trans XWB.out;replace QBL:=Lib.hid (QBL.out.ext XXN);replace QBX:=Lib.hid (QBX.out.ext XXN);replace QBA:=Lib.hid (QBA.out.ext XXN);replace RX:=Lib.hid (or_ext RX.out XXN);replace RA:=Lib.hid (or_ext RA.out XXN);replace RB:=Lib.hid (or_ext RB.out XWB.out);replace XZ:=Lib.hid (XZ.out.trans XXN);clear XXN XB XWB
  go_cut [8] (fun t wx=>∃ (B:Nat) (cs:List Value) (F:List Nat),t=.pointer (some ⟨B,0,none⟩)∧(∀ b∈F,WB.heap.size≤b)∧Blk wx B 37 cs.toArray∧OYardOut.own wx cs xc F∧B∉F∧WB.heap.size≤B∧Ext WB wx)
  case first =>
   have HLW:Hid (∀ V,Ext WB V→Calls Tryz.prog 5 #[.slice A l.length c,.int .i64 1,.int .i64 10] V fun e w'=>e=.returned (.int .i64 p)∧V=w'):=Lib.hid fun V hV=>by
    have h:=lwAt_any (S:=S) l _ V (HR.out.ext (XZ.out.trans hV)) 1 10 (by decide) (by decide) (by decide) (by decide)
    rwa [HP.out] at h
   have HSU:Hid (∀ V,Ext WB V→Calls Tryz.prog 7 #[.agg #[.slice Bp1 xb.yard.config.nodes.length Bk1,.slice Bp2 xb.yard.config.pairs.length Bk2,.slice Bp3 xb.yard.config.quotas.length Bk3,.int .i64 xb.yard.config.half,.slice Bp4 xb.yard.nodes.length Bk4,.slice Bp5 xb.yard.tasks.length Bk5,.slice Bp6 xb.yard.uses.length Bk6,.int .i64 xb.yard.now],.agg #[.int .i64 0,.int .i64 0],.agg #[.string ⟨#[97,110,110]⟩,.int .i64 1,.int .i64 3,.int .i64 p,.int .i64 0,.int .i64 0,.int .i64 0,.int .i64 1]] V (RetOS OYardOut xc V)):=Lib.hid fun V hV=>by
    have h:=submit_any xb.yard lowL ⟨annB,1,3,p,lowL,0,1⟩ _ V (rel_out (or_ext RB.out hV)) low_fit (wish_fitS (by decide) (by decide) HP9.out) F5.out
    rw [EC.out] at h
    exact h
   have bl:∀ V,Ext WB V→∀ i,V.cell? ⟨BL,i,none⟩=_:=fun V hV=>(QBL.out.ext hV).cell
   have bb:∀ V,Ext WB V→∀ i,V.cell? ⟨BB,i,none⟩=_:=fun V hV=>(QBB.out.ext hV).cell
   go_region_held3 (fun w'=>Ext WB w') (first | with_reducible exact XT.out | with_reducible exact Ext.alloc XT.out _ | with_reducible exact setCells_ext ZH.out _ _ _ XT.out | with_reducible exact setCells_ext (Ext.size XT.out) _ _ _ (Ext.alloc XT.out _) | exact (by repeat (first | with_reducible assumption | with_reducible exact Ext.refl _ | with_reducible refine Ext.alloc ?_ _ | with_reducible refine Ext.drew ?_ | with_reducible refine Ext.setCell ?_ (by first | exact Nat.le_refl _ | exact Ext.size (by assumption) | (simp;done) | (simp;omega) | (show _≤_;omega)) _ | with_reducible refine Ext.trans ?_ hx9))) (first | (go_at_call 5;(with_reducible refine (HLW.out _ (by repeat (first | with_reducible assumption | with_reducible exact Ext.refl _ | with_reducible refine Ext.alloc ?_ _ | with_reducible refine Ext.drew ?_ | with_reducible refine Ext.setCell ?_ (by first | exact Nat.le_refl _ | exact Ext.size (by assumption) | (simp;done) | (simp;omega) | (show _≤_;omega)) _ ))).mono ?_);rintro e ww ⟨rfl,rfl⟩) | (go_at_call 7;(with_reducible refine (HSU.out _ (by repeat (first | with_reducible assumption | with_reducible exact Ext.refl _ | with_reducible refine Ext.alloc ?_ _ | with_reducible refine Ext.drew ?_ | with_reducible refine Ext.setCell ?_ (by first | exact Nat.le_refl _ | exact Ext.size (by assumption) | (simp;done) | (simp;omega) | (show _≤_;omega)) _ ))).mono ?_);rintro e wrG ⟨csG,FG,rfl,oG,gG,hx9⟩;have LS:=EYardOut.len (OYardOut.rel oG);have O1:=EYardOut.one (OYardOut.rel oG);simp only [EYardOut] at LS;have OG:=Lib.hid oG;have XT:Hid (Ext WB wrG):=Lib.hid (Ext.trans (by repeat (first | with_reducible assumption | with_reducible exact Ext.refl _ | with_reducible refine Ext.alloc ?_ _ | with_reducible refine Ext.drew ?_ | with_reducible refine Ext.setCell ?_ (by first | exact Nat.le_refl _ | exact Ext.size (by assumption) | (simp;done) | (simp;omega) | (show _≤_;omega)) _ )) hx9);have GXG:Hid (∀ b∈FG,WB.heap.size≤b):=Lib.hid (fun b hb=>Nat.le_trans (Ext.size (by repeat (first | with_reducible assumption | with_reducible exact Ext.refl _ | with_reducible refine Ext.alloc ?_ _ | with_reducible refine Ext.drew ?_ | with_reducible refine Ext.setCell ?_ (by first | exact Nat.le_refl _ | exact Ext.size (by assumption) | (simp;done) | (simp;omega) | (show _≤_;omega)) _ ))) (gG b hb));(first | ((first | (with_reducible have bxx:=box_new3 (bw:=WB) hx9 (by repeat (first | with_reducible assumption | with_reducible exact Ext.refl _ | with_reducible refine Ext.alloc ?_ _ | with_reducible refine Ext.drew ?_ | with_reducible refine Ext.setCell ?_ (by first | exact Nat.le_refl _ | exact Ext.size (by assumption) | (simp;done) | (simp;omega) | (show _≤_;omega)) _ ))) | (with_reducible have bxx:=box_new4 (bw:=WB) hx9 (by repeat (first | with_reducible assumption | with_reducible exact Ext.refl _ | with_reducible refine Ext.alloc ?_ _ | with_reducible refine Ext.drew ?_ | with_reducible refine Ext.setCell ?_ (by first | exact Nat.le_refl _ | exact Ext.size (by assumption) | (simp;done) | (simp;omega) | (show _≤_;omega)) _ ))));(try simp only [drew_size] at bxx);obtain ⟨zb,zh,zl⟩:=bxx;have ZN:=Lib.hid (fun b hb=>Nat.lt_of_lt_of_le zl (gG b hb));have ZB:=Lib.hid zb;have ZH:=Lib.hid zh;clear zb zh zl;have hst:=store_shut (P:=Tryz.prog) (n:=10) LS O1 _ _ (ZB.out.there)) | (have hst:=fun (C:Array Value) (T:TypeId) (h:C.size=10)=>store_shut (P:=Tryz.prog) LS O1 _ _ (there_alloc (V:=wrG) (T:=T) h)));clear gG O1 oG))
   all_goals clear bl bb
   all_goals (go_wp2_with fail;go_meet;first
    | exact ⟨_,csG,FG,rfl,GXG.out,box_pre ZB.out (by rw [LS];rfl) OG.out ZH.out ZN.out XT.out⟩
    | exact ⟨_,csG,FG,rfl,GXG.out,box_post (by rw [LS];rfl) OG.out XT.out⟩)
  case rest =>
  generalize wc=WC at hcut ⊢
  obtain ⟨BC,csG,FG,rfl,-,hbx,hown,-,-,hx⟩:=hcut
  obtain ⟨u1,u2,u3,u4,u5,u6,rfl,f5,g1,g2,g3,g4,g5,g6⟩:=EYardOut.sub (S':=fun _=>True) (fun _ _=>trivial) (OYardOut.rel hown)
  obtain ⟨Cp1,Ck1,rfl,-⟩:=g1.form;obtain ⟨Cp2,Ck2,rfl,-⟩:=g2.form;obtain ⟨Cp3,Ck3,rfl,-⟩:=g3.form;obtain ⟨Cp4,Ck4,rfl,-⟩:=g4.form;obtain ⟨Cp5,Ck5,rfl,-⟩:=g5.form;obtain ⟨Cp6,Ck6,rfl,-⟩:=g6.form
  have RC:Hid (EYardOut.rel (fun _=>True) WC [.slice Cp1 xc.yard.config.nodes.length Ck1,.slice Cp2 xc.yard.config.pairs.length Ck2,.slice Cp3 xc.yard.config.quotas.length Ck3,.int .i64 xc.yard.config.half,.slice Cp4 xc.yard.nodes.length Ck4,.slice Cp5 xc.yard.tasks.length Ck5,.slice Cp6 xc.yard.uses.length Ck6,.int .i64 xc.yard.now,.int .i64 xc.id,.int .i64 xc.code] xc):=Lib.hid ⟨_,_,_,_,_,_,rfl,f5,g1,g2,g3,g4,g5,g6⟩
  have QBC:Hid (Blk WC BC 37 #[.slice Cp1 xc.yard.config.nodes.length Ck1,.slice Cp2 xc.yard.config.pairs.length Ck2,.slice Cp3 xc.yard.config.quotas.length Ck3,.int .i64 xc.yard.config.half,.slice Cp4 xc.yard.nodes.length Ck4,.slice Cp5 xc.yard.tasks.length Ck5,.slice Cp6 xc.yard.uses.length Ck6,.int .i64 xc.yard.now,.int .i64 xc.id,.int .i64 xc.code]):=Lib.hid hbx
  have XXN:=hx
  replace QBL:=Lib.hid (QBL.out.ext XXN);replace QBX:=Lib.hid (QBX.out.ext XXN);replace QBA:=Lib.hid (QBA.out.ext XXN);replace QBB:=Lib.hid (QBB.out.ext XXN);replace RX:=Lib.hid (or_ext RX.out XXN);replace RA:=Lib.hid (or_ext RA.out XXN);replace RB:=Lib.hid (or_ext RB.out XXN)
  replace XZ:=Lib.hid (XZ.out.trans XXN)
  clear f5 g1 g2 g3 g4 g5 g6 hbx hown hx XXN
  go_upto_region 9 with (fail)
  go_cut [9] (fun t wx=>∃ (B:Nat) (cs:List Value) (F:List Nat),t=.pointer (some ⟨B,0,none⟩)∧(∀ b∈F,WC.heap.size≤b)∧Blk wx B 37 cs.toArray∧OYardOut.own wx cs xd F∧B∉F∧WC.heap.size≤B∧Ext WC wx)
  case first =>
   have HLW:Hid (∀ V,Ext WC V→Calls Tryz.prog 5 #[.slice A l.length c,.int .i64 1,.int .i64 10] V fun e w'=>e=.returned (.int .i64 p)∧V=w'):=Lib.hid fun V hV=>by
    have h:=lwAt_any (S:=S) l _ V (HR.out.ext (XZ.out.trans hV)) 1 10 (by decide) (by decide) (by decide) (by decide)
    rwa [HP.out] at h
   have HSU:Hid (∀ V,Ext WC V→Calls Tryz.prog 7 #[.agg #[.slice Cp1 xc.yard.config.nodes.length Ck1,.slice Cp2 xc.yard.config.pairs.length Ck2,.slice Cp3 xc.yard.config.quotas.length Ck3,.int .i64 xc.yard.config.half,.slice Cp4 xc.yard.nodes.length Ck4,.slice Cp5 xc.yard.tasks.length Ck5,.slice Cp6 xc.yard.uses.length Ck6,.int .i64 xc.yard.now],.agg #[.int .i64 0,.int .i64 0],.agg #[.string ⟨#[98,111,98]⟩,.int .i64 1,.int .i64 3,.int .i64 p,.int .i64 0,.int .i64 0,.int .i64 0,.int .i64 1]] V (RetOS OYardOut xd V)):=Lib.hid fun V hV=>by
    have h:=submit_any xc.yard lowL ⟨bobB,1,3,p,lowL,0,1⟩ _ V (rel_out (or_ext RC.out hV)) low_fit (wish_fitS (by decide) (by decide) HP9.out) F7.out
    rw [ED.out] at h
    exact h
   have bl:∀ V,Ext WC V→∀ i,V.cell? ⟨BL,i,none⟩=_:=fun V hV=>(QBL.out.ext hV).cell
   have bb:∀ V,Ext WC V→∀ i,V.cell? ⟨BC,i,none⟩=_:=fun V hV=>(QBC.out.ext hV).cell
   go_region_held3 (fun w'=>Ext WC w') (first | with_reducible exact XT.out | with_reducible exact Ext.alloc XT.out _ | with_reducible exact setCells_ext ZH.out _ _ _ XT.out | with_reducible exact setCells_ext (Ext.size XT.out) _ _ _ (Ext.alloc XT.out _) | exact (by repeat (first | with_reducible assumption | with_reducible exact Ext.refl _ | with_reducible refine Ext.alloc ?_ _ | with_reducible refine Ext.drew ?_ | with_reducible refine Ext.setCell ?_ (by first | exact Nat.le_refl _ | exact Ext.size (by assumption) | (simp;done) | (simp;omega) | (show _≤_;omega)) _ | with_reducible refine Ext.trans ?_ hx9))) (first | (go_at_call 5;(with_reducible refine (HLW.out _ (by repeat (first | with_reducible assumption | with_reducible exact Ext.refl _ | with_reducible refine Ext.alloc ?_ _ | with_reducible refine Ext.drew ?_ | with_reducible refine Ext.setCell ?_ (by first | exact Nat.le_refl _ | exact Ext.size (by assumption) | (simp;done) | (simp;omega) | (show _≤_;omega)) _ ))).mono ?_);rintro e ww ⟨rfl,rfl⟩) | (go_at_call 7;(with_reducible refine (HSU.out _ (by repeat (first | with_reducible assumption | with_reducible exact Ext.refl _ | with_reducible refine Ext.alloc ?_ _ | with_reducible refine Ext.drew ?_ | with_reducible refine Ext.setCell ?_ (by first | exact Nat.le_refl _ | exact Ext.size (by assumption) | (simp;done) | (simp;omega) | (show _≤_;omega)) _ ))).mono ?_);rintro e wrG ⟨csG,FG,rfl,oG,gG,hx9⟩;have LS:=EYardOut.len (OYardOut.rel oG);have O1:=EYardOut.one (OYardOut.rel oG);simp only [EYardOut] at LS;have OG:=Lib.hid oG;have XT:Hid (Ext WC wrG):=Lib.hid (Ext.trans (by repeat (first | with_reducible assumption | with_reducible exact Ext.refl _ | with_reducible refine Ext.alloc ?_ _ | with_reducible refine Ext.drew ?_ | with_reducible refine Ext.setCell ?_ (by first | exact Nat.le_refl _ | exact Ext.size (by assumption) | (simp;done) | (simp;omega) | (show _≤_;omega)) _ )) hx9);have GXG:Hid (∀ b∈FG,WC.heap.size≤b):=Lib.hid (fun b hb=>Nat.le_trans (Ext.size (by repeat (first | with_reducible assumption | with_reducible exact Ext.refl _ | with_reducible refine Ext.alloc ?_ _ | with_reducible refine Ext.drew ?_ | with_reducible refine Ext.setCell ?_ (by first | exact Nat.le_refl _ | exact Ext.size (by assumption) | (simp;done) | (simp;omega) | (show _≤_;omega)) _ ))) (gG b hb));(first | ((first | (with_reducible have bxx:=box_new3 (bw:=WC) hx9 (by repeat (first | with_reducible assumption | with_reducible exact Ext.refl _ | with_reducible refine Ext.alloc ?_ _ | with_reducible refine Ext.drew ?_ | with_reducible refine Ext.setCell ?_ (by first | exact Nat.le_refl _ | exact Ext.size (by assumption) | (simp;done) | (simp;omega) | (show _≤_;omega)) _ ))) | (with_reducible have bxx:=box_new4 (bw:=WC) hx9 (by repeat (first | with_reducible assumption | with_reducible exact Ext.refl _ | with_reducible refine Ext.alloc ?_ _ | with_reducible refine Ext.drew ?_ | with_reducible refine Ext.setCell ?_ (by first | exact Nat.le_refl _ | exact Ext.size (by assumption) | (simp;done) | (simp;omega) | (show _≤_;omega)) _ ))));(try simp only [drew_size] at bxx);obtain ⟨zb,zh,zl⟩:=bxx;have ZN:=Lib.hid (fun b hb=>Nat.lt_of_lt_of_le zl (gG b hb));have ZB:=Lib.hid zb;have ZH:=Lib.hid zh;clear zb zh zl;have hst:=store_shut (P:=Tryz.prog) (n:=10) LS O1 _ _ (ZB.out.there)) | (have hst:=fun (C:Array Value) (T:TypeId) (h:C.size=10)=>store_shut (P:=Tryz.prog) LS O1 _ _ (there_alloc (V:=wrG) (T:=T) h)));clear gG O1 oG))
   all_goals clear bl bb
   all_goals (go_wp2_with fail;go_meet;first
    | exact ⟨_,csG,FG,rfl,GXG.out,box_pre ZB.out (by rw [LS];rfl) OG.out ZH.out ZN.out XT.out⟩
    | exact ⟨_,csG,FG,rfl,GXG.out,box_post (by rw [LS];rfl) OG.out XT.out⟩)
  case rest =>
  generalize wc=WD at hcut ⊢
  obtain ⟨BD,csG,FG,rfl,-,hbx,hown,-,-,hx⟩:=hcut
  obtain ⟨u1,u2,u3,u4,u5,u6,rfl,f5,g1,g2,g3,g4,g5,g6⟩:=EYardOut.sub (S':=fun _=>True) (fun _ _=>trivial) (OYardOut.rel hown)
  obtain ⟨Dp1,Dk1,rfl,-⟩:=g1.form;obtain ⟨Dp2,Dk2,rfl,-⟩:=g2.form;obtain ⟨Dp3,Dk3,rfl,-⟩:=g3.form;obtain ⟨Dp4,Dk4,rfl,-⟩:=g4.form;obtain ⟨Dp5,Dk5,rfl,-⟩:=g5.form;obtain ⟨Dp6,Dk6,rfl,-⟩:=g6.form
  have RD:Hid (EYardOut.rel (fun _=>True) WD [.slice Dp1 xd.yard.config.nodes.length Dk1,.slice Dp2 xd.yard.config.pairs.length Dk2,.slice Dp3 xd.yard.config.quotas.length Dk3,.int .i64 xd.yard.config.half,.slice Dp4 xd.yard.nodes.length Dk4,.slice Dp5 xd.yard.tasks.length Dk5,.slice Dp6 xd.yard.uses.length Dk6,.int .i64 xd.yard.now,.int .i64 xd.id,.int .i64 xd.code] xd):=Lib.hid ⟨_,_,_,_,_,_,rfl,f5,g1,g2,g3,g4,g5,g6⟩
  have QBD:Hid (Blk WD BD 37 #[.slice Dp1 xd.yard.config.nodes.length Dk1,.slice Dp2 xd.yard.config.pairs.length Dk2,.slice Dp3 xd.yard.config.quotas.length Dk3,.int .i64 xd.yard.config.half,.slice Dp4 xd.yard.nodes.length Dk4,.slice Dp5 xd.yard.tasks.length Dk5,.slice Dp6 xd.yard.uses.length Dk6,.int .i64 xd.yard.now,.int .i64 xd.id,.int .i64 xd.code]):=Lib.hid hbx
  have XXN:=hx
  replace QBL:=Lib.hid (QBL.out.ext XXN);replace QBX:=Lib.hid (QBX.out.ext XXN);replace QBA:=Lib.hid (QBA.out.ext XXN);replace QBB:=Lib.hid (QBB.out.ext XXN);replace QBC:=Lib.hid (QBC.out.ext XXN);replace RX:=Lib.hid (or_ext RX.out XXN);replace RA:=Lib.hid (or_ext RA.out XXN);replace RB:=Lib.hid (or_ext RB.out XXN);replace RC:=Lib.hid (or_ext RC.out XXN)
  replace XZ:=Lib.hid (XZ.out.trans XXN)
  clear f5 g1 g2 g3 g4 g5 g6 hbx hown hx XXN
  go_upto_region 10 with (fail)
  have kx:(xx.code != 0)=false:=by simp [F1.out]
  have ka:(xa.code != 0)=false:=by simp [F3.out]
  have kb:(xb.code != 0)=false:=by simp [F4.out]
  have kc:(xc.code != 0)=false:=by simp [F6.out]
  have kd:(xd.code != 0)=false:=by simp [F8.out]
  have qx:=QBX.out.cell
  have qa:=QBA.out.cell
  have qb:=QBB.out.cell
  have qc:=QBC.out.cell
  have qd:=QBD.out.cell
  go_upto_region 12 with (fail)
  clear kx ka kb kc kd qx qa qb qc
  have HT1:Hid (∀ V,Ext WD V→Calls Tryz.prog 9 #[.slice Dp5 xd.yard.tasks.length Dk5,.agg #[.int .i64 0,.int .i64 0],.int .i64 1] V fun e w'=>∃ (z:Task) (P:Option Addr) (m k:Nat),e=.returned (.agg (cellsTask z (.slice P m k)).toArray)∧z.state=5∧Ext V w'):=Lib.hid fun V hV=>by
   obtain ⟨u1,u2,u3,u4,u5,u6,hc,-,g1,g2,g3,g4,g5,g6⟩:=or_ext RD.out hV
   simp only [cellsYardOut,List.cons.injEq,true_and,and_true] at hc
   obtain ⟨rfl,rfl,rfl,rfl,rfl,rfl⟩:=hc
   refine (taskOf_any xd.yard.tasks lowL 1 _ V g5).mono ?_
   rintro e w' ⟨cs,F,rfl,⟨u,rfl,-,q⟩,-,hx⟩
   obtain ⟨A',c',rfl,-⟩:=OwS.form q
   exact ⟨_,A',_,c',rfl,F9.out,hx⟩
  have HUS:Hid (∀ V o r,Ext WD V→useOf xd.yard.uses lowL o=r→Calls Tryz.prog 10 #[.slice Dp6 xd.yard.uses.length Dk6,.agg #[.int .i64 0,.int .i64 0],.string o] V fun e w'=>e=.returned (.int .i64 r)∧Ext V w'):=Lib.hid fun V o r hV hr=>by
   obtain ⟨u1,u2,u3,u4,u5,u6,hc,-,g1,g2,g3,g4,g5,g6⟩:=or_ext RD.out hV
   simp only [cellsYardOut,List.cons.injEq,true_and,and_true] at hc
   obtain ⟨rfl,rfl,rfl,rfl,rfl,rfl⟩:=hc
   have h:=useOfI_any xd.yard.uses lowL o _ V g6
   rw [hr] at h
   exact h
  have HU1:Hid (∀ V,Ext WD V→Calls Tryz.prog 10 #[.slice Dp6 xd.yard.uses.length Dk6,.agg #[.int .i64 0,.int .i64 0],.string ⟨#[97,110,110]⟩] V fun e w'=>e=.returned (.int .i64 (1+L))∧Ext V w'):=Lib.hid fun V hV=>HUS.out V _ _ hV F10.out
  have HU2:Hid (∀ V,Ext WD V→Calls Tryz.prog 10 #[.slice Dp6 xd.yard.uses.length Dk6,.agg #[.int .i64 0,.int .i64 0],.string ⟨#[98,111,98]⟩] V fun e w'=>e=.returned (.int .i64 (0))∧Ext V w'):=Lib.hid fun V hV=>HUS.out V _ _ hV F11.out
  have HTO:Hid (∀ V,Ext WD V→Calls Tryz.prog 11 #[.agg #[.slice Dp1 xd.yard.config.nodes.length Dk1,.slice Dp2 xd.yard.config.pairs.length Dk2,.slice Dp3 xd.yard.config.quotas.length Dk3,.int .i64 xd.yard.config.half,.slice Dp4 xd.yard.nodes.length Dk4,.slice Dp5 xd.yard.tasks.length Dk5,.slice Dp6 xd.yard.uses.length Dk6,.int .i64 xd.yard.now]] V (RetO OTask 46 (orderY xd.yard) V)):=Lib.hid fun V hV=>implTaskOrder_any xd.yard _ V (rel_out (or_ext RD.out hV))
  have HTE:Hid (∀ V,Ext WD V→Calls Tryz.prog 12 #[.agg #[.slice Dp1 xd.yard.config.nodes.length Dk1,.slice Dp2 xd.yard.config.pairs.length Dk2,.slice Dp3 xd.yard.config.quotas.length Dk3,.int .i64 xd.yard.config.half,.slice Dp4 xd.yard.nodes.length Dk4,.slice Dp5 xd.yard.tasks.length Dk5,.slice Dp6 xd.yard.uses.length Dk6,.int .i64 xd.yard.now]] V (RetR xe V)):=Lib.hid fun V hV=>by
   have h:=tick_any xd.yard _ V (rel_out (or_ext RD.out hV))
   rw [EE.out] at h
   exact h
  have qq:=QBL.out.cell
  have hlw:IntKind.i64.wrap (1+L)=1+L:=IntWalk.i64_in _ (by have:=HL5.out;omega)
  have fst:=field_state
  go_upto_region 14 with (first
   | (go_at_call 9;(with_reducible refine (HT1.out _ (Ext.refl _)).mono ?_);rintro e w1 ⟨z,zp,zm,zk,rfl,hz,hx1⟩;have Y1:=Lib.hid hx1;clear qq qd hx1;have qq:=(QBL.out.ext Y1.out).cell;have qd:=(QBD.out.ext Y1.out).cell;simp only [cellsTask])
   | (go_at_call 10;(with_reducible refine (HU1.out _ Y1.out).mono ?_);rintro e w2 ⟨rfl,hx2⟩;have Y2:=Lib.hid (Y1.out.trans hx2);clear qq qd hx2;have qq:=(QBL.out.ext Y2.out).cell;have qd:=(QBD.out.ext Y2.out).cell)
   | (go_at_call 10;(with_reducible refine (HU2.out _ Y2.out).mono ?_);rintro e w3 ⟨rfl,hx3⟩;have Y3:=Lib.hid (Y2.out.trans hx3);clear qq qd hx3;have qq:=(QBL.out.ext Y3.out).cell;have qd:=(QBD.out.ext Y3.out).cell))
  clear hlw fst hz
  obtain ⟨t1,t2,hm,ho1,ho2⟩:∃ t1 t2,orderY xd.yard = [t1,t2]∧t1.owner=bobB∧t2.owner=annB:=by
   have h1:=F12.out
   have h2:=F13.out
   have h3:=F14.out
   generalize orderY xd.yard=m at h1 h2 h3
   match m,h1,h2,h3 with
   | [t1,t2],_,h2,h3=>exact ⟨t1,t2,rfl,h2,h3⟩
  have HM:=Lib.hid hm
  have HO1:=Lib.hid ho1
  have HO2:=Lib.hid ho2
  clear hm ho1 ho2
  go_upto_region 15 with (go_at_call 11;(with_reducible refine (HTO.out _ Y3.out).mono ?_);rw [HM.out];rintro e w4 ⟨v4,FF4,rfl,o4,-,hx4⟩;obtain ⟨P4,C4,rfl,-⟩:=OwS.form o4;have O4:=Lib.hid o4;have Y4:=Lib.hid (Y3.out.trans hx4);clear o4 hx4 qq qd;have qd:=(QBD.out.ext Y4.out).cell)
  go_upto_region 16 with (go_at_call 12;(with_reducible refine (HTE.out _ Y4.out).mono ?_);rintro e w5 ⟨cs5,rfl,r5,hx5⟩;obtain ⟨u1,u2,u3,u4,u5,u6,rfl,f5,g1,g2,g3,g4,g5,g6⟩:=r5;obtain ⟨Ep1,Ek1,rfl,-⟩:=g1.form;obtain ⟨Ep2,Ek2,rfl,-⟩:=g2.form;obtain ⟨Ep3,Ek3,rfl,-⟩:=g3.form;obtain ⟨Ep4,Ek4,rfl,-⟩:=g4.form;obtain ⟨Ep5,Ek5,rfl,-⟩:=g5.form;obtain ⟨Ep6,Ek6,rfl,-⟩:=g6.form;have RE:Hid (EYardOut.rel (fun _=>True) w5 [.slice Ep1 xe.yard.config.nodes.length Ek1,.slice Ep2 xe.yard.config.pairs.length Ek2,.slice Ep3 xe.yard.config.quotas.length Ek3,.int .i64 xe.yard.config.half,.slice Ep4 xe.yard.nodes.length Ek4,.slice Ep5 xe.yard.tasks.length Ek5,.slice Ep6 xe.yard.uses.length Ek6,.int .i64 xe.yard.now,.int .i64 xe.id,.int .i64 xe.code] xe):=Lib.hid ⟨_,_,_,_,_,_,rfl,f5,g1.sub fun _ _=>trivial,g2.sub fun _ _=>trivial,g3.sub fun _ _=>trivial,g4.sub fun _ _=>trivial,g5.sub fun _ _=>trivial,g6.sub fun _ _=>trivial⟩;have XE:=Lib.hid hx5;clear f5 g1 g2 g3 g4 g5 g6 hx5;simp only [cellsYardOut])
  clear qd
  obtain ⟨WE,BE,hW__,hB__,hx__,hb__⟩:=new_box w5 #[.slice Ep1 xe.yard.config.nodes.length Ek1,.slice Ep2 xe.yard.config.pairs.length Ek2,.slice Ep3 xe.yard.config.quotas.length Ek3,.int .i64 xe.yard.config.half,.slice Ep4 xe.yard.nodes.length Ek4,.slice Ep5 xe.yard.tasks.length Ek5,.slice Ep6 xe.yard.uses.length Ek6,.int .i64 xe.yard.now,.int .i64 xe.id,.int .i64 xe.code] 37
  rw [← hW__,← hB__]
  have XWE:=Lib.hid hx__
  have QBE:=Lib.hid hb__
  clear hW__ hB__ hx__ hb__
  have Y5:Hid (Ext WD WE):=Lib.hid (Y4.out.trans (XE.out.trans XWE.out))
  have O5:=Lib.hid (O4.out.ext (XE.out.trans XWE.out))
  have RE5:=Lib.hid (or_ext RE.out XWE.out)
  obtain ⟨A5',c5',hv5,-,-,hk5⟩:=O5.out.rd.open_
  injection hv5 with e1 e2 e3
  subst e1 e3
  clear e2
  obtain ⟨b,o,cs1,rfl,-,⟨v1,rfl,-,-⟩,hc1⟩:=hk5 0 (by simp)
  obtain ⟨b2,o2,cs2,hbo,-,⟨v2,rfl,-,-⟩,hc2⟩:=hk5 1 (by simp)
  injection hbo with hbo
  injection hbo with e1 e2
  subst e1 e2
  have d1:=hc1 3 _ rfl
  have d2:=hc2 3 _ rfl
  simp only [ETask,Nat.zero_mul,Nat.one_mul,Nat.add_zero] at d1 d2
  rw [show (nth [t1,t2] 0).owner=⟨#[98,111,98]⟩ from HO1.out] at d1
  rw [show (nth [t1,t2] 1).owner=⟨#[97,110,110]⟩ from HO2.out] at d2
  clear hc1 hc2 hk5
  have HT3:Hid (∀ V,Ext WE V→Calls Tryz.prog 9 #[.slice Ep5 xe.yard.tasks.length Ek5,.agg #[.int .i64 0,.int .i64 0],.int .i64 3] V fun e w'=>∃ (z:Task) (P:Option Addr) (m k:Nat),e=.returned (.agg #[.int .i64 z.label.level,.int .i64 z.label.set,.int .i64 z.id,.string z.owner,.int .i64 z.need,.int .i64 z.long,.int .i64 z.prio,.int .i64 z.under.level,.int .i64 z.under.set,.int .i64 z.after,.int .i64 z.born,.int .i64 2,.int .i64 (taskOf xe.yard.tasks lowL 3).start,.slice P m k])∧Ext V w'):=Lib.hid fun V hV=>by exact taskOf_c xe.yard.tasks 3 _ _ _ V (out_tasks (or_ext RE5.out hV)) F15.out rfl
  have HT2:Hid (∀ V,Ext WE V→Calls Tryz.prog 9 #[.slice Ep5 xe.yard.tasks.length Ek5,.agg #[.int .i64 0,.int .i64 0],.int .i64 2] V fun e w'=>∃ (z:Task) (P:Option Addr) (m k:Nat),e=.returned (.agg #[.int .i64 z.label.level,.int .i64 z.label.set,.int .i64 z.id,.string z.owner,.int .i64 z.need,.int .i64 z.long,.int .i64 z.prio,.int .i64 z.under.level,.int .i64 z.under.set,.int .i64 z.after,.int .i64 z.born,.int .i64 1,.int .i64 (xd.yard.now+5),.slice P m k])∧Ext V w'):=Lib.hid fun V hV=>by exact taskOf_c xe.yard.tasks 2 _ _ _ V (out_tasks (or_ext RE5.out hV)) F16.out F17.out
  have hlw2:IntKind.i64.wrap (xd.yard.now+5)=xd.yard.now+5:=IntWalk.i64_in _ (by
   obtain ⟨u1,u2,u3,u4,u5,u6,-,hf,-⟩:=RD.out
   have h1:=hf.2.1
   unfold I64 at h1
   have:=F18.out
   omega)
  have DBL:Hid (Blk WE BL 24 #[.int .i64 0,.int .i64 0]):=Lib.hid (QBL.out.ext Y5.out)
  have DBD:Hid (Blk WE BD 37 #[.slice Dp1 xd.yard.config.nodes.length Dk1,.slice Dp2 xd.yard.config.pairs.length Dk2,.slice Dp3 xd.yard.config.quotas.length Dk3,.int .i64 xd.yard.config.half,.slice Dp4 xd.yard.nodes.length Dk4,.slice Dp5 xd.yard.tasks.length Dk5,.slice Dp6 xd.yard.uses.length Dk6,.int .i64 xd.yard.now,.int .i64 xd.id,.int .i64 xd.code]):=Lib.hid (QBD.out.ext Y5.out)
  have D1:=Lib.hid d1
  have D2:=Lib.hid d2
  have YE:=Lib.hid ((XZ.out.trans Y5.out))
  clear d1 d2
  exact fs_end w xd xe BL BD BE b o C4 Dp1 Dp2 Dp3 Dp4 Dp5 Dp6 Ep1 Ep2 Ep3 Ep4 Ep5 Ep6 Dk1 Dk2 Dk3 Dk4 Dk5 Dk6 Ek1 Ek2 Ek3 Ek4 Ek5 Ek6 DBL DBD QBE D1 D2 HT3 HT2 hlw2 YE (by assumption)
end Go.Proofs.YtoblacfjmcpbmaaGreat

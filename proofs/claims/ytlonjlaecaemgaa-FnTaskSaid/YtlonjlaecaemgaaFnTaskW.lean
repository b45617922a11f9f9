/- The walk of the law FnTask. -/
import Derived.Test.YtlonjlaecaemgaaDrawTr
import Derived.Test.YtlonjlaecaemgaaLwT
import Derived.Test.YtlonjlaecaemgaaOrphLaw
import Derived.Test.YtlonjlaecaemgaaOrphS
import Derived.Test.YtlonjlaecaemgaaTof
import Derived.Test.YtlonjlaecaemgaaReady
import Derived.Test.YtlonjlaecaemgaaReadS
import Derived.Test.YtlonjlaecaemgaaReadI
import Derived.Test.YtlonjlaecaemgaaTasksS
import Derived.Test.YtlonjlaecaemgaaTRight
import Derived.Test.YtlonjlaecaemgaaBox4
import Derived.Deep.RegionHeld3
namespace Go.Proofs.Ytlonjlaecaemgaa
open Go.RowKit
attribute [local irreducible] wpQuiet
theorem range_pre {w:World} {b:Nat} {t:TypeId} {cs:Array Value} {a c:List Value} (h:Blk w b t cs) (e:cs.toList=a ++ c):w.rangeAt b 0 a:=fun j v hj=>h.range j v (by rw [e,List.getElem?_append_left (List.getElem?_eq_some_iff.1 hj).1];exact hj)
theorem own_form {w:World} {cs:List Value} {x:Task} {F:List Nat} (h:OTask.own w cs x F):∃ A c,cs = [.int .i64 x.label.level,.int .i64 x.label.set,.int .i64 x.id,.string x.owner,.int .i64 x.need,.int .i64 x.long,.int .i64 x.prio,.int .i64 x.under.level,.int .i64 x.under.set,.int .i64 x.after,.int .i64 x.born,.int .i64 x.state,.int .i64 x.start,.slice A x.nodes.length c]∧FitTask x∧Rd EInt (fun b=>b∈F) w (.slice A x.nodes.length c) x.nodes:=by
 obtain ⟨v1,rfl,hf,ho⟩:=h
 obtain ⟨A,c,rfl,-⟩:=ho.form
 exact ⟨A,c,rfl,hf,ho.rd⟩
theorem out_form {w:World} {cs:List Value} {z:TaskOut} {F:List Nat} (h:OTaskOut.own w cs z F):∃ A c,cs = [.int .i64 z.task.label.level,.int .i64 z.task.label.set,.int .i64 z.task.id,.string z.task.owner,.int .i64 z.task.need,.int .i64 z.task.long,.int .i64 z.task.prio,.int .i64 z.task.under.level,.int .i64 z.task.under.set,.int .i64 z.task.after,.int .i64 z.task.born,.int .i64 z.task.state,.int .i64 z.task.start,.slice A z.task.nodes.length c,.int .i64 z.at_,.int .i64 z.code]∧ETask.rel (fun b=>b∈F) w [.int .i64 z.task.label.level,.int .i64 z.task.label.set,.int .i64 z.task.id,.string z.task.owner,.int .i64 z.task.need,.int .i64 z.task.long,.int .i64 z.task.prio,.int .i64 z.task.under.level,.int .i64 z.task.under.set,.int .i64 z.task.after,.int .i64 z.task.born,.int .i64 z.task.state,.int .i64 z.task.start,.slice A z.task.nodes.length c] z.task:=by
 obtain ⟨v1,rfl,hf,ho⟩:=h
 obtain ⟨A,c,rfl,-⟩:=ho.form
 obtain ⟨a1,a2,a3,a4,a5,a6,a7,a8,a9,a10,a11,a12,a13,-⟩:=hf
 exact ⟨A,c,rfl,_,rfl,⟨a1,a2,a3,a4,a5,a6,a7,a8,a9,a10,a11,a12,a13⟩,ho.rd⟩
theorem rd_at {S:Nat→Prop} {w:World} {A:Option Addr} {n c:Nat} {m:List Task} (h:Rd ETask S w (.slice A n c) m) {k:Nat} (hk:k < m.length):∃ (b o:Nat) (p:Option Addr) (q:Nat),A=some ⟨b,o,none⟩∧w.rangeAt b (o+k * 14) [.int .i64 (nth m k).label.level,.int .i64 (nth m k).label.set,.int .i64 (nth m k).id,.string (nth m k).owner,.int .i64 (nth m k).need,.int .i64 (nth m k).long,.int .i64 (nth m k).prio,.int .i64 (nth m k).under.level,.int .i64 (nth m k).under.set,.int .i64 (nth m k).after,.int .i64 (nth m k).born,.int .i64 (nth m k).state,.int .i64 (nth m k).start,.slice p (nth m k).nodes.length q]∧ETask.rel S w [.int .i64 (nth m k).label.level,.int .i64 (nth m k).label.set,.int .i64 (nth m k).id,.string (nth m k).owner,.int .i64 (nth m k).need,.int .i64 (nth m k).long,.int .i64 (nth m k).prio,.int .i64 (nth m k).under.level,.int .i64 (nth m k).under.set,.int .i64 (nth m k).after,.int .i64 (nth m k).born,.int .i64 (nth m k).state,.int .i64 (nth m k).start,.slice p (nth m k).nodes.length q] (nth m k):=by
 obtain ⟨A',c',e,-,-,hh⟩:=h.open_
 injection e with e1
 obtain ⟨b,o,cs,e2,-,hr,hc⟩:=hh k hk
 obtain ⟨v1,rfl,hf,hi⟩:=hr
 obtain ⟨p,q,rfl,-⟩:=hi.form
 exact ⟨b,o,p,q,e1.trans e2,hc,⟨_,rfl,hf,hi⟩⟩
structure Rnd (os:List Task) (t o wv:Task):Prop where
 gn:(waits t && badEnd wv.state)=true→o.state=6∧waits t=true
 st:(waits t && badEnd wv.state)=false→o=t
 un:o.under=t.under
 af:o.after=t.after
 rd:taskReady os o=(decide (o.state=1) && (decide (o.after=0) || decide (wv.state=4)))
theorem round_of {l:List Task} {k:Nat} (hk:k < (orphans l).length):tasksRight l=true∧k < l.length∧Rnd (orphans l) (nth l k) (nth (orphans l) k) (taskOf (orphans l) (nth l k).under (nth l k).after):=by
 unfold orphans at hk ⊢
 cases h:tasksRight l with
 | false=>rw [h] at hk;simp at hk
 | true =>
   rw [h] at hk
   rw [if_pos rfl] at hk ⊢
   have hkl:k < l.length:=by rwa [orphL_length] at hk
   have h1:=orph_one h hkl
   have h2:=ready_one (orph_right h) (k:=k) hk
   obtain ⟨d1,d2⟩:=orph_deps h hkl
   refine ⟨rfl,hkl,⟨fun e=>?_,fun e=>?_,d1,d2,?_⟩⟩
   · rw [h1,e,if_pos rfl]
     exact ⟨rfl,(Bool.and_eq_true_iff.1 e).1⟩
   · rw [h1,e];rfl
   · rw [h2,d1,d2]
theorem again (l:List Task):orphans (orphans l)=orphans l:=by
 unfold orphans
 cases h:tasksRight l with
 | false=>rfl
 | true=>simp only [if_true];rw [if_pos (orph_right h),orph_again h]
set_option maxHeartbeats 16000000 in
set_option maxRecDepth 100000 in
theorem fnTask_walk {S S':Nat→Prop} (l m:List Int) (v u:Value) (w:World) (h:Rd EByte S w v l) (g:Rd EByte S' w u m) :
 Calls Try.prog 3 #[v,u] w fun e w'=>e=.returned (.bool true)∧Ext w w':=by
 have HD:=Lib.hid (drawTaskBytes_any l v w h)
 have HR:=Lib.hid fun (W:World) (hx:Ext w W)=>drawTaskRead_any m u W (g.ext hx)
 have HP:=Lib.hid fun (W:World) (hx:Ext w W)=>drawOrphans_any m u W (g.ext hx)
 obtain ⟨A,c,rfl,l1,l2⟩:=h.form
 obtain ⟨A',c',rfl,m1,m2⟩:=g.form
 unfold maxLen at l2 m2
 clear h g
 by_cases hl:1048576 < l.length
 · go_enter Try.func3,Try.ntmps3
   go_wp2_with fail
   go_ret
   exact ⟨rfl,Ext.refl _⟩
 by_cases hm:1048576 < m.length
 · go_enter Try.func3,Try.ntmps3
   go_wp2_with fail
   go_ret
   exact ⟨rfl,Ext.refl _⟩
 go_enter Try.func3,Try.ntmps3
 go_upto_region 4 with (go_at_call 4;(with_reducible refine HD.out.mono ?_);rintro e w1 ⟨x,cs,G,rfl,ox,sx,x1⟩;have OW:Hid (ETask.rel (fun b=>b∈G) w1 cs x):=Lib.hid (OTask.rel ox);obtain ⟨A4,c4,rfl,fx,rx⟩:=own_form ox;have X1:=Lib.hid x1;have FX:=Lib.hid fx;have SX:=Lib.hid sx;have NX:=Lib.hid (ints_i64 rx);clear ox x1 fx sx rx)
 obtain ⟨W,C,hW,hC,hx2,b2⟩:∃ W C,W=w1.alloc (.cells #[.int .i64 x.label.level,.int .i64 x.label.set,.int .i64 x.id,.string x.owner,.int .i64 x.need,.int .i64 x.long,.int .i64 x.prio,.int .i64 x.under.level,.int .i64 x.under.set,.int .i64 x.after,.int .i64 x.born,.int .i64 x.state,.int .i64 x.start,.slice A4 x.nodes.length c4] 27)∧C=w1.heap.size∧Ext w1 W∧Blk W C 27 #[.int .i64 x.label.level,.int .i64 x.label.set,.int .i64 x.id,.string x.owner,.int .i64 x.need,.int .i64 x.long,.int .i64 x.prio,.int .i64 x.under.level,.int .i64 x.under.set,.int .i64 x.after,.int .i64 x.born,.int .i64 x.state,.int .i64 x.start,.slice A4 x.nodes.length c4]:=⟨_,_,rfl,rfl,(Ext.refl _).alloc _,Blk.new _ _ _⟩
 rw [← hW,← hC]
 have X2:=Lib.hid (X1.out.trans hx2)
 have B2:=Lib.hid b2
 have O2:Hid (ETask.rel (fun b=>b∈G) W [.int .i64 x.label.level,.int .i64 x.label.set,.int .i64 x.id,.string x.owner,.int .i64 x.need,.int .i64 x.long,.int .i64 x.prio,.int .i64 x.under.level,.int .i64 x.under.set,.int .i64 x.after,.int .i64 x.born,.int .i64 x.state,.int .i64 x.start,.slice A4 x.nodes.length c4] x):=Lib.hid (ETask.keep (hx2.same _) OW.out)
 clear hW hC hx2 b2 OW X1
 have ZX:Hid ((taskBytes x).size≤400):=Lib.hid (taskBytes_size FX.out SX.out.1 (by have:=SX.out.2;omega) NX.out)
 go_upto_region 5 with (first
  | (refine wpList_load_mid rfl 27 _ rfl C 0 rfl [.int .i64 x.label.level,.int .i64 x.label.set,.int .i64 x.id,.string x.owner,.int .i64 x.need,.int .i64 x.long,.int .i64 x.prio,.int .i64 x.under.level,.int .i64 x.under.set,.int .i64 x.after,.int .i64 x.born,.int .i64 x.state,.int .i64 x.start,.slice A4 x.nodes.length c4] _ B2.out.range Try.underlying27 rfl (by kernel_rfl) ?_)
  | (go_at_call 5;(with_reducible refine (taskBytes_any x _ _ O2.out).mono ?_);rintro e w3 ⟨rfl,x3⟩;have X3:=Lib.hid x3;clear x3))
 go_upto_region 6 with (go_at_call 6;(with_reducible refine (HR.out _ (X2.out.trans X3.out)).mono ?_);rintro e w4 ⟨tx,at4,rfl,zt,i4,x4⟩;have X4:Hid (Ext W w4):=Lib.hid (X3.out.trans x4);have ZT:Hid (Str tx):=Lib.hid (by unfold Str maxLen;omega);have I4:=Lib.hid i4;clear x4 i4)
 obtain ⟨z,hz⟩:∃ z,z=taskRead tx at4:=⟨_,rfl⟩
 have HZ:=Lib.hid hz
 clear hz
 go_upto_region 7 with (first
  | (go_at_call 7;(with_reducible refine (taskRead_any tx at4 _ I4.out ZT.out).mono ?_);rintro e w5 ⟨cs5,F5,rfl,o5,f5,x5⟩;rw [← HZ.out] at o5;obtain ⟨A5,c5,rfl,r5⟩:=out_form o5;have X5:Hid (Ext W w5):=Lib.hid (X4.out.trans x5);have R5:=Lib.hid r5;clear o5 f5 x5 r5)
  | (go_at_call 8;(with_reducible refine (specTaskRead_any tx at4 _ I4.out ZT.out).mono ?_);rintro e w6 ⟨cs6,F6,rfl,o6,f6,x6⟩;rw [← HZ.out] at o6;obtain ⟨A6,c6,rfl,r6⟩:=out_form o6;have X6:Hid (Ext W w6):=Lib.hid (X5.out.trans x6);have R6:=Lib.hid r6;have Q5:Hid (ETask.rel (fun b=>b∈F5) w6 [.int .i64 z.task.label.level,.int .i64 z.task.label.set,.int .i64 z.task.id,.string z.task.owner,.int .i64 z.task.need,.int .i64 z.task.long,.int .i64 z.task.prio,.int .i64 z.task.under.level,.int .i64 z.task.under.set,.int .i64 z.task.after,.int .i64 z.task.born,.int .i64 z.task.state,.int .i64 z.task.start,.slice A5 z.task.nodes.length c5] z.task):=Lib.hid (ETask.keep (x6.same _) R5.out);clear o6 f6 x6 r6 R5))
 obtain ⟨V,Y,hV,hY,hx7,b7,b8⟩:=boxes2 w6 #[.int .i64 z.task.label.level,.int .i64 z.task.label.set,.int .i64 z.task.id,.string z.task.owner,.int .i64 z.task.need,.int .i64 z.task.long,.int .i64 z.task.prio,.int .i64 z.task.under.level,.int .i64 z.task.under.set,.int .i64 z.task.after,.int .i64 z.task.born,.int .i64 z.task.state,.int .i64 z.task.start,.slice A5 z.task.nodes.length c5,.int .i64 z.at_,.int .i64 z.code] #[.int .i64 z.task.label.level,.int .i64 z.task.label.set,.int .i64 z.task.id,.string z.task.owner,.int .i64 z.task.need,.int .i64 z.task.long,.int .i64 z.task.prio,.int .i64 z.task.under.level,.int .i64 z.task.under.set,.int .i64 z.task.after,.int .i64 z.task.born,.int .i64 z.task.state,.int .i64 z.task.start,.slice A6 z.task.nodes.length c6,.int .i64 z.at_,.int .i64 z.code] 33 33
 rw [← hV,← hY]
 have X7:Hid (Ext W V):=Lib.hid (X6.out.trans hx7)
 go_cut [73] from 18 (fun c' wx=>c'=.bool false∧Ext W wx)
 case first=>as_aux_lemma =>
  have y4:V.cell? ⟨Y,14,none⟩=some (.int .i64 z.at_):=b7.cell 14
  have y5:V.cell? ⟨Y,15,none⟩=some (.int .i64 z.code):=b7.cell 15
  have z4:V.cell? ⟨Y+1,14,none⟩=some (.int .i64 z.at_):=b8.cell 14
  have z5:V.cell? ⟨Y+1,15,none⟩=some (.int .i64 z.code):=b8.cell 15
  obtain ⟨cx,rc,ex,ic⟩:∃ cx:List Value,V.rangeAt C 0 cx∧ETask.rel (fun b=>b∈G) V cx x∧(Try.prog.info? 27).map (·.size)=some cx.length:=⟨_,hx7.range (X6.out.range B2.out.range),ETask.keep (X7.out.same _) O2.out,by kernel_rfl⟩
  obtain ⟨cy,ry,ey,iy⟩:∃ cx:List Value,V.rangeAt Y 0 cx∧ETask.rel (fun b=>b∈F5) V cx z.task∧(Try.prog.info? 27).map (·.size)=some cx.length:=⟨_,range_pre b7 (c:=[.int .i64 z.at_,.int .i64 z.code]) rfl,ETask.keep (hx7.same _) Q5.out,by kernel_rfl⟩
  obtain ⟨cz,rz,ez,iz⟩:∃ cx:List Value,V.rangeAt (Y+1) 0 cx∧ETask.rel (fun b=>b∈F6) V cx z.task∧(Try.prog.info? 27).map (·.size)=some cx.length:=⟨_,range_pre b8 (c:=[.int .i64 z.at_,.int .i64 z.code]) rfl,ETask.keep (hx7.same _) R6.out,by kernel_rfl⟩
  have RC:=Lib.hid rc
  have EX:=Lib.hid ex
  have IC:=Lib.hid ic
  have RY:=Lib.hid ry
  have EY:=Lib.hid ey
  have IY:=Lib.hid iy
  have RZ:=Lib.hid rz
  have EZ:=Lib.hid ez
  have IZ:=Lib.hid iz
  clear rc ex ic ry ey iy rz ez iz
  clear hV hY hx7 b7 b8 X6 X5 X4 X3 Q5 R6 HZ I4
  refine wp_region_ext (by kernel_rfl) (by kernel_rfl) ?_
  repeat (
   first
   | (refine wpQuiet_load (by rfl) 27 _ rfl C (0) rfl cx _ (fun w__ hx__=>hx__.range RC.out) Try.underlying27 rfl IC.out ?_;simp only [Act.put,List.setIfInBounds_toArray,List.set_cons_zero,List.set_cons_succ])
   | (refine wpQuiet_load (by rfl) 27 _ rfl Y (0) rfl cy _ (fun w__ hx__=>hx__.range RY.out) Try.underlying27 rfl IY.out ?_;simp only [Act.put,List.setIfInBounds_toArray,List.set_cons_zero,List.set_cons_succ])
   | (refine wpQuiet_load (by rfl) 27 _ rfl (Y+1) (0) rfl cz _ (fun w__ hx__=>hx__.range RZ.out) Try.underlying27 rfl IZ.out ?_;simp only [Act.put,List.setIfInBounds_toArray,List.set_cons_zero,List.set_cons_succ])
   | (refine wpQuiet_step (fun K hK=>?_)
      go_simp
      first
       | (refine hK _ ?_;clear hK K)
       | (apply Exists.intro
          refine ⟨fun w__ hx__=>?_,hK _ ?_⟩
          · have y4__:=Ext.some hx__ y4;have y5__:=Ext.some hx__ y5;have z4__:=Ext.some hx__ z4;have z5__:=Ext.some hx__ z5;first | exact rfl | (go_simp;done) | (go_simp;exact rfl) | (go_at_call 9;exact ext_of hx__ (specTaskBytes_any x cx _ (ETask.keep (hx__.same _) EX.out))) | (go_at_call 10;exact ext_of hx__ (lwTask_same z.task cy cz _ (ETask.keep (hx__.same _) EY.out) (ETask.keep (hx__.same _) EZ.out))) | (go_at_call 11;exact ext_of hx__ (taskRight_any x cx _ (ETask.keep (hx__.same _) EX.out))) | (go_at_call 12;exact ext_of hx__ (specTaskRight_any x cx _ (ETask.keep (hx__.same _) EX.out)))
          clear hK K)))
  refine wpQuiet_nil ?_
  intro w1 hx1
  go_wp2_with fail
  go_meet
  exact ⟨rfl,X7.out.trans hx1⟩
 case rest =>
 obtain ⟨rfl,x8⟩:=hcut
 have X8:=Lib.hid x8
 clear x8 hV hY hx7 b7 b8 X7 X6 X5 X4 X3 Q5 R6 HZ I4 ZT zt
 obtain ⟨P,hP⟩:∃ P,P=taskBytes x:=⟨_,rfl⟩
 rw [← hP]
 have HPP:=Lib.hid hP
 clear hP
 go_upto_if 75 with fail
 obtain ⟨q,hq⟩:∃ q,q=P.toList.isEmpty:=⟨_,rfl⟩
 rw [← hq]
 go_cut [5] from 18 (fun p wx=>p=.pointer (some ⟨C,0,none⟩)∧Ext W wx)
 case first=>as_aux_lemma =>
  have hP:=HPP.out
  cases hr:taskRight x with
  | false =>
    have hp:P=⟨#[]⟩:=by rw [hP,taskBytes,if_neg (by rw [hr];decide)]
    have ne:q=true:=by rw [hq,hp,ByteArray.toList_eq];rfl
    clear hP hp hq
    subst ne
    go_wp2_with fail
    go_meet
    exact ⟨rfl,X8.out⟩
  | true =>
    have ht:P=taskText x:=by rw [hP,taskBytes,if_pos hr]
    have zp:P.size≤400:=hP ▸ ZX.out
    have hz:P.size≠0:=fun e1=>by
     rw [ht,task_parts,ByteArray.size_append] at e1
     have e2:0 < (putNum x.label.level).size:=by unfold putNum;rw [strOfNums_size];exact leb_pos _
     omega
    have ne:q=false:=by
     rw [hq,ByteArray.toList_eq]
     cases h:P.data.toList.isEmpty
     · rfl
     · exact absurd (show P.size=0 by have:=congrArg List.length (List.isEmpty_iff.1 h);simpa using this) hz
    clear hq
    subst ne
    have tr:taskRead (⟨#[120,121]⟩ ++ P ++ ⟨#[122]⟩) 2=⟨x,(P.size:Int)+2,0⟩:=by
     have hq:AtB (⟨#[120,121]⟩ ++ P ++ ⟨#[122]⟩) 2 (taskText x):=ht ▸ AtB.three ⟨#[120,121]⟩ P ⟨#[122]⟩
     have:=taskRead_at hr (taskFit_of FX.out hr NX.out) hq (by simp only [ByteArray.size_append];show 2+P.size+1≤8000;omega)
     rw [show (2:Int)=((2:Nat):Int) from rfl,this,ht]
     congr 1
     omega
    have TR:=Lib.hid tr
    have st:Hid (Str (⟨#[120,121]⟩ ++ P ++ ⟨#[122]⟩)):=Lib.hid (by unfold Str maxLen;simp only [ByteArray.size_append];show 2+P.size+1≤_;omega)
    clear hP ht tr hr
    have q1:(⟨#[120,121]⟩ ++ P:ByteArray).size≤500:=by simp only [ByteArray.size_append];show 2+P.size≤500;omega
    go_upto_region 11 with (go_at_call 7;(with_reducible refine (taskRead_any _ 2 _ (by unfold I64;decide) st.out).mono ?_);rintro e w10 ⟨cs10,F10,rfl,o10,f10,x10⟩;rw [TR.out] at o10;obtain ⟨A10,c10,rfl,r10⟩:=out_form o10;have X10:Hid (Ext W w10):=Lib.hid (X8.out.trans x10);have R10:=Lib.hid r10;clear o10 f10 x10 r10)
    obtain ⟨V,Y3,hV,hY,hx11,b11⟩:∃ V Y3,V=w10.alloc (.cells #[.int .i64 x.label.level,.int .i64 x.label.set,.int .i64 x.id,.string x.owner,.int .i64 x.need,.int .i64 x.long,.int .i64 x.prio,.int .i64 x.under.level,.int .i64 x.under.set,.int .i64 x.after,.int .i64 x.born,.int .i64 x.state,.int .i64 x.start,.slice A10 x.nodes.length c10,.int .i64 ((P.size:Int)+2),.int .i64 0] 33)∧Y3=w10.heap.size∧Ext w10 V∧Blk V Y3 33 #[.int .i64 x.label.level,.int .i64 x.label.set,.int .i64 x.id,.string x.owner,.int .i64 x.need,.int .i64 x.long,.int .i64 x.prio,.int .i64 x.under.level,.int .i64 x.under.set,.int .i64 x.after,.int .i64 x.born,.int .i64 x.state,.int .i64 x.start,.slice A10 x.nodes.length c10,.int .i64 ((P.size:Int)+2),.int .i64 0]:=⟨_,_,rfl,rfl,(Ext.refl _).alloc _,Blk.new _ _ _⟩
    rw [← hV,← hY]
    have X11:Hid (Ext W V):=Lib.hid (X10.out.trans hx11)
    have E1:Hid (ETask.rel (fun b=>b∈F10) V [.int .i64 x.label.level,.int .i64 x.label.set,.int .i64 x.id,.string x.owner,.int .i64 x.need,.int .i64 x.long,.int .i64 x.prio,.int .i64 x.under.level,.int .i64 x.under.set,.int .i64 x.after,.int .i64 x.born,.int .i64 x.state,.int .i64 x.start,.slice A10 x.nodes.length c10] x):=Lib.hid (ETask.keep (hx11.same _) R10.out)
    have E2:Hid (ETask.rel (fun b=>b∈G) V [.int .i64 x.label.level,.int .i64 x.label.set,.int .i64 x.id,.string x.owner,.int .i64 x.need,.int .i64 x.long,.int .i64 x.prio,.int .i64 x.under.level,.int .i64 x.under.set,.int .i64 x.after,.int .i64 x.born,.int .i64 x.state,.int .i64 x.start,.slice A4 x.nodes.length c4] x):=Lib.hid (ETask.keep (X11.out.same _) O2.out)
    have by3:=b11.cell
    have bxc:=(B2.out.ext X11.out).cell
    clear hV hY hx11 b11 R10 X10
    go_wp2_with (first
     | (go_at_call 10;(with_reducible refine (lwTask_same x _ _ _ E1.out E2.out).mono ?_);rintro e w12 ⟨rfl,x12⟩;have X12:Hid (Ext W w12):=Lib.hid (X11.out.trans x12);clear x12))
    go_meet
    exact ⟨rfl,X12.out⟩
 case rest =>
 obtain ⟨rfl,x9⟩:=hcut
 have X9:=Lib.hid x9
 clear x9 X8
 go_upto_region 15 with (first
  | (go_at_call 13;(with_reducible refine (HP.out _ (X2.out.trans X9.out)).mono ?_);rintro e w10 ⟨uo,ml,F10,rfl,hml,sml,o10,x10⟩;obtain ⟨Am,cm,rfl,-⟩:=o10.form;have X10:Hid (Ext W w10):=Lib.hid (X9.out.trans x10);have ML:=Lib.hid o10.rd;have HML:=Lib.hid hml;have SML:=Lib.hid sml;clear o10 x10 hml sml)
  | (go_at_call 14;(with_reducible refine (orphans_any ml _ _ ML.out).mono ?_);rintro e w11 ⟨vo,F11,rfl,o11,f11,x11⟩;have X11:Hid (Ext W w11):=Lib.hid (X10.out.trans x11);have M1:Hid (Rd ETask (fun b=>b∈F10) w11 (.slice Am ml.length cm) ml):=Lib.hid (ML.out.ext x11);have O1:=Lib.hid o11.rd;clear o11 f11 x11))
 have HX11:Hid (Ext w w11):=Lib.hid (X2.out.trans X11.out)
 clear HD HR HP FX SX NX B2 O2 ZX HPP X9 X2 X11 SML
 obtain ⟨os,hos⟩:∃ os,os=orphans ml:=⟨_,rfl⟩
 rw [← hos] at O1
 have HOS:=Lib.hid hos
 clear hos ML X10
 obtain ⟨Ao,co,rfl,olc,olm⟩:=O1.out.form
 unfold maxLen at olm
 go_cut [113] from 18 (fun c' wx=>c'=.bool false∧Ext w11 wx)
 case first=>as_aux_lemma =>
  go_wp2_with (first
   | (go_at_call 16;(with_reducible refine (specOrphans_any ml _ _ M1.out).mono ?_);rintro e w12 ⟨v12,F12,rfl,o12,f12,x12⟩;rw [← HOS.out] at o12;obtain ⟨A12,c12,rfl,-⟩:=o12.form;have X12:=Lib.hid x12;have O12:=Lib.hid o12.rd;clear o12 f12 x12)
   | (go_at_call 15;(with_reducible refine (lwTasks_same os _ _ _ (O1.out.ext X12.out) O12.out).mono ?_);rintro e w13 ⟨rfl,x13⟩;have X13:Hid (Ext w11 w13):=Lib.hid (X12.out.trans x13);clear x13)
   | (go_at_call 17;(with_reducible refine (tasksRight_any ml _ _ (M1.out.ext X13.out)).mono ?_);rintro e w14 ⟨rfl,x14⟩;have X14:Hid (Ext w11 w14):=Lib.hid (X13.out.trans x14);clear x14)
   | (go_at_call 18;(with_reducible refine (specTasksRight_any ml _ _ (M1.out.ext X14.out)).mono ?_);rintro e w15 ⟨rfl,x15⟩;have X15:Hid (Ext w11 w15):=Lib.hid (X14.out.trans x15);clear x15))
  go_meet
  exact ⟨by simp,X15.out⟩
 case rest =>
 obtain ⟨rfl,x12⟩:=hcut
 have X12:=Lib.hid x12
 clear x12
 go_wp2_with fail
 go_loopw [14] (fun i w'=>∃ k:Nat,k≤os.length∧i=.int .i64 k∧Ext w11 w') (fun i _=>os.length - (intOf i).toNat)
 case atStart=>exact ⟨0,by omega,rfl,X12.out⟩
 case round =>
  obtain ⟨k,hk1,rfl,hx⟩:=hrel
  have HX:=Lib.hid hx
  clear hx X12
  by_cases hlt:k < os.length
  · skip
    obtain ⟨htr,hkl,rn⟩:=round_of (l:=ml) (k:=k) (by rw [← HOS.out];exact hlt)
    rw [← HOS.out] at rn
    obtain ⟨bm,om,pm,qm,rfl,hcm,hem⟩:=rd_at M1.out hkl
    obtain ⟨bo,oo,po,qo,rfl,hco,heo⟩:=rd_at O1.out hlt
    have HTO:Hid (∀ T,Ext wr T→Calls Try.prog 19 #[.slice (some ⟨bo,oo,none⟩) os.length co,.agg #[.int .i64 (nth ml k).under.level,.int .i64 (nth ml k).under.set],.int .i64 (nth ml k).after] T (RetOS OTask (taskOf os (nth ml k).under (nth ml k).after) T)):=Lib.hid fun T hx=>taskOf_any os (nth ml k).under (nth ml k).after _ T (O1.out.ext (HX.out.trans hx))
    generalize taskOf os (nth ml k).under (nth ml k).after=wv at rn HTO
    generalize nth ml k=t at rn hcm hem HTO
    generalize nth os k=o at rn hco heo
    have RN:=Lib.hid rn
    have HCM:=Lib.hid hcm
    have HCO:=Lib.hid hco
    have HEM:=Lib.hid hem
    have HEO:=Lib.hid heo
    have HKL:=Lib.hid hkl
    have hml13:ml.length≤13:=HML.out
    clear htr rn hcm hco hem heo
    go_upto_region 20 with fail
    go_cut [15] from 114 to 217 (fun p wx=>∃ (X:Nat) (cs:List Value) (F:List Nat),p=.pointer (some ⟨X,0,none⟩)∧Blk wx X 27 cs.toArray∧OTask.own wx cs wv F∧X∉F∧wr.heap.size≤X∧Ext wr wx)
    case first=>as_aux_lemma =>
     have m7:∀ T,Ext wr T→T.cell? ⟨bm,om+k * 14+7,none⟩=some (.int .i64 t.under.level):=fun T hx=>(HX.out.trans hx).some (HCM.out 7 _ rfl)
     have m8:∀ T,Ext wr T→T.cell? ⟨bm,om+k * 14+8,none⟩=some (.int .i64 t.under.set):=fun T hx=>(HX.out.trans hx).some (HCM.out 8 _ rfl)
     have m9:∀ T,Ext wr T→T.cell? ⟨bm,om+k * 14+9,none⟩=some (.int .i64 t.after):=fun T hx=>(HX.out.trans hx).some (HCM.out 9 _ rfl)
     go_region_held3 (fun w'=>Ext wr w') (first | with_reducible exact XTS.out | with_reducible exact Ext.alloc XTS.out _ | with_reducible exact setCells_ext BH.out _ _ _ XTS.out | with_reducible exact setCells_ext (Ext.size XTS.out) _ _ _ (Ext.alloc XTS.out _) | exact (by repeat (first | with_reducible assumption | with_reducible exact Ext.refl _ | with_reducible refine Ext.alloc ?_ _ | with_reducible refine Ext.drew ?_ | with_reducible refine Ext.trans ?_ hx20))) (first | (go_at_call 19;(with_reducible refine (HTO.out _ (by repeat (first | with_reducible assumption | with_reducible exact Ext.refl _ | with_reducible refine Ext.alloc ?_ _ | with_reducible refine Ext.drew ?_ | with_reducible refine Ext.trans ?_ hx20))).mono ?_);rintro e w13 ⟨csS,FS,rfl,oS,gS,hx20⟩;have LS:=ETask.len (OTask.rel oS);have O1S:=ETask.one (OTask.rel oS);simp only [ETask] at LS;have OS:=Lib.hid oS;have XTS:Hid (Ext wr w13):=Lib.hid (Ext.trans (by repeat (first | with_reducible assumption | with_reducible exact Ext.refl _ | with_reducible refine Ext.alloc ?_ _ | with_reducible refine Ext.drew ?_ | with_reducible refine Ext.trans ?_ hx20)) hx20);(first | ((first | (with_reducible have bxx:=box_new3 (bw:=wr) hx20 (by repeat (first | with_reducible assumption | with_reducible exact Ext.refl _ | with_reducible refine Ext.alloc ?_ _ | with_reducible refine Ext.drew ?_ | with_reducible refine Ext.trans ?_ hx20))) | (with_reducible have bxx:=box_new4 (bw:=wr) hx20 (by repeat (first | with_reducible assumption | with_reducible exact Ext.refl _ | with_reducible refine Ext.alloc ?_ _ | with_reducible refine Ext.drew ?_ | with_reducible refine Ext.trans ?_ hx20))));(try simp only [drew_size] at bxx);obtain ⟨bx,bh,bl⟩:=bxx;have NB:=Lib.hid (fun b hb=>Nat.lt_of_lt_of_le bl (gS b hb));have BX:=Lib.hid bx;have BH:=Lib.hid bh;clear bx bh bl;have hst:=store_shut (P:=Try.prog) (n:=14) LS O1S _ _ (BX.out.there)) | (have hst:=fun (C:Array Value) (T:TypeId) (h:C.size=14)=>store_shut (P:=Try.prog) LS O1S _ _ (there_alloc (V:=w13) (T:=T) h)));clear gS O1S oS))
     all_goals (go_wp2_with fail;go_meet;first
      | exact ⟨_,csS,FS,rfl,box_pre BX.out (by rw [LS];rfl) OS.out BH.out NB.out XTS.out⟩
      | exact ⟨_,csS,FS,rfl,box_post (by rw [LS];rfl) OS.out XTS.out⟩)
    case rest =>
    obtain ⟨X,cs,F20,rfl,bX,oX,-,-,hx20⟩:=hcut
    generalize wc=w20 at bX oX hx20 ⊢
    obtain ⟨A20,c20,rfl,-,-⟩:=own_form oX
    have X20:Hid (Ext w11 w20):=Lib.hid (HX.out.trans hx20)
    have BX:=Lib.hid bX
    clear bX oX hx20 HTO
    go_upto_region 21 with fail
    go_cut [16] from 114 to 217 (fun c' wx=>c'=.bool (waits t)∧wx=w20)
    case first=>as_aux_lemma =>
     have m9:w20.cell? ⟨bm,om+k * 14+9,none⟩=some (.int .i64 t.after):=X20.out.some (HCM.out 9 _ rfl)
     have m11:w20.cell? ⟨bm,om+k * 14+11,none⟩=some (.int .i64 t.state):=X20.out.some (HCM.out 11 _ rfl)
     by_cases a0:t.after=0
     · go_wp2_with fail
       go_meet
       exact ⟨by simp [waits,a0],rfl⟩
     by_cases s1:t.state=1
     · go_wp2_with fail
       go_meet
       exact ⟨by simp [waits,a0,s1],rfl⟩
     · go_wp2_with fail
       go_meet
       exact ⟨rfl,rfl⟩
    case rest =>
    obtain ⟨rfl,rfl⟩:=hcut
    go_upto_region 22 with fail
    go_cut [16,17] from 114 to 217 (fun b' c' wx=>b'=.bool (waits t)∧c'=.bool (waits t && badEnd wv.state)∧wx=wc)
    case first=>as_aux_lemma =>
     have x11:=BX.out.cell
     cases hw:waits t with
     | false =>
       go_wp2_with fail
       go_meet
       exact ⟨by rw [hw],by rw [hw];rfl,rfl⟩
     | true =>
       by_cases s5:wv.state=5
       · go_wp2_with fail
         go_meet
         exact ⟨by rw [hw],by rw [hw];simp [badEnd,s5],rfl⟩
       · go_wp2_with fail
         go_meet
         exact ⟨by rw [hw],by rw [hw];rfl,rfl⟩
    case rest =>
    obtain ⟨rfl,rfl,rfl⟩:=hcut
    go_upto_region 23 with fail
    go_cut [16,17,191] from 114 to 217 (fun _ _ c' wx=>c'=.bool false∧Ext wc wx)
    case first=>as_aux_lemma =>
     obtain ⟨cm,rm,em,im⟩:∃ cs:List Value,wc.rangeAt bm (om+k * 14) cs∧ETask.rel (fun b=>b∈F10) wc cs t∧(Try.prog.info? 27).map (·.size)=some cs.length:=⟨_,X20.out.range HCM.out,ETask.keep (X20.out.same _) HEM.out,by kernel_rfl⟩
     obtain ⟨cn,rn,en,in_⟩:∃ cs:List Value,wc.rangeAt bo (oo+k * 14) cs∧ETask.rel (fun b=>b∈F11) wc cs o∧(Try.prog.info? 27).map (·.size)=some cs.length:=⟨_,X20.out.range HCO.out,ETask.keep (X20.out.same _) HEO.out,by kernel_rfl⟩
     have RM:=Lib.hid rm
     have EM:=Lib.hid em
     have IM:=Lib.hid im
     have RN2:=Lib.hid rn
     have EN:=Lib.hid en
     have IN:=Lib.hid in_
     clear rm em im rn en in_
     have o11:wc.cell? ⟨bo,oo+k * 14+11,none⟩=some (.int .i64 o.state):=X20.out.some (HCO.out 11 _ rfl)
     cases hg:(waits t && badEnd wv.state) with
     | true =>
       obtain ⟨so,hw⟩:=RN.out.gn hg
       rw [hw]
       rw [so] at o11
       clear so hw hg
       refine wp_region_ext (by kernel_rfl) (by kernel_rfl) ?_
       repeat (
        first
        | (refine wpQuiet_load (by rfl) 27 _ rfl bm (om+k * 14) rfl cm _ (fun w__ hx__=>hx__.range RM.out) Try.underlying27 rfl IM.out ?_;simp only [Act.put,List.setIfInBounds_toArray,List.set_cons_zero,List.set_cons_succ])
        | (refine wpQuiet_load (by rfl) 27 _ rfl bo (oo+k * 14) rfl cn _ (fun w__ hx__=>hx__.range RN2.out) Try.underlying27 rfl IN.out ?_;simp only [Act.put,List.setIfInBounds_toArray,List.set_cons_zero,List.set_cons_succ])
        | (refine wpQuiet_step (fun K hK=>?_)
           go_simp
           first
            | (refine hK _ ?_;clear hK K)
            | (apply Exists.intro
               refine ⟨fun w__ hx__=>?_,hK _ ?_⟩
               · have o11__:=Ext.some hx__ o11;first | exact rfl | (go_simp;done) | (go_simp;exact rfl)
               clear hK K)))
       refine wpQuiet_nil ?_
       intro w1 hx1
       go_wp2_with fail
       go_meet
       exact ⟨rfl,hx1⟩
     | false =>
       have HOT:=Lib.hid (RN.out.st hg)
       have EO:=Lib.hid (HOT.out ▸ EN.out:ETask.rel (fun b=>b∈F11) wc cn t)
       cases hw:waits t with
       | true =>
         have s6:(o.state == 6)=false:=by
          have:=HOT.out
          rw [this]
          simp only [waits,Bool.and_eq_true,Bool.or_eq_true,decide_eq_true_eq] at hw
          rcases hw.2 with h | h <;> rw [h] <;> rfl
         clear hg hw
         refine wp_region_ext (by kernel_rfl) (by kernel_rfl) ?_
         repeat (
          first
          | (refine wpQuiet_load (by rfl) 27 _ rfl bm (om+k * 14) rfl cm _ (fun w__ hx__=>hx__.range RM.out) Try.underlying27 rfl IM.out ?_;simp only [Act.put,List.setIfInBounds_toArray,List.set_cons_zero,List.set_cons_succ])
          | (refine wpQuiet_load (by rfl) 27 _ rfl bo (oo+k * 14) rfl cn _ (fun w__ hx__=>hx__.range RN2.out) Try.underlying27 rfl IN.out ?_;simp only [Act.put,List.setIfInBounds_toArray,List.set_cons_zero,List.set_cons_succ])
          | (refine wpQuiet_step (fun K hK=>?_)
             go_simp
             first
              | (refine hK _ ?_;clear hK K)
              | (apply Exists.intro
                 refine ⟨fun w__ hx__=>?_,hK _ ?_⟩
                 · have o11__:=Ext.some hx__ o11;first | exact rfl | (go_simp;done) | (go_simp;exact rfl) | (go_at_call 10;exact ext_of hx__ (lwTask_same t cn cm _ (ETask.keep (hx__.same _) EO.out) (ETask.keep (hx__.same _) EM.out)))
                 clear hK K)))
         refine wpQuiet_nil ?_
         intro w1 hx1
         go_wp2_with fail
         go_meet
         exact ⟨rfl,hx1⟩
       | false =>
         clear hg hw
         refine wp_region_ext (by kernel_rfl) (by kernel_rfl) ?_
         repeat (
          first
          | (refine wpQuiet_load (by rfl) 27 _ rfl bm (om+k * 14) rfl cm _ (fun w__ hx__=>hx__.range RM.out) Try.underlying27 rfl IM.out ?_;simp only [Act.put,List.setIfInBounds_toArray,List.set_cons_zero,List.set_cons_succ])
          | (refine wpQuiet_load (by rfl) 27 _ rfl bo (oo+k * 14) rfl cn _ (fun w__ hx__=>hx__.range RN2.out) Try.underlying27 rfl IN.out ?_;simp only [Act.put,List.setIfInBounds_toArray,List.set_cons_zero,List.set_cons_succ])
          | (refine wpQuiet_step (fun K hK=>?_)
             go_simp
             first
              | (refine hK _ ?_;clear hK K)
              | (apply Exists.intro
                 refine ⟨fun w__ hx__=>?_,hK _ ?_⟩
                 · have o11__:=Ext.some hx__ o11;first | exact rfl | (go_simp;done) | (go_simp;exact rfl) | (go_at_call 10;exact ext_of hx__ (lwTask_same t cn cm _ (ETask.keep (hx__.same _) EO.out) (ETask.keep (hx__.same _) EM.out)))
                 clear hK K)))
         refine wpQuiet_nil ?_
         intro w1 hx1
         go_wp2_with fail
         go_meet
         exact ⟨rfl,hx1⟩
    case rest =>
    obtain ⟨rfl,hx24⟩:=hcut
    have X24:Hid (Ext w11 wc):=Lib.hid (X20.out.trans hx24)
    have BX24:=Lib.hid (BX.out.ext hx24)
    clear hx24
    go_upto_region 25 with fail
    go_cut [217] from 114 to 217 (fun c' wx=>c'=.bool false∧Ext wc wx)
    case first=>as_aux_lemma =>
     obtain ⟨cn,rn,en,in_⟩:∃ cs:List Value,wc.rangeAt bo (oo+k * 14) cs∧ETask.rel (fun b=>b∈F11) wc cs o∧(Try.prog.info? 27).map (·.size)=some cs.length:=⟨_,X24.out.range HCO.out,ETask.keep (X24.out.same _) HEO.out,by kernel_rfl⟩
     have RN2:=Lib.hid rn
     have EN:=Lib.hid en
     have IN:=Lib.hid in_
     clear rn en in_
     have o9:wc.cell? ⟨bo,oo+k * 14+9,none⟩=some (.int .i64 o.after):=X24.out.some (HCO.out 9 _ rfl)
     have o11:wc.cell? ⟨bo,oo+k * 14+11,none⟩=some (.int .i64 o.state):=X24.out.some (HCO.out 11 _ rfl)
     have x11:wc.cell? ⟨X,11,none⟩=some (.int .i64 wv.state):=BX24.out.cell 11
     have HE:Hid (taskReady os o=((o.state == 1) && ((o.after == 0) || (wv.state == 4)))):=Lib.hid RN.out.rd
     have HRY:Hid (∀ (r:Bool),taskReady os o=r→∀ T,Ext wc T→Calls Try.prog 20 #[.slice (some ⟨bo,oo,none⟩) os.length co,.agg cn.toArray] T fun e w'=>e=.returned (.bool r)∧Ext T w'):=Lib.hid fun r hr T hx=>hr ▸ taskReady_any os o _ cn T (O1.out.ext (X24.out.trans hx)) (ETask.keep (hx.same _) EN.out)
     cases es:(o.state == 1) with
     | false =>
       have HR:Hid (taskReady os o=false):=Lib.hid (by rw [HE.out,es];rfl)
       refine wp_region_ext (by kernel_rfl) (by kernel_rfl) ?_
       repeat (
        first
        | (refine wpQuiet_load (by rfl) 27 _ rfl bo (oo+k * 14) rfl cn _ (fun w__ hx__=>hx__.range RN2.out) Try.underlying27 rfl IN.out ?_;simp only [Act.put,List.setIfInBounds_toArray,List.set_cons_zero,List.set_cons_succ])
        | (refine wpQuiet_step (fun K hK=>?_)
           go_simp
           first
            | (refine hK _ ?_;clear hK K)
            | (apply Exists.intro
               refine ⟨fun w__ hx__=>?_,hK _ ?_⟩
               · have o9__:=Ext.some hx__ o9;have o11__:=Ext.some hx__ o11;have x11__:=Ext.some hx__ x11;first | exact rfl | (go_simp;done) | (go_simp;exact rfl) | (go_at_call 20;exact ext_of hx__ (HRY.out _ HR.out _ hx__))
               clear hK K)))
       refine wpQuiet_nil ?_
       intro w1 hx1
       go_wp2_with fail
       go_meet
       exact ⟨rfl,hx1⟩
     | true =>
       cases ea:(o.after == 0) with
       | true =>
         have HR:Hid (taskReady os o=true):=Lib.hid (by rw [HE.out,es,ea];rfl)
         refine wp_region_ext (by kernel_rfl) (by kernel_rfl) ?_
         repeat (
          first
          | (refine wpQuiet_load (by rfl) 27 _ rfl bo (oo+k * 14) rfl cn _ (fun w__ hx__=>hx__.range RN2.out) Try.underlying27 rfl IN.out ?_;simp only [Act.put,List.setIfInBounds_toArray,List.set_cons_zero,List.set_cons_succ])
          | (refine wpQuiet_step (fun K hK=>?_)
             go_simp
             first
              | (refine hK _ ?_;clear hK K)
              | (apply Exists.intro
                 refine ⟨fun w__ hx__=>?_,hK _ ?_⟩
                 · have o9__:=Ext.some hx__ o9;have o11__:=Ext.some hx__ o11;have x11__:=Ext.some hx__ x11;first | exact rfl | (go_simp;done) | (go_simp;exact rfl) | (go_at_call 20;exact ext_of hx__ (HRY.out _ HR.out _ hx__))
                 clear hK K)))
         refine wpQuiet_nil ?_
         intro w1 hx1
         go_wp2_with fail
         go_meet
         exact ⟨rfl,hx1⟩
       | false =>
         cases ew:(wv.state == 4) with
         | true =>
           have HR:Hid (taskReady os o=true):=Lib.hid (by rw [HE.out,es,ea,ew];rfl)
           refine wp_region_ext (by kernel_rfl) (by kernel_rfl) ?_
           repeat (
            first
            | (refine wpQuiet_load (by rfl) 27 _ rfl bo (oo+k * 14) rfl cn _ (fun w__ hx__=>hx__.range RN2.out) Try.underlying27 rfl IN.out ?_;simp only [Act.put,List.setIfInBounds_toArray,List.set_cons_zero,List.set_cons_succ])
            | (refine wpQuiet_step (fun K hK=>?_)
               go_simp
               first
                | (refine hK _ ?_;clear hK K)
                | (apply Exists.intro
                   refine ⟨fun w__ hx__=>?_,hK _ ?_⟩
                   · have o9__:=Ext.some hx__ o9;have o11__:=Ext.some hx__ o11;have x11__:=Ext.some hx__ x11;first | exact rfl | (go_simp;done) | (go_simp;exact rfl) | (go_at_call 20;exact ext_of hx__ (HRY.out _ HR.out _ hx__))
                   clear hK K)))
           refine wpQuiet_nil ?_
           intro w1 hx1
           go_wp2_with fail
           go_meet
           exact ⟨rfl,hx1⟩
         | false =>
           have HR:Hid (taskReady os o=false):=Lib.hid (by rw [HE.out,es,ea,ew];rfl)
           refine wp_region_ext (by kernel_rfl) (by kernel_rfl) ?_
           repeat (
            first
            | (refine wpQuiet_load (by rfl) 27 _ rfl bo (oo+k * 14) rfl cn _ (fun w__ hx__=>hx__.range RN2.out) Try.underlying27 rfl IN.out ?_;simp only [Act.put,List.setIfInBounds_toArray,List.set_cons_zero,List.set_cons_succ])
            | (refine wpQuiet_step (fun K hK=>?_)
               go_simp
               first
                | (refine hK _ ?_;clear hK K)
                | (apply Exists.intro
                   refine ⟨fun w__ hx__=>?_,hK _ ?_⟩
                   · have o9__:=Ext.some hx__ o9;have o11__:=Ext.some hx__ o11;have x11__:=Ext.some hx__ x11;first | exact rfl | (go_simp;done) | (go_simp;exact rfl) | (go_at_call 20;exact ext_of hx__ (HRY.out _ HR.out _ hx__))
                   clear hK K)))
           refine wpQuiet_nil ?_
           intro w1 hx1
           go_wp2_with fail
           go_meet
           exact ⟨rfl,hx1⟩
    case rest =>
    obtain ⟨rfl,hx26⟩:=hcut
    have X26:Hid (Ext w11 wc):=Lib.hid (X24.out.trans hx26)
    clear hx26
    go_wp2_with fail
    exact ⟨⟨k+1,by omega,by go_num,X26.out⟩,by simp [intOf];omega⟩
  · have hk:k=os.length:=by omega
    subst hk
    have HR2:Hid (∀ T,Ext w11 T→Calls Try.prog 14 #[.slice Ao os.length co] T (RetO OTask 27 os T)):=Lib.hid fun T hT=>by
     have:=orphans_any os _ T (O1.out.ext hT)
     rw [HOS.out,again] at this
     rw [HOS.out]
     exact this
    by_cases h0:os.length=0
    · go_wp2_with fail
      go_ret
      exact ⟨rfl,HX11.out.trans HX.out⟩
    · go_wp2_with (first
       | (go_at_call 14;(with_reducible refine (HR2.out _ HX.out).mono ?_);rintro e w16 ⟨v16,F16,rfl,o16,f16,x16⟩;obtain ⟨A16,c16,rfl,-⟩:=o16.form;have X16:Hid (Ext w11 w16):=Lib.hid (HX.out.trans x16);have O16:=Lib.hid o16.rd;clear o16 f16 x16)
       | (go_at_call 15;(with_reducible refine (lwTasks_same os _ _ _ O16.out (O1.out.ext X16.out)).mono ?_);rintro e w17 ⟨rfl,x17⟩;have X17:Hid (Ext w11 w17):=Lib.hid (X16.out.trans x17);clear x17))
      go_ret
      exact ⟨rfl,HX11.out.trans X17.out⟩
end Go.Proofs.Ytlonjlaecaemgaa

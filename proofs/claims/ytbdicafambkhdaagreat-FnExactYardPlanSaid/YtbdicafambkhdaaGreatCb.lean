/- What the laws YardPlan need, and no others. Laid by wip/split.py. -/
import Derived.Test.YtbdicafambkhdaaGreatLabels
import Derived.Laws.AppendOwn
import Derived.OwnWalk
import Derived.Test.YtbdicafambkhdaaGreatClones
import Derived.Test.YtbdicafambkhdaaGreatRows
import Derived.Lib.LazyBuf
import Derived.Test.YtbdicafambkhdaaGreatGSmall
import Derived.Laws.IdiomStrings
import Derived.Laws.BytesArg
import Derived.Test.YtbdicafambkhdaaGreatInsSpan
import Derived.Test.YtbdicafambkhdaaGreatGYardT
import Derived.Test.YtbdicafambkhdaaGreatPlanI
import Derived.Test.YtbdicafambkhdaaGreatOrderI
import Derived.Test.YtbdicafambkhdaaGreatPlanT
import Derived.Deep.RegionHeld3
import Derived.Test.YtbdicafambkhdaaGreatSLabelW
import Derived.Test.YtbdicafambkhdaaGreatCopies
import Derived.Test.YtbdicafambkhdaaGreatTaskRS
import Derived.Laws.BitsAllLaws
import Derived.Test.YtbdicafambkhdaaGreatGYardE
import Derived.Test.YtbdicafambkhdaaGreatSUpto
set_option maxHeartbeats 16000000
set_option maxRecDepth 100000
namespace Go.Proofs.YtbdicafambkhdaaGreat
open Go.Proofs.Tryz
open Go.RowKit
section
variable {α:Type} [Inhabited α] {E:Elem α} {O:Own E} {T:TypeId} {w w':World} {v:Value} {l:List α} {F:List Nat}
end
section
variable {α:Type} [Inhabited α] {E:Elem α} {O:Own E} {T:TypeId} {w w':World} {l ys:List α} {P:Program}
end
section
variable {α:Type} [Inhabited α] {E:Elem α} {O:Own E} {T:TypeId} {w:World} {l ys:List α} {P:Program}
end
section
variable {α:Type} [Inhabited α] {E:Elem α} {T:TypeId} {w:World} {l ys:List α} {P:Program} {hfl:∀ {S S':Nat→Prop} {w w':World} {cs x},E.rel S w cs x→E.rel S' w' cs x}
end
section
variable {T:TypeId} {B o n:Nat} {w w':World}
end
section
variable {α:Type} [Inhabited α] {E:Elem α} {O:Own E} {T:TypeId} {w:World} {l:List α} {v:Value} {F:List Nat}
end
theorem Jf {w:World} {B o:Nat} {a a' b:List Value} (h:w.rangeAt B o (a ++ b)) (hl:a'.length=a.length) (ht:w.there B o a'.length):(w.setCells B o a').rangeAt B o (a' ++ b):=by
 intro j u hj;by_cases hlt:j < a'.length
 · rw [List.getElem?_append_left hlt] at hj;exact World.rangeAt_setCells_same w B o a' ht j u hj
 · rw [List.getElem?_append_right (by omega)] at hj;rw [World.cell?_setCells_out B a' o w ⟨B,o+j,none⟩ (fun _ _=>by simp only;omega)];exact h j u (by rw [List.getElem?_append_right (by omega),← hl];exact hj)
section
variable {α:Type} [Inhabited α] {E:Elem α} {O:Own E} {w w1:World} {B:Nat} {T:TypeId} {l:List α} {k:Nat}
end
def wC:Own ENode where
 own:=fun w cs x F=>∃ v1,cs=lG x v1∧JX x∧aW ji 142 w v1 x.books F
 rel:=by rintro _ _ _ _ ⟨v1,rfl,hf,h1⟩;exact ⟨_,rfl,hf,h1.rd⟩
 keep:=by rintro _ _ _ _ _ hb ⟨v1,rfl,hf,h1⟩;exact ⟨_,rfl,hf,h1.keep hb⟩
 lt:=by rintro _ _ _ _ ⟨_,rfl,_,h1⟩;exact h1.lt
 nodup:=by rintro _ _ _ _ ⟨_,rfl,_,h1⟩;exact h1.nodup
def FQ:Own dX:=lF dX fun h=>h
def sJ:Own fA:=lF fA fun h=>h
def nZ:Own dJ:=lF dJ fun h=>h
def ae9:Own gV where
 own:=fun w cs x F=>∃ v1 v2 v3 F1 F2 F3,cs=dN x v1 v2 v3∧iC x∧aW (pX eX 47) 134 w v1 x.nodes F1∧aW sJ 214 w v2 x.pairs F2∧aW nZ 205 w v3 x.ay F3∧F=F1 ++ (F2 ++ F3)∧F.Nodup
 rel:=by rintro _ _ _ _ ⟨v1,v2,v3,F1,F2,F3,rfl,hf,h1,h2,h3,rfl,_⟩;exact ⟨_,_,_,rfl,hf,h1.rd.sub (fun b hb=>by simp [hb]),h2.rd.sub (fun b hb=>by simp [hb]),h3.rd.sub (fun b hb=>by simp [hb])⟩
 keep:=by rintro _ _ _ _ _ hb ⟨v1,v2,v3,F1,F2,F3,rfl,hf,h1,h2,h3,rfl,hn⟩;exact ⟨_,_,_,_,_,_,rfl,hf,h1.keep (fun b hm=>hb b (by simp [hm])),h2.keep (fun b hm=>hb b (by simp [hm])),h3.keep (fun b hm=>hb b (by simp [hm])),rfl,hn⟩
 lt:=by rintro _ _ _ _ ⟨v1,v2,v3,F1,F2,F3,rfl,_,h1,h2,h3,rfl,_⟩ b hb;simp only [List.mem_append] at hb;rcases hb with hb | hb | hb <;> first | exact h1.lt b hb | exact h2.lt b hb | exact h3.lt b hb
 nodup:=by rintro _ _ _ _ ⟨v1,v2,v3,F1,F2,F3,rfl,_,_,_,_,rfl,hn⟩;exact hn
attribute [local irreducible] wpQuiet
theorem Xg {S:Nat→Prop} (x:Label) (cs:List Value) (w:World) (h:aH.rel S w cs x) (_hs:qW x) :
 Calls prog 10 #[.agg cs.toArray] w (yF eX x w):=by
 obtain ⟨rfl,hi⟩:=h;have HI:=ah hi;clear hi;simp only [aQ];go_enter func10,ntmps10;go_wp2;exact bodyPost_ret (v:=.agg (Rl x)) (by simp [results,results10,go_sem]) rfl ⟨_,[],rfl,⟨⟨rfl,HI.out⟩,rfl⟩,fun b hb=>(by cases hb),(((Ext.refl _).alloc _).alloc _).alloc _⟩
theorem TW {S:Nat→Prop} (l:List Int) (v:Value) (w:World) (h:Rd fC S w v l) (hs:D6 l) :
 Calls prog 187 #[v] w (kX jD 2 l w):=by
 have hn:l.length≤1048576:=hs.1;have HS:=ah hs;obtain ⟨A,c,rfl,h1,h2,hk⟩:=h.open_;unfold maxLen at h2;have HK:=ah hk;clear hk h hs;have hmk:=Qn l.length hn;go_enter func187,ntmps187;go_wp2_with fail;have hp0:=jY.new (O:=jD) (l:=l) (T:=2) w (madeCells #[.int .i64 0] (l.length * 1)) (by rw [size_madeCells];rfl);have hx0:Ext w (w.alloc (.cells (madeCells #[.int .i64 0] (l.length * 1)) 2)):=(Ext.refl w).alloc _;simp only [Nat.mul_one] at hp0 hx0 ⊢;generalize hB:w.heap.size=B at hp0 ⊢;have HB:=ah hB;clear hB;go_loopw [4] (fun i w'=>∃ k:Nat,k≤l.length∧i=.int .i64 k∧jY jD w' B 2 l k∧Ext w w') (fun i _=>l.length - (intOf i).toNat);case atStart=>exact ⟨0,by omega,rfl,hp0,hx0⟩
 case round =>
  obtain ⟨k,hk1,rfl,hp,hx⟩:=hrel;clear hp0 hx0;by_cases hlt:k < l.length
  · obtain ⟨b,o,cs,rfl,hb,hr,hc⟩:=HK.out k hlt;obtain ⟨rfl,hi⟩:=hr;have c0:=Ext.some hx (hc 0 _ rfl);have ht:=hp.there hlt 0 (by decide);obtain ⟨u,hu⟩:=Option.isSome_iff_exists.1 ht.1;have hf:=ht.2;have HI:=ah hi;have HP:=ah hp;simp only [fC,Nat.mul_one,Nat.add_zero] at c0 hu hf;clear hc ht hi hp hmk;go_wp2_with fail;refine ⟨⟨k+1,by omega,by go_num,?_,hx.setCell (p:=⟨B,k,none⟩) (by rw [HB.out];exact Nat.le_refl _) _⟩,?_⟩
    · have:=HP.out.step (Ext.refl _) (cs:=[.int .i64 (nth l k)]) (G:=[]) hlt ⟨⟨rfl,HI.out⟩,rfl⟩ (fun b hb=>by cases hb);simpa [World.setCells,fC] using this
    simp [intOf];omega
  · obtain rfl:k=l.length:=by omega
    go_wp2_with fail;go_ret;obtain ⟨F,hF,hge⟩:=hp.done (by unfold maxLen;omega);exact ⟨_,F,rfl,hF,fun b hb=>by rw [HB.out];exact hge b hb,hx⟩
theorem aaz {S:Nat→Prop} (x:Pair) (cs:List Value) (w:World) (h:fA.rel S w cs x) (_hs:XJ x) :
 Calls prog 184 #[.agg cs.toArray] w (yF sJ x w):=by
 obtain ⟨rfl,hi⟩:=h;have HI:=ah hi;clear hi;simp only [fM];go_enter func184,ntmps184;go_wp2_with fail;obtain ⟨W,B,hW,hB,hx0,a0,r0,o0⟩:=lQ w (Rp x) Zr.p Zr.p 217 214 214;rw [← hW,← hB];have HB:=ah hB;clear hW hB;have a_0:=ah a0;have wL:=ah r0;have sD:=ah o0;have qC:=ah hx0;clear a0 r0 o0 hx0;refine (gJ x.from_ [x.from_.level,x.from_.set] _ (S:=S) ⟨rfl,(by have hf:=HI.out;simp only [nN] at hf;simp only [aP,hf,and_self])⟩ trivial).mono ?_;rintro e w1 ⟨_,rfl,⟨rfl,_⟩,hx⟩;simp only [aQ];have a_1:Hid (aF w1 B 217 (Rp x)):=ah (aF.ext (by repeat (first | with_reducible exact a_0.out | refine aF.far ?_ (by simp <;> omega) _)) hx);have wM:Hid (aF w1 (B+1) 214 Zr.p):=ah (aF.ext (by repeat (first | with_reducible exact wL.out | refine aF.far ?_ (by simp <;> omega) _)) hx);have oq:Hid (aF w1 (B+1+1) 214 Zr.p):=ah (aF.ext (by simpa using sD.out) hx);have vP:Hid (Ext w w1):=ah (Ext.trans (by repeat (first | with_reducible exact qC.out | refine Ext.setCell ?_ (by show w.heap.size≤B+1+1;rw [← HB.out];omega) _)) hx);clear hx;have ac:=a_1.out.cell;have oc:=oq.out.cell;have of:=oq.out.frozen;clear a_0 wL sD qC;go_wp2_with fail;refine (gJ x.jA [x.jA.level,x.jA.set] _ (S:=S) ⟨rfl,(by have hf:=HI.out;simp only [nN] at hf;simp only [aP,hf,and_self])⟩ trivial).mono ?_;rintro e w2 ⟨_,rfl,⟨rfl,_⟩,hx⟩;simp only [aQ];have a_2:Hid (aF w2 B 217 (Rp x)):=ah (aF.ext (by repeat (first | with_reducible exact a_1.out | refine aF.far ?_ (by simp <;> omega) _)) hx);have Ns:Hid (aF w2 (B+1) 214 Zr.p):=ah (aF.ext (by repeat (first | with_reducible exact wM.out | refine aF.far ?_ (by simp <;> omega) _)) hx);have vV:Hid (aF w2 (B+1+1) 214 #[x.from_.level,x.from_.set,.int .i64 0,.int .i64 0,.int .i64 0]):=ah (aF.ext (by simpa using ((oq.out.bQ 0 (.int .i64 x.from_.level)).bQ 1 (.int .i64 x.from_.set))) hx);have Gf:Hid (Ext w w2):=ah (Ext.trans (by repeat (first | with_reducible exact vP.out | refine Ext.setCell ?_ (by show w.heap.size≤B+1+1;rw [← HB.out];omega) _)) hx);clear hx ac oc of;have ac:=a_2.out.cell;have oc:=vV.out.cell;have of:=vV.out.frozen;clear a_1 wM oq vP;go_wp2_with (first
  | (refine wpList_load_mid rfl 214 _ rfl (B+1+1) 0 rfl [x.from_.level,x.from_.set,x.jA.level,x.jA.set,x.rate] _ ?hl underlying214 rfl (by kernel_rfl) ?_)
  | (refine wpList_store_mid rfl 214 _ _ rfl (B+1) 0 (Rp x) rfl rfl ?ht (by kernel_rfl) ?ho ?_))
 case hl=>exact aF.range (t:=214) (cs:=Rp x) (by simpa using (((vV.out.bQ 2 (.int .i64 x.jA.level)).bQ 3 (.int .i64 x.jA.set)).bQ 4 (.int .i64 x.rate)))
 case ht=>exact aF.there (t:=214) (cs:=Zr.p) (by repeat (first | with_reducible exact Ns.out | refine aF.far ?_ (by simp <;> omega) _))
 case ho=>exact all_oneCell_toArray (cs:=Rp x) (by simp [Value.oneCell'])
 exact bodyPost_ret (v:=.agg (Rp x)) (fB results184 rfl (aF.nH (t:=214) (cs:=Zr.p) (vs:=(Rp x)) (by repeat (first | with_reducible exact Ns.out | refine aF.far ?_ (by simp <;> omega) _)) rfl) underlying214 rfl (by kernel_rfl)) rfl ⟨_,[],rfl,⟨⟨rfl,HI.out⟩,rfl⟩,fun b hb=>(by cases hb),aZ (by rw [← HB.out];omega) _ _ _ (by repeat (first | with_reducible exact Gf.out | refine Ext.setCell ?_ (by show w.heap.size≤B+1+1;rw [← HB.out];omega) _))⟩
theorem Xm {S:Nat→Prop} (x:jk) (cs:List Value) (w:World) (h:dJ.rel S w cs x) (_hs:Rn x) :
 Calls prog 185 #[.agg cs.toArray] w (yF nZ x w):=by
 obtain ⟨rfl,hi⟩:=h;have HI:=ah hi;clear hi;simp only [mY];go_enter func185,ntmps185;go_wp2_with fail;obtain ⟨W,B,hW,hB,hx0,a0,r0,o0⟩:=lQ w (Rq x) Zr.q Zr.q 220 205 205;rw [← hW,← hB];have HB:=ah hB;clear hW hB;have a_0:=ah a0;have wL:=ah r0;have sD:=ah o0;have qC:=ah hx0;clear a0 r0 o0 hx0;refine (gJ x.label [x.label.level,x.label.set] _ (S:=S) ⟨rfl,(by have hf:=HI.out;simp only [rE] at hf;simp only [aP,hf,and_self])⟩ trivial).mono ?_;rintro e w1 ⟨_,rfl,⟨rfl,_⟩,hx⟩;simp only [aQ];have a_1:Hid (aF w1 B 220 (Rq x)):=ah (aF.ext (by repeat (first | with_reducible exact a_0.out | refine aF.far ?_ (by simp <;> omega) _)) hx);have wM:Hid (aF w1 (B+1) 205 Zr.q):=ah (aF.ext (by repeat (first | with_reducible exact wL.out | refine aF.far ?_ (by simp <;> omega) _)) hx);have oq:Hid (aF w1 (B+1+1) 205 Zr.q):=ah (aF.ext (by simpa using sD.out) hx);have vP:Hid (Ext w w1):=ah (Ext.trans (by repeat (first | with_reducible exact qC.out | refine Ext.setCell ?_ (by show w.heap.size≤B+1+1;rw [← HB.out];omega) _)) hx);clear hx;have ac:=a_1.out.cell;have oc:=oq.out.cell;have of:=oq.out.frozen;clear a_0 wL sD qC;go_wp2_with (first
  | (refine wpList_load_mid rfl 205 _ rfl (B+1+1) 0 rfl [x.label.level,x.label.set,x.most] _ ?hl underlying205 rfl (by kernel_rfl) ?_)
  | (refine wpList_store_mid rfl 205 _ _ rfl (B+1) 0 (Rq x) rfl rfl ?ht (by kernel_rfl) ?ho ?_))
 case hl=>exact aF.range (t:=205) (cs:=Rq x) (by simpa using (((oq.out.bQ 0 (.int .i64 x.label.level)).bQ 1 (.int .i64 x.label.set)).bQ 2 (.int .i64 x.most)))
 case ht=>exact aF.there (t:=205) (cs:=Zr.q) (by repeat (first | with_reducible exact wM.out | refine aF.far ?_ (by simp <;> omega) _))
 case ho=>exact all_oneCell_toArray (cs:=Rq x) (by simp [Value.oneCell'])
 exact bodyPost_ret (v:=.agg (Rq x)) (fB results185 rfl (aF.nH (t:=205) (cs:=Zr.q) (vs:=(Rq x)) (by repeat (first | with_reducible exact wM.out | refine aF.far ?_ (by simp <;> omega) _)) rfl) underlying205 rfl (by kernel_rfl)) rfl ⟨_,[],rfl,⟨⟨rfl,HI.out⟩,rfl⟩,fun b hb=>(by cases hb),aZ (by rw [← HB.out];omega) _ _ _ (by repeat (first | with_reducible exact vP.out | refine Ext.setCell ?_ (by show w.heap.size≤B+1+1;rw [← HB.out];omega) _))⟩
theorem Ua {S:Nat→Prop} (l:List Label) (v:Value) (w:World) (h:Rd aH S w v l) (hs:D7 l) :
 Calls prog 183 #[v] w (kX eX 47 l w):=by
 have hn:l.length≤1048576:=hs.1;have HS:=ah hs;obtain ⟨A,c,rfl,h1,h2,hk⟩:=h.open_;unfold maxLen at h2;have HK:=ah hk;clear hk h hs;have hmk:=Qo l.length hn;go_enter func183,ntmps183;go_wp2_with fail;have hp0:=jY.new (O:=eX) (l:=l) (T:=47) w (madeCells Zr.l (l.length * 2)) (by rw [size_madeCells];rfl);have hx0:Ext w (w.alloc (.cells (madeCells Zr.l (l.length * 2)) 47)):=(Ext.refl w).alloc _;generalize hB:w.heap.size=B at hp0 ⊢;have HB:=ah hB;clear hB;go_loopw [4] (fun i w'=>∃ k:Nat,k≤l.length∧i=.int .i64 k∧jY eX w' B 47 l k∧Ext w w') (fun i _=>l.length - (intOf i).toNat);case atStart=>exact ⟨0,by omega,rfl,hp0,hx0⟩
 case round =>
  obtain ⟨k,hk1,rfl,hp,hx⟩:=hrel;clear hp0 hx0;by_cases hlt:k < l.length
  · obtain ⟨b,o,cs,rfl,hb,hr,hc⟩:=HK.out k hlt;have HC:=ah (hx.range hc);have HI:Hid ((prog.info? 33).map (·.size)=some cs.length):=ah (by rw [aH.len hr];kernel_rfl);have HR:=ah (aH.keep (hx.same S) hr);have HP:=ah hp;have HM:=ah (HS.out.2 (nth l k) (bG hlt));clear hc hr hmk hp;go_wp2_with (first
     | (go_at_call 10;refine (Xg (nth l k) cs _ HR.out HM.out).mono ?_;rintro e w1 ⟨cs',G1,rfl,hr1,hG1,hx1⟩;have HR1:=ah hr1;have Xy:=ah hG1;clear hr1 hG1)
     | (refine wpList_load_mid rfl 33 _ rfl b (o+k * 2) rfl cs _ HC.out underlying33 rfl HI.out ?_)
     | (refine wpList_store_mid rfl 47 _ _ rfl B (k * 2) _ rfl rfl ?ht ?hi ?ho ?_))
    case ht=>have:=(HP.out.ext hx1).there hlt;rw [List.size_toArray,aH.len (eX.rel HR1.out)];exact this
    case hi=>rw [List.size_toArray,aH.len (eX.rel HR1.out)];kernel_rfl
    case ho=>exact all_oneCell_toArray (aH.one (eX.rel HR1.out))
    refine ⟨⟨k+1,by omega,by go_num,HP.out.step hx1 hlt HR1.out Xy.out,aZ (by rw [HB.out];exact Nat.le_refl _) _ _ _ (hx.trans hx1)⟩,?_⟩;simp [intOf];omega
  · obtain rfl:k=l.length:=by omega
    go_wp2_with fail;go_ret;obtain ⟨F,hF,hge⟩:=hp.done (by unfold maxLen;omega);exact ⟨_,F,rfl,hF,fun b hb=>by rw [HB.out];exact hge b hb,hx⟩
theorem PS {S:Nat→Prop} (l:List (List Label)) (v:Value) (w:World) (h:Rd (gU aH) S w v l) (hs:zX l) :
 Calls prog 93 #[v] w (kX (pX eX 47) 134 l w):=by
 have hn:l.length≤1048576:=hs.1;have HS:=ah hs;obtain ⟨A,c,rfl,h1,h2,hk⟩:=h.open_;unfold maxLen at h2;have HK:=ah hk;clear hk h hs;have hmk:=MR l.length hn;go_enter func93,ntmps93;go_wp2_with fail;have hp0:=jY.new (O:=(pX eX 47)) (l:=l) (T:=134) w (madeCells #[.slice none 0 0] (l.length * 1)) (by rw [size_madeCells];rfl);have hx0:Ext w (w.alloc (.cells (madeCells #[.slice none 0 0] (l.length * 1)) 134)):=(Ext.refl w).alloc _;simp only [Nat.mul_one] at hp0 hx0 ⊢;generalize hB:w.heap.size=B at hp0 ⊢;have HB:=ah hB;clear hB;go_loopw [4] (fun i w'=>∃ k:Nat,k≤l.length∧i=.int .i64 k∧jY (pX eX 47) w' B 134 l k∧Ext w w') (fun i _=>l.length - (intOf i).toNat);case atStart=>exact ⟨0,by omega,rfl,hp0,hx0⟩
 case round =>
  obtain ⟨k,hk1,rfl,hp,hx⟩:=hrel;clear hp0 hx0;by_cases hlt:k < l.length
  · obtain ⟨b,o,cs,rfl,hb,hr,hc⟩:=HK.out k hlt;obtain ⟨v,rfl,hr⟩:=hr;have c0:=Ext.some hx (hc 0 _ rfl);have ht:=hp.there hlt 0 (by decide);obtain ⟨u,hu⟩:=Option.isSome_iff_exists.1 ht.1;have HR:=ah (hr.ext hx);have HP:=ah hp;have HM:=ah (HS.out.2 (nth l k) (bG hlt));simp only [gU,Nat.mul_one,Nat.add_zero] at c0 hu;clear hc ht hp hmk hr hu;go_wp2_with fail;refine (Ua (nth l k) v _ HR.out HM.out).mono ?_;rintro e w1 ⟨v1,G1,rfl,hr1,hG1,hx1⟩;have Xy:=ah hG1;clear hG1;obtain ⟨A1,c1,rfl,-⟩:=hr1.form;have HR1:=ah hr1;have ht:=(HP.out.ext hx1).there hlt 0 (by decide);obtain ⟨u,hu⟩:=Option.isSome_iff_exists.1 ht.1;have hf:=ht.2;simp only [gU,Nat.mul_one,Nat.add_zero] at hu hf;clear hr1 ht;go_wp2_with fail;refine ⟨⟨k+1,by omega,by go_num,?_,(hx.trans hx1).setCell (p:=⟨B,k,none⟩) (by rw [HB.out];exact Nat.le_refl _) _⟩,?_⟩
    · have:=HP.out.step hx1 (cs:=[.slice A1 (nth l k).length c1]) hlt ⟨_,rfl,HR1.out⟩ Xy.out;simpa [World.setCells,gU] using this
    simp [intOf];omega
  · obtain rfl:k=l.length:=by omega
    go_wp2_with fail;go_ret;obtain ⟨F,hF,hge⟩:=hp.done (by unfold maxLen;omega);exact ⟨_,F,rfl,hF,fun b hb=>by rw [HB.out];exact hge b hb,hx⟩
theorem Xk {S:Nat→Prop} (l:List Pair) (v:Value) (w:World) (h:Rd fA S w v l) (hs:JZ l) :
 Calls prog 94 #[v] w (kX sJ 214 l w):=by
 have hn:l.length≤1048576:=hs.1;have HS:=ah hs;obtain ⟨A,c,rfl,h1,h2,hk⟩:=h.open_;unfold maxLen at h2;have HK:=ah hk;clear hk h hs;have hmk:=VO l.length hn;go_enter func94,ntmps94;go_wp2_with fail;have hp0:=jY.new (O:=sJ) (l:=l) (T:=214) w (madeCells Zr.p (l.length * 5)) (by rw [size_madeCells];rfl);have hx0:Ext w (w.alloc (.cells (madeCells Zr.p (l.length * 5)) 214)):=(Ext.refl w).alloc _;generalize hB:w.heap.size=B at hp0 ⊢;have HB:=ah hB;clear hB;go_loopw [4] (fun i w'=>∃ k:Nat,k≤l.length∧i=.int .i64 k∧jY sJ w' B 214 l k∧Ext w w') (fun i _=>l.length - (intOf i).toNat);case atStart=>exact ⟨0,by omega,rfl,hp0,hx0⟩
 case round =>
  obtain ⟨k,hk1,rfl,hp,hx⟩:=hrel;clear hp0 hx0;by_cases hlt:k < l.length
  · obtain ⟨b,o,cs,rfl,hb,hr,hc⟩:=HK.out k hlt;have HC:=ah (hx.range hc);have HI:Hid ((prog.info? 217).map (·.size)=some cs.length):=ah (by rw [fA.len hr];kernel_rfl);have HR:=ah (fA.keep (hx.same S) hr);have HP:=ah hp;have HM:=ah (HS.out.2 (nth l k) (bG hlt));clear hc hr hmk hp;go_wp2_with (first
     | (go_at_call 184;refine (aaz (nth l k) cs _ HR.out HM.out).mono ?_;rintro e w1 ⟨cs',G1,rfl,hr1,hG1,hx1⟩;have HR1:=ah hr1;have Xy:=ah hG1;clear hr1 hG1)
     | (refine wpList_load_mid rfl 217 _ rfl b (o+k * 5) rfl cs _ HC.out underlying217 rfl HI.out ?_)
     | (refine wpList_store_mid rfl 214 _ _ rfl B (k * 5) _ rfl rfl ?ht ?hi ?ho ?_))
    case ht=>have:=(HP.out.ext hx1).there hlt;rw [List.size_toArray,fA.len (sJ.rel HR1.out)];exact this
    case hi=>rw [List.size_toArray,fA.len (sJ.rel HR1.out)];kernel_rfl
    case ho=>exact all_oneCell_toArray (fA.one (sJ.rel HR1.out))
    refine ⟨⟨k+1,by omega,by go_num,HP.out.step hx1 hlt HR1.out Xy.out,aZ (by rw [HB.out];exact Nat.le_refl _) _ _ _ (hx.trans hx1)⟩,?_⟩;simp [intOf];omega
  · obtain rfl:k=l.length:=by omega
    go_wp2_with fail;go_ret;obtain ⟨F,hF,hge⟩:=hp.done (by unfold maxLen;omega);exact ⟨_,F,rfl,hF,fun b hb=>by rw [HB.out];exact hge b hb,hx⟩
theorem Ud {S:Nat→Prop} (l:List jk) (v:Value) (w:World) (h:Rd dJ S w v l) (hs:D8 l) :
 Calls prog 95 #[v] w (kX nZ 205 l w):=by
 have hn:l.length≤1048576:=hs.1;have HS:=ah hs;obtain ⟨A,c,rfl,h1,h2,hk⟩:=h.open_;unfold maxLen at h2;have HK:=ah hk;clear hk h hs;have hmk:=Qp l.length hn;go_enter func95,ntmps95;go_wp2_with fail;have hp0:=jY.new (O:=nZ) (l:=l) (T:=205) w (madeCells Zr.q (l.length * 3)) (by rw [size_madeCells];rfl);have hx0:Ext w (w.alloc (.cells (madeCells Zr.q (l.length * 3)) 205)):=(Ext.refl w).alloc _;generalize hB:w.heap.size=B at hp0 ⊢;have HB:=ah hB;clear hB;go_loopw [4] (fun i w'=>∃ k:Nat,k≤l.length∧i=.int .i64 k∧jY nZ w' B 205 l k∧Ext w w') (fun i _=>l.length - (intOf i).toNat);case atStart=>exact ⟨0,by omega,rfl,hp0,hx0⟩
 case round =>
  obtain ⟨k,hk1,rfl,hp,hx⟩:=hrel;clear hp0 hx0;by_cases hlt:k < l.length
  · obtain ⟨b,o,cs,rfl,hb,hr,hc⟩:=HK.out k hlt;have HC:=ah (hx.range hc);have HI:Hid ((prog.info? 220).map (·.size)=some cs.length):=ah (by rw [dJ.len hr];kernel_rfl);have HR:=ah (dJ.keep (hx.same S) hr);have HP:=ah hp;have HM:=ah (HS.out.2 (nth l k) (bG hlt));clear hc hr hmk hp;go_wp2_with (first
     | (go_at_call 185;refine (Xm (nth l k) cs _ HR.out HM.out).mono ?_;rintro e w1 ⟨cs',G1,rfl,hr1,hG1,hx1⟩;have HR1:=ah hr1;have Xy:=ah hG1;clear hr1 hG1)
     | (refine wpList_load_mid rfl 220 _ rfl b (o+k * 3) rfl cs _ HC.out underlying220 rfl HI.out ?_)
     | (refine wpList_store_mid rfl 205 _ _ rfl B (k * 3) _ rfl rfl ?ht ?hi ?ho ?_))
    case ht=>have:=(HP.out.ext hx1).there hlt;rw [List.size_toArray,dJ.len (nZ.rel HR1.out)];exact this
    case hi=>rw [List.size_toArray,dJ.len (nZ.rel HR1.out)];kernel_rfl
    case ho=>exact all_oneCell_toArray (dJ.one (nZ.rel HR1.out))
    refine ⟨⟨k+1,by omega,by go_num,HP.out.step hx1 hlt HR1.out Xy.out,aZ (by rw [HB.out];exact Nat.le_refl _) _ _ _ (hx.trans hx1)⟩,?_⟩;simp [intOf];omega
  · obtain rfl:k=l.length:=by omega
    go_wp2_with fail;go_ret;obtain ⟨F,hF,hge⟩:=hp.done (by unfold maxLen;omega);exact ⟨_,F,rfl,hF,fun b hb=>by rw [HB.out];exact hge b hb,hx⟩
theorem TT {S:Nat→Prop} (x:Config) (cs:List Value) (w:World) (h:gV.rel S w cs x) (hs:oI x) :
 Calls prog 36 #[.agg cs.toArray] w (yF ae9 x w):=by
 obtain ⟨v1,v2,v3,rfl,hi,h1,h2,h3⟩:=h;have HI:=ah hi;have H1:=ah h1;have H2:=ah h2;have H3:=ah h3;clear hi h1 h2 h3;simp only [dN];go_enter func36,ntmps36;have HS:=ah hs;clear hs;go_wp2_with fail;obtain ⟨W,B,hW,hB,hx0,a0,r0,o0⟩:=lQ w #[v1,v2,v3,x.half] Zr.c Zr.c 26 40 40;rw [← hW,← hB];have HB:=ah hB;clear hW hB;have a_0:=ah a0;have wL:=ah r0;have sD:=ah o0;have qC:=ah hx0;clear a0 r0 o0 hx0;refine (PS x.nodes v1 _ (H1.out.ext (by repeat (first | with_reducible exact qC.out | refine Ext.setCell ?_ (by show w.heap.size≤B+1+1;rw [← HB.out];omega) _))) (by have h:=HS.out;simp only [oI] at h;first | exact h | exact h.1 | exact h.2 | exact h.2.1 | exact h.2.2 | exact h.2.2.1 | exact h.2.2.2 | exact h.2.2.2.1 | exact h.2.2.2.2)).mono ?_;rintro e w1 ⟨u1,F1,rfl,q1,g1,hx⟩;obtain ⟨p1,k1,rfl,-⟩:=q1.form;have Q1:=ah q1;have L1:Hid (∀ b∈F1,B+1+1 < b):=ah (fun b hb=>Nat.lt_of_lt_of_le (by have hl:=(show aF _ _ _ _ from sD.out).lt;exact hl) (g1 b hb));clear g1;clear q1;have a_1:Hid (aF w1 B 26 #[v1,v2,v3,x.half]):=ah (aF.ext (by repeat (first | with_reducible exact a_0.out | refine aF.far ?_ (by simp <;> omega) _)) hx);have wM:Hid (aF w1 (B+1) 40 Zr.c):=ah (aF.ext (by repeat (first | with_reducible exact wL.out | refine aF.far ?_ (by simp <;> omega) _)) hx);have oq:Hid (aF w1 (B+1+1) 40 Zr.c):=ah (aF.ext (by simpa using sD.out) hx);have vP:Hid (Ext w w1):=ah (Ext.trans (by repeat (first | with_reducible exact qC.out | refine Ext.setCell ?_ (by show w.heap.size≤B+1+1;rw [← HB.out];omega) _)) hx);clear hx;have ac:=a_1.out.cell;have oc:=oq.out.cell;have of:=oq.out.frozen;clear a_0 wL sD qC;go_wp2_with fail;refine (Xk x.pairs v2 _ (H2.out.ext (by repeat (first | with_reducible exact vP.out | refine Ext.setCell ?_ (by show w.heap.size≤B+1+1;rw [← HB.out];omega) _))) (by have h:=HS.out;simp only [oI] at h;first | exact h | exact h.1 | exact h.2 | exact h.2.1 | exact h.2.2 | exact h.2.2.1 | exact h.2.2.2 | exact h.2.2.2.1 | exact h.2.2.2.2)).mono ?_;rintro e w2 ⟨u2,F2,rfl,q2,g2,hx⟩;obtain ⟨p2,k2,rfl,-⟩:=q2.form;have Q2:=ah q2;have L2:Hid (∀ b∈F2,B+1+1 < b):=ah (fun b hb=>Nat.lt_of_lt_of_le (by have hl:=(show aF _ _ _ _ from (oq.out.bQ 0 (.slice p1 x.nodes.length k1))).lt;exact hl) (g2 b hb));have agp:Hid (∀ b∈F1,b∉F2):=ah (fun b h1 h2=>by have a:=Q1.out.lt b h1;have c:=g2 b h2;(try simp only [World.setCell,Array.size_modify] at c);omega);clear g2;clear q2;have a_2:Hid (aF w2 B 26 #[v1,v2,v3,x.half]):=ah (aF.ext (by repeat (first | with_reducible exact a_1.out | refine aF.far ?_ (by simp <;> omega) _)) hx);have Ns:Hid (aF w2 (B+1) 40 Zr.c):=ah (aF.ext (by repeat (first | with_reducible exact wM.out | refine aF.far ?_ (by simp <;> omega) _)) hx);have vV:Hid (aF w2 (B+1+1) 40 #[.slice p1 x.nodes.length k1,.slice none 0 0,.slice none 0 0,.int .i64 0]):=ah (aF.ext (by simpa using (oq.out.bQ 0 (.slice p1 x.nodes.length k1))) hx);have Gf:Hid (Ext w w2):=ah (Ext.trans (by repeat (first | with_reducible exact vP.out | refine Ext.setCell ?_ (by show w.heap.size≤B+1+1;rw [← HB.out];omega) _)) hx);replace Q1:=ah (aW.ext (Q1.out.kept (G:=[B+1,B+1+1]) (by repeat (first | exact Kept.refl _ _ | refine Kept.setCell ?_ (by simp) _)) (fun b hb=>by have:=L1.out b hb;simp;omega)) hx);clear hx ac oc of;have ac:=a_2.out.cell;have oc:=vV.out.cell;have of:=vV.out.frozen;clear a_1 wM oq vP;go_wp2_with fail;refine (Ud x.ay v3 _ (H3.out.ext (by repeat (first | with_reducible exact Gf.out | refine Ext.setCell ?_ (by show w.heap.size≤B+1+1;rw [← HB.out];omega) _))) (by have h:=HS.out;simp only [oI] at h;first | exact h | exact h.1 | exact h.2 | exact h.2.1 | exact h.2.2 | exact h.2.2.1 | exact h.2.2.2 | exact h.2.2.2.1 | exact h.2.2.2.2)).mono ?_;rintro e w3 ⟨u3,F3,rfl,q3,g3,hx⟩;obtain ⟨p3,k3,rfl,-⟩:=q3.form;have Q3:=ah q3;have L3:Hid (∀ b∈F3,B+1+1 < b):=ah (fun b hb=>Nat.lt_of_lt_of_le (by have hl:=(show aF _ _ _ _ from (vV.out.bQ 1 (.slice p2 x.pairs.length k2))).lt;exact hl) (g3 b hb));have agq:Hid (∀ b∈F1,b∉F3):=ah (fun b h1 h2=>by have a:=Q1.out.lt b h1;have c:=g3 b h2;(try simp only [World.setCell,Array.size_modify] at c);omega);have agr:Hid (∀ b∈F2,b∉F3):=ah (fun b h1 h2=>by have a:=Q2.out.lt b h1;have c:=g3 b h2;(try simp only [World.setCell,Array.size_modify] at c);omega);clear g3;clear q3;have XO:Hid (aF w3 B 26 #[v1,v2,v3,x.half]):=ah (aF.ext (by repeat (first | with_reducible exact a_2.out | refine aF.far ?_ (by simp <;> omega) _)) hx);have WC:Hid (aF w3 (B+1) 40 Zr.c):=ah (aF.ext (by repeat (first | with_reducible exact Ns.out | refine aF.far ?_ (by simp <;> omega) _)) hx);have Ik:Hid (aF w3 (B+1+1) 40 #[.slice p1 x.nodes.length k1,.slice p2 x.pairs.length k2,.slice none 0 0,.int .i64 0]):=ah (aF.ext (by simpa using (vV.out.bQ 1 (.slice p2 x.pairs.length k2))) hx);have XM:Hid (Ext w w3):=ah (Ext.trans (by repeat (first | with_reducible exact Gf.out | refine Ext.setCell ?_ (by show w.heap.size≤B+1+1;rw [← HB.out];omega) _)) hx);replace Q1:=ah (aW.ext (Q1.out.kept (G:=[B+1,B+1+1]) (by repeat (first | exact Kept.refl _ _ | refine Kept.setCell ?_ (by simp) _)) (fun b hb=>by have:=L1.out b hb;simp;omega)) hx);replace Q2:=ah (aW.ext (Q2.out.kept (G:=[B+1,B+1+1]) (by repeat (first | exact Kept.refl _ _ | refine Kept.setCell ?_ (by simp) _)) (fun b hb=>by have:=L2.out b hb;simp;omega)) hx);clear hx ac oc of;have ac:=XO.out.cell;have oc:=Ik.out.cell;have of:=Ik.out.frozen;clear a_2 Ns vV Gf;go_wp2_with (first
  | (refine wpList_load_mid rfl 40 _ rfl (B+1+1) 0 rfl [.slice p1 x.nodes.length k1,.slice p2 x.pairs.length k2,.slice p3 x.ay.length k3,x.half] _ ?hl underlying40 rfl (by kernel_rfl) ?_)
  | (refine wpList_store_mid rfl 40 _ _ rfl (B+1) 0 #[.slice p1 x.nodes.length k1,.slice p2 x.pairs.length k2,.slice p3 x.ay.length k3,x.half] rfl rfl ?ht (by kernel_rfl) ?ho ?_))
 case hl=>exact aF.range (t:=40) (cs:=#[.slice p1 x.nodes.length k1,.slice p2 x.pairs.length k2,.slice p3 x.ay.length k3,x.half]) (by simpa using ((Ik.out.bQ 2 (.slice p3 x.ay.length k3)).bQ 3 (.int .i64 x.half)))
 case ht=>exact aF.there (t:=40) (cs:=Zr.c) (by repeat (first | with_reducible exact WC.out | refine aF.far ?_ (by simp <;> omega) _))
 case ho=>exact all_oneCell_toArray (cs:=[.slice p1 x.nodes.length k1,.slice p2 x.pairs.length k2,.slice p3 x.ay.length k3,x.half]) (by simp [Value.oneCell'])
 exact bodyPost_ret (v:=.agg #[.slice p1 x.nodes.length k1,.slice p2 x.pairs.length k2,.slice p3 x.ay.length k3,x.half]) (fB results36 rfl (aF.nH (t:=40) (cs:=Zr.c) (vs:=#[.slice p1 x.nodes.length k1,.slice p2 x.pairs.length k2,.slice p3 x.ay.length k3,x.half]) (by repeat (first | with_reducible exact WC.out | refine aF.far ?_ (by simp <;> omega) _)) rfl) underlying40 rfl (by kernel_rfl)) rfl ⟨_,F1 ++ (F2 ++ F3),rfl,⟨_,_,_,F1,F2,F3,rfl,HI.out,(Q1.out.kept (G:=[B+1,B+1+1]) (Kept.setCells (by simp) _ _ _ (by repeat (first | exact Kept.refl _ _ | refine Kept.setCell ?_ (by simp) _))) (fun b hb=>by have:=L1.out b hb;simp;omega)),(Q2.out.kept (G:=[B+1,B+1+1]) (Kept.setCells (by simp) _ _ _ (by repeat (first | exact Kept.refl _ _ | refine Kept.setCell ?_ (by simp) _))) (fun b hb=>by have:=L2.out b hb;simp;omega)),(Q3.out.kept (G:=[B+1,B+1+1]) (Kept.setCells (by simp) _ _ _ (by repeat (first | exact Kept.refl _ _ | refine Kept.setCell ?_ (by simp) _))) (fun b hb=>by have:=L3.out b hb;simp;omega)),rfl,(fV Q1.out.nodup (fV Q2.out.nodup Q3.out.nodup (fun b hb hm=>by (try simp only [List.mem_append] at hm);exact agr.out b hb hm)) (fun b hb hm=>by (try simp only [List.mem_append] at hm);rcases hm with hm | hm <;> first | exact agp.out b hb hm | exact agq.out b hb hm))⟩,fun b hb=>(by rw [← HB.out];simp only [List.mem_append] at hb;rcases hb with hb | hb | hb <;> first | (have:=L1.out b hb;omega) | (have:=L2.out b hb;omega) | (have:=L3.out b hb;omega)),aZ (by rw [← HB.out];omega) _ _ _ (by repeat (first | with_reducible exact XM.out | refine Ext.setCell ?_ (by show w.heap.size≤B+1+1;rw [← HB.out];omega) _))⟩
def PZ:Own eF where
 own:=fun w cs x F=>∃ v1 v2 v3 v4 v5 v6 F1 F2 F3 F4 F5 F6,cs=bV x v1 v2 v3 v4 v5 v6∧qV x∧aW (pX eX 47) 134 w v1 x.config.nodes F1∧aW sJ 214 w v2 x.config.pairs F2∧aW nZ 205 w v3 x.config.ay F3∧aW wC 151 w v4 x.nodes F4∧aW iW 76 w v5 x.tasks F5∧aW FQ 138 w v6 x.uses F6∧F=F1 ++ (F2 ++ (F3 ++ (F4 ++ (F5 ++ F6))))∧F.Nodup
 rel:=by rintro _ _ _ _ ⟨v1,v2,v3,v4,v5,v6,F1,F2,F3,F4,F5,F6,rfl,hf,h1,h2,h3,h4,h5,h6,rfl,_⟩;exact ⟨_,_,_,_,_,_,rfl,hf,h1.rd.sub (fun b hb=>by simp [hb]),h2.rd.sub (fun b hb=>by simp [hb]),h3.rd.sub (fun b hb=>by simp [hb]),h4.rd.sub (fun b hb=>by simp [hb]),h5.rd.sub (fun b hb=>by simp [hb]),h6.rd.sub (fun b hb=>by simp [hb])⟩
 keep:=by rintro _ _ _ _ _ hb ⟨v1,v2,v3,v4,v5,v6,F1,F2,F3,F4,F5,F6,rfl,hf,h1,h2,h3,h4,h5,h6,rfl,hn⟩;exact ⟨_,_,_,_,_,_,_,_,_,_,_,_,rfl,hf,h1.keep (fun b hm=>hb b (by simp [hm])),h2.keep (fun b hm=>hb b (by simp [hm])),h3.keep (fun b hm=>hb b (by simp [hm])),h4.keep (fun b hm=>hb b (by simp [hm])),h5.keep (fun b hm=>hb b (by simp [hm])),h6.keep (fun b hm=>hb b (by simp [hm])),rfl,hn⟩
 lt:=by rintro _ _ _ _ ⟨v1,v2,v3,v4,v5,v6,F1,F2,F3,F4,F5,F6,rfl,_,h1,h2,h3,h4,h5,h6,rfl,_⟩ b hb;simp only [List.mem_append] at hb;rcases hb with hb | hb | hb | hb | hb | hb <;> first | exact h1.lt b hb | exact h2.lt b hb | exact h3.lt b hb | exact h4.lt b hb | exact h5.lt b hb | exact h6.lt b hb
 nodup:=by rintro _ _ _ _ ⟨v1,v2,v3,v4,v5,v6,F1,F2,F3,F4,F5,F6,rfl,_,_,_,_,_,_,_,rfl,hn⟩;exact hn
theorem aaB {S:Nat→Prop} (x:Span) (cs:List Value) (w:World) (h:dM.rel S w cs x) (_hs:XL x) :
 Calls prog 254 #[.agg cs.toArray] w (yF ji x w):=by
 obtain ⟨rfl,hi⟩:=h;have HI:=ah hi;clear hi;simp only [nO];go_enter func254,ntmps254;go_wp2;exact bodyPost_ret (v:=.agg (Rs x)) (by simp [results,results254,go_sem]) rfl ⟨_,[],rfl,⟨⟨rfl,HI.out⟩,rfl⟩,fun b hb=>(by cases hb),(((Ext.refl _).alloc _).alloc _).alloc _⟩
theorem Xo {S:Nat→Prop} (l:List Span) (v:Value) (w:World) (h:Rd dM S w v l) (hs:J3 l) :
 Calls prog 186 #[v] w (kX ji 142 l w):=by
 have hn:l.length≤1048576:=hs.1;have HS:=ah hs;obtain ⟨A,c,rfl,h1,h2,hk⟩:=h.open_;unfold maxLen at h2;have HK:=ah hk;clear hk h hs;have hmk:=VP l.length hn;go_enter func186,ntmps186;go_wp2_with fail;have hp0:=jY.new (O:=ji) (l:=l) (T:=142) w (madeCells Zr.l (l.length * 2)) (by rw [size_madeCells];rfl);have hx0:Ext w (w.alloc (.cells (madeCells Zr.l (l.length * 2)) 142)):=(Ext.refl w).alloc _;generalize hB:w.heap.size=B at hp0 ⊢;have HB:=ah hB;clear hB;go_loopw [4] (fun i w'=>∃ k:Nat,k≤l.length∧i=.int .i64 k∧jY ji w' B 142 l k∧Ext w w') (fun i _=>l.length - (intOf i).toNat);case atStart=>exact ⟨0,by omega,rfl,hp0,hx0⟩
 case round =>
  obtain ⟨k,hk1,rfl,hp,hx⟩:=hrel;clear hp0 hx0;by_cases hlt:k < l.length
  · obtain ⟨b,o,cs,rfl,hb,hr,hc⟩:=HK.out k hlt;have HC:=ah (hx.range hc);have HI:Hid ((prog.info? 266).map (·.size)=some cs.length):=ah (by rw [dM.len hr];kernel_rfl);have HR:=ah (dM.keep (hx.same S) hr);have HP:=ah hp;have HM:=ah (HS.out.2 (nth l k) (bG hlt));clear hc hr hmk hp;go_wp2_with (first
     | (go_at_call 254;refine (aaB (nth l k) cs _ HR.out HM.out).mono ?_;rintro e w1 ⟨cs',G1,rfl,hr1,hG1,hx1⟩;have HR1:=ah hr1;have Xy:=ah hG1;clear hr1 hG1)
     | (refine wpList_load_mid rfl 266 _ rfl b (o+k * 2) rfl cs _ HC.out underlying266 rfl HI.out ?_)
     | (refine wpList_store_mid rfl 142 _ _ rfl B (k * 2) _ rfl rfl ?ht ?hi ?ho ?_))
    case ht=>have:=(HP.out.ext hx1).there hlt;rw [List.size_toArray,dM.len (ji.rel HR1.out)];exact this
    case hi=>rw [List.size_toArray,dM.len (ji.rel HR1.out)];kernel_rfl
    case ho=>exact all_oneCell_toArray (dM.one (ji.rel HR1.out))
    refine ⟨⟨k+1,by omega,by go_num,HP.out.step hx1 hlt HR1.out Xy.out,aZ (by rw [HB.out];exact Nat.le_refl _) _ _ _ (hx.trans hx1)⟩,?_⟩;simp [intOf];omega
  · obtain rfl:k=l.length:=by omega
    go_wp2_with fail;go_ret;obtain ⟨F,hF,hge⟩:=hp.done (by unfold maxLen;omega);exact ⟨_,F,rfl,hF,fun b hb=>by rw [HB.out];exact hge b hb,hx⟩
theorem aax {S:Nat→Prop} (x:Node) (cs:List Value) (w:World) (h:ENode.rel S w cs x) (hs:FV x) :
 Calls prog 96 #[.agg cs.toArray] w (yF wC x w):=by
 obtain ⟨v1,rfl,hi,h1⟩:=h;have HI:=ah hi;have H1:=ah h1;clear hi h1;simp only [lG];go_enter func96,ntmps96;have HS:=ah hs;clear hs;go_wp2_with fail;obtain ⟨W,B,hW,hB,hx0,a0,r0,o0⟩:=lQ w #[x.state,v1] #[.int .i64 0,.slice none 0 0] #[x.state,.slice none 0 0] 120 151 151;rw [← hW,← hB];have HB:=ah hB;clear hW hB;have a_0:=ah a0;have wL:=ah r0;have sD:=ah o0;have qC:=ah hx0;clear a0 r0 o0 hx0;refine (Xo x.books v1 _ (H1.out.ext (by repeat (first | with_reducible exact qC.out | refine Ext.setCell ?_ (by show w.heap.size≤B+1+1;rw [← HB.out];omega) _))) (by have h:=HS.out;simp only [FV] at h;first | exact h | exact h.1 | exact h.2 | exact h.2.1 | exact h.2.2 | exact h.2.2.1 | exact h.2.2.2 | exact h.2.2.2.1 | exact h.2.2.2.2)).mono ?_;rintro e w1 ⟨u1,F1,rfl,q1,g1,hx⟩;obtain ⟨p1,k1,rfl,-⟩:=q1.form;have Q1:=ah q1;have L1:Hid (∀ b∈F1,B+1+1 < b):=ah (fun b hb=>Nat.lt_of_lt_of_le (by have hl:=(show aF _ _ _ _ from sD.out).lt;exact hl) (g1 b hb));clear g1;clear q1;have a_1:Hid (aF w1 B 120 #[x.state,v1]):=ah (aF.ext (by repeat (first | with_reducible exact a_0.out | refine aF.far ?_ (by simp <;> omega) _)) hx);have wM:Hid (aF w1 (B+1) 151 #[.int .i64 0,.slice none 0 0]):=ah (aF.ext (by repeat (first | with_reducible exact wL.out | refine aF.far ?_ (by simp <;> omega) _)) hx);have oq:Hid (aF w1 (B+1+1) 151 #[x.state,.slice none 0 0]):=ah (aF.ext (by simpa using sD.out) hx);have vP:Hid (Ext w w1):=ah (Ext.trans (by repeat (first | with_reducible exact qC.out | refine Ext.setCell ?_ (by show w.heap.size≤B+1+1;rw [← HB.out];omega) _)) hx);clear hx;have ac:=a_1.out.cell;have oc:=oq.out.cell;have of:=oq.out.frozen;clear a_0 wL sD qC;go_wp2_with (first
  | (refine wpList_load_mid rfl 151 _ rfl (B+1+1) 0 rfl [x.state,.slice p1 x.books.length k1] _ ?hl underlying151 rfl (by kernel_rfl) ?_)
  | (refine wpList_store_mid rfl 151 _ _ rfl (B+1) 0 #[x.state,.slice p1 x.books.length k1] rfl rfl ?ht (by kernel_rfl) ?ho ?_))
 case hl=>exact aF.range (t:=151) (cs:=#[x.state,.slice p1 x.books.length k1]) (by simpa using (oq.out.bQ 1 (.slice p1 x.books.length k1)))
 case ht=>exact aF.there (t:=151) (cs:=#[.int .i64 0,.slice none 0 0]) (by repeat (first | with_reducible exact wM.out | refine aF.far ?_ (by simp <;> omega) _))
 case ho=>exact all_oneCell_toArray (cs:=[x.state,.slice p1 x.books.length k1]) (by simp [Value.oneCell'])
 exact bodyPost_ret (v:=.agg #[x.state,.slice p1 x.books.length k1]) (fB results96 rfl (aF.nH (t:=151) (cs:=#[.int .i64 0,.slice none 0 0]) (vs:=#[x.state,.slice p1 x.books.length k1]) (by repeat (first | with_reducible exact wM.out | refine aF.far ?_ (by simp <;> omega) _)) rfl) underlying151 rfl (by kernel_rfl)) rfl ⟨_,F1,rfl,⟨_,rfl,HI.out,(Q1.out.kept (G:=[B+1,B+1+1]) (Kept.setCells (by simp) _ _ _ (by repeat (first | exact Kept.refl _ _ | refine Kept.setCell ?_ (by simp) _))) (fun b hb=>by have:=L1.out b hb;simp;omega))⟩,fun b hb=>(by have:=L1.out b hb;rw [← HB.out];omega),aZ (by rw [← HB.out];omega) _ _ _ (by repeat (first | with_reducible exact vP.out | refine Ext.setCell ?_ (by show w.heap.size≤B+1+1;rw [← HB.out];omega) _))⟩
theorem acC {S:Nat→Prop} (x:Use) (cs:List Value) (w:World) (h:dX.rel S w cs x) (_hs:aaU x) :
 Calls prog 98 #[.agg cs.toArray] w (yF FQ x w):=by
 obtain ⟨rfl,hi⟩:=h;have HI:=ah hi;clear hi;simp only [kN];go_enter func98,ntmps98;go_wp2_with fail;obtain ⟨W,B,hW,hB,hx0,a0,r0,o0⟩:=lQ w (Ru x) Zr.u Zr.u 126 138 138;rw [← hW,← hB];have HB:=ah hB;clear hW hB;have a_0:=ah a0;have wL:=ah r0;have sD:=ah o0;have qC:=ah hx0;clear a0 r0 o0 hx0;refine (gJ x.label [x.label.level,x.label.set] _ (S:=S) ⟨rfl,(by have hf:=HI.out;simp only [wQ] at hf;simp only [aP,hf,and_self])⟩ trivial).mono ?_;rintro e w1 ⟨_,rfl,⟨rfl,_⟩,hx⟩;simp only [aQ];have a_1:Hid (aF w1 B 126 (Ru x)):=ah (aF.ext (by repeat (first | with_reducible exact a_0.out | refine aF.far ?_ (by simp <;> omega) _)) hx);have wM:Hid (aF w1 (B+1) 138 Zr.u):=ah (aF.ext (by repeat (first | with_reducible exact wL.out | refine aF.far ?_ (by simp <;> omega) _)) hx);have oq:Hid (aF w1 (B+1+1) 138 Zr.u):=ah (aF.ext (by simpa using sD.out) hx);have vP:Hid (Ext w w1):=ah (Ext.trans (by repeat (first | with_reducible exact qC.out | refine Ext.setCell ?_ (by show w.heap.size≤B+1+1;rw [← HB.out];omega) _)) hx);clear hx;have ac:=a_1.out.cell;have oc:=oq.out.cell;have of:=oq.out.frozen;clear a_0 wL sD qC;go_wp2_with (first
  | (refine wpList_load_mid rfl 138 _ rfl (B+1+1) 0 rfl [x.label.level,x.label.set,.string x.owner,x.used] _ ?hl underlying138 rfl (by kernel_rfl) ?_)
  | (refine wpList_store_mid rfl 138 _ _ rfl (B+1) 0 (Ru x) rfl rfl ?ht (by kernel_rfl) ?ho ?_))
 case hl=>exact aF.range (t:=138) (cs:=Ru x) (by simpa using ((((oq.out.bQ 0 (.int .i64 x.label.level)).bQ 1 (.int .i64 x.label.set)).bQ 2 (.string x.owner)).bQ 3 (.int .i64 x.used)))
 case ht=>exact aF.there (t:=138) (cs:=Zr.u) (by repeat (first | with_reducible exact wM.out | refine aF.far ?_ (by simp <;> omega) _))
 case ho=>exact all_oneCell_toArray (cs:=Ru x) (by simp [Value.oneCell'])
 exact bodyPost_ret (v:=.agg (Ru x)) (fB results98 rfl (aF.nH (t:=138) (cs:=Zr.u) (vs:=(Ru x)) (by repeat (first | with_reducible exact wM.out | refine aF.far ?_ (by simp <;> omega) _)) rfl) underlying138 rfl (by kernel_rfl)) rfl ⟨_,[],rfl,⟨⟨rfl,HI.out⟩,rfl⟩,fun b hb=>(by cases hb),aZ (by rw [← HB.out];omega) _ _ _ (by repeat (first | with_reducible exact vP.out | refine Ext.setCell ?_ (by show w.heap.size≤B+1+1;rw [← HB.out];omega) _))⟩
theorem aaD {S:Nat→Prop} (x:Task) (cs:List Value) (w:World) (h:ETask.rel S w cs x) (hs:FW x) :
 Calls prog 97 #[.agg cs.toArray] w (yF iW x w):=by
 obtain ⟨v1,rfl,hi,h1⟩:=h;have HI:=ah hi;have H1:=ah h1;clear hi h1;simp only [aB];go_enter func97,ntmps97;have HS:=ah hs;clear hs;go_wp2_with fail;obtain ⟨W,B,hW,hB,hx0,a0,r0,o0⟩:=lQ w (Rt x v1) Zr.t Zr.t 123 76 76;rw [← hW,← hB];have HB:=ah hB;clear hW hB;have a_0:=ah a0;have wL:=ah r0;have sD:=ah o0;have qC:=ah hx0;clear a0 r0 o0 hx0;refine (gJ x.label [x.label.level,x.label.set] _ (S:=S) ⟨rfl,(by have hf:=HI.out;simp only [eH] at hf;simp only [aP,hf,and_self])⟩ trivial).mono ?_;rintro e w1 ⟨_,rfl,⟨rfl,_⟩,hx⟩;simp only [aQ];have a_1:Hid (aF w1 B 123 (Rt x v1)):=ah (aF.ext (by repeat (first | with_reducible exact a_0.out | refine aF.far ?_ (by simp <;> omega) _)) hx);have wM:Hid (aF w1 (B+1) 76 Zr.t):=ah (aF.ext (by repeat (first | with_reducible exact wL.out | refine aF.far ?_ (by simp <;> omega) _)) hx);have oq:Hid (aF w1 (B+1+1) 76 Zr.t):=ah (aF.ext (by simpa using sD.out) hx);have vP:Hid (Ext w w1):=ah (Ext.trans (by repeat (first | with_reducible exact qC.out | refine Ext.setCell ?_ (by show w.heap.size≤B+1+1;rw [← HB.out];omega) _)) hx);clear hx;have ac:=a_1.out.cell;have oc:=oq.out.cell;have of:=oq.out.frozen;clear a_0 wL sD qC;go_wp2_with fail;refine (gJ x.under [x.under.level,x.under.set] _ (S:=S) ⟨rfl,(by have hf:=HI.out;simp only [eH] at hf;simp only [aP,hf,and_self])⟩ trivial).mono ?_;rintro e w2 ⟨_,rfl,⟨rfl,_⟩,hx⟩;simp only [aQ];have a_2:Hid (aF w2 B 123 (Rt x v1)):=ah (aF.ext (by repeat (first | with_reducible exact a_1.out | refine aF.far ?_ (by simp <;> omega) _)) hx);have Ns:Hid (aF w2 (B+1) 76 Zr.t):=ah (aF.ext (by repeat (first | with_reducible exact wM.out | refine aF.far ?_ (by simp <;> omega) _)) hx);have vV:Hid (aF w2 (B+1+1) 76 #[x.label.level,x.label.set,x.id,.string x.owner,x.need,x.long,x.prio,.int .i64 0,.int .i64 0,.int .i64 0,.int .i64 0,.int .i64 0,.int .i64 0,.slice none 0 0]):=ah (aF.ext (by simpa using (((((((oq.out.bQ 0 (.int .i64 x.label.level)).bQ 1 (.int .i64 x.label.set)).bQ 2 (.int .i64 x.id)).bQ 3 (.string x.owner)).bQ 4 (.int .i64 x.need)).bQ 5 (.int .i64 x.long)).bQ 6 (.int .i64 x.prio))) hx);have Gf:Hid (Ext w w2):=ah (Ext.trans (by repeat (first | with_reducible exact vP.out | refine Ext.setCell ?_ (by show w.heap.size≤B+1+1;rw [← HB.out];omega) _)) hx);clear hx ac oc of;have ac:=a_2.out.cell;have oc:=vV.out.cell;have of:=vV.out.frozen;clear a_1 wM oq vP;go_wp2_with fail;refine (TW x.nodes v1 _ (H1.out.ext (by repeat (first | with_reducible exact Gf.out | refine Ext.setCell ?_ (by show w.heap.size≤B+1+1;rw [← HB.out];omega) _))) (by have h:=HS.out;simp only [FW] at h;first | exact h | exact h.1 | exact h.2 | exact h.2.1 | exact h.2.2 | exact h.2.2.1 | exact h.2.2.2 | exact h.2.2.2.1 | exact h.2.2.2.2)).mono ?_;rintro e w3 ⟨u1,F1,rfl,q1,g1,hx⟩;obtain ⟨p1,k1,rfl,-⟩:=q1.form;have Q1:=ah q1;have L1:Hid (∀ b∈F1,B+1+1 < b):=ah (fun b hb=>Nat.lt_of_lt_of_le (by have hl:=(show aF _ _ _ _ from ((((((vV.out.bQ 7 (.int .i64 x.under.level)).bQ 8 (.int .i64 x.under.set)).bQ 9 (.int .i64 x.after)).bQ 10 (.int .i64 x.born)).bQ 11 (.int .i64 x.state)).bQ 12 (.int .i64 x.start))).lt;exact hl) (g1 b hb));clear g1;clear q1;have XO:Hid (aF w3 B 123 (Rt x v1)):=ah (aF.ext (by repeat (first | with_reducible exact a_2.out | refine aF.far ?_ (by simp <;> omega) _)) hx);have WC:Hid (aF w3 (B+1) 76 Zr.t):=ah (aF.ext (by repeat (first | with_reducible exact Ns.out | refine aF.far ?_ (by simp <;> omega) _)) hx);have Ik:Hid (aF w3 (B+1+1) 76 (Rt x (.slice none 0 0))):=ah (aF.ext (by simpa using ((((((vV.out.bQ 7 (.int .i64 x.under.level)).bQ 8 (.int .i64 x.under.set)).bQ 9 (.int .i64 x.after)).bQ 10 (.int .i64 x.born)).bQ 11 (.int .i64 x.state)).bQ 12 (.int .i64 x.start))) hx);have XM:Hid (Ext w w3):=ah (Ext.trans (by repeat (first | with_reducible exact Gf.out | refine Ext.setCell ?_ (by show w.heap.size≤B+1+1;rw [← HB.out];omega) _)) hx);clear hx ac oc of;have ac:=XO.out.cell;have oc:=Ik.out.cell;have of:=Ik.out.frozen;clear a_2 Ns vV Gf;go_wp2_with (first
  | (refine wpList_load_mid rfl 76 _ rfl (B+1+1) 0 rfl [x.label.level,x.label.set,x.id,.string x.owner,x.need,x.long,x.prio,x.under.level,x.under.set,x.after,x.born,x.state,x.start,.slice p1 x.nodes.length k1] _ ?hl underlying76 rfl (by kernel_rfl) ?_)
  | (refine wpList_store_mid rfl 76 _ _ rfl (B+1) 0 (Rt x (.slice p1 x.nodes.length k1)) rfl rfl ?ht (by kernel_rfl) ?ho ?_))
 case hl=>exact aF.range (t:=76) (cs:=Rt x (.slice p1 x.nodes.length k1)) (by simpa using (Ik.out.bQ 13 (.slice p1 x.nodes.length k1)))
 case ht=>exact aF.there (t:=76) (cs:=Zr.t) (by repeat (first | with_reducible exact WC.out | refine aF.far ?_ (by simp <;> omega) _))
 case ho=>exact all_oneCell_toArray (cs:=Rt x (.slice p1 x.nodes.length k1)) (by simp [Value.oneCell'])
 exact bodyPost_ret (v:=.agg (Rt x (.slice p1 x.nodes.length k1))) (fB results97 rfl (aF.nH (t:=76) (cs:=Zr.t) (vs:=(Rt x (.slice p1 x.nodes.length k1))) (by repeat (first | with_reducible exact WC.out | refine aF.far ?_ (by simp <;> omega) _)) rfl) underlying76 rfl (by kernel_rfl)) rfl ⟨_,F1,rfl,⟨_,rfl,HI.out,(Q1.out.kept (G:=[B+1,B+1+1]) (Kept.setCells (by simp) _ _ _ (by repeat (first | exact Kept.refl _ _ | refine Kept.setCell ?_ (by simp) _))) (fun b hb=>by have:=L1.out b hb;simp;omega))⟩,fun b hb=>(by have:=L1.out b hb;rw [← HB.out];omega),aZ (by rw [← HB.out];omega) _ _ _ (by repeat (first | with_reducible exact XM.out | refine Ext.setCell ?_ (by show w.heap.size≤B+1+1;rw [← HB.out];omega) _))⟩
theorem Xi {S:Nat→Prop} (l:List Node) (v:Value) (w:World) (h:Rd ENode S w v l) (hs:JY l) :
 Calls prog 37 #[v] w (kX wC 151 l w):=by
 have hn:l.length≤1048576:=hs.1;have HS:=ah hs;obtain ⟨A,c,rfl,h1,h2,hk⟩:=h.open_;unfold maxLen at h2;have HK:=ah hk;clear hk h hs;have hmk:=VN l.length hn;go_enter func37,ntmps37;go_wp2_with fail;have hp0:=jY.new (O:=wC) (l:=l) (T:=151) w (madeCells #[.int .i64 0,.slice none 0 0] (l.length * 2)) (by rw [size_madeCells];rfl);have hx0:Ext w (w.alloc (.cells (madeCells #[.int .i64 0,.slice none 0 0] (l.length * 2)) 151)):=(Ext.refl w).alloc _;generalize hB:w.heap.size=B at hp0 ⊢;have HB:=ah hB;clear hB;go_loopw [4] (fun i w'=>∃ k:Nat,k≤l.length∧i=.int .i64 k∧jY wC w' B 151 l k∧Ext w w') (fun i _=>l.length - (intOf i).toNat);case atStart=>exact ⟨0,by omega,rfl,hp0,hx0⟩
 case round =>
  obtain ⟨k,hk1,rfl,hp,hx⟩:=hrel;clear hp0 hx0;by_cases hlt:k < l.length
  · obtain ⟨b,o,cs,rfl,hb,hr,hc⟩:=HK.out k hlt;have HC:=ah (hx.range hc);have HI:Hid ((prog.info? 120).map (·.size)=some cs.length):=ah (by rw [ENode.len hr];kernel_rfl);have HR:=ah (ENode.keep (hx.same S) hr);have HP:=ah hp;have HM:=ah (HS.out.2 (nth l k) (bG hlt));clear hc hr hmk hp;go_wp2_with (first
     | (go_at_call 96;refine (aax (nth l k) cs _ HR.out HM.out).mono ?_;rintro e w1 ⟨cs',G1,rfl,hr1,hG1,hx1⟩;have HR1:=ah hr1;have Xy:=ah hG1;clear hr1 hG1)
     | (refine wpList_load_mid rfl 120 _ rfl b (o+k * 2) rfl cs _ HC.out underlying120 rfl HI.out ?_)
     | (refine wpList_store_mid rfl 151 _ _ rfl B (k * 2) _ rfl rfl ?ht ?hi ?ho ?_))
    case ht=>have:=(HP.out.ext hx1).there hlt;rw [List.size_toArray,ENode.len (wC.rel HR1.out)];exact this
    case hi=>rw [List.size_toArray,ENode.len (wC.rel HR1.out)];kernel_rfl
    case ho=>exact all_oneCell_toArray (ENode.one (wC.rel HR1.out))
    refine ⟨⟨k+1,by omega,by go_num,HP.out.step hx1 hlt HR1.out Xy.out,aZ (by rw [HB.out];exact Nat.le_refl _) _ _ _ (hx.trans hx1)⟩,?_⟩;simp [intOf];omega
  · obtain rfl:k=l.length:=by omega
    go_wp2_with fail;go_ret;obtain ⟨F,hF,hge⟩:=hp.done (by unfold maxLen;omega);exact ⟨_,F,rfl,hF,fun b hb=>by rw [HB.out];exact hge b hb,hx⟩
theorem Xq {S:Nat→Prop} (l:List Task) (v:Value) (w:World) (h:Rd ETask S w v l) (hs:J4 l) :
 Calls prog 38 #[v] w (kX iW 76 l w):=by
 have hn:l.length≤1048576:=hs.1;have HS:=ah hs;obtain ⟨A,c,rfl,h1,h2,hk⟩:=h.open_;unfold maxLen at h2;have HK:=ah hk;clear hk h hs;have hmk:=VQ l.length hn;go_enter func38,ntmps38;go_wp2_with fail;have hp0:=jY.new (O:=iW) (l:=l) (T:=76) w (madeCells Zr.t (l.length * 14)) (by rw [size_madeCells];rfl);have hx0:Ext w (w.alloc (.cells (madeCells Zr.t (l.length * 14)) 76)):=(Ext.refl w).alloc _;generalize hB:w.heap.size=B at hp0 ⊢;have HB:=ah hB;clear hB;go_loopw [4] (fun i w'=>∃ k:Nat,k≤l.length∧i=.int .i64 k∧jY iW w' B 76 l k∧Ext w w') (fun i _=>l.length - (intOf i).toNat);case atStart=>exact ⟨0,by omega,rfl,hp0,hx0⟩
 case round =>
  obtain ⟨k,hk1,rfl,hp,hx⟩:=hrel;clear hp0 hx0;by_cases hlt:k < l.length
  · obtain ⟨b,o,cs,rfl,hb,hr,hc⟩:=HK.out k hlt;have HC:=ah (hx.range hc);have HI:Hid ((prog.info? 123).map (·.size)=some cs.length):=ah (by rw [ETask.len hr];kernel_rfl);have HR:=ah (ETask.keep (hx.same S) hr);have HP:=ah hp;have HM:=ah (HS.out.2 (nth l k) (bG hlt));clear hc hr hmk hp;go_wp2_with (first
     | (go_at_call 97;refine (aaD (nth l k) cs _ HR.out HM.out).mono ?_;rintro e w1 ⟨cs',G1,rfl,hr1,hG1,hx1⟩;have HR1:=ah hr1;have Xy:=ah hG1;clear hr1 hG1)
     | (refine wpList_load_mid rfl 123 _ rfl b (o+k * 14) rfl cs _ HC.out underlying123 rfl HI.out ?_)
     | (refine wpList_store_mid rfl 76 _ _ rfl B (k * 14) _ rfl rfl ?ht ?hi ?ho ?_))
    case ht=>have:=(HP.out.ext hx1).there hlt;rw [List.size_toArray,ETask.len (iW.rel HR1.out)];exact this
    case hi=>rw [List.size_toArray,ETask.len (iW.rel HR1.out)];kernel_rfl
    case ho=>exact all_oneCell_toArray (ETask.one (iW.rel HR1.out))
    refine ⟨⟨k+1,by omega,by go_num,HP.out.step hx1 hlt HR1.out Xy.out,aZ (by rw [HB.out];exact Nat.le_refl _) _ _ _ (hx.trans hx1)⟩,?_⟩;simp [intOf];omega
  · obtain rfl:k=l.length:=by omega
    go_wp2_with fail;go_ret;obtain ⟨F,hF,hge⟩:=hp.done (by unfold maxLen;omega);exact ⟨_,F,rfl,hF,fun b hb=>by rw [HB.out];exact hge b hb,hx⟩
theorem aaF {S:Nat→Prop} (l:List Use) (v:Value) (w:World) (h:Rd dX S w v l) (hs:Ro l) :
 Calls prog 39 #[v] w (kX FQ 138 l w):=by
 have hn:l.length≤1048576:=hs.1;have HS:=ah hs;obtain ⟨A,c,rfl,h1,h2,hk⟩:=h.open_;unfold maxLen at h2;have HK:=ah hk;clear hk h hs;have hmk:=aa3 l.length hn;go_enter func39,ntmps39;go_wp2_with fail;have hp0:=jY.new (O:=FQ) (l:=l) (T:=138) w (madeCells Zr.u (l.length * 4)) (by rw [size_madeCells];rfl);have hx0:Ext w (w.alloc (.cells (madeCells Zr.u (l.length * 4)) 138)):=(Ext.refl w).alloc _;generalize hB:w.heap.size=B at hp0 ⊢;have HB:=ah hB;clear hB;go_loopw [4] (fun i w'=>∃ k:Nat,k≤l.length∧i=.int .i64 k∧jY FQ w' B 138 l k∧Ext w w') (fun i _=>l.length - (intOf i).toNat);case atStart=>exact ⟨0,by omega,rfl,hp0,hx0⟩
 case round =>
  obtain ⟨k,hk1,rfl,hp,hx⟩:=hrel;clear hp0 hx0;by_cases hlt:k < l.length
  · obtain ⟨b,o,cs,rfl,hb,hr,hc⟩:=HK.out k hlt;have HC:=ah (hx.range hc);have HI:Hid ((prog.info? 126).map (·.size)=some cs.length):=ah (by rw [dX.len hr];kernel_rfl);have HR:=ah (dX.keep (hx.same S) hr);have HP:=ah hp;have HM:=ah (HS.out.2 (nth l k) (bG hlt));clear hc hr hmk hp;go_wp2_with (first
     | (go_at_call 98;refine (acC (nth l k) cs _ HR.out HM.out).mono ?_;rintro e w1 ⟨cs',G1,rfl,hr1,hG1,hx1⟩;have HR1:=ah hr1;have Xy:=ah hG1;clear hr1 hG1)
     | (refine wpList_load_mid rfl 126 _ rfl b (o+k * 4) rfl cs _ HC.out underlying126 rfl HI.out ?_)
     | (refine wpList_store_mid rfl 138 _ _ rfl B (k * 4) _ rfl rfl ?ht ?hi ?ho ?_))
    case ht=>have:=(HP.out.ext hx1).there hlt;rw [List.size_toArray,dX.len (FQ.rel HR1.out)];exact this
    case hi=>rw [List.size_toArray,dX.len (FQ.rel HR1.out)];kernel_rfl
    case ho=>exact all_oneCell_toArray (dX.one (FQ.rel HR1.out))
    refine ⟨⟨k+1,by omega,by go_num,HP.out.step hx1 hlt HR1.out Xy.out,aZ (by rw [HB.out];exact Nat.le_refl _) _ _ _ (hx.trans hx1)⟩,?_⟩;simp [intOf];omega
  · obtain rfl:k=l.length:=by omega
    go_wp2_with fail;go_ret;obtain ⟨F,hF,hge⟩:=hp.done (by unfold maxLen;omega);exact ⟨_,F,rfl,hF,fun b hb=>by rw [HB.out];exact hge b hb,hx⟩
end Go.Proofs.YtbdicafambkhdaaGreat
namespace Go.Proofs.YtbdicafambkhdaaGreat
open Go.Proofs.Tryz
open Go.RowKit
section
variable {α:Type}
def bC (n:α→Nat):List α→Nat
 | []=>0
 | x :: l=>n x+bC n l
def iw (m:Int→α→α) (n:α→Nat):Int→List α→List α
 | _,[]=>[]
 | q,x :: l=>m q x :: iw m n (q+n x) l
variable {m:Int→α→α} {n:α→Nat}
theorem jV:∀ (l:List α) (q:Int),(iw m n q l).length=l.length
 | [],_=>rfl
 | x :: l,q=>by simp [iw,jV l]
theorem jK [Inhabited α]:∀ {l:List α} {k:Nat},k < l.length→bC n (l.take (k+1))=bC n (l.take k)+n (nth l k)
 | x :: l,0,_=>by simp [bC,nth]
 | x :: l,k+1,h=>by
   have:=jK (l:=l) (k:=k) (by simpa using h);simp only [List.take_succ_cons,bC,this];simp [nth];omega
theorem Em:∀ (l:List α) (k:Nat),bC n (l.take k)≤bC n l
 | [],k=>by simp
 | x :: l,0=>by simp [bC]
 | x :: l,k+1=>by
   have:=Em l k;simp only [List.take_succ_cons,bC];omega
theorem oW [Inhabited α] {l:List α} {k:Nat} (h:k < l.length):bC n (l.take k)+n (nth l k)≤bC n l:=by
 rw [← jK h];exact Em l (k+1)
theorem Af [Inhabited α]:∀ {l:List α} {k:Nat} (q:Int),k < l.length→nth (iw m n q l) k=m (q+bC n (l.take k)) (nth l k)
 | x :: l,0,q,_=>by simp [iw,nth,bC]
 | x :: l,k+1,q,h=>by
   have:=Af (l:=l) (k:=k) (q+n x) (by simpa using h);simp only [List.take_succ_cons,bC,iw];have e:∀ (a:α) (r:List α),nth (a :: r) (k+1)=nth r k:=fun a r=>by simp [nth]
   rw [e,e,this];congr 1;push_cast;omega
def uS (m:Int→α→α) (n:α→Nat) (q:Int) (l:List α) (k:Nat):List α:=(iw m n q l).take k ++ l.drop k
theorem mF (q:Int) (l:List α):uS m n q l 0=l:=by simp [uS]
theorem mD (q:Int) (l:List α):uS m n q l l.length=iw m n q l:=by
 rw [uS,List.drop_length,List.append_nil,List.take_of_length_le (by rw [jV];exact Nat.le_refl _)]
theorem dS (q:Int) (l:List α) (k:Nat) (h:k≤l.length):(uS m n q l k).length=l.length:=by
 simp [uS,jV];omega
theorem oM [Inhabited α] {q:Int} {l:List α} {k:Nat} (h:k < l.length):nth (uS m n q l k) k=nth l k:=by
 have hl:((iw m n q l).take k).length=k:=by simp [jV];omega
 have:=nT (l:=(iw m n q l).take k) (m:=l.drop k) (k:=0) (by simp;omega);rw [hl,Nat.add_zero] at this;rw [uS,this,aO (by simp;omega),aO h];simp
theorem oN [Inhabited α] {q:Int} {l:List α} {k:Nat} (h:k < l.length):(uS m n q l k).set k (m (q+bC n (l.take k)) (nth l k))=uS m n q l (k+1):=by
 have hl:((iw m n q l).take k).length=k:=by simp [jV];omega
 rw [uS,uS,List.set_append_right _ _ (by omega),hl,Nat.sub_self,ni h,List.set_cons_zero,List.take_succ_eq_append_getElem (by rw [jV];exact h),← aO (by rw [jV];exact h),Af q h];simp
end
theorem aW.tX {α:Type} [Inhabited α] {E:Elem α} {O:Own E} {T:TypeId} {w:World} {v:Value} {m:Int→α→α} {n:α→Nat} {q q':Int} {l:List α} {F:List Nat} (h:aW O T w v (iw m n q l) F) (e:q=q'):aW O T w v (iw m n q' l) F:=e ▸ h
theorem Rd.tX {α:Type} {E:Elem α} {S:Nat→Prop} {w:World} {v:Value} {m:Int→α→α} {n:α→Nat} {q q':Int} {l:List α} (h:Rd E S w v (iw m n q l)) (e:q=q'):Rd E S w v (iw m n q' l):=e ▸ h
section
variable {α:Type} [Inhabited α] {E:Elem α} {O:Own E} {T:TypeId} {w:World} {l:List α} {v:Value} {F:List Nat}
end
section
variable {α:Type} [Inhabited α] {E:Elem α} {O:Own E} {T:TypeId} {w:World} {l ys:List α} {P:Program}
end
section
variable {α:Type} [Inhabited α] {E:Elem α} {T:TypeId} {w:World} {l ys:List α} {P:Program} {hfl:∀ {S S':Nat→Prop} {w w':World} {cs x},E.rel S w cs x→E.rel S' w' cs x}
end
end Go.Proofs.YtbdicafambkhdaaGreat
namespace Go.Proofs.YtbdicafambkhdaaGreat
open Go.Proofs.Tryz
def KU (n:Nat):List UInt8:=if _h:n=0 then [] else KU (n / 10) ++ [UInt8.ofNat (48+n % 10)]
termination_by n
decreasing_by omega
theorem Qe:KU 0 = []:=by rw [KU];simp
theorem UR {n:Nat} (h:0 < n):KU n=KU (n / 10) ++ [UInt8.ofNat (48+n % 10)]:=by rw [KU,dif_neg (by omega)]
theorem IU (n:Nat):(KU n).length≤n:=by
 induction n using Nat.strongRecOn with
 | _ n ih =>
   rcases Nat.eq_zero_or_pos n with rfl | h
   · rw [Qe];simp
   · have:=ih (n / 10) (by omega);rw [UR h,List.length_append,List.length_singleton];omega
def EK (q:Int):ByteArray:=⟨(109 :: (if q≤0 then [48] else KU q.toNat)).toArray⟩
theorem Qq (q:Int) (h:q≤1125899906842624):Str (EK q):=by
 have h1:(EK q).size=(109 :: (if q≤0 then [48] else KU q.toNat)).length:=rfl;unfold Str maxLen;rw [h1];split
 · simp
 · have:=IU q.toNat;simp only [List.length_cons];omega
open Go.RowKit
attribute [local irreducible] wpQuiet
theorem Ea (a b:List UInt8):(⟨a.toArray⟩:ByteArray) ++ ⟨b.toArray⟩=⟨(a ++ b).toArray⟩:=by
 apply ByteArray.ext;simp
theorem ab5 (x:Nat) (b:List UInt8):strOfNums [(48:Int)+(x:Int) % 10] ++ ⟨b.toArray⟩=⟨(UInt8.ofNat (48+x % 10) :: b).toArray⟩:=by
 have h:strOfNums [(48:Int)+(x:Int) % 10]=⟨[UInt8.ofNat (48+x % 10)].toArray⟩:=by
  unfold strOfNums;have e:((48:Int)+(x:Int) % 10).toNat=48+x % 10:=by omega
  simp [e]
 rw [h,Ea];rfl
theorem adz (W:World) (x:Int):(convert 253 9 (.slice (some ⟨W.heap.size,0,none⟩) 1 1)).run prog (W.alloc (.cells #[.int .u8 x] 5))=.ok (.string (strOfNums [x])) (W.alloc (.cells #[.int .u8 x] 5)) :=
 run_convert_bytes_arg _ 253 5 underlying253 underlying5 W.heap.size 0 1 1 [x] rfl (fun i hi=>by
  obtain rfl:i=0:=by omega
  rw [(aF.new W _ _).cell];rfl) 9 underlying9
theorem EJ (q:Int) (w:World) (h0:0≤q) (h1:q≤1125899906842624) :
 Calls prog 135 #[.int .i64 q] w fun e w'=>e=.returned (.string (EK q))∧Ext w w':=by
 by_cases hz:q≤0
 · have HE:Hid (EK q=⟨#[109,48]⟩):=ah (by unfold EK;rw [if_pos hz]);go_enter func135,ntmps135;go_wp2_with fail;go_ret;exact ⟨by rw [HE.out];rfl,Ext.refl _⟩
 · have hq:0 < q:=by omega
   have hcv:=adz;have hs1:=fun x:Int=>strOfNums_size [x];have H1:=ah h1;clear hz h0 h1;go_enter func135,ntmps135;go_wp2_with fail;go_loopw [0,3] (fun k t w'=>∃ (n:Nat) (acc:List UInt8),k=.int .i64 n∧t=.string ⟨acc.toArray⟩∧n≤q.toNat∧KU n ++ acc=KU q.toNat∧Ext w w') (fun k _ _=>(intOf k).toNat);case atStart=>exact ⟨q.toNat,[],by rw [Int.toNat_of_nonneg (by omega)],rfl,Nat.le_refl _,by simp,Ext.refl _⟩
   case round =>
    obtain ⟨n,acc,rfl,rfl,hn,hd,hx⟩:=hrel;have HD:=ah hd;have HX:=ah hx;have hl:acc.length < 9223372036854775806:=by
     have a:=congrArg List.length hd;rw [List.length_append] at a;have b:=IU q.toNat;have c:=H1.out;omega
    have hn2:n≤9223372036854775806:=by have:=H1.out;omega
    have HN:=ah hn;clear hd hx hn;by_cases hp:0 < n
    · go_wp2_with fail;go_roundw;case rel=>exact ⟨n / 10,UInt8.ofNat (48+n % 10) :: acc,by go_num,by rw [ab5],by have:=HN.out;omega,by rw [← HD.out,UR hp,List.append_assoc];rfl,HX.out.alloc _⟩
      case measure=>simp [intOf];omega
    · obtain rfl:n=0:=by omega
      have HE:Hid (EK q=⟨#[109]⟩ ++ ⟨acc.toArray⟩):=ah (by
       have h:=HD.out;rw [Qe,List.nil_append] at h;have e:=Ea [109] acc;unfold EK;rw [if_neg (by omega),← h];exact e.symm)
      simp only [Int.natCast_zero];go_wp2_with fail;go_ret;exact ⟨by rw [HE.out];rfl,HX.out⟩
end Go.Proofs.YtbdicafambkhdaaGreat
namespace Go.Proofs.YtbdicafambkhdaaGreat
open Go.Proofs.Tryz
def fZ (_x:Int):Nat:=1
def mkInt (q:Int) (_x:Int):Int:=q
def kP (_x:Span):Nat:=2
def zx (q:Int) (_x:Span):Span:=⟨q,(q+1)⟩
def cZ (_x:Label):Nat:=2
def pq (q:Int) (_x:Label):Label:=⟨q,(q+1)⟩
def jS (x:Node):Nat:=1+(bC kP x.books)
def mkNode (q:Int) (x:Node):Node:=⟨q,iw zx kP (q+1) x.books⟩
def mG (_x:Use):Nat:=4
def Ja (q:Int) (_x:Use):Use:=⟨⟨q,(q+1)⟩,EK (q+1+1),(q+1+1+1)⟩
def jT (x:Task):Nat:=13+(bC fZ x.nodes)
def zy (q:Int) (x:Task):Task:=⟨⟨q,(q+1)⟩,(q+1+1),EK (q+1+1+1),(q+1+1+1+1),(q+1+1+1+1+1),(q+1+1+1+1+1+1),⟨(q+1+1+1+1+1+1+1),(q+1+1+1+1+1+1+1+1)⟩,(q+1+1+1+1+1+1+1+1+1),(q+1+1+1+1+1+1+1+1+1+1),(q+1+1+1+1+1+1+1+1+1+1+1),(q+1+1+1+1+1+1+1+1+1+1+1+1),iw mkInt fZ (q+1+1+1+1+1+1+1+1+1+1+1+1+1) x.nodes⟩
def jL (_x:Pair):Nat:=5
def xI (q:Int) (_x:Pair):Pair:=⟨⟨q,(q+1)⟩,⟨(q+1+1),(q+1+1+1)⟩,(q+1+1+1+1)⟩
def iT (_x:jk):Nat:=3
def sW (q:Int) (_x:jk):jk:=⟨⟨q,(q+1)⟩,(q+1+1)⟩
open Go.RowKit
attribute [local irreducible] wpQuiet
theorem zu (l:List Int) (v:Value) (F:List Nat) (q:Int) (w:World) (h:aW jD 2 w v l F) (h0:0≤q) (h1:q+bC fZ l≤1125899906842624) :
 Calls prog 55 #[v,.int .i64 q] w fun e w'=>e=.returned (.int .i64 (q+bC fZ l))∧aW jD 2 w' v (iw mkInt fZ q l) F∧Kept F w w':=by
 obtain ⟨A,c,rfl,g1,g2⟩:=h.form;unfold maxLen at g2;have H:=ah h;have H1:=ah h1;clear h h1;go_enter func55,ntmps55;go_wp2_with fail;go_loopw [1,5] (fun kk i w'=>∃ j:Nat,j≤l.length∧i=.int .i64 j∧kk=.int .i64 (q+bC fZ (l.take j))∧aW jD 2 w' (.slice A l.length c) (uS mkInt fZ q l j) F∧Kept F w w') (fun _ i _=>l.length - (intOf i).toNat);case atStart=>exact ⟨0,Nat.zero_le _,rfl,by simp [bC],by rw [mF];exact H.out,Kept.refl _ _⟩
 case round =>
  obtain ⟨j,hj,rfl,rfl,hown,hkp⟩:=hrel;by_cases hlt:j < l.length
  · obtain ⟨B,c',G,cs,hv,yx,hBG,hGF,ho,hc,hfz,hth,hrow,hset⟩:=hown.at (k:=j) (by rw [dS _ _ _ hj];exact hlt);rw [dS _ _ _ hj] at hv;rw [oM hlt] at ho;obtain ⟨⟨rfl,hfit⟩,rfl⟩:=ho;injection hv with hA _ hcc
    subst hA hcc;have c0:=hc 0 _ rfl;have f0:=hfz (j * 1+0);simp only [fC,Nat.add_zero,Nat.mul_one] at c0 f0;have HC:=ah (oW (n:=fZ) hlt);have HS:=ah (jK (n:=fZ) hlt);have HO:=ah hset;have HT:=ah hth;have HR:=ah hrow;have HB:=ah yx;have HK:=ah hkp;have HG:=ah hGF;have HX:=ah hBG;have HRG:=ah hc;have hb:0≤q+(bC fZ (l.take j):Int)∧q+(bC fZ (l.take j):Int)+fZ (nth l j)≤1125899906842624:=by have:=H1.out;have:=HC.out;omega
    simp only [fZ] at hb;clear hc hfz hset hth hrow hkp hown hfit hBG hGF yx;generalize hq:q+(bC fZ (l.take j):Int)=Q at *;have HQ:=ah hq;clear hq;obtain ⟨hb0,hb1⟩:=hb;go_wp2_with fail;go_roundw;case rel =>
     refine ⟨j+1,by omega,by go_num,by rw [HS.out,← HQ.out];push_cast;simp only [fZ];go_num,?_,?_⟩
     · have hs:=HO.out (wr.setCells B (j * 1) ([.int .i64 Q])) (mkInt Q (nth l j)) _ (Kept.setCells (List.mem_cons_self ..) _ _ _ (Kept.refl _ _)) (dD.setCells _ _ _ HR.out (Nat.le_refl _) (Nat.le_refl _)) ⟨⟨rfl,by unfold I64 mkInt;omega⟩,rfl⟩ (World.rangeAt_setCells_same _ _ _ _ HT.out);rw [← HQ.out,oN hlt,HQ.out] at hs;simpa [World.setCells,mkInt] using hs
     · exact (HK.out.setCell HB.out _)
    case measure=>simp [intOf];omega
  · obtain rfl:j=l.length:=by omega
    rw [mD] at hown;have HO:=ah hown;clear hown;go_wp2_with fail;go_ret;exact ⟨aI (by rw [List.take_length]),HO.out,hkp⟩
theorem MO (l:List Label) (v:Value) (F:List Nat) (q:Int) (w:World) (h:aW eX 47 w v l F) (h0:0≤q) (h1:q+bC cZ l≤1125899906842624) :
 Calls prog 230 #[v,.int .i64 q] w fun e w'=>e=.returned (.int .i64 (q+bC cZ l))∧aW eX 47 w' v (iw pq cZ q l) F∧Kept F w w':=by
 obtain ⟨A,c,rfl,g1,g2⟩:=h.form;unfold maxLen at g2;have H:=ah h;have H1:=ah h1;clear h h1;go_enter func230,ntmps230;go_wp2_with fail;go_loopw [1,5] (fun kk i w'=>∃ j:Nat,j≤l.length∧i=.int .i64 j∧kk=.int .i64 (q+bC cZ (l.take j))∧aW eX 47 w' (.slice A l.length c) (uS pq cZ q l j) F∧Kept F w w') (fun _ i _=>l.length - (intOf i).toNat);case atStart=>exact ⟨0,Nat.zero_le _,rfl,by simp [bC],by rw [mF];exact H.out,Kept.refl _ _⟩
 case round =>
  obtain ⟨j,hj,rfl,rfl,hown,hkp⟩:=hrel;by_cases hlt:j < l.length
  · obtain ⟨B,c',G,cs,hv,yx,hBG,hGF,ho,hc,hfz,hth,hrow,hset⟩:=hown.at (k:=j) (by rw [dS _ _ _ hj];exact hlt);rw [dS _ _ _ hj] at hv;rw [oM hlt] at ho;obtain ⟨⟨rfl,hfit⟩,rfl⟩:=ho;injection hv with hA _ hcc
    subst hA hcc;have c0:=hc 0 _ rfl;have f0:=hfz (j * 2+0);have c1:=hc 1 _ rfl;have f1:=hfz (j * 2+1);simp only [aH,Nat.add_zero] at c0 f0 c1 f1;have HC:=ah (oW (n:=cZ) hlt);have HS:=ah (jK (n:=cZ) hlt);have HO:=ah hset;have HT:=ah hth;have HR:=ah hrow;have HB:=ah yx;have HK:=ah hkp;have HG:=ah hGF;have HX:=ah hBG;have HRG:=ah hc;have hb:0≤q+(bC cZ (l.take j):Int)∧q+(bC cZ (l.take j):Int)+cZ (nth l j)≤1125899906842624:=by have:=H1.out;have:=HC.out;omega
    simp only [cZ] at hb;clear hc hfz hset hth hrow hkp hown hfit hBG hGF yx;generalize hq:q+(bC cZ (l.take j):Int)=Q at *;have HQ:=ah hq;clear hq;obtain ⟨hb0,hb1⟩:=hb;go_wp2_with fail;go_roundw;case rel =>
     refine ⟨j+1,by omega,by go_num,by rw [HS.out,← HQ.out];push_cast;simp only [cZ];go_num,?_,?_⟩
     · have hs:=fun (W2:World) k r g=>HO.out W2 (pq Q (nth l j)) (aQ (pq Q (nth l j))) k r ⟨⟨rfl,(by simp only [aP,pq,I64];omega)⟩,rfl⟩ g;rw [← HQ.out,oN hlt,HQ.out] at hs;exact hs _ (by repeat (first | with_reducible exact Kept.refl _ _ | refine Kept.setCell ?_ (by simp) _)) (by repeat (first | with_reducible exact HR.out | refine dD.setCell ?_ (by show j * 2≤_;omega) (by show _ < j * 2+2;omega) _)) (show World.rangeAt _ B (j * 2) (aQ (pq Q (nth l j))) from by intro i u hi;rcases i with _ | _ | i <;> simp [aQ,pq] at hi <;> (try subst hi) <;> (go_simp;try omega))
     · exact HK.out.trans (Kept.sub (F:=[B]) (by repeat (first | with_reducible exact Kept.refl _ _ | refine Kept.setCell ?_ (by simp) _)) (fun b _ hb=>by rw [List.mem_singleton.1 hb];exact HB.out))
    case measure=>simp [intOf];omega
  · obtain rfl:j=l.length:=by omega
    rw [mD] at hown;have HO:=ah hown;clear hown;go_wp2_with fail;go_ret;exact ⟨aI (by rw [List.take_length]),HO.out,hkp⟩
theorem OZ (l:List Pair) (v:Value) (F:List Nat) (q:Int) (w:World) (h:aW sJ 214 w v l F) (h0:0≤q) (h1:q+bC jL l≤1125899906842624) :
 Calls prog 132 #[v,.int .i64 q] w fun e w'=>e=.returned (.int .i64 (q+bC jL l))∧aW sJ 214 w' v (iw xI jL q l) F∧Kept F w w':=by
 obtain ⟨A,c,rfl,g1,g2⟩:=h.form;unfold maxLen at g2;have H:=ah h;have H1:=ah h1;clear h h1;go_enter func132,ntmps132;go_wp2_with fail;go_loopw [1,5] (fun kk i w'=>∃ j:Nat,j≤l.length∧i=.int .i64 j∧kk=.int .i64 (q+bC jL (l.take j))∧aW sJ 214 w' (.slice A l.length c) (uS xI jL q l j) F∧Kept F w w') (fun _ i _=>l.length - (intOf i).toNat);case atStart=>exact ⟨0,Nat.zero_le _,rfl,by simp [bC],by rw [mF];exact H.out,Kept.refl _ _⟩
 case round =>
  obtain ⟨j,hj,rfl,rfl,hown,hkp⟩:=hrel;by_cases hlt:j < l.length
  · obtain ⟨B,c',G,cs,hv,yx,hBG,hGF,ho,hc,hfz,hth,hrow,hset⟩:=hown.at (k:=j) (by rw [dS _ _ _ hj];exact hlt);rw [dS _ _ _ hj] at hv;rw [oM hlt] at ho;obtain ⟨⟨rfl,hfit⟩,rfl⟩:=ho;injection hv with hA _ hcc
    subst hA hcc;have c0:=hc 0 _ rfl;have f0:=hfz (j * 5+0);have c1:=hc 1 _ rfl;have f1:=hfz (j * 5+1);have c2:=hc 2 _ rfl;have f2:=hfz (j * 5+2);have c3:=hc 3 _ rfl;have f3:=hfz (j * 5+3);have c4:=hc 4 _ rfl;have f4:=hfz (j * 5+4);simp only [fA,Nat.add_zero] at c0 f0 c1 f1 c2 f2 c3 f3 c4 f4;have HC:=ah (oW (n:=jL) hlt);have HS:=ah (jK (n:=jL) hlt);have HO:=ah hset;have HT:=ah hth;have HR:=ah hrow;have HB:=ah yx;have HK:=ah hkp;have HG:=ah hGF;have HX:=ah hBG;have HRG:=ah hc;have hb:0≤q+(bC jL (l.take j):Int)∧q+(bC jL (l.take j):Int)+jL (nth l j)≤1125899906842624:=by have:=H1.out;have:=HC.out;omega
    simp only [jL] at hb;clear hc hfz hset hth hrow hkp hown hfit hBG hGF yx;generalize hq:q+(bC jL (l.take j):Int)=Q at *;have HQ:=ah hq;clear hq;obtain ⟨hb0,hb1⟩:=hb;go_wp2_with fail;go_roundw;case rel =>
     refine ⟨j+1,by omega,by go_num,by rw [HS.out,← HQ.out];push_cast;simp only [jL];go_num,?_,?_⟩
     · have hs:=fun (W2:World) k r g=>HO.out W2 (xI Q (nth l j)) (fM (xI Q (nth l j))) k r ⟨⟨rfl,(by simp only [nN,xI,I64];omega)⟩,rfl⟩ g;rw [← HQ.out,oN hlt,HQ.out] at hs;exact hs _ (by repeat (first | with_reducible exact Kept.refl _ _ | refine Kept.setCell ?_ (by simp) _)) (by repeat (first | with_reducible exact HR.out | refine dD.setCell ?_ (by show j * 5≤_;omega) (by show _ < j * 5+5;omega) _)) (show World.rangeAt _ B (j * 5) (fM (xI Q (nth l j))) from by intro i u hi;rcases i with _ | _ | _ | _ | _ | i <;> simp [fM,xI] at hi <;> (try subst hi) <;> (go_simp;try omega))
     · exact HK.out.trans (Kept.sub (F:=[B]) (by repeat (first | with_reducible exact Kept.refl _ _ | refine Kept.setCell ?_ (by simp) _)) (fun b _ hb=>by rw [List.mem_singleton.1 hb];exact HB.out))
    case measure=>simp [intOf];omega
  · obtain rfl:j=l.length:=by omega
    rw [mD] at hown;have HO:=ah hown;clear hown;go_wp2_with fail;go_ret;exact ⟨aI (by rw [List.take_length]),HO.out,hkp⟩
theorem MQ (l:List jk) (v:Value) (F:List Nat) (q:Int) (w:World) (h:aW nZ 205 w v l F) (h0:0≤q) (h1:q+bC iT l≤1125899906842624) :
 Calls prog 133 #[v,.int .i64 q] w fun e w'=>e=.returned (.int .i64 (q+bC iT l))∧aW nZ 205 w' v (iw sW iT q l) F∧Kept F w w':=by
 obtain ⟨A,c,rfl,g1,g2⟩:=h.form;unfold maxLen at g2;have H:=ah h;have H1:=ah h1;clear h h1;go_enter func133,ntmps133;go_wp2_with fail;go_loopw [1,5] (fun kk i w'=>∃ j:Nat,j≤l.length∧i=.int .i64 j∧kk=.int .i64 (q+bC iT (l.take j))∧aW nZ 205 w' (.slice A l.length c) (uS sW iT q l j) F∧Kept F w w') (fun _ i _=>l.length - (intOf i).toNat);case atStart=>exact ⟨0,Nat.zero_le _,rfl,by simp [bC],by rw [mF];exact H.out,Kept.refl _ _⟩
 case round =>
  obtain ⟨j,hj,rfl,rfl,hown,hkp⟩:=hrel;by_cases hlt:j < l.length
  · obtain ⟨B,c',G,cs,hv,yx,hBG,hGF,ho,hc,hfz,hth,hrow,hset⟩:=hown.at (k:=j) (by rw [dS _ _ _ hj];exact hlt);rw [dS _ _ _ hj] at hv;rw [oM hlt] at ho;obtain ⟨⟨rfl,hfit⟩,rfl⟩:=ho;injection hv with hA _ hcc
    subst hA hcc;have c0:=hc 0 _ rfl;have f0:=hfz (j * 3+0);have c1:=hc 1 _ rfl;have f1:=hfz (j * 3+1);have c2:=hc 2 _ rfl;have f2:=hfz (j * 3+2);simp only [dJ,Nat.add_zero] at c0 f0 c1 f1 c2 f2;have HC:=ah (oW (n:=iT) hlt);have HS:=ah (jK (n:=iT) hlt);have HO:=ah hset;have HT:=ah hth;have HR:=ah hrow;have HB:=ah yx;have HK:=ah hkp;have HG:=ah hGF;have HX:=ah hBG;have HRG:=ah hc;have hb:0≤q+(bC iT (l.take j):Int)∧q+(bC iT (l.take j):Int)+iT (nth l j)≤1125899906842624:=by have:=H1.out;have:=HC.out;omega
    simp only [iT] at hb;clear hc hfz hset hth hrow hkp hown hfit hBG hGF yx;generalize hq:q+(bC iT (l.take j):Int)=Q at *;have HQ:=ah hq;clear hq;obtain ⟨hb0,hb1⟩:=hb;go_wp2_with fail;go_roundw;case rel =>
     refine ⟨j+1,by omega,by go_num,by rw [HS.out,← HQ.out];push_cast;simp only [iT];go_num,?_,?_⟩
     · have hs:=fun (W2:World) k r g=>HO.out W2 (sW Q (nth l j)) (mY (sW Q (nth l j))) k r ⟨⟨rfl,(by simp only [rE,sW,I64];omega)⟩,rfl⟩ g;rw [← HQ.out,oN hlt,HQ.out] at hs;exact hs _ (by repeat (first | with_reducible exact Kept.refl _ _ | refine Kept.setCell ?_ (by simp) _)) (by repeat (first | with_reducible exact HR.out | refine dD.setCell ?_ (by show j * 3≤_;omega) (by show _ < j * 3+3;omega) _)) (show World.rangeAt _ B (j * 3) (mY (sW Q (nth l j))) from by intro i u hi;rcases i with _ | _ | _ | i <;> simp [mY,sW] at hi <;> (try subst hi) <;> (go_simp;try omega))
     · exact HK.out.trans (Kept.sub (F:=[B]) (by repeat (first | with_reducible exact Kept.refl _ _ | refine Kept.setCell ?_ (by simp) _)) (fun b _ hb=>by rw [List.mem_singleton.1 hb];exact HB.out))
    case measure=>simp [intOf];omega
  · obtain rfl:j=l.length:=by omega
    rw [mD] at hown;have HO:=ah hown;clear hown;go_wp2_with fail;go_ret;exact ⟨aI (by rw [List.take_length]),HO.out,hkp⟩
theorem JM (l:List (List Label)) (v:Value) (F:List Nat) (q:Int) (w:World) (h:aW (pX eX 47) 134 w v l F) (h0:0≤q) (h1:q+bC (bC cZ) l≤1125899906842624) :
 Calls prog 131 #[v,.int .i64 q] w fun e w'=>e=.returned (.int .i64 (q+bC (bC cZ) l))∧aW (pX eX 47) 134 w' v (iw (iw pq cZ) (bC cZ) q l) F∧Kept F w w':=by
 obtain ⟨A,c,rfl,g1,g2⟩:=h.form;unfold maxLen at g2;have H:=ah h;have H1:=ah h1;clear h h1;go_enter func131,ntmps131;go_wp2_with fail;go_loopw [1,5] (fun kk i w'=>∃ j:Nat,j≤l.length∧i=.int .i64 j∧kk=.int .i64 (q+bC (bC cZ) (l.take j))∧aW (pX eX 47) 134 w' (.slice A l.length c) (uS (iw pq cZ) (bC cZ) q l j) F∧Kept F w w') (fun _ i _=>l.length - (intOf i).toNat);case atStart=>exact ⟨0,Nat.zero_le _,rfl,by simp [bC],by rw [mF];exact H.out,Kept.refl _ _⟩
 case round =>
  obtain ⟨j,hj,rfl,rfl,hown,hkp⟩:=hrel;by_cases hlt:j < l.length
  · obtain ⟨B,c',G,cs,hv,yx,hBG,hGF,ho,hc,hfz,hth,hrow,hset⟩:=hown.at (k:=j) (by rw [dS _ _ _ hj];exact hlt);rw [dS _ _ _ hj] at hv;rw [oM hlt] at ho;obtain ⟨u1,rfl,o1⟩:=ho;obtain ⟨A1,k1,rfl,n1,m1⟩:=o1.form;have O1:=ah o1;clear o1;injection hv with hA _ hcc
    subst hA hcc;have c0:=hc 0 _ rfl;simp only [gU,Nat.add_zero,Nat.mul_one] at c0;have HC:=ah (oW (n:=(bC cZ)) hlt);have HS:=ah (jK (n:=(bC cZ)) hlt);have HO:=ah hset;have HT:=ah hth;have HR:=ah hrow;have HB:=ah yx;have HK:=ah hkp;have HG:=ah hGF;have HX:=ah hBG;have HRG:=ah hc;have hb:0≤q+(bC (bC cZ) (l.take j):Int)∧q+(bC (bC cZ) (l.take j):Int)+(bC cZ) (nth l j)≤1125899906842624:=by have:=H1.out;have:=HC.out;omega
    clear hc hfz hset hth hrow hkp hown hBG hGF yx;generalize hq:q+(bC (bC cZ) (l.take j):Int)=Q at *;have HQ:=ah hq;clear hq;obtain ⟨hb0,hb1⟩:=hb;have hn0:(0:Int)≤((bC cZ (nth l j)):Nat):=Int.natCast_nonneg _;have hb2:=hb1;have RNG:=HRG;go_wp2_with fail;refine (MO (nth l j) _ G _ _ (O1.out.kept (G:=[B]) (by repeat (first | with_reducible exact Kept.refl _ _ | refine Kept.setCell ?_ (by simp) _)) (fun b hb hm=>HX.out (by rw [← List.mem_singleton.1 hm];exact hb))) (by omega) (by omega)).mono ?_;rintro e w2 ⟨rfl,p,hk⟩;have P1:=ah p;have K1:=ah hk;clear p hk;go_wp2_with fail;go_roundw;case rel =>
     have hkk:Kept (B :: G) wr w2:=(Kept.trans (by repeat (first | with_reducible exact Kept.refl _ _ | refine Kept.setCell ?_ (by simp) _)) (K1.out.sub (fun b _ hb=>List.mem_cons_of_mem _ hb)))
     refine ⟨j+1,by omega,by go_num,by rw [HS.out,← HQ.out];push_cast;go_num,?_,HK.out.trans (hkk.sub fun b _ hb=>by rcases List.mem_cons.1 hb with rfl | hb;exact HB.out;exact HG.out b hb)⟩;have hs:=HO.out w2 ((iw pq cZ) Q (nth l j)) ([.slice A1 (nth l j).length k1]) hkk (dD.kept (by repeat (first | with_reducible exact HR.out | refine dD.setCell ?_ (by show j * 1≤_;omega) (by show _ < j * 1+1;omega) _)) K1.out (fun hm=>HX.out (hm))) ⟨_,rfl,(P1.out.tX (by first | rfl | omega | (push_cast;omega)))⟩ (fun i u hi=>K1.out.cell HX.out (RNG.out i u hi));rw [← HQ.out,oN hlt] at hs;exact hs
    case measure=>simp [intOf];omega
  · obtain rfl:j=l.length:=by omega
    rw [mD] at hown;have HO:=ah hown;clear hown;go_wp2_with fail;go_ret;exact ⟨aI (by rw [List.take_length]),HO.out,hkp⟩
theorem Lr {S:Nat→Prop} (l:List Int) (v:Value) (q:Int) (w:World) (h:Rd fC S w v (iw mkInt fZ q l)) (h0:0≤q) (h1:q+bC fZ l≤1125899906842624) :
 Calls prog 56 #[v,.int .i64 q] w fun e w'=>e=.returned (.int .i64 (q+bC fZ l))∧Ext w w':=by
 obtain ⟨A,c,rfl,g1,g2,hk⟩:=h.open_;rw [jV] at g1 hk ⊢;unfold maxLen at g2;have H:=ah hk;clear hk;have H1:=ah h1;clear h h1;go_enter func56,ntmps56;go_wp2_with fail;go_loopw [1,5] (fun kk i w'=>∃ j:Nat,j≤l.length∧i=.int .i64 j∧kk=.int .i64 (q+bC fZ (l.take j))∧Ext w w') (fun _ i _=>l.length - (intOf i).toNat);case atStart=>exact ⟨0,Nat.zero_le _,rfl,by simp [bC],Ext.refl _⟩
 case round =>
  obtain ⟨j,hj,rfl,rfl,hx⟩:=hrel;by_cases hlt:j < l.length
  · obtain ⟨B,o,cs,rfl,_,hr,hc⟩:=H.out j hlt;rw [Af q hlt] at hr;obtain ⟨rfl,hfit⟩:=hr;have c0:=Ext.some hx (hc 0 _ rfl);simp only [fC,Nat.add_zero,Nat.mul_one] at c0;have HC:=ah (oW (n:=fZ) hlt);have HS:=ah (jK (n:=fZ) hlt);have HX:=ah hx;have hb:0≤q+(bC fZ (l.take j):Int)∧q+(bC fZ (l.take j):Int)+fZ (nth l j)≤1125899906842624:=by have:=H1.out;have:=HC.out;omega
    simp only [fZ] at hb;clear hc hx hfit;generalize hq:q+(bC fZ (l.take j):Int)=Q at *;have HQ:=ah hq;clear hq;obtain ⟨hb0,hb1⟩:=hb;try simp only [mkInt] at c0
    go_wp2_with fail;first
     | (go_roundw
        case rel=>exact ⟨j+1,by omega,by go_num,by rw [HS.out,← HQ.out];push_cast;simp only [fZ];go_num,HX.out⟩
        case measure=>simp [intOf];omega)
     | (refine ⟨⟨j+1,by omega,by go_num,by rw [HS.out,← HQ.out];push_cast;simp only [fZ];go_num,HX.out⟩,?_⟩
        simp [intOf];omega)
  · obtain rfl:j=l.length:=by omega
    go_wp2_with fail;go_ret;exact ⟨aI (by rw [List.take_length]),hx⟩
theorem aea {α:Type} {E:Elem α} {O:Own E} {w w':World} {cs:List Value} {x:α} {F:List Nat} (h:O.own w cs x F) (hx:Ext w w'):O.own w' cs x F:=O.keep (fun b hb=>Below.block hx b (O.lt h b hb)) h
theorem agO {F1 F2 F3:List Nat} (h:(F1 ++ (F2 ++ F3)).Nodup):(∀ b∈F2,b∉F1)∧(∀ b∈F3,b∉F1)∧(∀ b∈F3,b∉F2):=by
 obtain ⟨_,h2,h3⟩:=List.nodup_append.1 h;obtain ⟨_,_,h4⟩:=List.nodup_append.1 h2;exact ⟨fun b hb hc=>h3 b hc b (List.mem_append_left _ hb) rfl,fun b hb hc=>h3 b hc b (List.mem_append_right _ hb) rfl,fun b hb hc=>h4 b hc b hb rfl⟩
theorem O0 (l:List Span) (v:Value) (F:List Nat) (q:Int) (w:World) (h:aW ji 142 w v l F) (h0:0≤q) (h1:q+bC kP l≤1125899906842624) :
 Calls prog 134 #[v,.int .i64 q] w fun e w'=>e=.returned (.int .i64 (q+bC kP l))∧aW ji 142 w' v (iw zx kP q l) F∧Kept F w w':=by
 obtain ⟨A,c,rfl,g1,g2⟩:=h.form;unfold maxLen at g2;have H:=ah h;have H1:=ah h1;clear h h1;go_enter func134,ntmps134;go_wp2_with fail;go_loopw [1,5] (fun kk i w'=>∃ j:Nat,j≤l.length∧i=.int .i64 j∧kk=.int .i64 (q+bC kP (l.take j))∧aW ji 142 w' (.slice A l.length c) (uS zx kP q l j) F∧Kept F w w') (fun _ i _=>l.length - (intOf i).toNat);case atStart=>exact ⟨0,Nat.zero_le _,rfl,by simp [bC],by rw [mF];exact H.out,Kept.refl _ _⟩
 case round =>
  obtain ⟨j,hj,rfl,rfl,hown,hkp⟩:=hrel;by_cases hlt:j < l.length
  · obtain ⟨B,c',G,cs,hv,yx,hBG,hGF,ho,hc,hfz,hth,hrow,hset⟩:=hown.at (k:=j) (by rw [dS _ _ _ hj];exact hlt);rw [dS _ _ _ hj] at hv;rw [oM hlt] at ho;obtain ⟨⟨rfl,hfit⟩,rfl⟩:=ho;injection hv with hA _ hcc
    subst hA hcc;have c0:=hc 0 _ rfl;have f0:=hfz (j * 2+0);have c1:=hc 1 _ rfl;have f1:=hfz (j * 2+1);simp only [dM,Nat.add_zero] at c0 f0 c1 f1;have HC:=ah (oW (n:=kP) hlt);have HS:=ah (jK (n:=kP) hlt);have HO:=ah hset;have HT:=ah hth;have HR:=ah hrow;have HB:=ah yx;have HK:=ah hkp;have HG:=ah hGF;have HX:=ah hBG;have HRG:=ah hc;have hb:0≤q+(bC kP (l.take j):Int)∧q+(bC kP (l.take j):Int)+kP (nth l j)≤1125899906842624:=by have:=H1.out;have:=HC.out;omega
    simp only [kP] at hb;clear hc hfz hset hth hrow hkp hown hfit hBG hGF yx;generalize hq:q+(bC kP (l.take j):Int)=Q at *;have HQ:=ah hq;clear hq;obtain ⟨hb0,hb1⟩:=hb;go_wp2_with fail;go_roundw;case rel =>
     refine ⟨j+1,by omega,by go_num,by rw [HS.out,← HQ.out];push_cast;simp only [kP];go_num,?_,?_⟩
     · have hs:=fun (W2:World) k r g=>HO.out W2 (zx Q (nth l j)) (nO (zx Q (nth l j))) k r ⟨⟨rfl,(by simp only [wP,zx,I64];omega)⟩,rfl⟩ g;rw [← HQ.out,oN hlt,HQ.out] at hs;exact hs _ (by repeat (first | with_reducible exact Kept.refl _ _ | refine Kept.setCell ?_ (by simp) _)) (by repeat (first | with_reducible exact HR.out | refine dD.setCell ?_ (by show j * 2≤_;omega) (by show _ < j * 2+2;omega) _)) (show World.rangeAt _ B (j * 2) (nO (zx Q (nth l j))) from by intro i u hi;rcases i with _ | _ | i <;> simp [nO,zx] at hi <;> (try subst hi) <;> (go_simp;try omega))
     · exact HK.out.trans (Kept.sub (F:=[B]) (by repeat (first | with_reducible exact Kept.refl _ _ | refine Kept.setCell ?_ (by simp) _)) (fun b _ hb=>by rw [List.mem_singleton.1 hb];exact HB.out))
    case measure=>simp [intOf];omega
  · obtain rfl:j=l.length:=by omega
    rw [mD] at hown;have HO:=ah hown;clear hown;go_wp2_with fail;go_ret;exact ⟨aI (by rw [List.take_length]),HO.out,hkp⟩
theorem OY (l:List Node) (v:Value) (F:List Nat) (q:Int) (w:World) (h:aW wC 151 w v l F) (h0:0≤q) (h1:q+bC jS l≤1125899906842624) :
 Calls prog 52 #[v,.int .i64 q] w fun e w'=>e=.returned (.int .i64 (q+bC jS l))∧aW wC 151 w' v (iw mkNode jS q l) F∧Kept F w w':=by
 obtain ⟨A,c,rfl,g1,g2⟩:=h.form;unfold maxLen at g2;have H:=ah h;have H1:=ah h1;clear h h1;go_enter func52,ntmps52;go_wp2_with fail;go_loopw [1,5] (fun kk i w'=>∃ j:Nat,j≤l.length∧i=.int .i64 j∧kk=.int .i64 (q+bC jS (l.take j))∧aW wC 151 w' (.slice A l.length c) (uS mkNode jS q l j) F∧Kept F w w') (fun _ i _=>l.length - (intOf i).toNat);case atStart=>exact ⟨0,Nat.zero_le _,rfl,by simp [bC],by rw [mF];exact H.out,Kept.refl _ _⟩
 case round =>
  obtain ⟨j,hj,rfl,rfl,hown,hkp⟩:=hrel;by_cases hlt:j < l.length
  · obtain ⟨B,c',G,cs,hv,yx,hBG,hGF,ho,hc,hfz,hth,hrow,hset⟩:=hown.at (k:=j) (by rw [dS _ _ _ hj];exact hlt);rw [dS _ _ _ hj] at hv;rw [oM hlt] at ho;obtain ⟨u1,rfl,hfit,o1⟩:=ho;obtain ⟨A1,k1,rfl,n1,m1⟩:=o1.form;have O1:=ah o1;clear o1;injection hv with hA _ hcc
    subst hA hcc;have c0:=hc 0 _ rfl;have f0:=hfz (j * 2+0);have c1:=hc 1 _ rfl;simp only [ENode,Nat.add_zero] at c0 f0 c1;have HC:=ah (oW (n:=jS) hlt);have HS:=ah (jK (n:=jS) hlt);have HO:=ah hset;have HT:=ah hth;have HR:=ah hrow;have HB:=ah yx;have HK:=ah hkp;have HG:=ah hGF;have HX:=ah hBG;have HRG:=ah hc;have hb:0≤q+(bC jS (l.take j):Int)∧q+(bC jS (l.take j):Int)+jS (nth l j)≤1125899906842624:=by have:=H1.out;have:=HC.out;omega
    simp only [jS] at hb;clear hc hfz hset hth hrow hkp hown hfit hBG hGF yx;generalize hq:q+(bC jS (l.take j):Int)=Q at *;have HQ:=ah hq;clear hq;obtain ⟨hb0,hb1⟩:=hb;have hn0:(0:Int)≤((bC kP (nth l j).books):Nat):=Int.natCast_nonneg _;have hb2:=hb1;push_cast at hb2;have RNG:Hid ((wr.setCells B (j * 2) [.int .i64 Q]).rangeAt B (j * 2) ([.int .i64 Q] ++ [.slice A1 (nth l j).books.length k1])):=ah (Jf (a:=[(nth l j).state]) HRG.out rfl (fun i hi=>HT.out i (Nat.lt_of_lt_of_le hi (show (1:Nat)≤2 by decide))));go_wp2_with fail;refine (O0 (nth l j).books _ G _ _ (O1.out.kept (G:=[B]) (by repeat (first | with_reducible exact Kept.refl _ _ | refine Kept.setCell ?_ (by simp) _)) (fun b hb hm=>HX.out (by rw [← List.mem_singleton.1 hm];exact hb))) (by omega) (by omega)).mono ?_;rintro e w2 ⟨rfl,p,hk⟩;have P1:=ah p;have K1:=ah hk;clear p hk;go_wp2_with fail;go_roundw;case rel =>
     have hkk:Kept (B :: G) wr w2:=(Kept.trans (by repeat (first | with_reducible exact Kept.refl _ _ | refine Kept.setCell ?_ (by simp) _)) (K1.out.sub (fun b _ hb=>List.mem_cons_of_mem _ hb)))
     refine ⟨j+1,by omega,by go_num,by rw [HS.out,← HQ.out];push_cast;simp only [jS];push_cast;go_num,?_,HK.out.trans (hkk.sub fun b _ hb=>by rcases List.mem_cons.1 hb with rfl | hb;exact HB.out;exact HG.out b hb)⟩;have hs:=HO.out w2 (mkNode Q (nth l j)) (lG (mkNode Q (nth l j)) (.slice A1 (nth l j).books.length k1)) hkk (dD.kept (by repeat (first | with_reducible exact HR.out | refine dD.setCell ?_ (by show j * 2≤_;omega) (by show _ < j * 2+2;omega) _)) K1.out (fun hm=>HX.out (hm))) ⟨_,rfl,(by simp only [JX,mkNode,I64];omega),(P1.out.tX (by first | rfl | omega | (push_cast;omega)))⟩ (fun i u hi=>K1.out.cell HX.out ((show World.rangeAt _ B (j * 2) (lG (mkNode Q (nth l j)) (.slice A1 (nth l j).books.length k1)) from by have h:=RNG.out;simpa [World.setCells,lG,mkNode] using h) i u hi));rw [← HQ.out,oN hlt] at hs;exact hs
    case measure=>simp [intOf];omega
  · obtain rfl:j=l.length:=by omega
    rw [mD] at hown;have HO:=ah hown;clear hown;go_wp2_with fail;go_ret;exact ⟨aI (by rw [List.take_length]),HO.out,hkp⟩
theorem SH (l:List Use) (v:Value) (F:List Nat) (q:Int) (w:World) (h:aW FQ 138 w v l F) (h0:0≤q) (h1:q+bC mG l≤1125899906842624) :
 Calls prog 54 #[v,.int .i64 q] w fun e w'=>e=.returned (.int .i64 (q+bC mG l))∧aW FQ 138 w' v (iw Ja mG q l) F∧Kept F w w':=by
 obtain ⟨A,c,rfl,g1,g2⟩:=h.form;unfold maxLen at g2;have H:=ah h;have H1:=ah h1;clear h h1;go_enter func54,ntmps54;go_wp2_with fail;go_loopw [1,5] (fun kk i w'=>∃ j:Nat,j≤l.length∧i=.int .i64 j∧kk=.int .i64 (q+bC mG (l.take j))∧aW FQ 138 w' (.slice A l.length c) (uS Ja mG q l j) F∧Kept F w w') (fun _ i _=>l.length - (intOf i).toNat);case atStart=>exact ⟨0,Nat.zero_le _,rfl,by simp [bC],by rw [mF];exact H.out,Kept.refl _ _⟩
 case round =>
  obtain ⟨j,hj,rfl,rfl,hown,hkp⟩:=hrel;by_cases hlt:j < l.length
  · obtain ⟨B,c',G,cs,hv,yx,hBG,hGF,ho,hc,hfz,hth,hrow,hset⟩:=hown.at (k:=j) (by rw [dS _ _ _ hj];exact hlt);rw [dS _ _ _ hj] at hv;rw [oM hlt] at ho;obtain ⟨⟨rfl,hfit⟩,rfl⟩:=ho;injection hv with hA _ hcc
    subst hA hcc;have c0:=hc 0 _ rfl;have f0:=hfz (j * 4+0);have c1:=hc 1 _ rfl;have f1:=hfz (j * 4+1);have c2:=hc 2 _ rfl;have f2:=hfz (j * 4+2);have c3:=hc 3 _ rfl;have f3:=hfz (j * 4+3);simp only [dX,Nat.add_zero] at c0 f0 c1 f1 c2 f2 c3 f3;have HC:=ah (oW (n:=mG) hlt);have HS:=ah (jK (n:=mG) hlt);have HO:=ah hset;have HT:=ah hth;have HR:=ah hrow;have HB:=ah yx;have HK:=ah hkp;have HG:=ah hGF;have HX:=ah hBG;have HRG:=ah hc;have hb:0≤q+(bC mG (l.take j):Int)∧q+(bC mG (l.take j):Int)+mG (nth l j)≤1125899906842624:=by have:=H1.out;have:=HC.out;omega
    simp only [mG] at hb;clear hc hfz hset hth hrow hkp hown hfit hBG hGF yx;generalize hq:q+(bC mG (l.take j):Int)=Q at *;have HQ:=ah hq;clear hq;obtain ⟨hb0,hb1⟩:=hb;go_wp2_with fail;refine (EJ _ _ (by omega) (by omega)).mono ?_;rintro e wt ⟨rfl,hxt⟩;have y0:=Ext.some hxt (show World.cell? _ ⟨B,j * 4,none⟩=some (.int .i64 Q) by go_simp);have y1:=Ext.some hxt (show World.cell? _ ⟨B,j * 4+1,none⟩=some (.int .i64 (Q+1)) by go_simp);have y2:=Ext.some hxt (show World.cell? _ ⟨B,j * 4+2,none⟩=some (.string (nth l j).owner) by go_simp);have y3:=Ext.some hxt (show World.cell? _ ⟨B,j * 4+3,none⟩=some (.int .i64 (nth l j).used) by go_simp);have KT:Hid (Kept [B] wr wt):=ah (Kept.trans (by repeat (first | with_reducible exact Kept.refl _ _ | refine Kept.setCell ?_ (by simp) _)) (Kept.dw hxt));have RT:Hid (dD 138 B (j * dX.size) dX.size wr wt):=ah (dD.kept (by repeat (first | with_reducible exact HR.out | refine dD.setCell ?_ (by show j * 4≤_;omega) (by show _ < j * 4+4;omega) _)) (Kept.dw (F:=[]) hxt) (by simp));clear f0;clear f1;replace f2:=RT.out.frozen (j * 4+2);replace f3:=RT.out.frozen (j * 4+3);clear hxt c0 c1 c2 c3;have c0:=y0;have c1:=y1;have c2:=y2;have c3:=y3;clear y0 y1 y2 y3;go_wp2_with fail;go_roundw;case rel =>
     refine ⟨j+1,by omega,by go_num,by rw [HS.out,← HQ.out];push_cast;simp only [mG];go_num,?_,?_⟩
     · have hs:=fun (W2:World) k r g=>HO.out W2 (Ja Q (nth l j)) (kN (Ja Q (nth l j))) k r ⟨⟨rfl,(by have hm:=Qq (Q+1+1) (by omega);simp only [wQ,Ja,I64];(repeat' apply And.intro);all_goals first | exact hm | omega)⟩,rfl⟩ g;rw [← HQ.out,oN hlt,HQ.out] at hs;exact hs _ (by repeat (first | with_reducible exact KT.out | refine Kept.setCell ?_ (by simp) _)) (by repeat (first | with_reducible exact RT.out | refine dD.setCell ?_ (by show j * 4≤_;omega) (by show _ < j * 4+4;omega) _)) (show World.rangeAt _ B (j * 4) (kN (Ja Q (nth l j))) from by intro i u hi;rcases i with _ | _ | _ | _ | i <;> simp [kN,Ja] at hi <;> (try subst hi) <;> (go_simp;try omega))
     · exact HK.out.trans (Kept.sub (F:=[B]) (by repeat (first | with_reducible exact KT.out | refine Kept.setCell ?_ (by simp) _)) (fun b _ hb=>by rw [List.mem_singleton.1 hb];exact HB.out))
    case measure=>simp [intOf];omega
  · obtain rfl:j=l.length:=by omega
    rw [mD] at hown;have HO:=ah hown;clear hown;go_wp2_with fail;go_ret;exact ⟨aI (by rw [List.take_length]),HO.out,hkp⟩
theorem Pg (l:List Task) (v:Value) (F:List Nat) (q:Int) (w:World) (h:aW iW 76 w v l F) (h0:0≤q) (h1:q+bC jT l≤1125899906842624) :
 Calls prog 53 #[v,.int .i64 q] w fun e w'=>e=.returned (.int .i64 (q+bC jT l))∧aW iW 76 w' v (iw zy jT q l) F∧Kept F w w':=by
 obtain ⟨A,c,rfl,g1,g2⟩:=h.form;unfold maxLen at g2;have H:=ah h;have H1:=ah h1;clear h h1;go_enter func53,ntmps53;go_wp2_with fail;go_loopw [1,5] (fun kk i w'=>∃ j:Nat,j≤l.length∧i=.int .i64 j∧kk=.int .i64 (q+bC jT (l.take j))∧aW iW 76 w' (.slice A l.length c) (uS zy jT q l j) F∧Kept F w w') (fun _ i _=>l.length - (intOf i).toNat);case atStart=>exact ⟨0,Nat.zero_le _,rfl,by simp [bC],by rw [mF];exact H.out,Kept.refl _ _⟩
 case round =>
  obtain ⟨j,hj,rfl,rfl,hown,hkp⟩:=hrel;by_cases hlt:j < l.length
  · obtain ⟨B,c',G,cs,hv,yx,hBG,hGF,ho,hc,hfz,hth,hrow,hset⟩:=hown.at (k:=j) (by rw [dS _ _ _ hj];exact hlt);rw [dS _ _ _ hj] at hv;rw [oM hlt] at ho;obtain ⟨u1,rfl,hfit,o1⟩:=ho;obtain ⟨A1,k1,rfl,n1,m1⟩:=o1.form;have O1:=ah o1;clear o1;injection hv with hA _ hcc
    subst hA hcc;have c0:=hc 0 _ rfl;have f0:=hfz (j * 14+0);have c1:=hc 1 _ rfl;have f1:=hfz (j * 14+1);have c2:=hc 2 _ rfl;have f2:=hfz (j * 14+2);have c3:=hc 3 _ rfl;have f3:=hfz (j * 14+3);have c4:=hc 4 _ rfl;have f4:=hfz (j * 14+4);have c5:=hc 5 _ rfl;have f5:=hfz (j * 14+5);have c6:=hc 6 _ rfl;have f6:=hfz (j * 14+6);have c7:=hc 7 _ rfl;have f7:=hfz (j * 14+7);have c8:=hc 8 _ rfl;have f8:=hfz (j * 14+8);have c9:=hc 9 _ rfl;have f9:=hfz (j * 14+9);have c10:=hc 10 _ rfl;have f10:=hfz (j * 14+10);have c11:=hc 11 _ rfl;have f11:=hfz (j * 14+11);have c12:=hc 12 _ rfl;have f12:=hfz (j * 14+12);have c13:=hc 13 _ rfl;simp only [ETask,Nat.add_zero] at c0 f0 c1 f1 c2 f2 c3 f3 c4 f4 c5 f5 c6 f6 c7 f7 c8 f8 c9 f9 c10 f10 c11 f11 c12 f12 c13;have HC:=ah (oW (n:=jT) hlt);have HS:=ah (jK (n:=jT) hlt);have HO:=ah hset;have HT:=ah hth;have HR:=ah hrow;have HB:=ah yx;have HK:=ah hkp;have HG:=ah hGF;have HX:=ah hBG;have HRG:=ah hc;have hb:0≤q+(bC jT (l.take j):Int)∧q+(bC jT (l.take j):Int)+jT (nth l j)≤1125899906842624:=by have:=H1.out;have:=HC.out;omega
    simp only [jT] at hb;clear hc hfz hset hth hrow hkp hown hfit hBG hGF yx;generalize hq:q+(bC jT (l.take j):Int)=Q at *;have HQ:=ah hq;clear hq;obtain ⟨hb0,hb1⟩:=hb;have hn0:(0:Int)≤((bC fZ (nth l j).nodes):Nat):=Int.natCast_nonneg _;have hb2:=hb1;push_cast at hb2;go_wp2_with fail;refine (EJ _ _ (by omega) (by omega)).mono ?_;rintro e wt ⟨rfl,hxt⟩;have y0:=Ext.some hxt (show World.cell? _ ⟨B,j * 14,none⟩=some (.int .i64 Q) by go_simp);have y1:=Ext.some hxt (show World.cell? _ ⟨B,j * 14+1,none⟩=some (.int .i64 (Q+1)) by go_simp);have y2:=Ext.some hxt (show World.cell? _ ⟨B,j * 14+2,none⟩=some (.int .i64 (Q+1+1)) by go_simp);have y3:=Ext.some hxt (show World.cell? _ ⟨B,j * 14+3,none⟩=some (.string (nth l j).owner) by go_simp);have y4:=Ext.some hxt (show World.cell? _ ⟨B,j * 14+4,none⟩=some (.int .i64 (nth l j).need) by go_simp);have y5:=Ext.some hxt (show World.cell? _ ⟨B,j * 14+5,none⟩=some (.int .i64 (nth l j).long) by go_simp);have y6:=Ext.some hxt (show World.cell? _ ⟨B,j * 14+6,none⟩=some (.int .i64 (nth l j).prio) by go_simp);have y7:=Ext.some hxt (show World.cell? _ ⟨B,j * 14+7,none⟩=some (.int .i64 (nth l j).under.level) by go_simp);have y8:=Ext.some hxt (show World.cell? _ ⟨B,j * 14+8,none⟩=some (.int .i64 (nth l j).under.set) by go_simp);have y9:=Ext.some hxt (show World.cell? _ ⟨B,j * 14+9,none⟩=some (.int .i64 (nth l j).after) by go_simp);have y10:=Ext.some hxt (show World.cell? _ ⟨B,j * 14+10,none⟩=some (.int .i64 (nth l j).born) by go_simp);have y11:=Ext.some hxt (show World.cell? _ ⟨B,j * 14+11,none⟩=some (.int .i64 (nth l j).state) by go_simp);have y12:=Ext.some hxt (show World.cell? _ ⟨B,j * 14+12,none⟩=some (.int .i64 (nth l j).start) by go_simp);have y13:=Ext.some hxt (show World.cell? _ ⟨B,j * 14+13,none⟩=some (.slice A1 (nth l j).nodes.length k1) by go_simp);have KT:Hid (Kept [B] wr wt):=ah (Kept.trans (by repeat (first | with_reducible exact Kept.refl _ _ | refine Kept.setCell ?_ (by simp) _)) (Kept.dw hxt));have RT:Hid (dD 76 B (j * ETask.size) ETask.size wr wt):=ah (dD.kept (by repeat (first | with_reducible exact HR.out | refine dD.setCell ?_ (by show j * 14≤_;omega) (by show _ < j * 14+14;omega) _)) (Kept.dw (F:=[]) hxt) (by simp));clear f0;clear f1;clear f2;replace f3:=RT.out.frozen (j * 14+3);replace f4:=RT.out.frozen (j * 14+4);replace f5:=RT.out.frozen (j * 14+5);replace f6:=RT.out.frozen (j * 14+6);replace f7:=RT.out.frozen (j * 14+7);replace f8:=RT.out.frozen (j * 14+8);replace f9:=RT.out.frozen (j * 14+9);replace f10:=RT.out.frozen (j * 14+10);replace f11:=RT.out.frozen (j * 14+11);replace f12:=RT.out.frozen (j * 14+12);clear hxt c0 c1 c2 c3 c4 c5 c6 c7 c8 c9 c10 c11 c12 c13;have c0:=y0;have c1:=y1;have c2:=y2;have c3:=y3;have c4:=y4;have c5:=y5;have c6:=y6;have c7:=y7;have c8:=y8;have c9:=y9;have c10:=y10;have c11:=y11;have c12:=y12;have c13:=y13;clear y0 y1 y2 y3 y4 y5 y6 y7 y8 y9 y10 y11 y12 y13;go_wp2_with fail;refine (zu (nth l j).nodes _ G _ _ (O1.out.kept (G:=[B]) (by repeat (first | with_reducible exact KT.out | refine Kept.setCell ?_ (by simp) _)) (fun b hb hm=>HX.out (by rw [← List.mem_singleton.1 hm];exact hb))) (by omega) (by omega)).mono ?_;rintro e w2 ⟨rfl,p,hk⟩;have P1:=ah p;have K1:=ah hk;clear p hk;go_wp2_with fail;go_roundw;case rel =>
     have hkk:Kept (B :: G) wr w2:=(Kept.trans (by repeat (first | with_reducible exact KT.out.sub (fun b _ hb=>by simp at hb ⊢;exact .inl hb) | refine Kept.setCell ?_ (by simp) _)) (K1.out.sub (fun b _ hb=>List.mem_cons_of_mem _ hb)))
     refine ⟨j+1,by omega,by go_num,by rw [HS.out,← HQ.out];push_cast;simp only [jT];push_cast;go_num,?_,HK.out.trans (hkk.sub fun b _ hb=>by rcases List.mem_cons.1 hb with rfl | hb;exact HB.out;exact HG.out b hb)⟩;have hs:=HO.out w2 (zy Q (nth l j)) (aB (zy Q (nth l j)) (.slice A1 (nth l j).nodes.length k1)) hkk (dD.kept (by repeat (first | with_reducible exact RT.out | refine dD.setCell ?_ (by show j * 14≤_;omega) (by show _ < j * 14+14;omega) _)) K1.out (fun hm=>HX.out (hm))) ⟨_,rfl,(by have hm:=Qq (Q+1+1+1) (by omega);simp only [eH,zy,I64];(repeat' apply And.intro);all_goals first | exact hm | omega),(P1.out.tX (by first | rfl | omega | (push_cast;omega)))⟩ (fun i u hi=>K1.out.cell HX.out ((show World.rangeAt _ B (j * 14) (aB (zy Q (nth l j)) (.slice A1 (nth l j).nodes.length k1)) from by intro i u hi;rcases i with _ | _ | _ | _ | _ | _ | _ | _ | _ | _ | _ | _ | _ | _ | i <;> simp [aB,zy] at hi <;> (try subst hi) <;> (go_simp;try omega)) i u hi));rw [← HQ.out,oN hlt] at hs;exact hs
    case measure=>simp [intOf];omega
  · obtain rfl:j=l.length:=by omega
    rw [mD] at hown;have HO:=ah hown;clear hown;go_wp2_with fail;go_ret;exact ⟨aI (by rw [List.take_length]),HO.out,hkp⟩
theorem wE {A B:List Nat} (h:(A ++ B).Nodup):A.Nodup∧B.Nodup∧(∀ b∈B,b∉A):=by
 obtain ⟨h1,h2,h3⟩:=List.nodup_append.1 h;exact ⟨h1,h2,fun b hb hc=>h3 b hc b hb rfl⟩
theorem MN (x:Config) (v1 v2 v3:Value) (F1 F2 F3:List Nat) (n1 n2 n3:Nat) (q:Int) (w:World) (o1:aW (pX eX 47) 134 w v1 x.nodes F1) (o2:aW sJ 214 w v2 x.pairs F2) (o3:aW nZ 205 w v3 x.ay F3) (e1:bC (bC cZ) x.nodes=n1) (e2:bC jL x.pairs=n2) (e3:bC iT x.ay=n3) (hd:(F1 ++ (F2 ++ F3)).Nodup) (h0:0≤q) (hb:(q+(n1:Int)+(n2:Int)+(n3:Int))≤1125899906842624) :
 Calls prog 51 #[.agg #[v1,v2,v3,x.half],.int .i64 q] w fun e w'=>e=.returned (.int .i64 (q+(n1:Int)+(n2:Int)+(n3:Int)))∧aW (pX eX 47) 134 w' v1 (iw (iw pq cZ) (bC cZ) q x.nodes) F1∧aW sJ 214 w' v2 (iw xI jL (q+(n1:Int)) x.pairs) F2∧aW nZ 205 w' v3 (iw sW iT (q+(n1:Int)+(n2:Int)) x.ay) F3∧Kept (F1 ++ (F2 ++ F3)) w w':=by
 obtain ⟨A1,c1,rfl,-⟩:=o1.form;obtain ⟨A2,c2,rfl,-⟩:=o2.form;obtain ⟨A3,c3,rfl,-⟩:=o3.form;have O1:=ah o1;have O2:=ah o2;have O3:=ah o3;have N1:=ah e1;have N2:=ah e2;have N3:=ah e3;obtain ⟨_,hd2,d1⟩:=wE hd;obtain ⟨_,_,d2⟩:=wE hd2;have D12:Hid (∀ b∈F2,b∉F1):=ah (fun b hb=>d1 b (List.mem_append_left _ hb));have D13:Hid (∀ b∈F3,b∉F1):=ah (fun b hb=>d1 b (List.mem_append_right _ hb));have D23:Hid (∀ b∈F3,b∉F2):=ah d2;have D21:Hid (∀ b∈F1,b∉F2):=ah (fun b h1 h2=>D12.out b h2 h1);have D31:Hid (∀ b∈F1,b∉F3):=ah (fun b h1 h2=>D13.out b h2 h1);have D32:Hid (∀ b∈F2,b∉F3):=ah (fun b h1 h2=>D23.out b h2 h1);clear o1 o2 o3 e1 e2 e3 hd hd2 d1 d2;go_enter func51,ntmps51;go_upto_region 1 with (fail)
 obtain ⟨W,B,hW,hB,hx0,b0⟩:∃ W B,W=w.alloc (.cells #[.slice A1 x.nodes.length c1,.slice A2 x.pairs.length c2,.slice A3 x.ay.length c3,x.half] 40)∧B=w.heap.size∧Ext w W∧aF W B 40 #[.slice A1 x.nodes.length c1,.slice A2 x.pairs.length c2,.slice A3 x.ay.length c3,x.half]:=⟨_,_,rfl,rfl,(Ext.refl w).alloc _,aF.new _ _ _⟩
 have HN1:Hid (B∉F1):=ah (fun hb=>absurd (O1.out.lt B hb) (by omega));have HN2:Hid (B∉F2):=ah (fun hb=>absurd (O2.out.lt B hb) (by omega));rw [← hW,← hB];have Q:=ah b0;have X:=ah hx0;clear hW hB hx0 b0;have q0:=Q.out.cell 0;go_upto_region 2 with (go_at_call 131;(with_reducible refine (JM x.nodes _ F1 q _ (O1.out.ext X.out) h0 (by have:=N1.out;omega)).mono ?_);rw [N1.out];rintro e w1 ⟨rfl,p1,k1⟩;have P1:=ah p1;have K1:=ah k1;have Q1:Hid (aF w1 B 40 #[.slice A1 x.nodes.length c1,.slice A2 x.pairs.length c2,.slice A3 x.ay.length c3,x.half]):=ah ((k1.block B Q.out.lt HN1.out).trans Q.out);clear p1 k1)
 clear q0;have q1:=Q1.out.cell 1;go_upto_region 3 with (go_at_call 132;(with_reducible refine (OZ x.pairs _ F2 _ _ ((O2.out.ext X.out).kept K1.out D12.out) (by omega) (by have:=N2.out;omega)).mono ?_);rw [N2.out];rintro e w2 ⟨rfl,p2,k2⟩;have P2:=ah p2;have K2:=ah k2;have Q2:Hid (aF w2 B 40 #[.slice A1 x.nodes.length c1,.slice A2 x.pairs.length c2,.slice A3 x.ay.length c3,x.half]):=ah ((k2.block B Q1.out.lt HN2.out).trans Q1.out);clear p2 k2)
 clear q1;have q2:=Q2.out.cell 2;go_wp2_with (go_at_call 133;(with_reducible refine (MQ x.ay _ F3 _ _ (((O3.out.ext X.out).kept K1.out D13.out).kept K2.out D23.out) (by omega) (by have:=N3.out;omega)).mono ?_);rw [N3.out];rintro e w3 ⟨rfl,p3,k3⟩;have P3:=ah p3;have K3:=ah k3;clear p3 k3);go_ret;exact ⟨rfl,(P1.out.kept K2.out D21.out).kept K3.out D31.out,P2.out.kept K3.out D32.out,P3.out,(((Kept.dw X.out).trans (K1.out.sub (G:=F1 ++ (F2 ++ F3)) (fun b _ hm=>by simp [hm]))).trans (K2.out.sub (G:=F1 ++ (F2 ++ F3)) (fun b _ hm=>by simp [hm]))).trans (K3.out.sub (G:=F1 ++ (F2 ++ F3)) (fun b _ hm=>by simp [hm]))⟩
theorem SI (x:aK) (v1 v2 v3 v4 v5 v6:Value) (F1 F2 F3 F4 F5 F6:List Nat) (n1 n2 n3 n4 n5 n6:Nat) (q:Int) (w:World) (o1:aW (pX eX 47) 134 w v1 x.config.nodes F1) (o2:aW sJ 214 w v2 x.config.pairs F2) (o3:aW nZ 205 w v3 x.config.ay F3) (o4:aW wC 151 w v4 x.nodes F4) (o5:aW iW 76 w v5 x.tasks F5) (o6:aW FQ 138 w v6 x.uses F6) (e1:bC (bC cZ) x.config.nodes=n1) (e2:bC jL x.config.pairs=n2) (e3:bC iT x.config.ay=n3) (e4:bC jS x.nodes=n4) (e5:bC jT x.tasks=n5) (e6:bC mG x.uses=n6) (hd:(F1 ++ (F2 ++ (F3 ++ (F4 ++ (F5 ++ F6))))).Nodup) (h0:0≤q) (hb:(q+(n1:Int)+(n2:Int)+(n3:Int)+(n4:Int)+(n5:Int)+(n6:Int))≤1125899906842624) :
 Calls prog 16 #[.agg #[v1,v2,v3,x.config.half,v4,v5,v6,x.now],.int .i64 q] w fun e w'=>e=.returned (.int .i64 (q+(n1:Int)+(n2:Int)+(n3:Int)+(n4:Int)+(n5:Int)+(n6:Int)))∧aW (pX eX 47) 134 w' v1 (iw (iw pq cZ) (bC cZ) q x.config.nodes) F1∧aW sJ 214 w' v2 (iw xI jL (q+(n1:Int)) x.config.pairs) F2∧aW nZ 205 w' v3 (iw sW iT (q+(n1:Int)+(n2:Int)) x.config.ay) F3∧aW wC 151 w' v4 (iw mkNode jS (q+(n1:Int)+(n2:Int)+(n3:Int)) x.nodes) F4∧aW iW 76 w' v5 (iw zy jT (q+(n1:Int)+(n2:Int)+(n3:Int)+(n4:Int)) x.tasks) F5∧aW FQ 138 w' v6 (iw Ja mG (q+(n1:Int)+(n2:Int)+(n3:Int)+(n4:Int)+(n5:Int)) x.uses) F6∧Kept (F1 ++ (F2 ++ (F3 ++ (F4 ++ (F5 ++ F6))))) w w':=by
 obtain ⟨A1,c1,rfl,-⟩:=o1.form;have O1:=ah o1;have N1:=ah e1;obtain ⟨A2,c2,rfl,-⟩:=o2.form;have O2:=ah o2;have N2:=ah e2;obtain ⟨A3,c3,rfl,-⟩:=o3.form;have O3:=ah o3;have N3:=ah e3;obtain ⟨A4,c4,rfl,-⟩:=o4.form;have O4:=ah o4;have N4:=ah e4;obtain ⟨A5,c5,rfl,-⟩:=o5.form;have O5:=ah o5;have N5:=ah e5;obtain ⟨A6,c6,rfl,-⟩:=o6.form;have O6:=ah o6;have N6:=ah e6;have hd':((F1 ++ (F2 ++ F3)) ++ (F4 ++ (F5 ++ F6))).Nodup:=by
  have h:=hd;simp only [List.append_assoc] at h ⊢;exact h
 obtain ⟨da,db,dc⟩:=wE hd';obtain ⟨_,db2,d4⟩:=wE db;obtain ⟨_,_,d5⟩:=wE db2;have HD:=ah da;have DG4:Hid (∀ b∈F4,b∉(F1 ++ (F2 ++ F3))):=ah (fun b hb=>dc b (List.mem_append_left _ hb));have DG5:Hid (∀ b∈F5,b∉(F1 ++ (F2 ++ F3))):=ah (fun b hb=>dc b (List.mem_append_right _ (List.mem_append_left _ hb)));have DG6:Hid (∀ b∈F6,b∉(F1 ++ (F2 ++ F3))):=ah (fun b hb=>dc b (List.mem_append_right _ (List.mem_append_right _ hb)));have D45:Hid (∀ b∈F5,b∉F4):=ah (fun b hb=>d4 b (List.mem_append_left _ hb));have D46:Hid (∀ b∈F6,b∉F4):=ah (fun b hb=>d4 b (List.mem_append_right _ hb));have D56:Hid (∀ b∈F6,b∉F5):=ah d5;have R14:Hid (∀ b∈F1,b∉F4):=ah (fun b h1 h2=>DG4.out b h2 (List.mem_append_left _ h1));have R15:Hid (∀ b∈F1,b∉F5):=ah (fun b h1 h2=>DG5.out b h2 (List.mem_append_left _ h1));have R16:Hid (∀ b∈F1,b∉F6):=ah (fun b h1 h2=>DG6.out b h2 (List.mem_append_left _ h1));have R24:Hid (∀ b∈F2,b∉F4):=ah (fun b h1 h2=>DG4.out b h2 (List.mem_append_right _ (List.mem_append_left _ h1)));have R25:Hid (∀ b∈F2,b∉F5):=ah (fun b h1 h2=>DG5.out b h2 (List.mem_append_right _ (List.mem_append_left _ h1)));have R26:Hid (∀ b∈F2,b∉F6):=ah (fun b h1 h2=>DG6.out b h2 (List.mem_append_right _ (List.mem_append_left _ h1)));have R34:Hid (∀ b∈F3,b∉F4):=ah (fun b h1 h2=>DG4.out b h2 (List.mem_append_right _ (List.mem_append_right _ h1)));have R35:Hid (∀ b∈F3,b∉F5):=ah (fun b h1 h2=>DG5.out b h2 (List.mem_append_right _ (List.mem_append_right _ h1)));have R36:Hid (∀ b∈F3,b∉F6):=ah (fun b h1 h2=>DG6.out b h2 (List.mem_append_right _ (List.mem_append_right _ h1)));have R45:Hid (∀ b∈F4,b∉F5):=ah (fun b h1 h2=>D45.out b h2 h1);have R46:Hid (∀ b∈F4,b∉F6):=ah (fun b h1 h2=>D46.out b h2 h1);have R56:Hid (∀ b∈F5,b∉F6):=ah (fun b h1 h2=>D56.out b h2 h1);clear o1 o2 o3 o4 o5 o6 e1 e2 e3 e4 e5 e6 hd hd' da db dc db2 d4 d5;go_enter func16,ntmps16;go_upto_region 1 with (fail)
 obtain ⟨W,B,hW,hB,hx0,b0⟩:∃ W B,W=w.alloc (.cells (Ry x A1 c1 A2 c2 A3 c3 A4 c4 A5 c5 A6 c6) 45)∧B=w.heap.size∧Ext w W∧aF W B 45 (Ry x A1 c1 A2 c2 A3 c3 A4 c4 A5 c5 A6 c6):=⟨_,_,rfl,rfl,(Ext.refl w).alloc _,aF.new _ _ _⟩
 have HG:Hid (B∉(F1 ++ (F2 ++ F3))):=ah (fun hb=>by
  simp only [List.mem_append] at hb;rcases hb with hb | hb | hb
  · exact absurd (O1.out.lt B hb) (by omega)
  · exact absurd (O2.out.lt B hb) (by omega)
  · exact absurd (O3.out.lt B hb) (by omega))
 have HN4:Hid (B∉F4):=ah (fun hb=>absurd (O4.out.lt B hb) (by omega));have HN5:Hid (B∉F5):=ah (fun hb=>absurd (O5.out.lt B hb) (by omega));rw [← hW,← hB];have Q:=ah b0;have X:=ah hx0;clear hW hB hx0 b0;have qa:=Q.out.cell;go_upto_region 2 with (go_at_call 51;(with_reducible refine (MN x.config _ _ _ F1 F2 F3 n1 n2 n3 q _ (O1.out.ext X.out) (O2.out.ext X.out) (O3.out.ext X.out) N1.out N2.out N3.out HD.out h0 (by omega)).mono ?_);rintro e w1 ⟨rfl,p1,p2,p3,k1⟩;have P1:=ah p1;have P2:=ah p2;have P3:=ah p3;have K1:=ah k1;have Q1:Hid (aF w1 B 45 (Ry x A1 c1 A2 c2 A3 c3 A4 c4 A5 c5 A6 c6)):=ah ((k1.block B Q.out.lt HG.out).trans Q.out);clear p1 p2 p3 k1 qa)
 have q1:w1.cell? ⟨B,4,none⟩=some (.slice A4 x.nodes.length c4):=Q1.out.cell 4;go_upto_region 3 with (go_at_call 52;(with_reducible refine (OY x.nodes _ F4 _ _ ((O4.out.ext X.out).kept K1.out DG4.out) (by omega) (by have:=N4.out;omega)).mono ?_);rw [N4.out];rintro e w2 ⟨rfl,p4,k2⟩;have P4:=ah p4;have K2:=ah k2;have Q2:Hid (aF w2 B 45 (Ry x A1 c1 A2 c2 A3 c3 A4 c4 A5 c5 A6 c6)):=ah ((k2.block B Q1.out.lt HN4.out).trans Q1.out);clear p4 k2 q1)
 have q2:w2.cell? ⟨B,5,none⟩=some (.slice A5 x.tasks.length c5):=Q2.out.cell 5;go_upto_region 4 with (go_at_call 53;(with_reducible refine (Pg x.tasks _ F5 _ _ (((O5.out.ext X.out).kept K1.out DG5.out).kept K2.out D45.out) (by omega) (by have:=N5.out;omega)).mono ?_);rw [N5.out];rintro e w3 ⟨rfl,p5,k3⟩;have P5:=ah p5;have K3:=ah k3;have Q3:Hid (aF w3 B 45 (Ry x A1 c1 A2 c2 A3 c3 A4 c4 A5 c5 A6 c6)):=ah ((k3.block B Q2.out.lt HN5.out).trans Q2.out);clear p5 k3 q2)
 have q3:w3.cell? ⟨B,6,none⟩=some (.slice A6 x.uses.length c6):=Q3.out.cell 6;go_wp2_with (go_at_call 54;(with_reducible refine (SH x.uses _ F6 _ _ ((((O6.out.ext X.out).kept K1.out DG6.out).kept K2.out D46.out).kept K3.out D56.out) (by omega) (by have:=N6.out;omega)).mono ?_);rw [N6.out];rintro e w4 ⟨rfl,p6,k4⟩;have P6:=ah p6;have K4:=ah k4;clear p6 k4 q3);go_ret;exact ⟨rfl,((P1.out.kept K2.out R14.out).kept K3.out R15.out).kept K4.out R16.out,((P2.out.kept K2.out R24.out).kept K3.out R25.out).kept K4.out R26.out,((P3.out.kept K2.out R34.out).kept K3.out R35.out).kept K4.out R36.out,(P4.out.kept K3.out R45.out).kept K4.out R46.out,P5.out.kept K4.out R56.out,P6.out,
  ((((Kept.dw X.out).trans (K1.out.sub (G:=F1 ++ (F2 ++ (F3 ++ (F4 ++ (F5 ++ F6))))) (fun b _ hm=>by simp only [List.mem_append] at hm ⊢;rcases hm with h | h | h <;> simp [h]))).trans (K2.out.sub (G:=F1 ++ (F2 ++ (F3 ++ (F4 ++ (F5 ++ F6))))) (fun b _ hm=>by simp [hm]))).trans (K3.out.sub (G:=F1 ++ (F2 ++ (F3 ++ (F4 ++ (F5 ++ F6))))) (fun b _ hm=>by simp [hm]))).trans (K4.out.sub (G:=F1 ++ (F2 ++ (F3 ++ (F4 ++ (F5 ++ F6))))) (fun b _ hm=>by simp [hm]))⟩
theorem afG {α:Type} {E:Elem α} {S:Nat→Prop} {w w':World} {cs:List Value} {x:α} (h:E.rel S w cs x) (hx:Ext w w'):E.rel S w' cs x:=E.keep (hx.same S) h
end Go.Proofs.YtbdicafambkhdaaGreat
namespace Go.Proofs.YtbdicafambkhdaaGreat
open Go.Proofs.Tryz
theorem oZ {α:Type} {n:α→Nat} {c:Nat}:∀ {l:List α},(∀ x∈l,n x≤c)→bC n l≤l.length * c
 | [],_=>by simp [bC]
 | x :: l,h=>by
   have h1:=h x (List.mem_cons_self ..);have h2:=oZ (n:=n) (c:=c) (l:=l) fun y hy=>h y (List.mem_cons_of_mem _ hy);simp only [bC,List.length_cons,Nat.succ_mul];omega
open Go.RowKit
section
variable {y:aK}
end
theorem CO {α:Type} {p:α→Bool}:∀ l:List α,(∀ a∈l,p a=true)→l.takeWhile p=l
 | [],_=>rfl
 | a :: l,h=>by rw [List.takeWhile_cons,if_pos (h a (by simp)),CO l fun b hb=>h b (by simp [hb])]
theorem VD (y:aK):qN y 31=labelsIn y.config.nodes∧∀ s,31≤s→qN y s=labelsIn y.config.nodes:=by
 have:∀ s,31≤s→qN y s=labelsIn y.config.nodes:=fun s hs=>by
  unfold qN;refine CO _ fun a ha=>?_;have:=Dp (kS ha);exact decide_eq_true (by omega)
 exact ⟨this 31 (by decide),this⟩
attribute [local irreducible] wpQuiet
def Kt:Own dG where
 own:=fun w cs x F=>∃ v1,cs=bY x v1∧iQ x∧aW jD 2 w v1 x.nodes F
 rel:=by rintro _ _ _ _ ⟨v1,rfl,hf,h1⟩;exact ⟨_,rfl,hf,h1.rd⟩
 keep:=by rintro _ _ _ _ _ hb ⟨v1,rfl,hf,h1⟩;exact ⟨_,rfl,hf,h1.keep hb⟩
 lt:=by rintro _ _ _ _ ⟨_,rfl,_,h1⟩;exact h1.lt
 nodup:=by rintro _ _ _ _ ⟨_,rfl,_,h1⟩;exact h1.nodup
theorem YC {w:World} {vp:Value} {m:List PV} {F:List Nat} (ho:aW DZ 78 w vp m F) (hn:∀ e∈m,aW jD 2 w e.v e.x.nodes e.F) (hd:((m.map PV.F).flatten).Nodup) :
 ∃ F',aW Kt 78 w vp (m.map PV.x) F'∧∀ b∈F',b∈F∨b∈(m.map PV.F).flatten:=by
 rcases ho with ⟨rfl,rfl,A,rfl⟩ | ⟨B,c,C,Fs,rfl,hB,h1,h2,h3,h4,rfl,h5,hk⟩
 · exact ⟨[],aW.nil A,by simp⟩
 · refine ⟨B :: (m.map PV.F).flatten,.inr ⟨B,c,C,m.map PV.F,by rw [List.length_map],hB,by rw [List.length_map];exact h1,h2,h3,by simp,rfl,List.nodup_cons.2 ⟨?_,hd⟩,fun k hk'=>?_⟩,fun b hb=>?_⟩
   · intro hm;obtain ⟨G,hG,hb⟩:=List.mem_flatten.1 hm;obtain ⟨e,he,rfl⟩:=List.mem_map.1 hG;exact (hn e he).apart (show aF w B 78 C from hB) (by decide) hb
   · rw [List.length_map] at hk';obtain ⟨cs,⟨⟨rfl,hf⟩,_⟩,hc⟩:=hk k hk';rw [sZ hk',sZ hk'];exact ⟨_,⟨_,rfl,hf,hn _ (bG hk')⟩,hc⟩
   · rcases List.mem_cons.1 hb with rfl | hb
     · exact .inl (List.mem_cons_self ..)
     · exact .inr hb
theorem OW (w:World):Calls prog 49 #[] w fun e w'=>e=.returned (.agg #[.int .i64 3,.int .i64 7])∧Ext w w':=by
 go_enter func49,ntmps49;go_upto_region 1 with (fail)
 obtain ⟨W,B,aX,aT,aj,fQ⟩:=iK w Zr.l 47;rw [← aX,← aT];have XW:=ah aj;have QB:=ah fQ;have EB:=ah aT;clear aX aT aj fQ;have HB:Hid (w.heap.size≤B):=ah (by rw [EB.out];exact Nat.le_refl _);go_wp2_with (refine wpList_store_mid rfl 47 _ _ rfl B 0 #[.int .i64 3,.int .i64 7] rfl rfl (aF.there (t:=47) (cs:=Zr.l) QB.out) (by kernel_rfl) (all_oneCell_toArray (cs:=[.int .i64 3,.int .i64 7]) (by simp [Value.oneCell'])) ?_);exact bodyPost_ret (v:=.agg #[.int .i64 3,.int .i64 7]) (fB results49 rfl (aF.nH (t:=47) (cs:=Zr.l) (vs:=#[.int .i64 3,.int .i64 7]) QB.out rfl) underlying47 rfl (by kernel_rfl)) rfl ⟨rfl,aZ HB.out _ _ _ XW.out⟩
def CB (y:aK):List Place:=if bD y=true then nG y 31 else []
theorem wG {S:Nat→Prop} (y:aK) (cs:List Value) (w:World) (h:eF.rel S w cs y) :
 Calls prog 14 #[.agg cs.toArray] w (kX Kt 78 (CB y) w):=by
 have H:=ah h;obtain ⟨v1,v2,v3,v4,v5,v6,rfl,hf,h1,h2,h3,h4,h5,h6⟩:=h;obtain ⟨A1,c1,rfl,-⟩:=h1.form;obtain ⟨A2,c2,rfl,-⟩:=h2.form;obtain ⟨A3,c3,rfl,-⟩:=h3.form;obtain ⟨A4,c4,rfl,-⟩:=h4.form;obtain ⟨A5,c5,rfl,-⟩:=h5.form;obtain ⟨A6,c6,rfl,-⟩:=h6.form;clear hf h1 h2 h3 h4 h5 h6;have IB:Hid (∀ V,Ext w V→eF.rel S V [.slice A1 y.config.nodes.length c1,.slice A2 y.config.pairs.length c2,.slice A3 y.config.ay.length c3,y.config.half,.slice A4 y.nodes.length c4,.slice A5 y.tasks.length c5,.slice A6 y.uses.length c6,y.now] y):=ah fun V hV=>eF.keep (hV.same _) H.out;obtain ⟨t,ht⟩:∃ t,bD y=t:=⟨_,rfl⟩
 have HT:=ah ht;clear ht;simp only [bV];go_enter func14,ntmps14;go_upto_region 1 with (fail)
 obtain ⟨W,B,aX,aT,aj,fQ⟩:=iK w (Ry y A1 c1 A2 c2 A3 c3 A4 c4 A5 c5 A6 c6) 45;rw [← aX,← aT];have XW:=ah aj;have QB:=ah fQ;have EB:=ah aT;clear aX aT aj fQ;have X:=ah XW.out;have QA:=ah QB.out;have qa:=QA.out.cell;cases t with
 | false =>
   go_wp2_with (go_at_call 40;(with_reducible refine (lW (S:=S) y _ _ (IB.out _ X.out) _ HT.out).mono ?_);rintro e w7 ⟨rfl,hx7⟩;have X7:=ah (X.out.trans hx7);clear hx7);go_ret;exact ⟨_,[],rfl,by rw [CB,if_neg (by simp [HT.out])];exact aW.nil _,fun b hb=>absurd hb (by simp),X7.out⟩
 | true =>
   go_upto_region 3 with (go_at_call 40;(with_reducible refine (lW (S:=S) y _ _ (IB.out _ X.out) _ HT.out).mono ?_);rintro e w7 ⟨rfl,hx7⟩;have X7:=ah (X.out.trans hx7);have Q7:=ah (QA.out.ext hx7);clear hx7 qa)
   have q7:=Q7.out.cell;have q7d:=(Q7.out.ext (Ext.refl w7).drew).cell;have Ou:Hid (∀ V,Ext w V→Calls prog 43 #[.agg (Ry y A1 c1 A2 c2 A3 c3 A4 c4 A5 c5 A6 c6),.agg #[.int .i64 3,.int .i64 7]] V (adf y (nG y 31) V)):=ah fun V hV=>Nl (S:=S) y ⟨3,7⟩ _ V (IB.out V hV) (tY HT.out) (by decide);go_region_law (first
    | (go_simp;go_at_call 49;(with_reducible refine (OW _).mono ?_);rintro e w8 ⟨rfl,eu⟩;have X78:Hid (Ext w7 w8):=ah (Ext.trans (by repeat (first | with_reducible assumption | with_reducible exact Ext.refl _ | with_reducible refine Ext.alloc ?_ _ | with_reducible refine Ext.drew ?_ | with_reducible refine Ext.setCell ?_ (by first | exact Nat.le_refl _ | exact Ext.size (by assumption) | (simp;done) | (simp;omega) | (show _≤_;omega)) _ )) eu);have q8:=(Q7.out.ext X78.out).cell;have q8d:=(Q7.out.ext X78.out.drew).cell)
    | (go_simp;go_at_call 43;(with_reducible refine (Ou.out _ (X7.out.trans (by have hxx:=X78.out;repeat (first | with_reducible assumption | with_reducible exact Ext.refl _ | with_reducible refine Ext.alloc ?_ _ | with_reducible refine Ext.drew ?_ | with_reducible refine Ext.setCell ?_ (by first | exact Nat.le_refl _ | exact Ext.size (by assumption) | (simp;done) | (simp;omega) | (show _≤_;omega)) _ )))).mono ?_);rintro e w9 ⟨B9,z1,z2,z3,z4,z5,z6,z7,z8,rfl,hq,hr,hB9,jO⟩;obtain ⟨vp,m,F,hC,hm,ho,hF,hn,hnd,hg⟩:=hq;obtain ⟨Ap,cp,rfl,-⟩:=aW.form ho;have b10:=aF.cell hC 10;have aoQ:=aF.cell (hC.ext (Ext.refl w9).drew) 10;have X89:Hid (Ext w8 w9):=ah (Ext.trans (by repeat (first | with_reducible assumption | with_reducible exact Ext.refl _ | with_reducible refine Ext.alloc ?_ _ | with_reducible refine Ext.drew ?_ | with_reducible refine Ext.setCell ?_ (by first | exact Nat.le_refl _ | exact Ext.size (by assumption) | (simp;done) | (simp;omega) | (show _≤_;omega)) _ )) jO);have Z89:Hid (w8.heap.size≤w9.heap.size):=ah X89.out.size))
   all_goals
    go_wp2_with fail;go_ret;obtain ⟨F',o',hF'⟩:=YC ho hn hnd;rw [hm] at o';have hx:=X7.out.trans (X78.out.trans X89.out);have hsz:w.heap.size≤w8.heap.size:=(X7.out.trans X78.out).size;refine ⟨_,F',rfl,by rw [CB,if_pos HT.out];first | exact o' | exact o'.ext (Ext.refl _).drew,fun b hb=>?_,by first | exact hx | exact hx.drew⟩;rcases hF' b hb with h | h
    · exact Nat.le_trans hsz (by first | exact hF b h | exact Nat.le_trans (Nat.le_of_eq rfl) (hF b h))
    · exact Nat.le_trans hsz (by first | exact hg b h | exact Nat.le_trans (Nat.le_of_eq rfl) (hg b h))
theorem Iz {S:Nat→Prop} (y:aK) (cs:List Value) (w:World) (hy:eF.rel S w cs y) :
 Calls prog 13 #[.agg cs.toArray] w (Rj (CB y) w):=by
 have H:=ah hy;obtain ⟨v1,v2,v3,v4,v5,v6,rfl,RY,h1,h2,h3,h4,h5,h6⟩:=hy;obtain ⟨A1,c1,rfl,-⟩:=h1.form;obtain ⟨A2,c2,rfl,-⟩:=h2.form;obtain ⟨A3,c3,rfl,-⟩:=h3.form;obtain ⟨A4,c4,rfl,-⟩:=h4.form;obtain ⟨A5,c5,rfl,-⟩:=h5.form;obtain ⟨A6,c6,rfl,-⟩:=h6.form;clear RY h1 h2 h3 h4 h5 h6;have IB:Hid (∀ V,Ext w V→eF.rel S V [.slice A1 y.config.nodes.length c1,.slice A2 y.config.pairs.length c2,.slice A3 y.config.ay.length c3,y.config.half,.slice A4 y.nodes.length c4,.slice A5 y.tasks.length c5,.slice A6 y.uses.length c6,y.now] y):=ah fun V hV=>eF.keep (hV.same _) H.out;obtain ⟨t,ht⟩:∃ t,bD y=t:=⟨_,rfl⟩
 have HT:=ah ht;clear ht;simp only [bV];go_enter func13,ntmps13;go_upto_region 1 with (fail)
 obtain ⟨W,B,aX,aT,aj,fQ⟩:=iK w (Ry y A1 c1 A2 c2 A3 c3 A4 c4 A5 c5 A6 c6) 45;rw [← aX,← aT];have XW:=ah aj;have QB:=ah fQ;have EB:=ah aT;clear aX aT aj fQ;have X:=ah XW.out;have qa:=QB.out.cell;cases t with
 | false =>
   go_wp2_with (go_at_call 30;(with_reducible refine (jy (S:=S) y _ _ (IB.out _ X.out) _ HT.out).mono ?_);rintro e w7 ⟨rfl,hx7⟩;have X7:=ah (X.out.trans hx7);clear hx7);go_ret;exact ⟨_,_,rfl,by rw [CB,if_neg (by simp [HT.out])];exact dY.nil (aF.new _ _ _) X7.out.size,X7.out.alloc _⟩
 | true =>
   have HPY:Hid (Wp y 100=CB y):=ah (by rw [Wq (tY HT.out),CB,if_pos HT.out,nG,nG,(VD y).1,(VD y).2 100 (by decide)]);go_wp2_with (first
    | (go_at_call 30;(with_reducible refine (jy (S:=S) y _ _ (IB.out _ X.out) _ HT.out).mono ?_);rintro e w7 ⟨rfl,hx7⟩;have X7:=ah (X.out.trans hx7);have q7:=(QB.out.ext hx7).cell;clear hx7 qa)
    | (go_at_call 34;(with_reducible refine (I8 (S:=S) y 100 _ _ (IB.out _ X7.out) (tY HT.out)).mono ?_);rintro e w8 ⟨v8,F8,rfl,q8,eu⟩;rw [HPY.out] at q8;obtain ⟨A8,c8,rfl⟩:=dY.form q8;have Q8:=ah q8;have X8:=ah eu;clear q8 eu))
   go_ret;exact ⟨_,F8,rfl,Q8.out.low X7.out.size,X7.out.trans X8.out⟩
theorem IV {S S':Nat→Prop} (x y:Place) (cs ds:List Value) (w:World) (h:dG.rel S w cs x) (g:dG.rel S' w ds y) :
 Calls prog 50 #[.agg cs.toArray,.agg ds.toArray] w fun e w'=>e=.returned (.bool (decide (x=y)))∧Ext w w':=by
 obtain ⟨v1,rfl,hi,h1⟩:=h;obtain ⟨u1,rfl,gi,g1⟩:=g;have H1:=ah h1;have G1:=ah g1;clear h1 g1;have HI:=ah hi;have GI:=ah gi;clear hi gi;simp only [bY];go_enter func50,ntmps50;go_upto_region 1 with (fail)
 obtain ⟨W,B,hW,hB,hx0,a0,b0⟩:=eY w #[x.label.level,x.label.set,x.id,x.from_,x.jA,.bool x.runs,v1] #[y.label.level,y.label.set,y.id,y.from_,y.jA,.bool y.runs,u1] 78 78;rw [← hW,← hB];clear hW hB;have X0:=ah hx0;have A0:=ah a0;have B0:=ah b0;clear hx0 a0 b0;have ac:=A0.out.cell;have bc:=B0.out.cell;go_wp2_with (first
  | (go_at_call 129;(with_reducible refine (kR (S:=S) (S':=S') x.label y.label [x.label.level,x.label.set] [y.label.level,y.label.set] _ (aC (by have hf:=HI.out;simp only [iQ] at hf;simp only [aP,hf,and_self])) (aC (by have hf:=GI.out;simp only [iQ] at hf;simp only [aP,hf,and_self]))).mono ?_);rintro e w1 ⟨rfl,hx⟩;have X1:=ah (X0.out.trans hx);have A1:=ah (A0.out.ext hx);have B1:=ah (B0.out.ext hx);clear hx X0 A0 B0 ac bc;have ac:=A1.out.cell;have bc:=B1.out.cell)
  | (go_at_call 130;(with_reducible refine (Ew x.nodes y.nodes v1 u1 _ (H1.out.ext X1.out) (G1.out.ext X1.out)).mono ?_);rintro e w2 ⟨rfl,hx⟩;have X2:=ah (X1.out.trans hx);have A2:=ah (A1.out.ext hx);have B2:=ah (B1.out.ext hx);clear hx X1 A1 B1 ac bc;have ac:=A2.out.cell;have bc:=B2.out.cell))
 all_goals (go_ret;exact ⟨au (by go_light;clear ac bc;simp_all [Place.ext_iff]),by first | exact X2.out | exact X1.out | exact X0.out⟩)
theorem wV {S S':Nat→Prop} (l m:List Place) (v u:Value) (w:World) (h:Rd dG S w v l) (g:Rd dG S' w u m) :
 Calls prog 15 #[v,u] w fun e w'=>e=.returned (.bool (decide (l=m)))∧Ext w w':=by
 obtain ⟨A,c,rfl,h1,h2,hk⟩:=h.open_;obtain ⟨A',c',rfl,g1,g2,gk⟩:=g.open_;unfold maxLen at h2 g2;have HK:=ah hk;have GK:=ah gk;clear hk gk h g;by_cases hl:l.length=m.length
 · generalize hn:m.length=n at *;have HN:=ah hn;subst hl;clear hn;go_enter func15,ntmps15;go_wp2_with fail;go_loopw [5] (fun i w'=>∃ k:Nat,k≤l.length∧i=.int .i64 k∧(∀ j,j < k→nth l j=nth m j)∧Ext w w') (fun i _=>l.length - (intOf i).toNat);case atStart=>exact ⟨0,by omega,rfl,fun j hj=>by omega,Ext.refl _⟩
   case round =>
    obtain ⟨k,hk1,rfl,hall,hx⟩:=hrel;have HA:=ah hall;have HX:=ah hx;clear hall;by_cases hlt:k < l.length
    · obtain ⟨b,o,cs,rfl,hb,hr,hc⟩:=HK.out k hlt;obtain ⟨b',o',ds,rfl,gb,gr,gc⟩:=GK.out k hlt;have HR:=ah (dG.keep (hx.same S) hr);have GR:=ah (dG.keep (hx.same S') gr);have HC:=ah (hx.range hc);have GC:=ah (hx.range gc);have HI:Hid ((prog.info? 78).map (·.size)=some cs.length):=ah (by rw [dG.len hr];kernel_rfl);have GI:Hid ((prog.info? 78).map (·.size)=some ds.length):=ah (by rw [dG.len gr];kernel_rfl);clear hr gr hc gc hx;by_cases he:nth l k=nth m k
      · have HE:=ah he;have e1:decide (nth l k=nth m k)=true:=by simp [he]
        clear he;go_wp2_with fail;refine ak (by kernel_rfl) (by kernel_rfl) ?_;repeat (
         first
         | (refine aS (by rfl) 78 _ rfl b (o+k * 7) rfl cs _ (fun bH aj=>aj.range HC.out) underlying78 rfl HI.out ?_;simp only [Act.put,List.setIfInBounds_toArray,List.set_cons_zero,List.set_cons_succ])
         | (refine aS (by rfl) 78 _ rfl b' (o'+k * 7) rfl ds _ (fun bH aj=>aj.range GC.out) underlying78 rfl GI.out ?_;simp only [Act.put,List.setIfInBounds_toArray,List.set_cons_zero,List.set_cons_succ])
         | (refine wpQuiet_step (fun K hK=>?_)
            go_simp;first
             | (refine hK _ ?_;clear hK K)
             | (apply Exists.intro
                refine ⟨fun bH aj=>?_,hK _ ?_⟩
                · first | exact rfl | (go_simp;done) | (go_simp;exact rfl) | (go_at_call 50;exact aJ aj (IV (nth l k) (nth m k) cs ds _ (dG.keep (aj.same S) HR.out) (dG.keep (aj.same S') GR.out)))
                clear hK K)))
        refine wpQuiet_nil ?_;intro w1 hx1;go_wp2_with fail;go_roundw;case rel=>exact ⟨k+1,by omega,by go_num,all_succ HA.out HE.out,HX.out.trans hx1⟩
        case measure=>simp [intOf];omega
      · have HE:=ah he;have e1:decide (nth l k=nth m k)=false:=by simp [he]
        clear he;go_wp2_with fail;refine ak (by kernel_rfl) (by kernel_rfl) ?_;repeat (
         first
         | (refine aS (by rfl) 78 _ rfl b (o+k * 7) rfl cs _ (fun bH aj=>aj.range HC.out) underlying78 rfl HI.out ?_;simp only [Act.put,List.setIfInBounds_toArray,List.set_cons_zero,List.set_cons_succ])
         | (refine aS (by rfl) 78 _ rfl b' (o'+k * 7) rfl ds _ (fun bH aj=>aj.range GC.out) underlying78 rfl GI.out ?_;simp only [Act.put,List.setIfInBounds_toArray,List.set_cons_zero,List.set_cons_succ])
         | (refine wpQuiet_step (fun K hK=>?_)
            go_simp;first
             | (refine hK _ ?_;clear hK K)
             | (apply Exists.intro
                refine ⟨fun bH aj=>?_,hK _ ?_⟩
                · first | exact rfl | (go_simp;done) | (go_simp;exact rfl) | (go_at_call 50;exact aJ aj (IV (nth l k) (nth m k) cs ds _ (dG.keep (aj.same S) HR.out) (dG.keep (aj.same S') GR.out)))
                clear hK K)))
        refine wpQuiet_nil ?_;intro w1 hx1;go_wp2_with fail;go_ret;exact ⟨au (decide_eq_false fun e=>HE.out (by rw [e])).symm,HX.out.trans hx1⟩
    · have HF:Hid (decide (l=m)=true):=ah (decide_eq_true (mg HN.out.symm fun j hj=>HA.out j (by omega)));go_wp2_with fail;go_ret;exact ⟨au HF.out.symm,HX.out⟩
 · have HL:=ah hl;have e1:((l.length:Int) != (m.length:Int))=true:=by simp;omega
   have e2:(l.length != m.length)=true:=by simp;omega
   go_enter func15,ntmps15;go_wp2_with fail;go_ret;exact ⟨au (decide_eq_false fun e=>HL.out (by rw [e])).symm,Ext.refl _⟩
def dV (x:Place):Nat:=6+(bC fZ x.nodes)
def sV (q:Int) (x:Place):Place:=⟨⟨q,(q+1)⟩,(q+1+1),(q+1+1+1),(q+1+1+1+1),decide ((q+1+1+1+1+1) % 3=0),iw mkInt fZ (q+1+1+1+1+1+1) x.nodes⟩
theorem MP (l:List Place) (v:Value) (F:List Nat) (q:Int) (w:World) (h:aW Kt 78 w v l F) (h0:0≤q) (h1:q+bC dV l≤1125899906842624) :
 Calls prog 17 #[v,.int .i64 q] w fun e w'=>e=.returned (.int .i64 (q+bC dV l))∧aW Kt 78 w' v (iw sV dV q l) F∧Kept F w w':=by
 obtain ⟨A,c,rfl,g1,g2⟩:=h.form;unfold maxLen at g2;have H:=ah h;have H1:=ah h1;clear h h1;go_enter func17,ntmps17;go_wp2_with fail;go_loopw [1,5] (fun kk i w'=>∃ j:Nat,j≤l.length∧i=.int .i64 j∧kk=.int .i64 (q+bC dV (l.take j))∧aW Kt 78 w' (.slice A l.length c) (uS sV dV q l j) F∧Kept F w w') (fun _ i _=>l.length - (intOf i).toNat);case atStart=>exact ⟨0,Nat.zero_le _,rfl,by simp [bC],by rw [mF];exact H.out,Kept.refl _ _⟩
 case round =>
  obtain ⟨j,hj,rfl,rfl,hown,hkp⟩:=hrel;by_cases hlt:j < l.length
  · obtain ⟨B,c',G,cs,hv,yx,hBG,hGF,ho,hc,hfz,hth,hrow,hset⟩:=hown.at (k:=j) (by rw [dS _ _ _ hj];exact hlt);rw [dS _ _ _ hj] at hv;rw [oM hlt] at ho;obtain ⟨u1,rfl,hfit,o1⟩:=ho;obtain ⟨A1,k1,rfl,n1,m1⟩:=o1.form;have O1:=ah o1;clear o1;injection hv with hA _ hcc
    subst hA hcc;have c0:=hc 0 _ rfl;have f0:=hfz (j * 7+0);have c1:=hc 1 _ rfl;have f1:=hfz (j * 7+1);have c2:=hc 2 _ rfl;have f2:=hfz (j * 7+2);have c3:=hc 3 _ rfl;have f3:=hfz (j * 7+3);have c4:=hc 4 _ rfl;have f4:=hfz (j * 7+4);have c5:=hc 5 _ rfl;have f5:=hfz (j * 7+5);have c6:=hc 6 _ rfl;simp only [dG,Nat.add_zero] at c0 f0 c1 f1 c2 f2 c3 f3 c4 f4 c5 f5 c6;have HC:=ah (oW (n:=dV) hlt);have HS:=ah (jK (n:=dV) hlt);have HO:=ah hset;have HT:=ah hth;have HR:=ah hrow;have HB:=ah yx;have HK:=ah hkp;have HG:=ah hGF;have HX:=ah hBG;have HRG:=ah hc;have hb:0≤q+(bC dV (l.take j):Int)∧q+(bC dV (l.take j):Int)+dV (nth l j)≤1125899906842624:=by have:=H1.out;have:=HC.out;omega
    simp only [dV] at hb;clear hc hfz hset hth hrow hkp hown hfit hBG hGF yx;generalize hq:q+(bC dV (l.take j):Int)=Q at *;have HQ:=ah hq;clear hq;obtain ⟨hb0,hb1⟩:=hb;have hn0:(0:Int)≤((bC fZ (nth l j).nodes):Nat):=Int.natCast_nonneg _;have hb2:=hb1;push_cast at hb2;obtain ⟨bb,hbb⟩:∃ bb,decide ((Q+1+1+1+1+1) % 3=0)=bb:=⟨_,rfl⟩
    have hbq:((Q+1+1+1+1+1) % 3 == 0)=bb:=hbb;have PX:=ah hbb;clear hbb;have RNG:Hid ((wr.setCells B (j * 7) [.int .i64 Q,.int .i64 (Q+1),.int .i64 (Q+1+1),.int .i64 (Q+1+1+1),.int .i64 (Q+1+1+1+1),.bool bb]).rangeAt B (j * 7) ([.int .i64 Q,.int .i64 (Q+1),.int .i64 (Q+1+1),.int .i64 (Q+1+1+1),.int .i64 (Q+1+1+1+1),.bool bb] ++ [.slice A1 (nth l j).nodes.length k1])):=ah (Jf (a:=[(nth l j).label.level,(nth l j).label.set,(nth l j).id,(nth l j).from_,(nth l j).jA,.bool (nth l j).runs]) HRG.out rfl (fun i hi=>HT.out i (Nat.lt_of_lt_of_le hi (show (6:Nat)≤7 by decide))));go_wp2_with fail;refine (zu (nth l j).nodes _ G _ _ (O1.out.kept (G:=[B]) (by repeat (first | with_reducible exact Kept.refl _ _ | refine Kept.setCell ?_ (by simp) _)) (fun b hb hm=>HX.out (by rw [← List.mem_singleton.1 hm];exact hb))) (by omega) (by omega)).mono ?_;rintro e w2 ⟨rfl,p,hk⟩;have P1:=ah p;have K1:=ah hk;clear p hk;go_wp2_with fail;go_roundw;case rel =>
     have hkk:Kept (B :: G) wr w2:=(Kept.trans (by repeat (first | with_reducible exact Kept.refl _ _ | refine Kept.setCell ?_ (by simp) _)) (K1.out.sub (fun b _ hb=>List.mem_cons_of_mem _ hb)))
     refine ⟨j+1,by omega,by go_num,by rw [HS.out,← HQ.out];push_cast;simp only [dV];push_cast;go_num,?_,HK.out.trans (hkk.sub fun b _ hb=>by rcases List.mem_cons.1 hb with rfl | hb;exact HB.out;exact HG.out b hb)⟩;have hs:=HO.out w2 (sV Q (nth l j)) (bY (sV Q (nth l j)) (.slice A1 (nth l j).nodes.length k1)) hkk (dD.kept (by repeat (first | with_reducible exact HR.out | refine dD.setCell ?_ (by show j * 7≤_;omega) (by show _ < j * 7+7;omega) _)) K1.out (fun hm=>HX.out (hm))) ⟨_,rfl,(by simp only [iQ,sV,I64];omega),(P1.out.tX (by first | rfl | omega | (push_cast;omega)))⟩ (fun i u hi=>K1.out.cell HX.out ((show World.rangeAt _ B (j * 7) (bY (sV Q (nth l j)) (.slice A1 (nth l j).nodes.length k1)) from by have h:=RNG.out;simp only [bY,sV,PX.out];simpa [World.setCells] using h) i u hi));rw [← HQ.out,oN hlt] at hs;exact hs
    case measure=>simp [intOf];omega
  · obtain rfl:j=l.length:=by omega
    rw [mD] at hown;have HO:=ah hown;clear hown;go_wp2_with fail;go_ret;exact ⟨aI (by rw [List.take_length]),HO.out,hkp⟩
theorem yY {S:Nat→Prop} (l:List Place) (v:Value) (q:Int) (w:World) (h:Rd dG S w v (iw sV dV q l)) (h0:0≤q) (h1:q+bC dV l≤1125899906842624) :
 Calls prog 18 #[v,.int .i64 q] w fun e w'=>e=.returned (.int .i64 (q+bC dV l))∧Ext w w':=by
 obtain ⟨A,c,rfl,g1,g2,hk⟩:=h.open_;rw [jV] at g1 hk ⊢;unfold maxLen at g2;have H:=ah hk;clear hk;have H1:=ah h1;clear h h1;go_enter func18,ntmps18;go_wp2_with fail;go_loopw [1,5] (fun kk i w'=>∃ j:Nat,j≤l.length∧i=.int .i64 j∧kk=.int .i64 (q+bC dV (l.take j))∧Ext w w') (fun _ i _=>l.length - (intOf i).toNat);case atStart=>exact ⟨0,Nat.zero_le _,rfl,by simp [bC],Ext.refl _⟩
 case round =>
  obtain ⟨j,hj,rfl,rfl,hx⟩:=hrel;by_cases hlt:j < l.length
  · obtain ⟨B,o,cs,rfl,_,hr,hc⟩:=H.out j hlt;rw [Af q hlt] at hr;obtain ⟨u1,rfl,hfit,o1⟩:=hr;have c0:=Ext.some hx (hc 0 _ rfl);have c1:=Ext.some hx (hc 1 _ rfl);have c2:=Ext.some hx (hc 2 _ rfl);have c3:=Ext.some hx (hc 3 _ rfl);have c4:=Ext.some hx (hc 4 _ rfl);have c5:=Ext.some hx (hc 5 _ rfl);have c6:=Ext.some hx (hc 6 _ rfl);simp only [dG,Nat.add_zero] at c0 c1 c2 c3 c4 c5 c6;have HC:=ah (oW (n:=dV) hlt);have HS:=ah (jK (n:=dV) hlt);have HX:=ah hx;have O1:=ah (o1.ext hx);clear o1;have hb:0≤q+(bC dV (l.take j):Int)∧q+(bC dV (l.take j):Int)+dV (nth l j)≤1125899906842624:=by have:=H1.out;have:=HC.out;omega
    simp only [dV] at hb;clear hc hx hfit;generalize hq:q+(bC dV (l.take j):Int)=Q at *;have HQ:=ah hq;clear hq;obtain ⟨hb0,hb1⟩:=hb;try simp only [sV] at c0 c1 c2 c3 c4 c5 c6
    obtain ⟨bb,hbb⟩:∃ bb,decide ((Q+1+1+1+1+1) % 3=0)=bb:=⟨_,rfl⟩
    have hbq:((Q+1+1+1+1+1) % 3 == 0)=bb:=hbb;rw [hbb] at c5;clear hbb;have hn0:(0:Int)≤((bC fZ (nth l j).nodes):Nat):=Int.natCast_nonneg _;have hb2:=hb1;push_cast at hb2;go_wp2_with fail;refine (Lr (S:=S) (nth l j).nodes _ _ _ (O1.out.tX (by first | rfl | omega | (push_cast;omega))) (by omega) (by omega)).mono ?_;rintro e w2 ⟨rfl,hx⟩;have Y1:=ah hx;clear hx;go_wp2_with fail;first
     | (go_roundw
        case rel=>exact ⟨j+1,by omega,by go_num,by rw [HS.out,← HQ.out];push_cast;simp only [dV];push_cast;go_num,(HX.out.trans Y1.out)⟩
        case measure=>simp [intOf];omega)
     | (refine ⟨⟨j+1,by omega,by go_num,by rw [HS.out,← HQ.out];push_cast;simp only [dV];push_cast;go_num,(HX.out.trans Y1.out)⟩,?_⟩
        simp [intOf];omega)
  · obtain rfl:j=l.length:=by omega
    go_wp2_with fail;go_ret;exact ⟨aI (by rw [List.take_length]),hx⟩
theorem aaG {S:Nat→Prop} (x:aK) (cs:List Value) (w:World) (h:eF.rel S w cs x) (hs:rQ x) :
 Calls prog 9 #[.agg cs.toArray] w (yF PZ x w):=by
 obtain ⟨v1,v2,v3,v4,v5,v6,rfl,hi,h1,h2,h3,h4,h5,h6⟩:=h;have HI:=ah hi;have H1:=ah h1;have H2:=ah h2;have H3:=ah h3;have H4:=ah h4;have H5:=ah h5;have H6:=ah h6;clear hi h1 h2 h3 h4 h5 h6;simp only [bV];go_enter func9,ntmps9;have HS:=ah hs;clear hs;go_wp2_with fail;obtain ⟨W,B,hW,hB,hx0,a0,r0,o0⟩:=lQ w #[v1,v2,v3,x.config.half,v4,v5,v6,x.now] Zr.y Zr.y 31 45 45;rw [← hW,← hB];have HB:=ah hB;clear hW hB;have a_0:=ah a0;have wL:=ah r0;have sD:=ah o0;have qC:=ah hx0;clear a0 r0 o0 hx0;refine (TT x.config [v1,v2,v3,x.config.half] _ (S:=S) ⟨v1,v2,v3,rfl,(by have hf:=HI.out;simp only [qV] at hf;simp only [iC,hf]),H1.out.ext (by repeat (first | with_reducible exact qC.out | refine Ext.setCell ?_ (by show w.heap.size≤B+1+1;rw [← HB.out];omega) _)),H2.out.ext (by repeat (first | with_reducible exact qC.out | refine Ext.setCell ?_ (by show w.heap.size≤B+1+1;rw [← HB.out];omega) _)),H3.out.ext (by repeat (first | with_reducible exact qC.out | refine Ext.setCell ?_ (by show w.heap.size≤B+1+1;rw [← HB.out];omega) _))⟩ (by have h:=HS.out;simp only [rQ] at h;first | exact h | exact h.1 | exact h.2 | exact h.2.1 | exact h.2.2 | exact h.2.2.1 | exact h.2.2.2 | exact h.2.2.2.1 | exact h.2.2.2.2)).mono ?_;rintro e w1 ⟨csx,FX,rfl,⟨u1,u2,u3,F1,F2,F3,rfl,_,q1,q2,q3,hFX,hnX⟩,gX,hx⟩;have g1:∀ b∈F1,_:=fun b hb=>gX b (by rw [hFX];simp [hb]);have g2:∀ b∈F2,_:=fun b hb=>gX b (by rw [hFX];simp [hb]);have g3:∀ b∈F3,_:=fun b hb=>gX b (by rw [hFX];simp [hb]);obtain ⟨e12,e13,e23⟩:=agO (F1:=F1) (F2:=F2) (F3:=F3) (by rw [← hFX];exact hnX);have agp:Hid (∀ b∈F1,b∉F2):=ah (fun b h1 h2=>e12 b h2 h1);have agq:Hid (∀ b∈F1,b∉F3):=ah (fun b h1 h2=>e13 b h2 h1);have agr:Hid (∀ b∈F2,b∉F3):=ah (fun b h1 h2=>e23 b h2 h1);clear e12 e13 e23 hFX hnX gX;simp only [dN];obtain ⟨p1,k1,rfl,-⟩:=q1.form;have Q1:=ah q1;have L1:Hid (∀ b∈F1,B+1+1 < b):=ah (fun b hb=>Nat.lt_of_lt_of_le (by have hl:=(show aF _ _ _ _ from sD.out).lt;exact hl) (g1 b hb));clear g1;clear q1;obtain ⟨p2,k2,rfl,-⟩:=q2.form;have Q2:=ah q2;have L2:Hid (∀ b∈F2,B+1+1 < b):=ah (fun b hb=>Nat.lt_of_lt_of_le (by have hl:=(show aF _ _ _ _ from sD.out).lt;exact hl) (g2 b hb));clear g2;clear q2;obtain ⟨p3,k3,rfl,-⟩:=q3.form;have Q3:=ah q3;have L3:Hid (∀ b∈F3,B+1+1 < b):=ah (fun b hb=>Nat.lt_of_lt_of_le (by have hl:=(show aF _ _ _ _ from sD.out).lt;exact hl) (g3 b hb));clear g3;clear q3;have a_1:Hid (aF w1 B 31 #[v1,v2,v3,x.config.half,v4,v5,v6,x.now]):=ah (aF.ext (by repeat (first | with_reducible exact a_0.out | refine aF.far ?_ (by simp <;> omega) _)) hx);have wM:Hid (aF w1 (B+1) 45 Zr.y):=ah (aF.ext (by repeat (first | with_reducible exact wL.out | refine aF.far ?_ (by simp <;> omega) _)) hx);have oq:Hid (aF w1 (B+1+1) 45 Zr.y):=ah (aF.ext (by simpa using sD.out) hx);have vP:Hid (Ext w w1):=ah (Ext.trans (by repeat (first | with_reducible exact qC.out | refine Ext.setCell ?_ (by show w.heap.size≤B+1+1;rw [← HB.out];omega) _)) hx);clear hx;have ac:=a_1.out.cell;have oc:=oq.out.cell;have of:=oq.out.frozen;clear a_0 wL sD qC;go_wp2_with fail;refine (Xi x.nodes v4 _ (H4.out.ext (by repeat (first | with_reducible exact vP.out | refine Ext.setCell ?_ (by show w.heap.size≤B+1+1;rw [← HB.out];omega) _))) (by have h:=HS.out;simp only [rQ] at h;first | exact h | exact h.1 | exact h.2 | exact h.2.1 | exact h.2.2 | exact h.2.2.1 | exact h.2.2.2 | exact h.2.2.2.1 | exact h.2.2.2.2)).mono ?_;rintro e w2 ⟨u4,F4,rfl,q4,g4,hx⟩;obtain ⟨p4,k4,rfl,-⟩:=q4.form;have Q4:=ah q4;have L4:Hid (∀ b∈F4,B+1+1 < b):=ah (fun b hb=>Nat.lt_of_lt_of_le (by have hl:=(show aF _ _ _ _ from ((((oq.out.bQ 0 (.slice p1 x.config.nodes.length k1)).bQ 1 (.slice p2 x.config.pairs.length k2)).bQ 2 (.slice p3 x.config.ay.length k3)).bQ 3 (.int .i64 x.config.half))).lt;exact hl) (g4 b hb));have anC:Hid (∀ b∈F1,b∉F4):=ah (fun b h1 h2=>by have a:=Q1.out.lt b h1;have c:=g4 b h2;(try simp only [World.setCell,Array.size_modify] at c);omega);have anF:Hid (∀ b∈F2,b∉F4):=ah (fun b h1 h2=>by have a:=Q2.out.lt b h1;have c:=g4 b h2;(try simp only [World.setCell,Array.size_modify] at c);omega);have anI:Hid (∀ b∈F3,b∉F4):=ah (fun b h1 h2=>by have a:=Q3.out.lt b h1;have c:=g4 b h2;(try simp only [World.setCell,Array.size_modify] at c);omega);clear g4;clear q4;have a_2:Hid (aF w2 B 31 #[v1,v2,v3,x.config.half,v4,v5,v6,x.now]):=ah (aF.ext (by repeat (first | with_reducible exact a_1.out | refine aF.far ?_ (by simp <;> omega) _)) hx);have Ns:Hid (aF w2 (B+1) 45 Zr.y):=ah (aF.ext (by repeat (first | with_reducible exact wM.out | refine aF.far ?_ (by simp <;> omega) _)) hx);have vV:Hid (aF w2 (B+1+1) 45 #[.slice p1 x.config.nodes.length k1,.slice p2 x.config.pairs.length k2,.slice p3 x.config.ay.length k3,x.config.half,.slice none 0 0,.slice none 0 0,.slice none 0 0,.int .i64 0]):=ah (aF.ext (by simpa using ((((oq.out.bQ 0 (.slice p1 x.config.nodes.length k1)).bQ 1 (.slice p2 x.config.pairs.length k2)).bQ 2 (.slice p3 x.config.ay.length k3)).bQ 3 (.int .i64 x.config.half))) hx);have Gf:Hid (Ext w w2):=ah (Ext.trans (by repeat (first | with_reducible exact vP.out | refine Ext.setCell ?_ (by show w.heap.size≤B+1+1;rw [← HB.out];omega) _)) hx);replace Q1:=ah (aW.ext (Q1.out.kept (G:=[B+1,B+1+1]) (by repeat (first | with_reducible exact Kept.refl _ _ | refine Kept.setCell ?_ (by simp) _)) (fun b hb=>by have:=L1.out b hb;simp;omega)) hx);replace Q2:=ah (aW.ext (Q2.out.kept (G:=[B+1,B+1+1]) (by repeat (first | with_reducible exact Kept.refl _ _ | refine Kept.setCell ?_ (by simp) _)) (fun b hb=>by have:=L2.out b hb;simp;omega)) hx);replace Q3:=ah (aW.ext (Q3.out.kept (G:=[B+1,B+1+1]) (by repeat (first | with_reducible exact Kept.refl _ _ | refine Kept.setCell ?_ (by simp) _)) (fun b hb=>by have:=L3.out b hb;simp;omega)) hx);clear hx ac oc of;have ac:=a_2.out.cell;have oc:=vV.out.cell;have of:=vV.out.frozen;clear a_1 wM oq vP;go_wp2_with fail;refine (Xq x.tasks v5 _ (H5.out.ext (by repeat (first | with_reducible exact Gf.out | refine Ext.setCell ?_ (by show w.heap.size≤B+1+1;rw [← HB.out];omega) _))) (by have h:=HS.out;simp only [rQ] at h;first | exact h | exact h.1 | exact h.2 | exact h.2.1 | exact h.2.2 | exact h.2.2.1 | exact h.2.2.2 | exact h.2.2.2.1 | exact h.2.2.2.2)).mono ?_;rintro e w3 ⟨u5,F5,rfl,q5,g5,hx⟩;obtain ⟨p5,k5,rfl,-⟩:=q5.form;have Q5:=ah q5;have L5:Hid (∀ b∈F5,B+1+1 < b):=ah (fun b hb=>Nat.lt_of_lt_of_le (by have hl:=(show aF _ _ _ _ from (vV.out.bQ 4 (.slice p4 x.nodes.length k4))).lt;exact hl) (g5 b hb));have anD:Hid (∀ b∈F1,b∉F5):=ah (fun b h1 h2=>by have a:=Q1.out.lt b h1;have c:=g5 b h2;(try simp only [World.setCell,Array.size_modify] at c);omega);have anG:Hid (∀ b∈F2,b∉F5):=ah (fun b h1 h2=>by have a:=Q2.out.lt b h1;have c:=g5 b h2;(try simp only [World.setCell,Array.size_modify] at c);omega);have anJ:Hid (∀ b∈F3,b∉F5):=ah (fun b h1 h2=>by have a:=Q3.out.lt b h1;have c:=g5 b h2;(try simp only [World.setCell,Array.size_modify] at c);omega);have anL:Hid (∀ b∈F4,b∉F5):=ah (fun b h1 h2=>by have a:=Q4.out.lt b h1;have c:=g5 b h2;(try simp only [World.setCell,Array.size_modify] at c);omega);clear g5;clear q5;have XO:Hid (aF w3 B 31 #[v1,v2,v3,x.config.half,v4,v5,v6,x.now]):=ah (aF.ext (by repeat (first | with_reducible exact a_2.out | refine aF.far ?_ (by simp <;> omega) _)) hx);have WC:Hid (aF w3 (B+1) 45 Zr.y):=ah (aF.ext (by repeat (first | with_reducible exact Ns.out | refine aF.far ?_ (by simp <;> omega) _)) hx);have Ik:Hid (aF w3 (B+1+1) 45 #[.slice p1 x.config.nodes.length k1,.slice p2 x.config.pairs.length k2,.slice p3 x.config.ay.length k3,x.config.half,.slice p4 x.nodes.length k4,.slice none 0 0,.slice none 0 0,.int .i64 0]):=ah (aF.ext (by simpa using (vV.out.bQ 4 (.slice p4 x.nodes.length k4))) hx);have XM:Hid (Ext w w3):=ah (Ext.trans (by repeat (first | with_reducible exact Gf.out | refine Ext.setCell ?_ (by show w.heap.size≤B+1+1;rw [← HB.out];omega) _)) hx);replace Q1:=ah (aW.ext (Q1.out.kept (G:=[B+1,B+1+1]) (by repeat (first | with_reducible exact Kept.refl _ _ | refine Kept.setCell ?_ (by simp) _)) (fun b hb=>by have:=L1.out b hb;simp;omega)) hx);replace Q2:=ah (aW.ext (Q2.out.kept (G:=[B+1,B+1+1]) (by repeat (first | with_reducible exact Kept.refl _ _ | refine Kept.setCell ?_ (by simp) _)) (fun b hb=>by have:=L2.out b hb;simp;omega)) hx);replace Q3:=ah (aW.ext (Q3.out.kept (G:=[B+1,B+1+1]) (by repeat (first | with_reducible exact Kept.refl _ _ | refine Kept.setCell ?_ (by simp) _)) (fun b hb=>by have:=L3.out b hb;simp;omega)) hx);replace Q4:=ah (aW.ext (Q4.out.kept (G:=[B+1,B+1+1]) (by repeat (first | with_reducible exact Kept.refl _ _ | refine Kept.setCell ?_ (by simp) _)) (fun b hb=>by have:=L4.out b hb;simp;omega)) hx);clear hx ac oc of;have ac:=XO.out.cell;have oc:=Ik.out.cell;have of:=Ik.out.frozen;clear a_2 Ns vV Gf;go_wp2_with fail;refine (aaF x.uses v6 _ (H6.out.ext (by repeat (first | with_reducible exact XM.out | refine Ext.setCell ?_ (by show w.heap.size≤B+1+1;rw [← HB.out];omega) _))) (by have h:=HS.out;simp only [rQ] at h;first | exact h | exact h.1 | exact h.2 | exact h.2.1 | exact h.2.2 | exact h.2.2.1 | exact h.2.2.2 | exact h.2.2.2.1 | exact h.2.2.2.2)).mono ?_;rintro e w4 ⟨u6,F6,rfl,q6,g6,hx⟩;obtain ⟨p6,k6,rfl,-⟩:=q6.form;have Q6:=ah q6;have L6:Hid (∀ b∈F6,B+1+1 < b):=ah (fun b hb=>Nat.lt_of_lt_of_le (by have hl:=(show aF _ _ _ _ from (Ik.out.bQ 5 (.slice p5 x.tasks.length k5))).lt;exact hl) (g6 b hb));have anE:Hid (∀ b∈F1,b∉F6):=ah (fun b h1 h2=>by have a:=Q1.out.lt b h1;have c:=g6 b h2;(try simp only [World.setCell,Array.size_modify] at c);omega);have anH:Hid (∀ b∈F2,b∉F6):=ah (fun b h1 h2=>by have a:=Q2.out.lt b h1;have c:=g6 b h2;(try simp only [World.setCell,Array.size_modify] at c);omega);have anK:Hid (∀ b∈F3,b∉F6):=ah (fun b h1 h2=>by have a:=Q3.out.lt b h1;have c:=g6 b h2;(try simp only [World.setCell,Array.size_modify] at c);omega);have anM:Hid (∀ b∈F4,b∉F6):=ah (fun b h1 h2=>by have a:=Q4.out.lt b h1;have c:=g6 b h2;(try simp only [World.setCell,Array.size_modify] at c);omega);have anN:Hid (∀ b∈F5,b∉F6):=ah (fun b h1 h2=>by have a:=Q5.out.lt b h1;have c:=g6 b h2;(try simp only [World.setCell,Array.size_modify] at c);omega);clear g6;clear q6;have a_4:Hid (aF w4 B 31 #[v1,v2,v3,x.config.half,v4,v5,v6,x.now]):=ah (aF.ext (by repeat (first | with_reducible exact XO.out | refine aF.far ?_ (by simp <;> omega) _)) hx);have r_4:Hid (aF w4 (B+1) 45 Zr.y):=ah (aF.ext (by repeat (first | with_reducible exact WC.out | refine aF.far ?_ (by simp <;> omega) _)) hx);have o_4:Hid (aF w4 (B+1+1) 45 #[.slice p1 x.config.nodes.length k1,.slice p2 x.config.pairs.length k2,.slice p3 x.config.ay.length k3,x.config.half,.slice p4 x.nodes.length k4,.slice p5 x.tasks.length k5,.slice none 0 0,.int .i64 0]):=ah (aF.ext (by simpa using (Ik.out.bQ 5 (.slice p5 x.tasks.length k5))) hx);have X_4:Hid (Ext w w4):=ah (Ext.trans (by repeat (first | with_reducible exact XM.out | refine Ext.setCell ?_ (by show w.heap.size≤B+1+1;rw [← HB.out];omega) _)) hx);replace Q1:=ah (aW.ext (Q1.out.kept (G:=[B+1,B+1+1]) (by repeat (first | with_reducible exact Kept.refl _ _ | refine Kept.setCell ?_ (by simp) _)) (fun b hb=>by have:=L1.out b hb;simp;omega)) hx);replace Q2:=ah (aW.ext (Q2.out.kept (G:=[B+1,B+1+1]) (by repeat (first | with_reducible exact Kept.refl _ _ | refine Kept.setCell ?_ (by simp) _)) (fun b hb=>by have:=L2.out b hb;simp;omega)) hx);replace Q3:=ah (aW.ext (Q3.out.kept (G:=[B+1,B+1+1]) (by repeat (first | with_reducible exact Kept.refl _ _ | refine Kept.setCell ?_ (by simp) _)) (fun b hb=>by have:=L3.out b hb;simp;omega)) hx);replace Q4:=ah (aW.ext (Q4.out.kept (G:=[B+1,B+1+1]) (by repeat (first | with_reducible exact Kept.refl _ _ | refine Kept.setCell ?_ (by simp) _)) (fun b hb=>by have:=L4.out b hb;simp;omega)) hx);replace Q5:=ah (aW.ext (Q5.out.kept (G:=[B+1,B+1+1]) (by repeat (first | with_reducible exact Kept.refl _ _ | refine Kept.setCell ?_ (by simp) _)) (fun b hb=>by have:=L5.out b hb;simp;omega)) hx);clear hx ac oc of;have ac:=a_4.out.cell;have oc:=o_4.out.cell;have of:=o_4.out.frozen;clear XO WC Ik XM;go_wp2_with (first
  | (refine wpList_load_mid rfl 45 _ rfl (B+1+1) 0 rfl [.slice p1 x.config.nodes.length k1,.slice p2 x.config.pairs.length k2,.slice p3 x.config.ay.length k3,x.config.half,.slice p4 x.nodes.length k4,.slice p5 x.tasks.length k5,.slice p6 x.uses.length k6,x.now] _ ?hl underlying45 rfl (by kernel_rfl) ?_)
  | (refine wpList_store_mid rfl 45 _ _ rfl (B+1) 0 (Ry x p1 k1 p2 k2 p3 k3 p4 k4 p5 k5 p6 k6) rfl rfl ?ht (by kernel_rfl) ?ho ?_))
 case hl=>exact aF.range (t:=45) (cs:=Ry x p1 k1 p2 k2 p3 k3 p4 k4 p5 k5 p6 k6) (by simpa using ((o_4.out.bQ 6 (.slice p6 x.uses.length k6)).bQ 7 (.int .i64 x.now)))
 case ht=>exact aF.there (t:=45) (cs:=Zr.y) (by repeat (first | with_reducible exact r_4.out | refine aF.far ?_ (by simp <;> omega) _))
 case ho=>exact all_oneCell_toArray (cs:=Ry x p1 k1 p2 k2 p3 k3 p4 k4 p5 k5 p6 k6) (by simp [Value.oneCell'])
 exact bodyPost_ret (v:=.agg (Ry x p1 k1 p2 k2 p3 k3 p4 k4 p5 k5 p6 k6)) (fB results9 rfl (aF.nH (t:=45) (cs:=Zr.y) (vs:=(Ry x p1 k1 p2 k2 p3 k3 p4 k4 p5 k5 p6 k6)) (by repeat (first | with_reducible exact r_4.out | refine aF.far ?_ (by simp <;> omega) _)) rfl) underlying45 rfl (by kernel_rfl)) rfl ⟨_,F1 ++ (F2 ++ (F3 ++ (F4 ++ (F5 ++ F6)))),rfl,⟨_,_,_,_,_,_,F1,F2,F3,F4,F5,F6,rfl,HI.out,(Q1.out.kept (G:=[B+1,B+1+1]) (Kept.setCells (by simp) _ _ _ (by repeat (first | with_reducible exact Kept.refl _ _ | refine Kept.setCell ?_ (by simp) _))) (fun b hb=>by have:=L1.out b hb;simp;omega)),(Q2.out.kept (G:=[B+1,B+1+1]) (Kept.setCells (by simp) _ _ _ (by repeat (first | with_reducible exact Kept.refl _ _ | refine Kept.setCell ?_ (by simp) _))) (fun b hb=>by have:=L2.out b hb;simp;omega)),(Q3.out.kept (G:=[B+1,B+1+1]) (Kept.setCells (by simp) _ _ _ (by repeat (first | with_reducible exact Kept.refl _ _ | refine Kept.setCell ?_ (by simp) _))) (fun b hb=>by have:=L3.out b hb;simp;omega)),(Q4.out.kept (G:=[B+1,B+1+1]) (Kept.setCells (by simp) _ _ _ (by repeat (first | with_reducible exact Kept.refl _ _ | refine Kept.setCell ?_ (by simp) _))) (fun b hb=>by have:=L4.out b hb;simp;omega)),(Q5.out.kept (G:=[B+1,B+1+1]) (Kept.setCells (by simp) _ _ _ (by repeat (first | with_reducible exact Kept.refl _ _ | refine Kept.setCell ?_ (by simp) _))) (fun b hb=>by have:=L5.out b hb;simp;omega)),(Q6.out.kept (G:=[B+1,B+1+1]) (Kept.setCells (by simp) _ _ _ (by repeat (first | with_reducible exact Kept.refl _ _ | refine Kept.setCell ?_ (by simp) _))) (fun b hb=>by have:=L6.out b hb;simp;omega)),rfl,(fV Q1.out.nodup (fV Q2.out.nodup (fV Q3.out.nodup (fV Q4.out.nodup (fV Q5.out.nodup Q6.out.nodup (fun b hb hm=>by (try simp only [List.mem_append] at hm);exact anN.out b hb hm)) (fun b hb hm=>by (try simp only [List.mem_append] at hm);rcases hm with hm | hm <;> first | exact anL.out b hb hm | exact anM.out b hb hm)) (fun b hb hm=>by (try simp only [List.mem_append] at hm);rcases hm with hm | hm | hm <;> first | exact anI.out b hb hm | exact anJ.out b hb hm | exact anK.out b hb hm)) (fun b hb hm=>by (try simp only [List.mem_append] at hm);rcases hm with hm | hm | hm | hm <;> first | exact agr.out b hb hm | exact anF.out b hb hm | exact anG.out b hb hm | exact anH.out b hb hm)) (fun b hb hm=>by (try simp only [List.mem_append] at hm);rcases hm with hm | hm | hm | hm | hm <;> first | exact agp.out b hb hm | exact agq.out b hb hm | exact anC.out b hb hm | exact anD.out b hb hm | exact anE.out b hb hm))⟩,fun b hb=>(by rw [← HB.out];simp only [List.mem_append] at hb;rcases hb with hb | hb | hb | hb | hb | hb <;> first | (have:=L1.out b hb;omega) | (have:=L2.out b hb;omega) | (have:=L3.out b hb;omega) | (have:=L4.out b hb;omega) | (have:=L5.out b hb;omega) | (have:=L6.out b hb;omega)),aZ (by rw [← HB.out];omega) _ _ _ (by repeat (first | with_reducible exact X_4.out | refine Ext.setCell ?_ (by show w.heap.size≤B+1+1;rw [← HB.out];omega) _))⟩
def adx (y:aK):Nat:=bC (bC cZ) y.config.nodes+bC jL y.config.pairs+bC iT y.config.ay+bC jS y.nodes+bC jT y.tasks+bC mG y.uses
theorem abA {y:aK} (h:rQ y):1+((adx y:Nat):Int)≤1125899906842624:=by
 obtain ⟨⟨h1,h2,h3⟩,h4,h5,h6⟩:=h;have a1:=oZ (n:=bC cZ) (c:=1048576 * 2) (l:=y.config.nodes) fun l hl=>by
  have:=oZ (n:=cZ) (c:=2) (l:=l) fun _ _=>Nat.le_refl _;have:=(h1.2 l hl).1;omega
 have a2:=oZ (n:=jL) (c:=5) (l:=y.config.pairs) fun _ _=>Nat.le_refl _;have a3:=oZ (n:=iT) (c:=3) (l:=y.config.ay) fun _ _=>Nat.le_refl _;have a4:=oZ (n:=jS) (c:=1+1048576 * 2) (l:=y.nodes) fun x hx=>by
  have:=oZ (n:=kP) (c:=2) (l:=x.books) fun _ _=>Nat.le_refl _;have:=(h4.2 x hx).1;unfold jS;omega
 have a5:=oZ (n:=jT) (c:=13+1048576 * 1) (l:=y.tasks) fun x hx=>by
  have:=oZ (n:=fZ) (c:=1) (l:=x.nodes) fun _ _=>Nat.le_refl _;have:=(h5.2 x hx).2.2.1;unfold jT;omega
 have a6:=oZ (n:=mG) (c:=4) (l:=y.uses) fun _ _=>Nat.le_refl _;have b1:=h1.1;have b2:=h2.1;have b3:=h3.1;have b4:=h4.1;have b5:=h5.1;have b6:=h6.1;unfold adx;omega
theorem VK (x:aK) (cs:List Value) (F:List Nat) (n:Nat) (q:Int) (w:World) (h:PZ.own w cs x F) (hn:adx x=n) (h0:0≤q) (hb:q+(n:Int)≤1125899906842624) :
 Calls prog 16 #[.agg cs.toArray,.int .i64 q] w fun e w'=>e=.returned (.int .i64 (q+(n:Int)))∧Kept F w w':=by
 obtain ⟨v1,v2,v3,v4,v5,v6,F1,F2,F3,F4,F5,F6,rfl,hf,o1,o2,o3,o4,o5,o6,rfl,hd⟩:=h;unfold adx at hn;refine (SI x v1 v2 v3 v4 v5 v6 F1 F2 F3 F4 F5 F6 _ _ _ _ _ _ q w o1 o2 o3 o4 o5 o6 rfl rfl rfl rfl rfl rfl hd h0 (by omega)).mono ?_;rintro e w' ⟨rfl,-,-,-,-,-,-,hk⟩;refine ⟨?_,hk⟩;rw [show q+(n:Int)=q+((bC (bC cZ) x.config.nodes:Nat):Int)+((bC jL x.config.pairs:Nat):Int)+((bC iT x.config.ay:Nat):Int)+((bC jS x.nodes:Nat):Int)+((bC jT x.tasks:Nat):Int)+((bC mG x.uses:Nat):Int) by omega]
end Go.Proofs.YtbdicafambkhdaaGreat

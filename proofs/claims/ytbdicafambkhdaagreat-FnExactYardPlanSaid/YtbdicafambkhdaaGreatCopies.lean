/- Orphans as plain Lean: built element by element, or written in place, it comes to the same. A task's copy, with nodes of its own. A task's copy, with nodes of its own. Copies of lists of tasks, with nodes of their own. -/
import Derived.Test.YtbdicafambkhdaaGreatTaskRS
import Derived.Test.YtbdicafambkhdaaGreatInsSpan
import Derived.Test.YtbdicafambkhdaaGreatClones
set_option maxHeartbeats 4000000
set_option maxRecDepth 100000
namespace Go.Proofs.YtbdicafambkhdaaGreat
open Go.Proofs.Tryz
open Go.RowKit
def waits (x:Task):Bool:=!decide (x.after=0) && (decide (x.state=1) || decide (x.state=3))
attribute [local irreducible] wpQuiet
theorem Eu {S:Nat→Prop} (x:Task) (cs:List Value) (w:World) (h:ETask.rel S w cs x) (hs:x.nodes.length≤1000000000) :
 Calls prog 209 #[.agg cs.toArray] w (yF iW x w):=by
 obtain ⟨v1,rfl,hi,h1⟩:=h;have HI:=ah hi;have H1:=ah h1;have HS:=ah hs;have ho:=h1.one;have HO:=ah ho;clear hi h1 hs ho;simp only [aB];go_enter func209,ntmps209;go_wp2_with fail;obtain ⟨W,B,hW,hB,hx0,a0,r0⟩:=eY w (Rt x v1) Zr.t 76 76;try rw [← hW,← hB]
 have HB:=ah hB;clear hW hB;have A_0:=ah a0;have R_0:=ah r0;have qC:=ah hx0;clear a0 r0 hx0;have ac:=A_0.out.cell;have af:=A_0.out.frozen;refine (sQ x.nodes v1 _ (H1.out.ext qC.out) HS.out).mono ?_;rintro e w1 ⟨u1,F1,rfl,q1,g1,hx⟩;obtain ⟨p1,k1,rfl,-⟩:=q1.form;have Q1:=ah q1;have L1:Hid (∀ b∈F1,B+1 < b):=ah (fun b hb=>Nat.lt_of_lt_of_le (by have hl:=(show aF _ _ _ _ from R_0.out).lt;exact hl) (g1 b hb));clear g1 q1;have A_1:Hid (aF w1 B 76 (Rt x v1)):=ah (A_0.out.ext hx);have R_1:Hid (aF w1 (B+1) 76 Zr.t):=ah (R_0.out.ext hx);have vP:Hid (Ext w w1):=ah (Ext.trans qC.out hx);clear hx;try clear ac af
 have ac:=A_1.out.cell;have af:=A_1.out.frozen;clear A_0 R_0 qC;go_wp2_with (first
  | (refine wpList_load_mid rfl 76 _ rfl B 0 rfl [x.label.level,x.label.set,x.id,.string x.owner,x.need,x.long,x.prio,x.under.level,x.under.set,x.after,x.born,x.state,x.start,.slice p1 x.nodes.length k1] _ ?hl underlying76 rfl (by kernel_rfl) ?_)
  | (refine wpList_store_mid rfl 76 _ _ rfl (B+1) 0 (Rt x (.slice p1 x.nodes.length k1)) rfl rfl ?ht (by kernel_rfl) ?ho ?_))
 case hl=>exact aF.range (t:=76) (cs:=Rt x (.slice p1 x.nodes.length k1)) (by simpa using (A_1.out.bQ 13 (.slice p1 x.nodes.length k1)))
 case ht=>exact aF.there (t:=76) (cs:=Zr.t) (by repeat (first | with_reducible exact R_1.out | refine aF.far ?_ (by simp <;> omega) _))
 case ho=>exact all_oneCell_toArray (cs:=Rt x (.slice p1 x.nodes.length k1)) (by simp [Value.oneCell'])
 exact bodyPost_ret (v:=.agg (Rt x (.slice p1 x.nodes.length k1))) (fB results209 rfl (aF.nH (t:=76) (cs:=Zr.t) (vs:=(Rt x (.slice p1 x.nodes.length k1))) (by repeat (first | with_reducible exact R_1.out | refine aF.far ?_ (by simp <;> omega) _)) rfl) underlying76 rfl (by kernel_rfl)) rfl ⟨_,F1,rfl,⟨_,rfl,HI.out,(Q1.out.kept (G:=[B,B+1]) (Kept.setCells (by simp) _ _ _ (by repeat (first | exact Kept.refl _ _ | refine Kept.setCell ?_ (by simp) _))) (fun b hb=>by have:=L1.out b hb;simp;omega))⟩,fun b hb=>(by have:=L1.out b hb;rw [← HB.out];omega),aZ (by rw [← HB.out];omega) _ _ _ (by repeat (first | with_reducible exact vP.out | refine Ext.setCell ?_ (by show w.heap.size≤B;rw [← HB.out];exact Nat.le_refl _) _))⟩
theorem zn {S:Nat→Prop} (x:Task) (cs:List Value) (w:World) (h:ETask.rel S w cs x) (hs:x.nodes.length≤1000000000) :
 Calls prog 143 #[.agg cs.toArray] w (yF iW x w):=by
 obtain ⟨v1,rfl,hi,h1⟩:=h;obtain ⟨A1,c1,rfl,-⟩:=h1.form;have HI:=ah hi;have H1:=ah h1;have HS:=ah hs;clear hi h1 hs;simp only [aB];go_enter func143,ntmps143;go_upto_region 1 with (fail)
 obtain ⟨W,B,hW,hB,hx0,a0,r0⟩:=eY w (Rt x (.slice A1 x.nodes.length c1)) Zr.t 76 76;rw [← hW,← hB];have HB:=ah hB;clear hW hB;have A_0:=ah a0;have R_0:=ah r0;have qC:=ah hx0;clear a0 r0 hx0;have ac:=fun o:Obj=>(A_0.out.ext ((Ext.refl W).alloc o)).cell;go_upto_region 2 with (at_builtin;go_loud (refine gK (E:=fC) (T:=2) (hfl:=fun h=>h) (l:=[]) (ys:=x.nodes) (F:=[]) (S:=S) rfl _ _ 74 rfl (.int .i64 0) 1 8 underlying74 (by kernel_rfl) rfl rfl rfl ?ow rfl ?rd ?b1 ?b2 ?_;rotate_right;intro u1 w1 F1 q1 hkp hF';have hx:=((Ext.refl W).alloc (.cells #[] 2 (0,0))).trans (hkp.ext (Ext.refl _) (fun b hb=>absurd hb (by simp)));have g1:∀ b∈F1,W.heap.size≤b:=fun b hb=>Or.elim (hF' b hb) (fun h=>absurd h (by simp)) (fun h=>Nat.le_trans ((Ext.refl W).alloc _).size h);clear hkp hF';simp only [List.nil_append] at q1;obtain ⟨p1,k1,rfl,-⟩:=q1.form;have Q1:=ah q1;have L1:Hid (∀ b∈F1,B+1 < b):=ah (fun b hb=>Nat.lt_of_lt_of_le (by have hl:=(show aF _ _ _ _ from R_0.out).lt;exact hl) (g1 b hb));clear g1 q1;have A_1:Hid (aF w1 B 76 (Rt x (.slice A1 x.nodes.length c1))):=ah (A_0.out.ext hx);have R_1:Hid (aF w1 (B+1) 76 Zr.t):=ah (R_0.out.ext hx);have vP:Hid (Ext w w1):=ah (Ext.trans qC.out hx);clear hx ac;have ac:=A_1.out.cell;have af:=A_1.out.frozen;clear A_0 R_0))
 case ow=>exact aW.nil _
 case rd=>exact H1.out.ext (qC.out.alloc _)
 case b1=>have:=HS.out;simp only [List.length_nil,maxLen];omega
 case b2=>have:=HS.out;simp only [List.length_nil];omega
 go_wp2_with (first
  | (refine wpList_load_mid rfl 76 _ rfl B 0 rfl [x.label.level,x.label.set,x.id,.string x.owner,x.need,x.long,x.prio,x.under.level,x.under.set,x.after,x.born,x.state,x.start,.slice p1 x.nodes.length k1] _ ?hl underlying76 rfl (by kernel_rfl) ?_)
  | (refine wpList_store_mid rfl 76 _ _ rfl (B+1) 0 (Rt x (.slice p1 x.nodes.length k1)) rfl rfl ?ht (by kernel_rfl) ?ho ?_))
 case hl=>exact aF.range (t:=76) (cs:=Rt x (.slice p1 x.nodes.length k1)) (by simpa using (A_1.out.bQ 13 (.slice p1 x.nodes.length k1)))
 case ht=>exact aF.there (t:=76) (cs:=Zr.t) (by repeat (first | with_reducible exact R_1.out | refine aF.far ?_ (by simp <;> omega) _))
 case ho=>exact all_oneCell_toArray (cs:=Rt x (.slice p1 x.nodes.length k1)) (by simp [Value.oneCell'])
 exact bodyPost_ret (v:=.agg (Rt x (.slice p1 x.nodes.length k1))) (fB results143 rfl (aF.nH (t:=76) (cs:=Zr.t) (vs:=(Rt x (.slice p1 x.nodes.length k1))) (by repeat (first | with_reducible exact R_1.out | refine aF.far ?_ (by simp <;> omega) _)) rfl) underlying76 rfl (by kernel_rfl)) rfl ⟨_,F1,rfl,⟨_,rfl,HI.out,(Q1.out.kept (G:=[B,B+1]) (Kept.setCells (by simp) _ _ _ (by repeat (first | exact Kept.refl _ _ | refine Kept.setCell ?_ (by simp) _))) (fun b hb=>by have:=L1.out b hb;simp;omega))⟩,fun b hb=>(by have:=L1.out b hb;rw [← HB.out];omega),aZ (by rw [← HB.out];omega) _ _ _ (by repeat (first | with_reducible exact vP.out | refine Ext.setCell ?_ (by show w.heap.size≤B;rw [← HB.out];exact Nat.le_refl _) _))⟩
end Go.Proofs.YtbdicafambkhdaaGreat

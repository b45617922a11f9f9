/- The walks of BookCut, the program's and the reference's. Printed by wip/bookcut.py. -/
import Derived.Test.YtbdicafambkhdaaGreatInsSpan
import Derived.Test.YtbdicafambkhdaaGreatClones
import Derived.BigQuiet
import Derived.Test.YtbdicafambkhdaaGreatRows
import Derived.Laws.IdiomStrings
import Derived.Laws.BytesArg
import Derived.Test.YtbdicafambkhdaaGreatLabels
import Derived.Test.YtbdicafambkhdaaGreatGSmall
import Derived.Test.YtbdicafambkhdaaGreatGYardT
set_option maxHeartbeats 8000000
set_option maxRecDepth 100000
namespace Go.Proofs.YtbdicafambkhdaaGreat
open Go.Proofs.Tryz
open Go.RowKit
attribute [local irreducible] wpQuiet
theorem aex {l:List Span} (h:dH l=true) {i j:Nat} (hij:i < j) (hj:j < l.length):(nth l i).from_ < (nth l j).from_:=by
 have hall:∀ t,t < l.length→oC l t=true:=fun t ht=>by
  simp only [dH,Bool.and_eq_true,List.all_eq_true,List.mem_range] at h;exact h.2 t ht
 have hr:∀ t,t < l.length→(nth l t).from_ < (nth l t).jA:=fun t ht=>by
  have:=hall t ht;simp only [oC,jw,Bool.and_eq_true,decide_eq_true_eq] at this;exact this.1.2
 induction j with
 | zero=>omega
 | succ j ih =>
   have h1:(nth l j).jA≤(nth l (j+1)).from_:=by
    have:=hall (j+1) hj;rw [nI] at this;simp only [Bool.and_eq_true,decide_eq_true_eq] at this;exact this.2
   have h2:=hr j (by omega);rcases Nat.lt_or_ge i j with h3 | h3
   · have:=ih h3 (by omega);omega
   · obtain rfl:i=j:=by omega
     omega
end Go.Proofs.YtbdicafambkhdaaGreat
/- SpanPut and what it stands on: the program's and the reference's. -/
namespace Go.Proofs.YtbdicafambkhdaaGreat
open Go.Proofs.Tryz
open Go.RowKit
attribute [local irreducible] wpQuiet
def laps (x o:Span):Bool:=decide (o.from_ < x.jA) && decide (x.from_ < o.jA)
def jq (l:List Span) (x:Span):Bool:=!(l.any (laps x))
def ahead (x o:Span):Bool:=decide (o.from_ < x.from_)
theorem afp {l:List Span} {x:Span} {k:Nat} (hk:k < l.length) (h:laps x (nth l k)=true):jq l x=false:=by
 unfold jq;simp only [Bool.not_eq_false',List.any_eq_true];exact ⟨_,bG hk,h⟩
theorem adH {l:List Span} {x:Span} (h:∀ k,k < l.length→laps x (nth l k)=false):jq l x=true:=by
 unfold jq;simp only [Bool.not_eq_true',List.any_eq_false];intro y hy;obtain ⟨i,hi,rfl⟩:=List.getElem_of_mem hy;have:=h i hi;rw [aO hi] at this;simpa using this
theorem Rd.drop {α:Type} {E:Elem α} {S:Nat→Prop} {w:World} {b o n c k:Nat} {l:List α} (h:Rd E S w (.slice (some ⟨b,o,none⟩) n c) l) (hk:k≤l.length):Rd E S w (.slice (some ⟨b,o+k * E.size,none⟩) (n - k) (c - k)) (l.drop k):=by
 obtain ⟨A,c',hv,h1,h2,hall⟩:=h;injection hv with e1 e2 e3
 subst e1 e2 e3;refine ⟨_,_,by rw [List.length_drop],by rw [List.length_drop];omega,by omega,fun j x hx=>?_⟩;rw [List.getElem?_drop] at hx;obtain ⟨b',o',cs,hA,hS,hr,hc⟩:=hall _ x hx;injection hA with hA
 cases hA;refine ⟨_,_,cs,rfl,hS,hr,?_⟩;rw [show o+k * E.size+j * E.size=o+(k+j) * E.size by rw [Nat.add_mul];omega];exact hc
theorem Ir {w0 w V:World} {n:Nat} (h:w.drewN n=V) (hx:Ext w0 w):Ext w0 V:=by subst h;exact hx.trans ⟨rfl,rfl,rfl,Nat.le_refl _,fun _ _=>rfl⟩
theorem RH:∀ (args:Array Value) (W:World),(callFunc 277 args).run prog W=.ok (.enter 277 args) W:=by
 intro args W;go_simp
theorem Vs {S:Nat→Prop} (o x:Span) (cs:List Value) (B:Nat) (w:World) (h:dM.rel S w cs o) (d0:w.cell? ⟨B,0,none⟩=some (.int .i64 x.from_)) (d1:w.cell? ⟨B,1,none⟩=some (.int .i64 x.jA)) :
 Calls prog 277 #[.agg cs.toArray,.pointer (some ⟨B,0,none⟩)] w fun e w'=>e=.returned (.bool (laps x o))∧Ext w w':=by
 obtain ⟨rfl,_⟩:=h;have d0':=fun ob:Obj=>Ext.some ((Ext.refl w).alloc ob) d0;have d1':=fun ob:Obj=>Ext.some ((Ext.refl w).alloc ob) d1;simp only [nO];go_enter func277,ntmps277;go_wp2_with fail;all_goals (go_ret;exact ⟨au (by unfold laps;simp_all <;> omega),(Ext.refl _).alloc _⟩)
theorem Yk {S:Nat→Prop} (l:List Span) (x:Span) (v:Value) (w:World) (h:Rd dM S w v l) :
 Calls prog 224 #[v,.agg (Rs x)] w fun e w'=>e=.returned (.bool (jq l x))∧Ext w w':=by
 have HR:=ah h;obtain ⟨A,c,rfl,h1,h2⟩:=h.form;clear h;go_enter func224,ntmps224;go_upto_region 1 with (fail)
 obtain ⟨W,B,hW,hB,hx0,b0⟩:∃ W B,W=w.alloc (.cells (Rs x) 142)∧B=w.heap.size∧Ext w W∧aF W B 142 (Rs x):=⟨_,_,rfl,rfl,(Ext.refl w).alloc _,aF.new _ _ _⟩
 rw [← hW,← hB];have B0:=ah b0;have X0:=ah hx0;clear hW hB hx0 b0;go_wp2_with fail;refine (AB (S:=S) l (laps x) _ 277 _ _ (HR.out.ext X0.out) RH (fun cs o w3 hx hr=>Vs o x cs _ w3 hr (Ext.some hx (B0.out.cell 0)) (Ext.some hx (B0.out.cell 1)))).mono ?_;rintro e w2 ⟨rfl,hx2⟩;have X2:=ah (X0.out.trans hx2);clear hx2;go_wp2_with fail;go_ret;exact ⟨au (by rw [jq]),X2.out⟩
theorem Vw {S:Nat→Prop} (l:List Span) (x:Span) (v:Value) (w:World) (h:Rd dM S w v l) :
 Calls prog 252 #[v,.agg (Rs x)] w fun e w'=>e=.returned (.bool (jq l x))∧Ext w w':=by
 obtain ⟨A,c,rfl,h1,h2,hk⟩:=h.span;unfold maxLen at h2;have HK:=ah hk;clear hk h;go_enter func252,ntmps252;go_upto_region 1 with (fail)
 obtain ⟨W,B,hW,hB,hx0,b0⟩:∃ W B,W=w.alloc (.cells (Rs x) 142)∧B=w.heap.size∧Ext w W∧aF W B 142 (Rs x):=⟨_,_,rfl,rfl,(Ext.refl w).alloc _,aF.new _ _ _⟩
 rw [← hW,← hB];have B0:=ah b0;have X0:=ah hx0;clear hW hB hx0 b0;go_wp2_with fail;go_loopw [5] (fun i w'=>∃ k:Nat,k≤l.length∧i=.int .i64 k∧(∀ j,j < k→laps x (nth l j)=false)∧Ext W w') (fun i _=>l.length - (intOf i).toNat);case atStart=>exact ⟨0,by omega,rfl,fun j hj=>by omega,Ext.refl _⟩
 case round =>
  obtain ⟨k,hk1,rfl,hall,hx⟩:=hrel;have HA:=ah hall;have HX:=ah hx;clear hall;by_cases hlt:k < l.length
  · obtain ⟨b,o,rfl,hb,c0,c1⟩:=HK.out k hlt;have c0':=Ext.some (X0.out.trans hx) c0;have c1':=Ext.some (X0.out.trans hx) c1;have b0':wr.cell? ⟨B,0,none⟩=some (.int .i64 x.from_):=Ext.some hx (B0.out.cell 0);have b1':wr.cell? ⟨B,1,none⟩=some (.int .i64 x.jA):=Ext.some hx (B0.out.cell 1);clear c0 c1 hb hx;have hi:(k:Int) < (l.length:Int):=by omega
    have hi0:(0:Int)≤(k:Int):=Int.natCast_nonneg _;by_cases hp:laps x (nth l k)=true
    · have HF:Hid (jq l x=false):=ah (afp hlt hp);have hq:=hp;unfold laps at hq;simp only [Bool.and_eq_true,decide_eq_true_eq] at hq;obtain ⟨q1,q2⟩:=hq;clear hp;go_wp2_with fail;go_quiet (fail);generalize hV:wr.drewN _=V;have XV:=ah (Ir hV (X0.out.trans HX.out));clear hV;go_wp2_with fail;go_ret;exact ⟨au HF.out.symm,XV.out⟩
    · simp only [Bool.not_eq_true] at hp;have HE:=ah (all_succ HA.out hp);by_cases q1:(nth l k).from_ < x.jA
      · have q2:¬ x.from_ < (nth l k).jA:=by
         intro q2;unfold laps at hp;simp [q1,q2] at hp
        clear hp;go_wp2_with fail;go_quiet (fail);generalize hV:wr.drewN _=V;have XV:=ah (Ir hV HX.out);clear hV;go_wp2_with fail;go_roundw;case rel=>exact ⟨k+1,by omega,by go_num,HE.out,XV.out⟩
        case measure=>simp [intOf];omega
      · clear hp;have q1':decide ((nth l k).from_ < x.jA)=false:=by simpa using q1
        go_wp2_with fail;go_quiet (fail);generalize hV:wr.drewN _=V;have XV:=ah (Ir hV HX.out);clear hV;go_wp2_with fail;go_roundw;case rel=>exact ⟨k+1,by omega,by go_num,HE.out,XV.out⟩
        case measure=>simp [intOf];omega
  · obtain rfl:k=l.length:=by omega
    have HE:Hid (jq l x=true):=ah (adH HA.out);go_wp2_with fail;go_ret;exact ⟨au HE.out.symm,X0.out.trans HX.out⟩
-- printed by wip/put.py
end Go.Proofs.YtbdicafambkhdaaGreat
/- The rows of spans of nodes: the program's and the reference's. Printed by wip/noderows.py. -/
namespace Go.Proofs.YtbdicafambkhdaaGreat
open Go.Proofs.Tryz
open Go.RowKit
attribute [local irreducible] wpQuiet
theorem ahC {α:Type} [Inhabited α] {E:Elem α} {hfl:∀ {S S':Nat→Prop} {w w':World} {cs x},E.rel S w cs x→E.rel S' w' cs x} (T:TypeId) (w:World) (cs:List Value) (x:α) (h:E.rel (fun _=>False) w cs x) :
 aW (lF E hfl) T (w.alloc (.cells cs.toArray T)) (.slice (some ⟨w.heap.size,0,none⟩) 1 1) [x] [w.heap.size]:=by
 refine .inr ⟨w.heap.size,1,cs.toArray,[[]],rfl,heap_alloc_new w _,Nat.le_refl _,(by decide),?_,rfl,rfl,by simp,fun k hk=>?_⟩
 · rw [List.size_toArray,E.len h,Nat.one_mul]
 · obtain rfl:k=0:=by simpa using hk
   exact ⟨cs,⟨hfl h,rfl⟩,by rw [Nat.zero_mul];exact (aF.new w T cs.toArray).range⟩
theorem aa5 (T:TypeId) (w:World) (x:Span) (h:wP x):aW ji T (w.alloc (.cells (Rs x) T)) (.slice (some ⟨w.heap.size,0,none⟩) 1 1) [x] [w.heap.size] :=
 ahC (E:=dM) (hfl:=fun h=>h) T w [x.from_,x.jA] x (WE h)
theorem acJ (w:World):Calls prog 271 #[] w (kX ji 142 [⟨0,1000000⟩] w):=by
 go_enter func271,ntmps271;go_wp2_with fail;go_ret;exact ⟨_,_,rfl,aa5 142 w ⟨0,1000000⟩ (by simp [wP,I64]),fun b hb=>by rw [List.mem_singleton.1 hb];exact Nat.le_refl _,(Ext.refl _).alloc _⟩
theorem Nw {S:Nat→Prop} (l:List Node) (shut:Int) (v:Value) (w:World) (h:Rd ENode S w v l) :
 Calls prog 207 #[v,.int .i64 shut] w (kX (pX ji 142) 149 (rowsOf l shut) w):=by
 have HR:=ah h;obtain ⟨A,c,rfl,h1,h2,hk⟩:=h.open_;unfold maxLen at h2;have HK:=ah hk;clear hk h;cases ht:bT l with
 | false =>
   have HE:Hid (rowsOf l shut = []):=ah (by rw [rowsOf,ht];rfl);go_enter func207,ntmps207;go_wp2_with (go_at_call 100;(with_reducible refine (uH (S:=S) l _ _ HR.out).mono ?_);rintro e w1 ⟨rfl,hx1⟩;have X1:=ah hx1;clear hx1);go_ret;exact ⟨_,[],rfl,by rw [HE.out];exact aW.nil _,fun b hb=>(by cases hb),X1.out⟩
 | true =>
 have HT:=ah ht;have HE:Hid (rowsOf l shut=l.map (dA shut)):=ah (by rw [rowsOf,if_pos ht]);have hl:=(qw ht).2;rw [HE.out];go_enter func207,ntmps207;go_wp2_with (go_at_call 100;(with_reducible refine (uH (S:=S) l _ _ HR.out).mono ?_);rintro e w0 ⟨rfl,hx1⟩;have XX:=ah hx1;clear hx1);clear ht;obtain ⟨W,B,hW,hB,hx0,b0⟩:∃ W B,W=w0.alloc (.cells #[] 149)∧B=w0.heap.size∧Ext w0 W∧aF W B 149 #[]:=⟨_,_,rfl,rfl,(Ext.refl _).alloc _,aF.new _ _ _⟩
 rw [← hW,← hB];have HB:Hid (w.heap.size≤B):=ah (by have:=XX.out.size;omega);have B0:=ah b0;have X0:=ah (XX.out.trans hx0);clear hW hB hx0 b0;go_loopw [5,14] (fun v i w'=>∃ (k:Nat) (F:List Nat),k≤l.length∧i=.int .i64 k∧aW (pX ji 142) 149 w' v ((l.take k).map (dA shut)) F∧(∀ b∈F,w.heap.size≤b)∧Ext w w') (fun _ i _=>l.length - (intOf i).toNat);case atStart=>exact ⟨0,[B],by omega,rfl,.inr ⟨B,0,#[],[],rfl,B0.out,Nat.le_refl _,Nat.zero_le _,rfl,rfl,rfl,by simp,fun k hk=>absurd hk (Nat.not_lt_zero _)⟩,fun b hb=>by rw [List.mem_singleton.1 hb];exact HB.out,X0.out⟩
 case round =>
  obtain ⟨k,F,hk1,rfl,hown,hF,hx⟩:=hrel;have HO:=ah hown;have HF:=ah hF;have HX:=ah hx;have LF:=ah hown.lt;clear hown hF;by_cases hlt:k < l.length
  · obtain ⟨b,q,cs,rfl,_,⟨v1,rfl,hfit,hrd⟩,hc⟩:=HK.out k hlt;obtain ⟨A1,d1,rfl,-⟩:=hrd.form;have c0:=Ext.some hx (hc 0 _ rfl);have c1:=Ext.some hx (hc 1 _ rfl);simp only [ENode,Nat.add_zero] at c0 c1;have uQ:=ah (hrd.ext hx);have HN:=ah (nS HT.out hlt).1;have HM:=ah (CP (f:=dA shut) hlt);have ND0:=ah HO.out.nodup;clear hc hfit hx hrd;have X5:Hid (Ext wr (wr.alloc (.cells #[(nth l k).state,.slice A1 (nth l k).books.length d1] 151))):=ah ((Ext.refl _).alloc _);by_cases hs:shut≤(nth l k).state
    · have HY:Hid (dA shut (nth l k) = [⟨0,1000000⟩]):=ah (by rw [dA,if_pos hs]);go_wp2_with (first | (go_at_call 271;(with_reducible refine (acJ _).mono ?_);rintro e w1 ⟨u1,G1,rfl,q1,g1,hx1⟩;obtain ⟨p1,k1,rfl,-⟩:=aW.form q1;have Q1:=ah q1;have X51:=ah (X5.out.trans hx1);have Z1:Hid (∀ b∈G1,wr.heap.size≤b):=ah (fun b hb=>Nat.le_trans X5.out.size (g1 b hb));have ND:Hid ((F ++ G1).Nodup):=ah (fV ND0.out (aW.nodup q1) (fun b h1 h2=>absurd (LF.out b h1) (Nat.not_lt.2 (Nat.le_trans X5.out.size (g1 b h2)))));clear q1 g1 hx1) | (at_builtin;refine bM (O:=(pX ji 142)) (T:=149) (l:=(l.take k).map (dA shut)) (F:=F) (G:=G1) (y:=dA shut (nth l k)) rfl _ _ 92 rfl (.slice none 0 0) 1 24 underlying92 (by kernel_rfl) rfl rfl rfl (HO.out.ext (X51.out.alloc _)) _ 0 1 rfl ⟨_,rfl,by rw [HY.out];exact Q1.out.ext ((Ext.refl _).alloc _)⟩ (aF.new _ _ _).range ND.out (by rw [List.length_map,List.length_take];omega) (by decide) ?_;intro v' w9 F' how hkp hF';have HOW:=ah how;have lJ:=ah hkp;have uT:=ah hF';clear how hkp hF'))
      (refine ⟨⟨k+1,F',by omega,by go_num,by rw [HM.out];exact HOW.out,fun b hb=>match uT.out b hb with | .inl h=>HF.out b h | .inr (.inl h)=>Nat.le_trans HX.out.size (Z1.out b h) | .inr (.inr h)=>Nat.le_trans ((HX.out.trans X51.out).alloc _).size h,lJ.out.ext ((HX.out.trans X51.out).alloc _) HF.out⟩,?_⟩;simp [intOf];omega)
    · have HY:Hid (dA shut (nth l k)=(nth l k).books):=ah (by rw [dA,if_neg hs]);have hs':(nth l k).state < shut:=by omega
      clear hs;go_wp2_with (first | (go_at_call 234;(with_reducible refine (BZ (S:=S) (nth l k).books _ _ (uQ.out.ext X5.out) (by have:=HN.out;omega)).mono ?_);rintro e w1 ⟨u1,G1,rfl,q1,g1,hx1⟩;obtain ⟨p1,k1,rfl,-⟩:=aW.form q1;have Q1:=ah q1;have X51:=ah (X5.out.trans hx1);have Z1:Hid (∀ b∈G1,wr.heap.size≤b):=ah (fun b hb=>Nat.le_trans X5.out.size (g1 b hb));have ND:Hid ((F ++ G1).Nodup):=ah (fV ND0.out (aW.nodup q1) (fun b h1 h2=>absurd (LF.out b h1) (Nat.not_lt.2 (Nat.le_trans X5.out.size (g1 b h2)))));clear q1 g1 hx1) | (at_builtin;refine bM (O:=(pX ji 142)) (T:=149) (l:=(l.take k).map (dA shut)) (F:=F) (G:=G1) (y:=dA shut (nth l k)) rfl _ _ 92 rfl (.slice none 0 0) 1 24 underlying92 (by kernel_rfl) rfl rfl rfl (HO.out.ext (X51.out.alloc _)) _ 0 1 rfl ⟨_,rfl,by rw [HY.out];exact Q1.out.ext ((Ext.refl _).alloc _)⟩ (aF.new _ _ _).range ND.out (by rw [List.length_map,List.length_take];omega) (by decide) ?_;intro v' w9 F' how hkp hF';have HOW:=ah how;have lJ:=ah hkp;have uT:=ah hF';clear how hkp hF'))
      (refine ⟨⟨k+1,F',by omega,by go_num,by rw [HM.out];exact HOW.out,fun b hb=>match uT.out b hb with | .inl h=>HF.out b h | .inr (.inl h)=>Nat.le_trans HX.out.size (Z1.out b h) | .inr (.inr h)=>Nat.le_trans ((HX.out.trans X51.out).alloc _).size h,lJ.out.ext ((HX.out.trans X51.out).alloc _) HF.out⟩,?_⟩;simp [intOf];omega)
  · obtain rfl:k=l.length:=by omega
    go_wp2_with fail;go_ret;exact ⟨_,F,rfl,by have h:=HO.out;rw [List.take_length] at h;exact h,HF.out,HX.out⟩
theorem zl {S:Nat→Prop} (l:List Node) (shut:Int) (v:Value) (w:World) (h:Rd ENode S w v l) (ht:bT l=true) :
 Calls prog 177 #[v,.int .i64 shut] w (kX (pX ji 142) 149 (l.map (dA shut)) w):=by
 obtain ⟨A,c,rfl,h1,h2,hk⟩:=h.open_;unfold maxLen at h2;have HK:=ah hk;have HT:=ah ht;have hl:=(qw ht).2;clear hk h ht;go_enter func177,ntmps177;go_wp2_with fail;obtain ⟨W,B,hW,hB,hx0,b0⟩:∃ W B,W=w.alloc (.cells #[] 149)∧B=w.heap.size∧Ext w W∧aF W B 149 #[]:=⟨_,_,rfl,rfl,(Ext.refl _).alloc _,aF.new _ _ _⟩
 rw [← hW,← hB];have HB:Hid (w.heap.size≤B):=ah (by omega);have B0:=ah b0;have X0:=ah hx0;clear hW hB hx0 b0;go_loopw [5,6] (fun v i w'=>∃ (k:Nat) (F:List Nat),k≤l.length∧i=.int .i64 k∧aW (pX ji 142) 149 w' v ((l.take k).map (dA shut)) F∧(∀ b∈F,w.heap.size≤b)∧Ext w w') (fun _ i _=>l.length - (intOf i).toNat);case atStart=>exact ⟨0,[B],by omega,rfl,.inr ⟨B,0,#[],[],rfl,B0.out,Nat.le_refl _,Nat.zero_le _,rfl,rfl,rfl,by simp,fun k hk=>absurd hk (Nat.not_lt_zero _)⟩,fun b hb=>by rw [List.mem_singleton.1 hb];exact HB.out,X0.out⟩
 case round =>
  obtain ⟨k,F,hk1,rfl,hown,hF,hx⟩:=hrel;have HO:=ah hown;have HF:=ah hF;have HX:=ah hx;have LF:=ah hown.lt;clear hown hF;by_cases hlt:k < l.length
  · obtain ⟨b,q,cs,rfl,_,⟨v1,rfl,hfit,hrd⟩,hc⟩:=HK.out k hlt;obtain ⟨A1,d1,rfl,-⟩:=hrd.form;have c0:=Ext.some hx (hc 0 _ rfl);have c1:=Ext.some hx (hc 1 _ rfl);simp only [ENode,Nat.add_zero] at c0 c1;have uQ:=ah (hrd.ext hx);have HN:=ah (nS HT.out hlt).1;have HM:=ah (CP (f:=dA shut) hlt);have ND0:=ah HO.out.nodup;clear hc hfit hx hrd;by_cases hs:shut≤(nth l k).state
    · have HY:Hid (dA shut (nth l k) = [⟨0,1000000⟩]):=ah (by rw [dA,if_pos hs]);go_wp2_with (at_builtin;refine bM (O:=(pX ji 142)) (T:=149) (l:=(l.take k).map (dA shut)) (F:=F) (G:=[wr.heap.size]) (y:=dA shut (nth l k)) rfl _ _ 92 rfl (.slice none 0 0) 1 24 underlying92 (by kernel_rfl) rfl rfl rfl (HO.out.ext (((Ext.refl _).alloc _).alloc _)) _ 0 1 rfl ⟨_,rfl,by rw [HY.out];exact (aa5 142 wr ⟨0,1000000⟩ (by simp [wP,I64])).ext ((Ext.refl _).alloc _)⟩ (by simpa using (aF.new (wr.alloc (.cells #[.int .i64 0,.int .i64 1000000] 142)) 149 #[.slice (some ⟨wr.heap.size,0,none⟩) 1 1]).range) (fV ND0.out (by simp) (fun b h1 h2=>absurd (LF.out b h1) (by rw [List.mem_singleton.1 h2];exact Nat.lt_irrefl _))) (by rw [List.length_map,List.length_take];omega) (by decide) ?_;intro v' w9 F' how hkp hF';have HOW:=ah how;have lJ:=ah hkp;have uT:=ah hF';clear how hkp hF')
      (refine ⟨⟨k+1,F',by omega,by go_num,by rw [HM.out];exact HOW.out,fun b hb=>match uT.out b hb with | .inl h=>HF.out b h | .inr (.inl h)=>Nat.le_trans HX.out.size ((by rw [List.mem_singleton.1 h];exact Nat.le_refl _)) | .inr (.inr h)=>Nat.le_trans ((HX.out.alloc _).alloc _).size h,lJ.out.ext ((HX.out.alloc _).alloc _) HF.out⟩,?_⟩;simp [intOf];omega)
    · have HY:Hid (dA shut (nth l k)=(nth l k).books):=ah (by rw [dA,if_neg hs]);have hs':(nth l k).state < shut:=by omega
      clear hs;have c1a:=fun o:Obj=>Ext.some ((Ext.refl wr).alloc o) c1;go_wp2_with (first | (at_builtin;refine gK (E:=dM) (T:=142) (hfl:=fun h=>h) (l:=[]) (ys:=(nth l k).books) (F:=[]) (S:=S) rfl _ _ 149 rfl (.agg Zr.l) 2 16 underlying149 (by kernel_rfl) rfl rfl rfl (aW.nil _) rfl (uQ.out.ext ((Ext.refl _).alloc _)) (by have:=HN.out;simp only [List.length_nil,maxLen];omega) (by have:=HN.out;simp only [List.length_nil];omega) ?_;intro u1 w1 G1 q1 alL hf1;have hx1:=alL.ext (Ext.refl _) (fun b hb=>absurd hb (by simp));simp only [List.nil_append] at q1;obtain ⟨p1,k1,rfl,-⟩:=aW.form q1;have X51:Hid (Ext wr w1):=ah (((Ext.refl wr).alloc _).trans hx1);have Q1:Hid (aW ji 142 w1 _ (nth l k).books G1):=ah q1;have Z1:Hid (∀ b∈G1,wr.heap.size≤b):=ah (fun b hb=>Or.elim (hf1 b hb) (fun h=>absurd h (by simp)) (fun h=>Nat.le_trans (Ext.size ((Ext.refl wr).alloc _)) h));have ND:Hid ((F ++ G1).Nodup):=ah (fV ND0.out (aW.nodup q1) (fun b h1 h2=>absurd (LF.out b h1) (Nat.not_lt.2 (Z1.out b h2))));clear q1 alL hf1 hx1) | (at_builtin;refine bM (O:=(pX ji 142)) (T:=149) (l:=(l.take k).map (dA shut)) (F:=F) (G:=G1) (y:=dA shut (nth l k)) rfl _ _ 92 rfl (.slice none 0 0) 1 24 underlying92 (by kernel_rfl) rfl rfl rfl (HO.out.ext (X51.out.alloc _)) _ 0 1 rfl ⟨_,rfl,by rw [HY.out];exact Q1.out.ext ((Ext.refl _).alloc _)⟩ (aF.new _ _ _).range ND.out (by rw [List.length_map,List.length_take];omega) (by decide) ?_;intro v' w9 F' how hkp hF';have HOW:=ah how;have lJ:=ah hkp;have uT:=ah hF';clear how hkp hF'))
      (refine ⟨⟨k+1,F',by omega,by go_num,by rw [HM.out];exact HOW.out,fun b hb=>match uT.out b hb with | .inl h=>HF.out b h | .inr (.inl h)=>Nat.le_trans HX.out.size (Z1.out b h) | .inr (.inr h)=>Nat.le_trans ((HX.out.trans X51.out).alloc _).size h,lJ.out.ext ((HX.out.trans X51.out).alloc _) HF.out⟩,?_⟩;simp [intOf];omega)
  · obtain rfl:k=l.length:=by omega
    go_wp2_with fail;go_ret;exact ⟨_,F,rfl,by have h:=HO.out;rw [List.take_length] at h;exact h,HF.out,HX.out⟩
theorem WW {S:Nat→Prop} (l:List Node) (v:Value) (w:World) (h:Rd ENode S w v l) :
 Calls prog 114 #[v] w (kX (pX ji 142) 149 (rowsOf l 2) w):=by
 obtain ⟨A,c,rfl,-⟩:=h.form;have HR:=ah h;clear h;go_enter func114,ntmps114;go_wp2_with fail;refine (Nw (S:=S) l 2 _ _ HR.out).mono ?_;rintro e w1 ⟨u1,G1,rfl,q1,g1,hx1⟩;go_wp2_with fail;go_ret;exact ⟨_,G1,rfl,q1,g1,hx1⟩
theorem Tv {S:Nat→Prop} (l:List Node) (v:Value) (w:World) (h:Rd ENode S w v l) :
 Calls prog 115 #[v] w (kX (pX ji 142) 149 (rowsOf l 3) w):=by
 obtain ⟨A,c,rfl,-⟩:=h.form;have HR:=ah h;clear h;go_enter func115,ntmps115;go_wp2_with fail;refine (Nw (S:=S) l 3 _ _ HR.out).mono ?_;rintro e w1 ⟨u1,G1,rfl,q1,g1,hx1⟩;go_wp2_with fail;go_ret;exact ⟨_,G1,rfl,q1,g1,hx1⟩
end Go.Proofs.YtbdicafambkhdaaGreat

/- The walk of the reference's rank of a task. Rows of elements that have blocks of their own: the row's block and its elements' by name; append(v, rows..). The walk of the reference's l14First: which of two tasks comes first. The walks of the reference's l14Order and TaskOrder. Printed by wip/orders.py. -/
import Derived.Test.YtbdicafambkhdaaGreatOrdY
import Derived.Deep.RegionHeld3
import Derived.Test.YtbdicafambkhdaaGreatInsSpan
import Derived.Test.YtbdicafambkhdaaGreatOrderI
import Derived.Test.YtbdicafambkhdaaGreatCopies
import Derived.Test.YtbdicafambkhdaaGreatGSmall
import Derived.Test.YtbdicafambkhdaaGreatTaskRS
import Derived.Laws.IdiomStrings
import Derived.Laws.BytesArg
import Derived.Test.YtbdicafambkhdaaGreatRows
import Derived.Laws.BitsAllLaws
import Derived.Test.YtbdicafambkhdaaGreatLabels
import Derived.Test.YtbdicafambkhdaaGreatClones
import Derived.Test.YtbdicafambkhdaaGreatGYardT
set_option maxHeartbeats 64000000
set_option maxRecDepth 100000
namespace Go.Proofs.YtbdicafambkhdaaGreat
open Go.Proofs.Tryz
open Go.RowKit
attribute [local irreducible] wpQuiet
theorem I7 {S S':Nat→Prop} (y:aK) (x:Task) (cs ds:List Value) (w:World) (h:eF.rel S w cs y) (g:ETask.rel S' w ds x) (hb:0≤x.born∧x.born≤1000000) (hn:0≤y.now∧y.now≤1000000) :
 Calls prog 253 #[.agg cs.toArray,.agg ds.toArray] w fun e w'=>e=.returned (.int .i64 (lC y x))∧Ext w w':=by
 obtain ⟨v1,v2,v3,v4,v5,v6,rfl,hf,h1,h2,h3,h4,h5,h6⟩:=h;obtain ⟨A1,c1,rfl,-⟩:=h1.form;obtain ⟨A2,c2,rfl,-⟩:=h2.form;obtain ⟨A3,c3,rfl,-⟩:=h3.form;obtain ⟨A4,c4,rfl,-⟩:=h4.form;obtain ⟨A5,c5,rfl,-⟩:=h5.form;obtain ⟨A6,c6,rfl,-⟩:=h6.form;have HF:=ah hf;have H1:=ah h1;have H2:=ah h2;have H3:=ah h3;have H4:=ah h4;have H5:=ah h5;have H6:=ah h6;clear hf h1 h2 h3 h4 h5 h6;obtain ⟨vt,rfl,ft,rt⟩:=g;obtain ⟨A,c,rfl,-⟩:=rt.form;have HS:Hid (Str x.owner):=ah ft.2.2.2.1;have hw:IntKind.i64.wrap (y.now - x.born)=y.now - x.born:=IntWalk.i64_in _ (by omega);clear ft rt hb hn;simp only [bV,aB];go_enter func253,ntmps253;go_wp2_with fail;obtain ⟨W,B,hW,hB,hx0,a0,b0⟩:=eY w (Ry y A1 c1 A2 c2 A3 c3 A4 c4 A5 c5 A6 c6) (Rt x (.slice A x.nodes.length c)) 45 76;rw [← hW,← hB];have e6:W.cell? ⟨B,6,none⟩=some (.slice A6 y.uses.length c6):=a0.cell 6;have e7:W.cell? ⟨B,7,none⟩=some (.int .i64 y.now):=a0.cell 7;have t0:W.cell? ⟨B+1,0,none⟩=some (.int .i64 x.label.level):=b0.cell 0;have t1:W.cell? ⟨B+1,1,none⟩=some (.int .i64 x.label.set):=b0.cell 1;have t3:W.cell? ⟨B+1,3,none⟩=some (.string x.owner):=b0.cell 3;have t6:W.cell? ⟨B+1,6,none⟩=some (.int .i64 x.prio):=b0.cell 6;have t10:W.cell? ⟨B+1,10,none⟩=some (.int .i64 x.born):=b0.cell 10;have HX:=ah hx0;clear hW hB hx0 a0 b0;have HUO:Hid (∀ V,Ext W V→Calls prog 293 #[.slice A6 y.uses.length c6,.agg (Rl x.label),.string x.owner] V fun e w'=>e=.returned (.int .i64 (uO y.uses x.label x.owner))∧Ext V w'):=ah fun V hV=>PG (S:=S) y.uses x.label x.owner _ _ (H6.out.ext (HX.out.trans hV)) HS.out;refine ak (by kernel_rfl) (by kernel_rfl) ?_;repeat (
  (refine wpQuiet_step (fun K hK=>?_)
   go_simp;first
    | (refine hK _ ?_;clear hK K)
    | (apply Exists.intro
       refine ⟨fun bH aj=>?_,hK _ ?_⟩
       · have afl:=Ext.some aj e6;have OD:=Ext.some aj e7;have aue:=Ext.some aj t0;have auf:=Ext.some aj t1;have aug:=Ext.some aj t3;have auh:=Ext.some aj t6;have aqR:=Ext.some aj t10;first | exact rfl | (go_simp;done) | (go_simp;exact rfl) | (go_at_call 293;exact aJ aj (HUO.out _ aj)) | (go_at_call 292;exact aN aj (TK _ _ _ _))
       clear hK K)))
 refine wpQuiet_nil ?_;intro w1 hx1;have H9:=ah hx1;clear e6 e7 t0 t1 t3 t6 t10 hx1;go_wp2_with fail;go_ret;exact ⟨aI rfl,HX.out.trans H9.out⟩
theorem Wu {α:Type} {c:α→α→Int} (l:List α) (x:α):(xW c l x).length=l.length+1:=by
 have:=(Iq (c:=c) l x).length_eq;simpa using this
theorem IY {α:Type} {c:α→α→Int}:∀ (l acc:List α),(l.foldl (xW c) acc).length=acc.length+l.length
 | [],acc=>by simp
 | x :: l,acc=>by
   rw [List.foldl_cons,IY l,Wu,List.length_cons];omega
theorem EY {α:Type} {c:α→α→Int} (l:List α):(sortL c l).length=l.length:=by rw [sortL,IY];simp
theorem aec {α:Type} {c:α→α→Int} {l:List α} {x z:α}:z∈xW c l x↔z∈l∨z=x:=by
 rw [(Iq (c:=c) l x).mem_iff,List.mem_append,List.mem_singleton]
theorem U9 {α:Type} {c:α→α→Int} {z:α}:∀ (l acc:List α),z∈l.foldl (xW c) acc↔z∈acc∨z∈l
 | [],acc=>by simp
 | x :: l,acc=>by
   rw [List.foldl_cons,U9 l,aec,List.mem_cons,or_assoc]
theorem QH {α:Type} {c:α→α→Int} {l:List α} {z:α}:z∈sortL c l↔z∈l:=by rw [sortL,U9];simp
section
variable {α:Type} [Inhabited α] {E:Elem α} {O:Own E} {T:TypeId} {P:Program}
def jm (O:Own E) (T:TypeId) (w:World) (v:Value) (l:List α) (B:Nat) (Fs:List (List Nat)):Prop :=
 ∃ c C,v=.slice (some ⟨B,0,none⟩) l.length c∧w.heap[B]? = some (.cells C T (0,0))∧l.length≤c∧c≤maxLen∧C.size=c * E.size∧Fs.length=l.length∧(B :: Fs.flatten).Nodup ∧
   ∀ k,k < l.length→∃ cs,O.own w cs (nth l k) (nth Fs k)∧w.rangeAt B (k * E.size) cs
theorem jm.ow {w:World} {v:Value} {l:List α} {B:Nat} {Fs:List (List Nat)} (h:jm O T w v l B Fs):aW O T w v l (B :: Fs.flatten):=by
 obtain ⟨c,C,h1,h2,h3,h4,h5,h6,h7,h8⟩:=h;exact .inr ⟨B,c,C,Fs,h1,h2,h3,h4,h5,h6,rfl,h7,h8⟩
theorem Tz {w:World} {v:Value} {l:List α} {F:List Nat} (h:aW O T w v l F) (hl:0 < l.length):∃ B Fs,F=B :: Fs.flatten∧jm O T w v l B Fs:=by
 rcases h with ⟨rfl,_⟩ | ⟨B,c,C,Fs,h1,h2,h3,h4,h5,h6,h7,h8,h9⟩
 · simp at hl
 · exact ⟨B,Fs,h7,c,C,h1,h2,h3,h4,h5,h6,h7 ▸ h8,h9⟩
theorem jm.form {w:World} {v:Value} {l:List α} {B:Nat} {Fs:List (List Nat)} (h:jm O T w v l B Fs):∃ c,v=.slice (some ⟨B,0,none⟩) l.length c∧l.length≤c∧c≤maxLen:=by
 obtain ⟨c,C,h1,h2,h3,h4,_⟩:=h;exact ⟨c,h1,h3,h4⟩
theorem jm.keep {w w':World} {v:Value} {l:List α} {B:Nat} {Fs:List (List Nat)} (h:jm O T w v l B Fs) (hk:∀ b∈B :: Fs.flatten,w'.heap[b]? = w.heap[b]?):jm O T w' v l B Fs:=by
 obtain ⟨c,C,h1,h2,h3,h4,h5,h6,h7,h8⟩:=h;have hB:=hk B (List.mem_cons_self ..);refine ⟨c,C,h1,hB.trans h2,h3,h4,h5,h6,h7,fun k hlt=>?_⟩;obtain ⟨cs,ho,hr⟩:=h8 k hlt;refine ⟨cs,O.keep (fun b hb=>hk b (List.mem_cons_of_mem _ (fD (by omega) hb))) ho,fun j u hj=>?_⟩;have:=hr j u hj;rw [← this];exact World.cell?_of_block hB
theorem jm.ext {w w':World} {v:Value} {l:List α} {B:Nat} {Fs:List (List Nat)} (h:jm O T w v l B Fs) (hx:Ext w w'):jm O T w' v l B Fs :=
 h.keep fun b hb=>Below.block hx b (h.ow.lt b hb)
theorem fO {l:List (List Nat)} {n:Nat}:∀ b∈(l.take n).flatten,b∈l.flatten:=fun b hb=>by
 obtain ⟨x,hx,hb⟩:=List.mem_flatten.1 hb;exact List.mem_flatten.2 ⟨x,List.mem_of_mem_take hx,hb⟩
theorem jo {l:List (List Nat)} {n:Nat}:∀ b∈(l.drop n).flatten,b∈l.flatten:=fun b hb=>by
 obtain ⟨x,hx,hb⟩:=List.mem_flatten.1 hb;exact List.mem_flatten.2 ⟨x,List.mem_of_mem_drop hx,hb⟩
theorem U7 (l:List (List Nat)) (n:Nat):l.flatten=(l.take n).flatten ++ (l.drop n).flatten:=by rw [← List.flatten_append,List.take_append_drop]
theorem Qs {β:Type} [Inhabited β] {l:List β} {n k:Nat} (h:k < n) (hl:k < l.length):nth (l.take n) k=nth l k:=by
 rw [aO (by rw [List.length_take];omega),aO hl];simp
theorem Qr {β:Type} [Inhabited β] {l:List β} {n k:Nat} (h:n+k < l.length):nth (l.drop n) k=nth l (n+k):=by
 rw [aO (by rw [List.length_drop];omega),aO h];simp
theorem jm.take {w:World} {v:Value} {l:List α} {B n:Nat} {Fs:List (List Nat)} (h:jm O T w v l B Fs):∀ k,k < (l.take n).length→∃ cs,O.own w cs (nth (l.take n) k) (nth (Fs.take n) k)∧w.rangeAt B (0+k * E.size) cs:=fun k hk=>by
 obtain ⟨c,C,h1,h2,h3,h4,h5,h6,h7,h8⟩:=h;rw [List.length_take] at hk;rw [Qs (by omega) (by omega),Qs (by omega) (by omega),Nat.zero_add];exact h8 k (by omega)
theorem jm.drop {w:World} {v:Value} {l:List α} {B n:Nat} {Fs:List (List Nat)} (h:jm O T w v l B Fs):∀ k,k < (l.drop n).length→∃ cs,O.own w cs (nth (l.drop n) k) (nth (Fs.drop n) k)∧w.rangeAt B (n * E.size+k * E.size) cs:=fun k hk=>by
 obtain ⟨c,C,h1,h2,h3,h4,h5,h6,h7,h8⟩:=h;rw [List.length_drop] at hk;rw [Qr (by omega),Qr (by omega),← Nat.add_mul];exact h8 (n+k) (by omega)
theorem jB {l ys:List α} {ops:Array Oper} {rest:List Oper} {o:Oper} {a:Act} {w:World} {Q:Exit→Act→World→Prop} (hgd:o.guard=none) (s x:Operand) (t:TypeId)
 (ho:o.op=.call { callee:=.builtin .append,args:=#[s,x],argTypes:=#[t,t] })
 {v:Value} {F:List Nat} {Gs:List (List Nat)} (z:Value) (size bytes:Nat) (ht:P.underlying t=some (.slice T)) (hi:(P.info? T).map (fun i=>(i.zero,i.size,i.bytes))=some (some z,size,bytes)) (hsz:size=E.size) (hzs:z.cells.size=E.size)
 (hs:a.eval s=v) (hown:aW O T w v l F) (Bs os n c:Nat) (hn:ys.length=n) (hx:a.eval x=.slice (some ⟨Bs,os,none⟩) n c) (hG:Gs.length=ys.length) (hy:∀ k,k < ys.length→∃ cs,O.own w cs (nth ys k) (nth Gs k)∧w.rangeAt Bs (os+k * E.size) cs) (hnd:(F ++ Gs.flatten).Nodup) (hF:∀ b∈Gs.flatten,b < w.heap.size)
 (h63:l.length+ys.length≤maxLen) (hby:(l.length+ys.length) * bytes≤140737488355328)
 (h:∀ v' w' F',aW O T w' v' (l ++ ys) F'→Kept F w w'→(∀ b∈F',b∈F∨b∈Gs.flatten∨w.heap.size≤b)→wpList P ops Q rest (a.put o.dst v') w'):wpList P ops Q (o :: rest) a w :=
 wpList_plain hgd fun _ hK=>tK (ys:=ys) (Gs:=Gs) s x t ho z size bytes ht hi hsz hzs hs hown Bs os c (by rw [hn];exact hx) hG hy hnd hF h63 hby fun v' w' F' g1 g2 g3=>hK _ _ (h v' w' F' g1 g2 g3)
theorem jm.len {w:World} {v:Value} {l:List α} {B:Nat} {Fs:List (List Nat)} (h:jm O T w v l B Fs):Fs.length=l.length:=by
 obtain ⟨c,C,h1,h2,h3,h4,h5,h6,h7,h8⟩:=h;exact h6
theorem jm.nd {w:World} {v:Value} {l:List α} {B:Nat} {Fs:List (List Nat)} (h:jm O T w v l B Fs):(B :: Fs.flatten).Nodup:=by
 obtain ⟨c,C,h1,h2,h3,h4,h5,h6,h7,h8⟩:=h;exact h7
theorem jm.parts {w:World} {v:Value} {l:List α} {B n:Nat} {Fs:List (List Nat)} (h:jm O T w v l B Fs):(Fs.take n).flatten.Nodup∧(Fs.drop n).flatten.Nodup∧(∀ b∈(Fs.take n).flatten,b∉(Fs.drop n).flatten)∧B∉(Fs.take n).flatten∧B∉(Fs.drop n).flatten:=by
 obtain ⟨h1,h2⟩:=List.nodup_cons.1 h.nd;rw [U7 Fs n] at h2;obtain ⟨a,b,c⟩:=List.nodup_append.1 h2;exact ⟨a,b,fun x hx hy=>c x hx x hy rfl,fun hm=>h1 (fO B hm),fun hm=>h1 (jo B hm)⟩
theorem jm.abC {w w':World} {v:Value} {l:List α} {B n:Nat} {Fs:List (List Nat)} (h:jm O T w v l B Fs) (hB:w'.heap[B]? = w.heap[B]?) (hk:∀ b∈(Fs.drop n).flatten,w'.heap[b]? = w.heap[b]?):∀ k,k < (l.drop n).length→∃ cs,O.own w' cs (nth (l.drop n) k) (nth (Fs.drop n) k)∧w'.rangeAt B (n * E.size+k * E.size) cs:=fun k hlt=>by
 obtain ⟨cs,ho,hr⟩:=h.drop k hlt;have hl:k < (Fs.drop n).length:=by rw [List.length_drop] at hlt ⊢;rw [h.len];exact hlt
 refine ⟨cs,O.keep (fun b hb=>hk b (fD hl hb)) ho,fun j u hj=>?_⟩;have:=hr j u hj;rw [← this];exact World.cell?_of_block hB
end
theorem SA {S S1 S2:Nat→Prop} (y:aK) (a b:Task) (cs ca cb:List Value) (w:World) (h:eF.rel S w cs y) (ga:ETask.rel S1 w ca a) (gb:ETask.rel S2 w cb b) (la:aA a.label=true) (lb:aA b.label=true)
 (ba:0≤a.born∧a.born≤1000000) (bb:0≤b.born∧b.born≤1000000) (hn:0≤y.now∧y.now≤1000000) :
 Calls prog 180 #[.agg cs.toArray,.agg ca.toArray,.agg cb.toArray] w fun e w'=>e=.returned (.bool (firstT y a b))∧Ext w w':=by
 have HRA:Hid (∀ V,Ext w V→Calls prog 253 #[.agg cs.toArray,.agg ca.toArray] V fun e w'=>e=.returned (.int .i64 (lC y a))∧Ext V w'):=ah fun V hV=>I7 (S:=S) (S':=S1) y a cs ca V (eF.keep (hV.same _) h) (ETask.keep (hV.same _) ga) ba hn;have HRB:Hid (∀ V,Ext w V→Calls prog 253 #[.agg cs.toArray,.agg cb.toArray] V fun e w'=>e=.returned (.int .i64 (lC y b))∧Ext V w'):=ah fun V hV=>I7 (S:=S) (S':=S2) y b cs cb V (eF.keep (hV.same _) h) (ETask.keep (hV.same _) gb) bb hn;obtain ⟨v1,v2,v3,v4,v5,v6,rfl,hf,h1,h2,h3,h4,h5,h6⟩:=h;obtain ⟨A1,c1,rfl,-⟩:=h1.form;obtain ⟨A2,c2,rfl,-⟩:=h2.form;obtain ⟨A3,c3,rfl,-⟩:=h3.form;obtain ⟨A4,c4,rfl,-⟩:=h4.form;obtain ⟨A5,c5,rfl,-⟩:=h5.form;obtain ⟨A6,c6,rfl,-⟩:=h6.form;have HF:=ah hf;have H1:=ah h1;have H2:=ah h2;have H3:=ah h3;have H4:=ah h4;have H5:=ah h5;have H6:=ah h6;clear hf h1 h2 h3 h4 h5 h6;obtain ⟨va,rfl,fa,ra⟩:=ga;obtain ⟨Aa,ka,rfl,-⟩:=ra.form;obtain ⟨vb,rfl,fb,rb⟩:=gb;obtain ⟨Ab,kb,rfl,-⟩:=rb.form;have QV:Hid (jG a.label.level 0 3=true∧jG a.label.set 0 7=true):=ah (by simpa [aA] using la);have XC:Hid (jG b.label.level 0 3=true∧jG b.label.set 0 7=true):=ah (by simpa [aA] using lb);have HEQ:Hid (firstT y a b=(if ¬ a.label=b.label then decide (keyOf a.label < keyOf b.label) else if ¬ lC y a=lC y b then decide (lC y b < lC y a) else decide (a.id < b.id))):=ah rfl;obtain ⟨r1,hr1⟩:∃ r,lC y a=r:=⟨_,rfl⟩
 obtain ⟨r2,hr2⟩:∃ r,lC y b=r:=⟨_,rfl⟩
 rw [hr1] at HRA HEQ;rw [hr2] at HRB HEQ;clear fa ra fb rb la lb ba bb hn hr1 hr2;simp only [bV,aB] at HRA HRB ⊢;by_cases he:a.label.level=b.label.level∧a.label.set=b.label.set
 · have hl:a.label=b.label:=by rcases a with ⟨⟨_,_⟩,_⟩;rcases b with ⟨⟨_,_⟩,_⟩;simp only at he ⊢;rw [he.1,he.2]
   have HE2:Hid (firstT y a b=(if ¬ r1=r2 then decide (r2 < r1) else decide (a.id < b.id))):=ah (by rw [HEQ.out,if_neg (by simp [hl])]);obtain ⟨e1,e2⟩:=he;have E1:=ah e1;have E2:=ah e2;clear hl e1 e2;go_enter func180,ntmps180;go_upto_region 1 with (fail)
   obtain ⟨W,B,hW,hB,hx0,y0,a0,b0⟩:=lQ w (Ry y A1 c1 A2 c2 A3 c3 A4 c4 A5 c5 A6 c6) (Rt a (.slice Aa a.nodes.length ka)) (Rt b (.slice Ab b.nodes.length kb)) 45 76 76;rw [← hW,← hB];have HX:=ah hx0;have YQ:=ah y0;have AQ:=ah a0;have BQ:=ah b0;clear hW hB hx0 y0 a0 b0;have qa:=AQ.out.cell;have qb:=BQ.out.cell;have e1:=E1.out;have e2:=E2.out;go_upto_region 3 with (fail)
   clear qa qb e1 e2;go_cut [7,8] (fun u v wx=>u=.int .i64 r1∧v=.int .i64 r2∧Ext W wx);case first =>
    have yl:∀ V,Ext W V→∀ i,V.cell? ⟨B,i,none⟩=_:=fun V hx=>(YQ.out.ext hx).cell;have al:∀ V,Ext W V→∀ i,V.cell? ⟨B+1,i,none⟩=_:=fun V hx=>(AQ.out.ext hx).cell;have bl:∀ V,Ext W V→∀ i,V.cell? ⟨B+1+1,i,none⟩=_:=fun V hx=>(BQ.out.ext hx).cell;go_region_held3 (fun w'=>Ext W w') (first | exact Ext.refl _ | exact (Ext.refl _).drew | assumption | exact Ext.trans (by assumption) jO | exact Ext.trans (by assumption) eu) (first | (go_at_call 253;(with_reducible refine (HRA.out _ (HX.out.trans (by assumption))).mono ?_);rintro e w8 ⟨rfl,eu⟩) | (go_at_call 253;(with_reducible refine (HRB.out _ (HX.out.trans (by assumption))).mono ?_);rintro e w9 ⟨rfl,jO⟩));all_goals clear yl al bl
    all_goals (go_wp2_with fail;go_meet;exact ⟨rfl,rfl,by assumption⟩)
   case rest =>
   generalize wc=W4 at hcut ⊢;obtain ⟨rfl,rfl,hx1⟩:=hcut;have H9:=ah hx1;have qa:=(AQ.out.ext hx1).cell;have qb:=(BQ.out.ext hx1).cell;clear hx1;by_cases hr:r1=r2
   · have HE:Hid (firstT y a b=decide (a.id < b.id)):=ah (by rw [HE2.out,if_neg (by simp [hr])]);subst hr;go_wp2_with fail;go_ret;exact ⟨au (by first | exact HE.out.symm | (rw [HE.out];exact decide_eq_decide.mpr (by omega))),HX.out.trans H9.out⟩
   · have HE:Hid (firstT y a b=decide (r2 < r1)):=ah (by rw [HE2.out,if_pos hr]);go_wp2_with fail;go_ret;exact ⟨au (by first | exact HE.out.symm | (rw [HE.out];exact decide_eq_decide.mpr (by omega))),HX.out.trans H9.out⟩
 · have HE:Hid (firstT y a b=decide (keyOf a.label < keyOf b.label)):=ah (by rw [HEQ.out,if_pos (fun e=>he (by rw [e];exact ⟨rfl,rfl⟩))]);have hh:¬ a.label.level=b.label.level∨(a.label.level=b.label.level∧¬ a.label.set=b.label.set):=by omega
   clear he HRA HRB HEQ;go_enter func180,ntmps180;go_upto_region 1 with (fail)
   obtain ⟨W,B,hW,hB,hx0,y0,a0,b0⟩:=lQ w (Ry y A1 c1 A2 c2 A3 c3 A4 c4 A5 c5 A6 c6) (Rt a (.slice Aa a.nodes.length ka)) (Rt b (.slice Ab b.nodes.length kb)) 45 76 76;rw [← hW,← hB];have HX:=ah hx0;have p0:W.cell? ⟨B+1,0,none⟩=some (.int .i64 a.label.level):=a0.cell 0;have p1:W.cell? ⟨B+1,1,none⟩=some (.int .i64 a.label.set):=a0.cell 1;have q0:W.cell? ⟨B+1+1,0,none⟩=some (.int .i64 b.label.level):=b0.cell 0;have q1:W.cell? ⟨B+1+1,1,none⟩=some (.int .i64 b.label.set):=b0.cell 1;clear hW hB hx0 y0 a0 b0;rcases hh with h1 | ⟨h1,h2⟩
   all_goals
    go_wp2_with fail;clear h1;try clear h2
    refine ak (by kernel_rfl) (by kernel_rfl) ?_;repeat (
     (refine wpQuiet_step (fun K hK=>?_)
      go_simp;first
       | (refine hK _ ?_;clear hK K)
       | (apply Exists.intro
          refine ⟨fun bH aj=>?_,hK _ ?_⟩
          · have at6:=Ext.some aj p0;have at7:=Ext.some aj p1;have Wx:=Ext.some aj q0;have Wy:=Ext.some aj q1;first | exact rfl | (go_simp;done) | (go_simp;exact rfl) | (go_at_call 35;exact aJ aj (gu a.label.level a.label.set _ QV.out.1 QV.out.2)) | (go_at_call 35;exact aJ aj (gu b.label.level b.label.set _ XC.out.1 XC.out.2))
          clear hK K)))
    refine wpQuiet_nil ?_;intro w1 hx1;have H9:=ah hx1;clear hx1 p0 p1 q0 q1;go_wp2_with fail;go_ret;exact ⟨au (by first | exact HE.out.symm | (rw [HE.out];exact decide_eq_decide.mpr (by unfold keyOf;omega))),HX.out.trans H9.out⟩
theorem acf {y:aK} {k:Nat} (h:k < y.tasks.length) (e:iq y (nth y.tasks k)=true):sortL (ng y) ((y.tasks.take (k+1)).filter (iq y))=xW (ng y) (sortL (ng y) ((y.tasks.take k).filter (iq y))) (nth y.tasks k):=by rw [Lj h e,aan]
theorem ad8 {y:aK} {k:Nat} (h:k < y.tasks.length) (e:iq y (nth y.tasks k)=false):sortL (ng y) ((y.tasks.take (k+1)).filter (iq y))=sortL (ng y) ((y.tasks.take k).filter (iq y)):=by rw [aa0 h e]
theorem ace {y:aK} {k:Nat} (h:y.tasks.length≤96):(sortL (ng y) ((y.tasks.take k).filter (iq y))).length≤96:=by
 rw [EY];have h1:=List.length_filter_le (iq y) (y.tasks.take k);have h2:=List.length_take_le k y.tasks;rw [List.length_take] at h1;omega
theorem Wi {y:aK} {k j:Nat} (h:bn y.tasks=true) (hj:j < (sortL (ng y) ((y.tasks.take k).filter (iq y))).length):bJ (nth (sortL (ng y) ((y.tasks.take k).filter (iq y))) j)=true:=by
 have h1:=QH.1 (bG hj);obtain ⟨i,hi,e⟩:=List.getElem_of_mem (List.mem_of_mem_take (List.mem_filter.1 h1).1);rw [← e,← aO hi];exact WV h hi
theorem U4 {y:aK} {a b:Task} (ha:bJ a=true) (hb:bJ b=true) (h:firstT y a b=true):ng y a b < 0:=by
 rw [Qi (dQ ha) (dQ hb)] at h;exact of_decide_eq_true h
theorem adE {y:aK} {a b:Task} (ha:bJ a=true) (hb:bJ b=true) (h:firstT y a b=false):¬ ng y a b < 0:=by
 rw [Qi (dQ ha) (dQ hb)] at h;exact of_decide_eq_false h
theorem SG {S:Nat→Prop} (y:aK) (cs:List Value) (w:World) (h:eF.rel S w cs y) (hr:Uw y) :
 Calls prog 91 #[.agg cs.toArray] w (kX iW 76 (jQ y) w):=by
 obtain ⟨v1,v2,v3,v4,v5,v6,rfl,hf,h1,h2,h3,h4,h5,h6⟩:=h;obtain ⟨A1,c1,rfl,-⟩:=h1.form;obtain ⟨A2,c2,rfl,-⟩:=h2.form;obtain ⟨A3,c3,rfl,-⟩:=h3.form;obtain ⟨A4,c4,rfl,-⟩:=h4.form;have H5:=ah h5;obtain ⟨A5,c5,rfl,l5,m5,hk5⟩:=h5.open_;unfold maxLen at m5;obtain ⟨A6,c6,rfl,-⟩:=h6.form;have HF:=ah hf;have Oo:Hid (iC y.config):=ah hf.1;have H1:=ah h1;have H2:=ah h2;have H3:=ah h3;have H4:=ah h4;have H6:=ah h6;have K5:=ah hk5;have HR:=ah hr;have HTR:=ah hr.tasks;have HLN:Hid (y.tasks.length≤96):=ah (zZ hr.tasks);have hln:=HLN.out;clear hf h1 h2 h3 h4 h5 h6 hk5 hr;simp only [bV];go_enter func91,ntmps91;go_wp2_with fail;obtain ⟨W,B,hW,hB,hx0,a0,b0⟩:=eY w (Ry y A1 c1 A2 c2 A3 c3 A4 c4 A5 c5 A6 c6) #[] 45 76;rw [← hW,← hB];have HB:Hid (w.heap.size≤B):=ah (by omega);have QA:=ah a0;have QB:=ah b0;have X:=ah hx0;clear hW hB hx0 a0 b0;go_loopw [3,4] (fun v i w'=>∃ (k B':Nat) (Fs:List (List Nat)),k≤y.tasks.length∧i=.int .i64 k∧jm iW 76 w' v (sortL (ng y) ((y.tasks.take k).filter (iq y))) B' Fs∧(∀ b∈B' :: Fs.flatten,B < b)∧aF w' B 45 (Ry y A1 c1 A2 c2 A3 c3 A4 c4 A5 c5 A6 c6)∧Ext w w') (fun _ i _=>y.tasks.length - (intOf i).toNat);case atStart=>exact ⟨0,B+1,[],by omega,rfl,⟨0,#[],rfl,QB.out,Nat.le_refl _,Nat.zero_le _,rfl,rfl,by simp,fun k hk=>absurd hk (Nat.not_lt_zero _)⟩,fun b hb=>by rw [List.mem_singleton.1 hb];omega,QA.out,X.out⟩
 case round =>
  obtain ⟨k,B',Fs,hk1,rfl,hrow,hF,hbb,hx⟩:=hrel;obtain ⟨l,hl⟩:∃ l,(sortL (ng y) ((y.tasks.take k).filter (iq y)))=l:=⟨_,rfl⟩
  have HL:=ah hl;rw [hl] at hrow;have wu:Hid (l.length≤96):=ah (by rw [← hl];exact ace HLN.out);have Uu:Hid (∀ j,j < l.length→bJ (nth l j)=true):=ah (by rw [← hl];exact fun j hj=>Wi HTR.out hj);obtain ⟨co,rfl,lco,mco⟩:=hrow.form;unfold maxLen at mco;have agG:=ah hrow;have HF2:=ah hF;have HX:=ah hx;have PX:Hid (aF wr B 45 (Ry y A1 c1 A2 c2 A3 c3 A4 c4 A5 c5 A6 c6)):=ah hbb;have hll:=wu.out;clear hrow hF hl;by_cases hlt:k < y.tasks.length
  · have qa:=PX.out.cell;obtain ⟨b,q,cs,rfl,_,⟨v1,rfl,hfit,hrd⟩,hc⟩:=K5.out k hlt;obtain ⟨A1',c1',rfl,-⟩:=hrd.form;have z0:=Ext.some hx (hc 0 _ rfl);have z1:=Ext.some hx (hc 1 _ rfl);have z2:=Ext.some hx (hc 2 _ rfl);have z3:=Ext.some hx (hc 3 _ rfl);have z4:=Ext.some hx (hc 4 _ rfl);have z5:=Ext.some hx (hc 5 _ rfl);have z6:=Ext.some hx (hc 6 _ rfl);have z7:=Ext.some hx (hc 7 _ rfl);have z8:=Ext.some hx (hc 8 _ rfl);have z9:=Ext.some hx (hc 9 _ rfl);have z10:=Ext.some hx (hc 10 _ rfl);have z11:=Ext.some hx (hc 11 _ rfl);have z12:=Ext.some hx (hc 12 _ rfl);have z13:=Ext.some hx (hc 13 _ rfl);simp only [ETask,Nat.add_zero] at z0 z1 z2 z3 z4 z5 z6 z7 z8 z9 z10 z11 z12 z13;have lM:=ah hfit;have uQ:=ah (hrd.ext hx);have DY:=ah (qF HTR.out hlt);have zW:=ah (Qy HR.out hlt);clear hc hfit hrd hbb;go_upto_region 6 with (fail)
    obtain ⟨W5,B5,IZ,Hz,hx5,b5⟩:∃ V C,V=wr.alloc (.cells (Rt (nth y.tasks k) (.slice A1' (nth y.tasks k).nodes.length c1')) 76)∧C=wr.heap.size∧Ext wr V∧aF V C 76 (Rt (nth y.tasks k) (.slice A1' (nth y.tasks k).nodes.length c1')):=⟨_,_,rfl,rfl,(Ext.refl wr).alloc _,aF.new _ _ _⟩
    rw [← IZ,← Hz];have X5:=ah hx5;have Q5:=ah b5;have E5:=ah Hz;clear IZ Hz hx5 b5 qa hx z0 z1 z2 z3 z4 z5 z6 z7 z8 z9 z10 z11 z12 z13;obtain ⟨r,hrr⟩:∃ r,sG y.tasks (nth y.tasks k)=r:=⟨_,rfl⟩
    have HRR:=ah hrr;have HRY:Hid (∀ V,Ext W5 V→Calls prog 179 #[.slice (some ⟨b,q,none⟩) y.tasks.length c5,.agg (Rt (nth y.tasks k) (.slice A1' (nth y.tasks k).nodes.length c1'))] V fun e w'=>e=.returned (.bool r)∧Ext V w'):=ah fun V hV=>by
     rw [← hrr];exact PE (S:=S) (S':=S) y.tasks (nth y.tasks k) _ _ V (H5.out.ext (HX.out.trans (X5.out.trans hV))) (eU lM.out (uQ.out.ext (X5.out.trans hV)))
    clear hrr;obtain ⟨g,hgg⟩:∃ g,iq y (nth y.tasks k)=g:=⟨_,rfl⟩
    have HG:=ah hgg;clear hgg;go_cut [30] from 9 to 60 (fun u wx=>u=.bool (!g)∧Ext W5 wx)
    case first =>
     have q5:=Q5.out.cell;have qa5:=(PX.out.ext X5.out).cell;by_cases hst:(nth y.tasks k).state=2
     · have hs2:((nth y.tasks k).state != 2)=false:=by simp [hst]
       have hg:g=true:=by rw [← HG.out];simp [iq,hst]
       clear hst;subst hg;go_wp2_with fail;go_meet;exact ⟨rfl,Ext.refl _⟩
     · have hs2:((nth y.tasks k).state != 2)=true:=by simp [hst]
       have hg:g=r:=by rw [← HG.out,iq,HRR.out];simp [hst]
       clear hst;subst hg;go_wp2_with (go_at_call 179;(with_reducible refine (HRY.out _ (Ext.refl _)).mono ?_);rintro e w9 ⟨rfl,jO⟩;have X9:=ah jO;clear jO);go_meet;exact ⟨rfl,X9.out⟩
    case rest =>
    generalize wc=W6 at hcut ⊢;obtain ⟨rfl,hx6⟩:=hcut;have X6:=ah (X5.out.trans hx6);have Q6:=ah (Q5.out.ext hx6);clear hx6 HRY;cases g with
    | false =>
      have HT:=ah (ad8 hlt HG.out);go_wp2_with fail;go_roundw;case rel=>exact ⟨k+1,B',Fs,by omega,by go_num,by rw [HT.out,HL.out];exact agG.out.ext X6.out,HF2.out,PX.out.ext X6.out,HX.out.trans X6.out⟩
      case measure=>simp [intOf];omega
    | true =>
      have HT:Hid (sortL (ng y) ((y.tasks.take (k+1)).filter (iq y))=xW (ng y) l (nth y.tasks k)):=ah (by rw [acf hlt HG.out,HL.out]);have YB:=ah (PX.out.ext X6.out);have RW:=ah (agG.out.ext X6.out);go_upto_region 8 with (fail)
      go_loopw [6] (fun i wi=>∃ j,j≤l.length∧i=.int .i64 j∧(∀ m,m < j→firstT y (nth l m) (nth y.tasks k)=true)∧Ext W6 wi) (fun i _=>l.length - (intOf i).toNat);case atStart=>exact ⟨0,by omega,rfl,fun m hm=>by omega,Ext.refl _⟩
      case round =>
       obtain ⟨j,hj1,rfl,hall,hxi⟩:=hrel;have HA:=ah hall;have HXI:=ah hxi;have HJ:=ah hj1;clear hall;by_cases hjl:j < l.length
       · obtain ⟨ve,fe,oe,hce⟩:∃ ve,eH (nth l j)∧aW jD 2 wr ve (nth l j).nodes (nth Fs j)∧wr.rangeAt B' (j * 14) (aB (nth l j) ve):=by
          obtain ⟨c',C',_,_,_,_,_,_,_,h8⟩:=RW.out.ext hxi;obtain ⟨cs',⟨ve,rfl,fe,oe⟩,hce⟩:=h8 j hjl;exact ⟨ve,fe,oe,hce⟩
         have agx:=ah hjl;obtain ⟨cy,hcy⟩:∃ L:List Value,L = [.slice A1 y.config.nodes.length c1,.slice A2 y.config.pairs.length c2,.slice A3 y.config.ay.length c3,.int .i64 y.config.half,.slice A4 y.nodes.length c4,.slice (some ⟨b,q,none⟩) y.tasks.length c5,.slice A6 y.uses.length c6,.int .i64 y.now]:=⟨_,rfl⟩
         obtain ⟨ce,afr⟩:∃ L:List Value,L=aB (nth l j) ve:=⟨_,rfl⟩
         obtain ⟨ct,hct⟩:∃ L:List Value,L = [.int .i64 (nth y.tasks k).label.level,.int .i64 (nth y.tasks k).label.set,.int .i64 (nth y.tasks k).id,.string (nth y.tasks k).owner,.int .i64 (nth y.tasks k).need,.int .i64 (nth y.tasks k).long,.int .i64 (nth y.tasks k).prio,.int .i64 (nth y.tasks k).under.level,.int .i64 (nth y.tasks k).under.set,.int .i64 (nth y.tasks k).after,.int .i64 (nth y.tasks k).born,.int .i64 (nth y.tasks k).state,.int .i64 (nth y.tasks k).start,.slice A1' (nth y.tasks k).nodes.length c1']:=⟨_,rfl⟩
         have HY:Hid (wr.rangeAt B 0 cy):=ah (by rw [hcy];exact (YB.out.ext hxi).range);have HE:Hid (wr.rangeAt B' (j * 14) ce):=ah (by rw [afr];exact hce);have HTC:Hid (wr.rangeAt B5 0 ct):=ah (by rw [hct];exact (Q6.out.ext hxi).range);have HYI:Hid ((prog.info? 45).map (·.size)=some cy.length):=ah (by rw [hcy];kernel_rfl);have HEI:Hid ((prog.info? 76).map (·.size)=some ce.length):=ah (by rw [afr];kernel_rfl);have HTI:Hid ((prog.info? 76).map (·.size)=some ct.length):=ah (by rw [hct];kernel_rfl);obtain ⟨f,hff⟩:∃ f,firstT y (nth l j) (nth y.tasks k)=f:=⟨_,rfl⟩
         have uT:=ah hff;have HFA:Hid (∀ V,Ext wr V→Calls prog 180 #[.agg cy.toArray,.agg ce.toArray,.agg ct.toArray] V fun e w'=>e=.returned (.bool f)∧Ext V w'):=ah fun V hV=>by
          have hw0:Ext w V:=HX.out.trans (X6.out.trans (HXI.out.trans hV));rw [← hff,hcy,afr,hct];exact SA (S:=S) (S1:=fun b=>b∈nth Fs j) (S2:=S) y (nth l j) (nth y.tasks k) _ _ _ V (gB HF.out (H1.out.ext hw0) (H2.out.ext hw0) (H3.out.ext hw0) (H4.out.ext hw0) (H5.out.ext hw0) (H6.out.ext hw0)) (iW.rel (w:=V) (F:=nth Fs j) ⟨ve,rfl,fe,oe.ext hV⟩) (eU lM.out (uQ.out.ext (X6.out.trans (HXI.out.trans hV)))) (dQ (Uu.out j agx.out)) (dQ DY.out) (RF (Uu.out j agx.out)) (RF DY.out) HR.out.now
         clear hff hcy afr hct hce oe fe hxi;go_wp2_with fail;refine ak (by kernel_rfl) (by kernel_rfl) ?_;repeat (
          first
          | (refine aS (by rfl) 45 _ rfl B (0) rfl cy _ (fun bH aj=>aj.range HY.out) underlying45 rfl HYI.out ?_;simp only [Act.put,List.setIfInBounds_toArray,List.set_cons_zero,List.set_cons_succ])
          | (refine aS (by rfl) 76 _ rfl B' (j * 14) rfl ce _ (fun bH aj=>aj.range HE.out) underlying76 rfl HEI.out ?_;simp only [Act.put,List.setIfInBounds_toArray,List.set_cons_zero,List.set_cons_succ])
          | (refine aS (by rfl) 76 _ rfl B5 (0) rfl ct _ (fun bH aj=>aj.range HTC.out) underlying76 rfl HTI.out ?_;simp only [Act.put,List.setIfInBounds_toArray,List.set_cons_zero,List.set_cons_succ])
          | (refine wpQuiet_step (fun K hK=>?_)
             go_simp;first
              | (refine hK _ ?_;clear hK K)
              | (apply Exists.intro
                 refine ⟨fun bH aj=>?_,hK _ ?_⟩
                 · first | exact rfl | (go_simp;done) | (go_simp;exact rfl) | (go_at_call 180;exact aJ aj (HFA.out _ aj))
                 clear hK K)))
         refine wpQuiet_nil ?_;intro w1 hx1;have XV:=ah (HXI.out.trans hx1);clear hx1;cases f with
         | true =>
           have HA2:=ah (all_succ (p:=fun m=>firstT y (nth l m) (nth y.tasks k)=true) HA.out uT.out);go_wp2_with fail;go_roundw;case rel=>exact ⟨_,_,_,_,_,_,_,_,_,_,_,_,_,_,_,_,⟨j+1,by omega,by go_num,HA2.out,XV.out⟩,rfl⟩
           case measure=>simp [intOf];omega
         | false =>
           have HP:Hid (qO (ng y) l (nth y.tasks k)=j):=ah (QE HJ.out (fun m hm=>U4 (Uu.out m (by have:=HJ.out;omega)) DY.out (HA.out m hm)) (.inr (adE (Uu.out j agx.out) DY.out uT.out)));go_upto_region 10 with (fail)
           have FX:Hid (jm iW 76 w1 (.slice (some ⟨B',0,none⟩) l.length co) l B' Fs):=ah (RW.out.ext XV.out);have YV:Hid (B < w1.heap.size):=ah (YB.out.ext XV.out).lt;have hj1:=HJ.out;go_upto_region 11 with (at_builtin;go_loud (refine jB (O:=iW) (T:=76) (l:=[]) (ys:=l.take j) (Gs:=Fs.take j) (F:=[]) rfl _ _ 42 rfl (.agg Zr.t) 14 136 underlying42 (by kernel_rfl) rfl rfl rfl (aW.nil _) B' 0 j _ (by rw [List.length_take];have:=HJ.out;omega) rfl (by rw [List.length_take,List.length_take,FX.out.len]) (FX.out.ext ((Ext.refl _).alloc _)).take (by simpa using (FX.out.parts (n:=j)).1) (fun b hb=>Nat.lt_of_lt_of_le (FX.out.ow.lt b (List.mem_cons_of_mem _ (fO b hb))) ((Ext.refl _).alloc _).size) (by rw [List.length_take];unfold maxLen;simp only [List.length_nil];have:=wu.out;omega) (by rw [List.length_take];simp only [List.length_nil];have:=wu.out;omega) ?_;intro v2 w2 F2 how hkp hF2;have OW2:=ah how;have K2:=ah hkp;have FF2:=ah hF2;clear how hkp hF2))
           have X12:Hid (Ext w1 w2):=ah (Kept.ext ((Ext.refl _).alloc _) K2.out (fun b hb=>absurd hb (by simp)));have X2:=ah (XV.out.trans X12.out);have N2:Hid (∀ b∈F2,b∈(Fs.take j).flatten∨w1.heap.size≤b):=ah (fun b hb=>by
            rcases FF2.out b hb with h | h | h
            · exact absurd h (by simp)
            · exact .inl h
            · exact .inr (Nat.le_trans ((Ext.refl w1).alloc _).size h))
           have q6:=(Q6.out.ext X2.out).cell;go_upto_region 12 with (first
            | (go_at_call 143;go_loud ((with_reducible refine (zn (S:=S) (nth y.tasks k) _ _ (eU lM.out (uQ.out.ext (X6.out.trans X2.out))) zW.out).mono ?_);rintro e w3 ⟨cs1,G1,rfl,⟨u1,rfl,f1,q1⟩,g1,hx1⟩;obtain ⟨p1,k1,rfl,-⟩:=q1.form;have Q1:=ah q1;have X3:=ah hx1;have Z1:=ah g1;clear f1 q1 g1 hx1;simp only [aB]))
            | (at_builtin;go_loud (refine bM (O:=iW) (T:=76) (l:=[] ++ l.take j) (F:=F2) (G:=G1) (y:=nth y.tasks k) (cs:=aB (nth y.tasks k) (.slice p1 (nth y.tasks k).nodes.length k1)) rfl _ _ 42 rfl (.agg Zr.t) 14 136 underlying42 (by kernel_rfl) rfl rfl rfl (OW2.out.ext (X3.out.alloc _)) _ 0 1 rfl ⟨_,rfl,lM.out,Q1.out.ext ((Ext.refl _).alloc _)⟩ (by have h:=(aF.new w3 76 (aB (nth y.tasks k) (.slice p1 (nth y.tasks k).nodes.length k1)).toArray).range;simpa [aB] using h) (fV OW2.out.nodup Q1.out.nodup (fun b h1 h2=>by have a:=OW2.out.lt b h1;have c:=Z1.out b h2;omega)) (by simp only [List.nil_append,List.length_take];have:=wu.out;omega) (by decide) ?_;intro v4 w4 F4 how hkp hF4;have OW4:=ah how;have K4:=ah hkp;have FF4:=ah hF4;clear how hkp hF4)))
           clear q6;have yj:=ah (X12.out.trans (X3.out.alloc (.cells (aB (nth y.tasks k) (.slice p1 (nth y.tasks k).nodes.length k1)).toArray 76)));have ND2:Hid (∀ b,(b=B'∨b∈(Fs.drop j).flatten)→b∉F2∧b < w1.heap.size):=ah (fun b hb=>by
            have hp:=FX.out.parts (n:=j);have hlt:b < w1.heap.size:=FX.out.ow.lt b (by rcases hb with rfl | h;exact List.mem_cons_self ..;exact List.mem_cons_of_mem _ (jo b h));refine ⟨fun hm=>?_,hlt⟩;rcases N2.out b hm with h | h
            · rcases hb with rfl | hb
              · exact hp.2.2.2.1 h
              · exact hp.2.2.1 b h hb
            · omega)
           have HD:Hid (∀ b,(b=B'∨b∈(Fs.drop j).flatten)→w4.heap[b]? = w1.heap[b]?):=ah (fun b hb=>by
            obtain ⟨h1,h2⟩:=ND2.out b hb;exact (K4.out.block b (Nat.lt_of_lt_of_le h2 yj.out.size) h1).trans (Below.block yj.out b h2))
           have N4:Hid (∀ b∈F4,b∈(Fs.take j).flatten∨w1.heap.size≤b):=ah (fun b hb=>by
            rcases FF4.out b hb with h | h | h
            · exact N2.out b h
            · exact .inr (Nat.le_trans X12.out.size (Z1.out b h))
            · exact .inr (Nat.le_trans yj.out.size h))
           have B2:Hid (∀ b∈F2,B < b):=ah (fun b hb=>by
            rcases N2.out b hb with h | h
            · exact HF2.out b (List.mem_cons_of_mem _ (fO b h))
            · have:=YV.out;omega)
           have B4:Hid (∀ b∈F4,B < b):=ah (fun b hb=>by
            rcases N4.out b hb with h | h
            · exact HF2.out b (List.mem_cons_of_mem _ (fO b h))
            · have:=YV.out;omega)
           have XW4:Hid (Ext w w4):=ah (Kept.ext (HX.out.trans (X6.out.trans (XV.out.trans yj.out))) K4.out (fun b hb=>by have:=B2.out b hb;have:=HB.out;omega));have Y4:Hid (aF w4 B 45 _):=ah ((K4.out.block B (Nat.lt_of_lt_of_le YV.out yj.out.size) (fun hm=>by have:=B2.out B hm;omega)).trans ((YB.out.ext XV.out).ext yj.out));go_wp2_with (at_builtin;go_loud (refine jB (O:=iW) (T:=76) (l:=[] ++ l.take j ++ [nth y.tasks k]) (ys:=l.drop j) (Gs:=Fs.drop j) (F:=F4) rfl _ _ 42 rfl (.agg Zr.t) 14 136 underlying42 (by kernel_rfl) rfl rfl rfl OW4.out B' (j * 14) (l.length - j) _ (by rw [List.length_drop]) rfl (by rw [List.length_drop,List.length_drop,FX.out.len]) (FX.out.abC (HD.out B' (.inl rfl)) (fun b hb=>HD.out b (.inr hb))) (fV OW4.out.nodup (FX.out.parts (n:=j)).2.1 (fun b h1 h2=>by rcases N4.out b h1 with h | h;exact (FX.out.parts (n:=j)).2.2.1 b h h2;have:=(ND2.out b (.inr h2)).2;omega)) (fun b hb=>Nat.lt_of_lt_of_le (ND2.out b (.inr hb)).2 (Nat.le_trans yj.out.size K4.out.size)) (by simp only [List.nil_append,List.length_append,List.length_take,List.length_drop,List.length_cons,List.length_nil];unfold maxLen;have:=wu.out;omega) (by simp only [List.nil_append,List.length_append,List.length_take,List.length_drop,List.length_cons,List.length_nil];have:=wu.out;omega) ?_;intro v5 w5 F5 how hkp hF5;have OW5:=ah how;have K5':=ah hkp;have FF5:=ah hF5;clear how hkp hF5));go_roundw;case rel =>
            obtain ⟨B3,Fs3,hFe,hrows⟩:=Tz OW5.out (by simp only [List.length_append,List.length_cons];omega);have e:[] ++ l.take j ++ [nth y.tasks k] ++ l.drop j=l.take j ++ nth y.tasks k :: l.drop j:=by simp
            refine ⟨k+1,B3,Fs3,by omega,by go_num,?_,fun b hb=>?_,?_,?_⟩
            · rw [HT.out,xW,HP.out,← e];exact hrows
            · rw [← hFe] at hb;rcases FF5.out b hb with h | h | h
              · exact B4.out b h
              · exact HF2.out b (List.mem_cons_of_mem _ (jo b h))
              · have:=Y4.out.lt;omega
            · exact (K5'.out.block B Y4.out.lt (fun hm=>by have:=B4.out B hm;omega)).trans Y4.out
            · exact Kept.ext XW4.out K5'.out (fun b hb=>by have:=B4.out b hb;have:=HB.out;omega)
           case measure=>simp [intOf];omega
       · have hje:j=l.length:=by omega
         have HP:Hid (qO (ng y) l (nth y.tasks k)=j):=ah (QE HJ.out (fun m hm=>U4 (Uu.out m (by have:=HJ.out;omega)) DY.out (HA.out m hm)) (.inl hje));have HJE:=ah hje;clear hje;go_wp2_with fail;refine ak (by kernel_rfl) (by kernel_rfl) ?_;repeat (
          (refine wpQuiet_step (fun K hK=>?_)
           go_simp;first
            | (refine hK _ ?_;clear hK K)
            | (apply Exists.intro
               refine ⟨fun bH aj=>?_,hK _ ?_⟩
               · first | exact rfl | (go_simp;done) | (go_simp;exact rfl) | (go_at_call 180;fail)
               clear hK K)))
         refine wpQuiet_nil ?_;intro w1 hx1;have XV:=ah (HXI.out.trans hx1);clear hx1 hxi;go_upto_region 10 with (fail)
         by_cases hco:co=j
         · have FX:Hid (jm iW 76 w1 (.slice (some ⟨B',0,none⟩) l.length co) l B' Fs):=ah (RW.out.ext XV.out);have YV:Hid (B < w1.heap.size):=ah (YB.out.ext XV.out).lt;have hj1:=HJ.out;go_upto_region 11 with (at_builtin;go_loud (refine jB (O:=iW) (T:=76) (l:=[]) (ys:=l.take j) (Gs:=Fs.take j) (F:=[]) rfl _ _ 42 rfl (.agg Zr.t) 14 136 underlying42 (by kernel_rfl) rfl rfl rfl (aW.nil _) B' 0 j _ (by rw [List.length_take];have:=HJ.out;omega) rfl (by rw [List.length_take,List.length_take,FX.out.len]) (FX.out.ext ((Ext.refl _).alloc _)).take (by simpa using (FX.out.parts (n:=j)).1) (fun b hb=>Nat.lt_of_lt_of_le (FX.out.ow.lt b (List.mem_cons_of_mem _ (fO b hb))) ((Ext.refl _).alloc _).size) (by rw [List.length_take];unfold maxLen;simp only [List.length_nil];have:=wu.out;omega) (by rw [List.length_take];simp only [List.length_nil];have:=wu.out;omega) ?_;intro v2 w2 F2 how hkp hF2;have OW2:=ah how;have K2:=ah hkp;have FF2:=ah hF2;clear how hkp hF2))
           have X12:Hid (Ext w1 w2):=ah (Kept.ext ((Ext.refl _).alloc _) K2.out (fun b hb=>absurd hb (by simp)));have X2:=ah (XV.out.trans X12.out);have N2:Hid (∀ b∈F2,b∈(Fs.take j).flatten∨w1.heap.size≤b):=ah (fun b hb=>by
            rcases FF2.out b hb with h | h | h
            · exact absurd h (by simp)
            · exact .inl h
            · exact .inr (Nat.le_trans ((Ext.refl w1).alloc _).size h))
           have q6:=(Q6.out.ext X2.out).cell;go_upto_region 12 with (first
            | (go_at_call 143;go_loud ((with_reducible refine (zn (S:=S) (nth y.tasks k) _ _ (eU lM.out (uQ.out.ext (X6.out.trans X2.out))) zW.out).mono ?_);rintro e w3 ⟨cs1,G1,rfl,⟨u1,rfl,f1,q1⟩,g1,hx1⟩;obtain ⟨p1,k1,rfl,-⟩:=q1.form;have Q1:=ah q1;have X3:=ah hx1;have Z1:=ah g1;clear f1 q1 g1 hx1;simp only [aB]))
            | (at_builtin;go_loud (refine bM (O:=iW) (T:=76) (l:=[] ++ l.take j) (F:=F2) (G:=G1) (y:=nth y.tasks k) (cs:=aB (nth y.tasks k) (.slice p1 (nth y.tasks k).nodes.length k1)) rfl _ _ 42 rfl (.agg Zr.t) 14 136 underlying42 (by kernel_rfl) rfl rfl rfl (OW2.out.ext (X3.out.alloc _)) _ 0 1 rfl ⟨_,rfl,lM.out,Q1.out.ext ((Ext.refl _).alloc _)⟩ (by have h:=(aF.new w3 76 (aB (nth y.tasks k) (.slice p1 (nth y.tasks k).nodes.length k1)).toArray).range;simpa [aB] using h) (fV OW2.out.nodup Q1.out.nodup (fun b h1 h2=>by have a:=OW2.out.lt b h1;have c:=Z1.out b h2;omega)) (by simp only [List.nil_append,List.length_take];have:=wu.out;omega) (by decide) ?_;intro v4 w4 F4 how hkp hF4;have OW4:=ah how;have K4:=ah hkp;have FF4:=ah hF4;clear how hkp hF4)))
           clear q6;have yj:=ah (X12.out.trans (X3.out.alloc (.cells (aB (nth y.tasks k) (.slice p1 (nth y.tasks k).nodes.length k1)).toArray 76)));have ND2:Hid (∀ b,(b=B'∨b∈(Fs.drop j).flatten)→b∉F2∧b < w1.heap.size):=ah (fun b hb=>by
            have hp:=FX.out.parts (n:=j);have hlt:b < w1.heap.size:=FX.out.ow.lt b (by rcases hb with rfl | h;exact List.mem_cons_self ..;exact List.mem_cons_of_mem _ (jo b h));refine ⟨fun hm=>?_,hlt⟩;rcases N2.out b hm with h | h
            · rcases hb with rfl | hb
              · exact hp.2.2.2.1 h
              · exact hp.2.2.1 b h hb
            · omega)
           have HD:Hid (∀ b,(b=B'∨b∈(Fs.drop j).flatten)→w4.heap[b]? = w1.heap[b]?):=ah (fun b hb=>by
            obtain ⟨h1,h2⟩:=ND2.out b hb;exact (K4.out.block b (Nat.lt_of_lt_of_le h2 yj.out.size) h1).trans (Below.block yj.out b h2))
           have N4:Hid (∀ b∈F4,b∈(Fs.take j).flatten∨w1.heap.size≤b):=ah (fun b hb=>by
            rcases FF4.out b hb with h | h | h
            · exact N2.out b h
            · exact .inr (Nat.le_trans X12.out.size (Z1.out b h))
            · exact .inr (Nat.le_trans yj.out.size h))
           have B2:Hid (∀ b∈F2,B < b):=ah (fun b hb=>by
            rcases N2.out b hb with h | h
            · exact HF2.out b (List.mem_cons_of_mem _ (fO b h))
            · have:=YV.out;omega)
           have B4:Hid (∀ b∈F4,B < b):=ah (fun b hb=>by
            rcases N4.out b hb with h | h
            · exact HF2.out b (List.mem_cons_of_mem _ (fO b h))
            · have:=YV.out;omega)
           have XW4:Hid (Ext w w4):=ah (Kept.ext (HX.out.trans (X6.out.trans (XV.out.trans yj.out))) K4.out (fun b hb=>by have:=B2.out b hb;have:=HB.out;omega));have Y4:Hid (aF w4 B 45 _):=ah ((K4.out.block B (Nat.lt_of_lt_of_le YV.out yj.out.size) (fun hm=>by have:=B2.out B hm;omega)).trans ((YB.out.ext XV.out).ext yj.out));go_wp2_with (at_builtin;go_loud (refine jB (O:=iW) (T:=76) (l:=[] ++ l.take j ++ [nth y.tasks k]) (ys:=l.drop j) (Gs:=Fs.drop j) (F:=F4) rfl _ _ 42 rfl (.agg Zr.t) 14 136 underlying42 (by kernel_rfl) rfl rfl rfl OW4.out B' 0 (l.length - j) _ (by rw [List.length_drop]) rfl (by rw [List.length_drop,List.length_drop,FX.out.len]) (fun k hk=>absurd hk (by rw [List.length_drop];have:=HJE.out;omega)) (fV OW4.out.nodup (FX.out.parts (n:=j)).2.1 (fun b h1 h2=>by rcases N4.out b h1 with h | h;exact (FX.out.parts (n:=j)).2.2.1 b h h2;have:=(ND2.out b (.inr h2)).2;omega)) (fun b hb=>Nat.lt_of_lt_of_le (ND2.out b (.inr hb)).2 (Nat.le_trans yj.out.size K4.out.size)) (by simp only [List.nil_append,List.length_append,List.length_take,List.length_drop,List.length_cons,List.length_nil];unfold maxLen;have:=wu.out;omega) (by simp only [List.nil_append,List.length_append,List.length_take,List.length_drop,List.length_cons,List.length_nil];have:=wu.out;omega) ?_;intro v5 w5 F5 how hkp hF5;have OW5:=ah how;have K5':=ah hkp;have FF5:=ah hF5;clear how hkp hF5));go_roundw;case rel =>
            obtain ⟨B3,Fs3,hFe,hrows⟩:=Tz OW5.out (by simp only [List.length_append,List.length_cons];omega);have e:[] ++ l.take j ++ [nth y.tasks k] ++ l.drop j=l.take j ++ nth y.tasks k :: l.drop j:=by simp
            refine ⟨k+1,B3,Fs3,by omega,by go_num,?_,fun b hb=>?_,?_,?_⟩
            · rw [HT.out,xW,HP.out,← e];exact hrows
            · rw [← hFe] at hb;rcases FF5.out b hb with h | h | h
              · exact B4.out b h
              · exact HF2.out b (List.mem_cons_of_mem _ (jo b h))
              · have:=Y4.out.lt;omega
            · exact (K5'.out.block B Y4.out.lt (fun hm=>by have:=B4.out B hm;omega)).trans Y4.out
            · exact Kept.ext XW4.out K5'.out (fun b hb=>by have:=B4.out b hb;have:=HB.out;omega)
           case measure=>simp [intOf];omega
         · have FX:Hid (jm iW 76 w1 (.slice (some ⟨B',0,none⟩) l.length co) l B' Fs):=ah (RW.out.ext XV.out);have YV:Hid (B < w1.heap.size):=ah (YB.out.ext XV.out).lt;have hj1:=HJ.out;go_upto_region 11 with (at_builtin;go_loud (refine jB (O:=iW) (T:=76) (l:=[]) (ys:=l.take j) (Gs:=Fs.take j) (F:=[]) rfl _ _ 42 rfl (.agg Zr.t) 14 136 underlying42 (by kernel_rfl) rfl rfl rfl (aW.nil _) B' 0 j _ (by rw [List.length_take];have:=HJ.out;omega) rfl (by rw [List.length_take,List.length_take,FX.out.len]) (FX.out.ext ((Ext.refl _).alloc _)).take (by simpa using (FX.out.parts (n:=j)).1) (fun b hb=>Nat.lt_of_lt_of_le (FX.out.ow.lt b (List.mem_cons_of_mem _ (fO b hb))) ((Ext.refl _).alloc _).size) (by rw [List.length_take];unfold maxLen;simp only [List.length_nil];have:=wu.out;omega) (by rw [List.length_take];simp only [List.length_nil];have:=wu.out;omega) ?_;intro v2 w2 F2 how hkp hF2;have OW2:=ah how;have K2:=ah hkp;have FF2:=ah hF2;clear how hkp hF2))
           have X12:Hid (Ext w1 w2):=ah (Kept.ext ((Ext.refl _).alloc _) K2.out (fun b hb=>absurd hb (by simp)));have X2:=ah (XV.out.trans X12.out);have N2:Hid (∀ b∈F2,b∈(Fs.take j).flatten∨w1.heap.size≤b):=ah (fun b hb=>by
            rcases FF2.out b hb with h | h | h
            · exact absurd h (by simp)
            · exact .inl h
            · exact .inr (Nat.le_trans ((Ext.refl w1).alloc _).size h))
           have q6:=(Q6.out.ext X2.out).cell;go_upto_region 12 with (first
            | (go_at_call 143;go_loud ((with_reducible refine (zn (S:=S) (nth y.tasks k) _ _ (eU lM.out (uQ.out.ext (X6.out.trans X2.out))) zW.out).mono ?_);rintro e w3 ⟨cs1,G1,rfl,⟨u1,rfl,f1,q1⟩,g1,hx1⟩;obtain ⟨p1,k1,rfl,-⟩:=q1.form;have Q1:=ah q1;have X3:=ah hx1;have Z1:=ah g1;clear f1 q1 g1 hx1;simp only [aB]))
            | (at_builtin;go_loud (refine bM (O:=iW) (T:=76) (l:=[] ++ l.take j) (F:=F2) (G:=G1) (y:=nth y.tasks k) (cs:=aB (nth y.tasks k) (.slice p1 (nth y.tasks k).nodes.length k1)) rfl _ _ 42 rfl (.agg Zr.t) 14 136 underlying42 (by kernel_rfl) rfl rfl rfl (OW2.out.ext (X3.out.alloc _)) _ 0 1 rfl ⟨_,rfl,lM.out,Q1.out.ext ((Ext.refl _).alloc _)⟩ (by have h:=(aF.new w3 76 (aB (nth y.tasks k) (.slice p1 (nth y.tasks k).nodes.length k1)).toArray).range;simpa [aB] using h) (fV OW2.out.nodup Q1.out.nodup (fun b h1 h2=>by have a:=OW2.out.lt b h1;have c:=Z1.out b h2;omega)) (by simp only [List.nil_append,List.length_take];have:=wu.out;omega) (by decide) ?_;intro v4 w4 F4 how hkp hF4;have OW4:=ah how;have K4:=ah hkp;have FF4:=ah hF4;clear how hkp hF4)))
           clear q6;have yj:=ah (X12.out.trans (X3.out.alloc (.cells (aB (nth y.tasks k) (.slice p1 (nth y.tasks k).nodes.length k1)).toArray 76)));have ND2:Hid (∀ b,(b=B'∨b∈(Fs.drop j).flatten)→b∉F2∧b < w1.heap.size):=ah (fun b hb=>by
            have hp:=FX.out.parts (n:=j);have hlt:b < w1.heap.size:=FX.out.ow.lt b (by rcases hb with rfl | h;exact List.mem_cons_self ..;exact List.mem_cons_of_mem _ (jo b h));refine ⟨fun hm=>?_,hlt⟩;rcases N2.out b hm with h | h
            · rcases hb with rfl | hb
              · exact hp.2.2.2.1 h
              · exact hp.2.2.1 b h hb
            · omega)
           have HD:Hid (∀ b,(b=B'∨b∈(Fs.drop j).flatten)→w4.heap[b]? = w1.heap[b]?):=ah (fun b hb=>by
            obtain ⟨h1,h2⟩:=ND2.out b hb;exact (K4.out.block b (Nat.lt_of_lt_of_le h2 yj.out.size) h1).trans (Below.block yj.out b h2))
           have N4:Hid (∀ b∈F4,b∈(Fs.take j).flatten∨w1.heap.size≤b):=ah (fun b hb=>by
            rcases FF4.out b hb with h | h | h
            · exact N2.out b h
            · exact .inr (Nat.le_trans X12.out.size (Z1.out b h))
            · exact .inr (Nat.le_trans yj.out.size h))
           have B2:Hid (∀ b∈F2,B < b):=ah (fun b hb=>by
            rcases N2.out b hb with h | h
            · exact HF2.out b (List.mem_cons_of_mem _ (fO b h))
            · have:=YV.out;omega)
           have B4:Hid (∀ b∈F4,B < b):=ah (fun b hb=>by
            rcases N4.out b hb with h | h
            · exact HF2.out b (List.mem_cons_of_mem _ (fO b h))
            · have:=YV.out;omega)
           have XW4:Hid (Ext w w4):=ah (Kept.ext (HX.out.trans (X6.out.trans (XV.out.trans yj.out))) K4.out (fun b hb=>by have:=B2.out b hb;have:=HB.out;omega));have Y4:Hid (aF w4 B 45 _):=ah ((K4.out.block B (Nat.lt_of_lt_of_le YV.out yj.out.size) (fun hm=>by have:=B2.out B hm;omega)).trans ((YB.out.ext XV.out).ext yj.out));go_wp2_with (at_builtin;go_loud (refine jB (O:=iW) (T:=76) (l:=[] ++ l.take j ++ [nth y.tasks k]) (ys:=l.drop j) (Gs:=Fs.drop j) (F:=F4) rfl _ _ 42 rfl (.agg Zr.t) 14 136 underlying42 (by kernel_rfl) rfl rfl rfl OW4.out B' (j * 14) (l.length - j) _ (by rw [List.length_drop]) rfl (by rw [List.length_drop,List.length_drop,FX.out.len]) (fun k hk=>absurd hk (by rw [List.length_drop];have:=HJE.out;omega)) (fV OW4.out.nodup (FX.out.parts (n:=j)).2.1 (fun b h1 h2=>by rcases N4.out b h1 with h | h;exact (FX.out.parts (n:=j)).2.2.1 b h h2;have:=(ND2.out b (.inr h2)).2;omega)) (fun b hb=>Nat.lt_of_lt_of_le (ND2.out b (.inr hb)).2 (Nat.le_trans yj.out.size K4.out.size)) (by simp only [List.nil_append,List.length_append,List.length_take,List.length_drop,List.length_cons,List.length_nil];unfold maxLen;have:=wu.out;omega) (by simp only [List.nil_append,List.length_append,List.length_take,List.length_drop,List.length_cons,List.length_nil];have:=wu.out;omega) ?_;intro v5 w5 F5 how hkp hF5;have OW5:=ah how;have K5':=ah hkp;have FF5:=ah hF5;clear how hkp hF5));go_roundw;case rel =>
            obtain ⟨B3,Fs3,hFe,hrows⟩:=Tz OW5.out (by simp only [List.length_append,List.length_cons];omega);have e:[] ++ l.take j ++ [nth y.tasks k] ++ l.drop j=l.take j ++ nth y.tasks k :: l.drop j:=by simp
            refine ⟨k+1,B3,Fs3,by omega,by go_num,?_,fun b hb=>?_,?_,?_⟩
            · rw [HT.out,xW,HP.out,← e];exact hrows
            · rw [← hFe] at hb;rcases FF5.out b hb with h | h | h
              · exact B4.out b h
              · exact HF2.out b (List.mem_cons_of_mem _ (jo b h))
              · have:=Y4.out.lt;omega
            · exact (K5'.out.block B Y4.out.lt (fun hm=>by have:=B4.out B hm;omega)).trans Y4.out
            · exact Kept.ext XW4.out K5'.out (fun b hb=>by have:=B4.out b hb;have:=HB.out;omega)
           case measure=>simp [intOf];omega
  · obtain rfl:k=y.tasks.length:=by omega
    rw [List.take_length] at HL;have qa:=PX.out.cell;go_wp2_with fail;go_ret;exact ⟨_,_,rfl,by rw [jQ,HL.out];exact agG.out.ow,fun b hb=>by have:=HF2.out b hb;have:=HB.out;omega,HX.out⟩
end Go.Proofs.YtbdicafambkhdaaGreat

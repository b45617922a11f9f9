/- Rows of places and of tasks at the reference's planner: appends, and the state of its walk. Printed by wip/slabel.py. -/
import Derived.Test.YtbdicafambkhdaaGreatSPlanB
import Derived.Test.YtbdicafambkhdaaGreatNavK
import Derived.Deep.RegionHeld3
namespace Go.Proofs.YtbdicafambkhdaaGreat
open Go.Proofs.Tryz
open Go.RowKit
attribute [local irreducible] wpQuiet
def kD (S:Nat→Prop) (n0:Nat) (w:World) (v:Value) (l:List Task) (F:List Nat):Prop :=
 ∃ m:List TV,m.map TV.x=l∧aW sK 76 w v m F∧Rw S w m∧∀ b∈F,n0≤b
section
variable {S:Nat→Prop} {n0:Nat} {w w':World} {v:Value} {l:List Task} {ps:List Place} {F:List Nat}
theorem kD.nil {B:Nat} (hb:aF w B 76 #[]) (h:n0≤B):kD S n0 w (.slice (some ⟨B,0,none⟩) 0 0) [] [B] :=
 ⟨[],rfl,.inr ⟨B,0,#[],[],rfl,hb,Nat.le_refl _,Nat.zero_le _,rfl,rfl,rfl,by simp,fun k hk=>absurd hk (Nat.not_lt_zero _)⟩,fun e he=>absurd he (by simp),fun b hb=>by rw [List.mem_singleton.1 hb];exact h⟩
theorem kD.one {B:Nat} {t:Task} {A:Option Addr} {n c:Nat} (hb:aF w B 76 (aB t (.slice A n c)).toArray) (hf:eH t) (hn:Rd fC S w (.slice A n c) t.nodes) (h:n0≤B):kD S n0 w (.slice (some ⟨B,0,none⟩) 1 1) [t] [B] :=
 ⟨[⟨t,A,n,c⟩],rfl,.inr ⟨B,1,_,[[]],rfl,hb,Nat.le_refl _,by decide,rfl,rfl,rfl,by simp,fun k hk=>by
   obtain rfl:k=0:=by simpa using hk
   exact ⟨_,⟨⟨rfl,hf⟩,rfl⟩,by have h:=hb.range;rw [Nat.zero_mul];exact h⟩⟩,fun e he=>by rw [List.mem_singleton.1 he];exact hn,fun b hb=>by rw [List.mem_singleton.1 hb];exact h⟩
theorem kD.form (h:kD S n0 w v l F):∃ A c,v=.slice A l.length c:=by
 obtain ⟨m,hm,ho,ht,hf⟩:=h;obtain ⟨A,c,rfl,_⟩:=ho.form;exact ⟨A,c,by rw [← hm,List.length_map]⟩
theorem kD.ext (h:kD S n0 w v l F) (hx:Ext w w'):kD S n0 w' v l F:=by
 obtain ⟨m,hm,ho,ht,hf⟩:=h;exact ⟨m,hm,ho.ext hx,ht.keep (hx.same _),hf⟩
theorem kD.rd (h:kD S n0 w v l F):Rd ETask (fun _=>True) w v l:=by
 obtain ⟨m,hm,ho,ht,hf⟩:=h;exact hm ▸ Nu (ho.rd.sub fun _ _=>trivial) fun e he=>(ht e he).sub fun _ _=>trivial
theorem kD.tag (h:kD S n0 w v l F):∀ b∈F,∃ C,aF w b 76 C:=by
 obtain ⟨m,hm,ho,ht,hf⟩:=h;exact ho.tag
theorem kD.lt (h:kD S n0 w v l F):∀ b∈F,b < w.heap.size:=by
 obtain ⟨m,hm,ho,ht,hf⟩:=h;exact ho.lt
theorem kD.ge (h:kD S n0 w v l F):∀ b∈F,n0≤b:=by
 obtain ⟨m,hm,ho,ht,hf⟩:=h;exact hf
theorem dY.tag (h:dY n0 w v ps F):∀ b∈F,∃ C,aF w b 78 C:=by
 obtain ⟨m,hm,ho,ht,hf⟩:=h;exact ho.tag
theorem dY.lt (h:dY n0 w v ps F):∀ b∈F,b < w.heap.size:=by
 obtain ⟨m,hm,ho,ht,hf⟩:=h;exact ho.lt
theorem dY.ge (h:dY n0 w v ps F):∀ b∈F,n0≤b:=by
 obtain ⟨m,hm,ho,ht,hf⟩:=h;exact hf
theorem kD.kept {G:List Nat} (h:kD S n0 w v l F) (hS:∀ b,S b→b∉G) (hk:Kept G w w') (hd:∀ b∈F,b∉G):kD S n0 w' v l F:=by
 obtain ⟨m,hm,ho,ht,hf⟩:=h;exact ⟨m,hm,ho.kept hk hd,ht.keep (hk.same hS),hf⟩
theorem dY.kept {G:List Nat} (h:dY n0 w v ps F) (hk:Kept G w w') (hG:∀ b∈G,∃ C T,aF w b T C∧T≠2) (hd:∀ b∈F,b∉G):dY n0 w' v ps F:=by
 obtain ⟨m,hm,ho,ht,hf⟩:=h;refine ⟨m,hm,ho.kept hk hd,fun e he=>(ht e he).kept hk fun b hb hg=>?_,hf⟩;obtain ⟨C,T,hc,hT⟩:=hG b hg;exact (ht e he).apart hc hT hb
theorem lH {T T':TypeId} {F G:List Nat} (hF:∀ b∈F,∃ C,aF w b T C) (hG:∀ b∈G,∃ C,aF w b T' C) (hT:T≠T'):∀ b∈F,b∉G:=fun b hb hg=>by
 obtain ⟨C,hc⟩:=hF b hb;obtain ⟨C',hc'⟩:=hG b hg;exact hT (uN hc hc')
theorem dY.app {m mp:List PV} {qs:List Place} {F':List Nat} {w9:World} {v':Value} (hm:m.map PV.x=ps) (hmp:mp.map PV.x=qs) (ho:aW DZ 78 w v m F) (hn:∀ e∈m,aW jD 2 w e.v e.x.nodes e.F) (hnp:∀ e∈mp,aW jD 2 w e.v e.x.nodes e.F) (hf:∀ b∈F,n0≤b) (h0:n0≤w.heap.size)
 (ha:aW DZ 78 w9 v' (m ++ mp) F') (hk:Kept F w w9) (hF':∀ b∈F',b∈F∨w.heap.size≤b):dY n0 w9 v' (ps ++ qs) F':=by
 refine ⟨m ++ mp,by rw [List.map_append,hm,hmp],ha,fun e he=>?_,fun b hb=>(hF' b hb).elim (hf b) (Nat.le_trans h0)⟩;have h1:aW jD 2 w e.v e.x.nodes e.F:=(List.mem_append.1 he).elim (hn e) (hnp e);refine h1.kept hk fun b hb hg=>?_;obtain ⟨C,hc⟩:=ho.tag b hg;exact h1.apart hc (by decide) hb
theorem kD.app {m mp:List TV} {qs:List Task} {F':List Nat} {w9:World} {v':Value} (hm:m.map TV.x=l) (hmp:mp.map TV.x=qs) (ht:Rw S w m) (htp:Rw S w mp) (hf:∀ b∈F,n0≤b) (h0:n0≤w.heap.size) (hS:∀ b,S b→b∉F)
 (ha:aW sK 76 w9 v' (m ++ mp) F') (hk:Kept F w w9) (hF':∀ b∈F',b∈F∨w.heap.size≤b):kD S n0 w9 v' (l ++ qs) F' :=
 ⟨m ++ mp,by rw [List.map_append,hm,hmp],ha,fun e he=>((List.mem_append.1 he).elim (ht e) (htp e)).keep (hk.same hS),fun b hb=>(hF' b hb).elim (hf b) (Nat.le_trans h0)⟩
end
def RdP (w:World) (u:Value) (qs:List Place):Prop:=∃ (mp:List PV) (S':Nat→Prop),mp.map PV.x=qs∧Rd FB S' w u mp∧∀ e∈mp,aW jD 2 w e.v e.x.nodes e.F
theorem dY.rdp {n0:Nat} {w:World} {v:Value} {ps:List Place} {F:List Nat} (h:dY n0 w v ps F):RdP w v ps:=by
 obtain ⟨m,hm,ho,hn,hf⟩:=h;exact ⟨m,_,hm,ho.rd,hn⟩
theorem RdP.ext {w w':World} {u:Value} {qs:List Place} (h:RdP w u qs) (hx:Ext w w'):RdP w' u qs:=by
 obtain ⟨m,S',hm,ho,hn⟩:=h;exact ⟨m,S',hm,ho.ext hx,fun e he=>(hn e he).ext hx⟩
theorem RdP.nil {w:World} {A:Option Addr} {c:Nat} (hc:c≤maxLen):RdP w (.slice A 0 c) []:=⟨[],fun _=>True,rfl,Rd.nil hc,by simp⟩
theorem dY.tail {n0:Nat} {w:World} {B n c k:Nat} {ps:List Place} {F:List Nat} (h:dY n0 w (.slice (some ⟨B,0,none⟩) n c) ps F) (hk:k≤ps.length):RdP w (.slice (some ⟨B,k * 7,none⟩) (ps.length - k) (c - k)) (ps.drop k):=by
 obtain ⟨m,hm,ho,hn,hf⟩:=h;have e1:m.length=ps.length:=by rw [← hm,List.length_map]
 obtain ⟨A,c',hv,h1,h2,hr⟩:=ho.rd;injection hv with e2 e3 e4
 subst e4;refine ⟨m.drop k,fun b=>b∈F,by rw [List.map_drop,hm],⟨_,_,by rw [List.length_drop,e1],by rw [List.length_drop];omega,by unfold maxLen at *;omega,fun j x hx=>?_⟩,fun e he=>hn e (List.mem_of_mem_drop he)⟩;rw [List.getElem?_drop] at hx;obtain ⟨b,o,cs,hA,hs,hrel,hc⟩:=hr _ _ hx;rw [← e2] at hA;cases hA;refine ⟨B,k * 7,cs,rfl,hs,hrel,?_⟩;have e:0+(k+j) * FB.size=k * 7+j * FB.size:=by simp [FB];omega
 rwa [e] at hc
section
variable {ops:Array Oper} {rest:List Oper} {o:Oper} {a:Act} {S:Nat→Prop} {n0 n1:Nat} {w:World} {v u:Value} {F G:List Nat}
theorem jX {Q:Exit→Act→World→Prop} {ps qs:List Place} (hgd:o.guard=none) (s x:Operand) (ho:o.op=.call { callee:=.builtin .append,args:=#[s,x],argTypes:=#[51,51] }) (hs:a.eval s=v) (hv:dY n0 w v ps F) (hx:a.eval x=u) (hu:RdP w u qs) (few:ps.length+qs.length≤1000000) (h0:n0≤w.heap.size)
 (h:∀ v' w' F',dY n0 w' v' (ps ++ qs) F'→Kept F w w'→(∀ b∈F',b∈F∨w.heap.size≤b)→wpList prog ops Q rest (a.put o.dst v') w'):wpList prog ops Q (o :: rest) a w:=by
 obtain ⟨m,hm,hov,hn,hf⟩:=hv;obtain ⟨mp,S',hmp,hop,hnp⟩:=hu;have e1:m.length=ps.length:=by rw [← hm,List.length_map]
 have e2:mp.length=qs.length:=by rw [← hmp,List.length_map]
 refine gK (E:=FB) (T:=78) (hfl:=fun h=>h) (l:=m) (ys:=mp) (F:=F) (S:=S') hgd s x 51 ho (.agg #[.int .i64 0,.int .i64 0,.int .i64 0,.int .i64 0,.int .i64 0,.bool false,.slice none 0 0]) 7 72 underlying51 (by kernel_rfl) rfl rfl hs hov hx hop (by unfold maxLen;omega) (by omega) ?_;intro v' w' F' how hkp hF';exact h v' w' F' (dY.app hm hmp hov hn hnp hf h0 how hkp hF') hkp hF'
theorem NT {K:Act→World→Prop} {Q:Exit→Act→World→Prop} {X:Prop} {ps qs:List Place} (hgd:o.guard=none) (s x:Operand) (ho:o.op=.call { callee:=.builtin .append,args:=#[s,x],argTypes:=#[51,51] }) (hs:a.eval s=v) (hv:dY n0 w v ps F) (hx:a.eval x=u) (hu:RdP w u qs) (few:ps.length+qs.length≤1000000) (h0:n0≤w.heap.size)
 (h:∀ v' w' F',dY n0 w' v' (ps ++ qs) F'→Kept F w w'→(∀ b∈F',b∈F∨w.heap.size≤b)→K (a.put o.dst v') w'):if Region.wanted o (yielded ops a.tmps)=true then Oper.wp prog o a w K Q else X:=by
 obtain ⟨m,hm,hov,hn,hf⟩:=hv;obtain ⟨mp,S',hmp,hop,hnp⟩:=hu;have e1:m.length=ps.length:=by rw [← hm,List.length_map]
 have e2:mp.length=qs.length:=by rw [← hmp,List.length_map]
 refine qP (E:=FB) (T:=78) (hfl:=fun h=>h) (l:=m) (ys:=mp) (F:=F) (S:=S') hgd s x 51 ho (.agg #[.int .i64 0,.int .i64 0,.int .i64 0,.int .i64 0,.int .i64 0,.bool false,.slice none 0 0]) 7 72 underlying51 (by kernel_rfl) rfl rfl hs hov hx hop (by unfold maxLen;omega) (by omega) ?_;intro v' w' F' how hkp hF';exact h v' w' F' (dY.app hm hmp hov hn hnp hf h0 how hkp hF') hkp hF'
theorem tJ {Q:Exit→Act→World→Prop} {l qs:List Task} (hgd:o.guard=none) (s x:Operand) (ho:o.op=.call { callee:=.builtin .append,args:=#[s,x],argTypes:=#[42,42] }) (hs:a.eval s=v) (hv:kD S n0 w v l F) (hx:a.eval x=u) (hu:kD S n1 w u qs G) (few:l.length+qs.length≤1000000) (h0:n0≤w.heap.size) (hS:∀ b,S b→b∉F)
 (h:∀ v' w' F',kD S n0 w' v' (l ++ qs) F'→Kept F w w'→(∀ b∈F',b∈F∨w.heap.size≤b)→wpList prog ops Q rest (a.put o.dst v') w'):wpList prog ops Q (o :: rest) a w:=by
 obtain ⟨m,hm,hov,hn,hf⟩:=hv;obtain ⟨mp,hmp,hop,hnp,hfp⟩:=hu;have e1:m.length=l.length:=by rw [← hm,List.length_map]
 have e2:mp.length=qs.length:=by rw [← hmp,List.length_map]
 refine gK (E:=FC) (T:=76) (hfl:=fun h=>h) (l:=m) (ys:=mp) (F:=F) (S:=fun b=>b∈G) hgd s x 42 ho (.agg Zr.t) 14 136 underlying42 (by kernel_rfl) rfl rfl hs hov hx hop.rd (by unfold maxLen;omega) (by omega) ?_;intro v' w' F' how hkp hF';exact h v' w' F' (kD.app hm hmp hn hnp hf h0 hS how hkp hF') hkp hF'
end
structure yD (S:Nat→Prop) (w:World) (n0 B:Nat) (F0:List Nat) (yc:Array Value) (w':World) (g vl vk vw vh:Value) (ps:List Place) (ll lk lw:List Task) (hs:List Place) (F Fl Fk Fw Fh:List Nat):Prop where
 rg:dY n0 w' g ps F
 rl:kD S w.heap.size w' vl ll Fl
 rk:kD S w.heap.size w' vk lk Fk
 r3:kD S w.heap.size w' vw lw Fw
 rh:dY w.heap.size w' vh hs Fh
 yd:aF w' B 45 yc
 inF:∀ b∈F,b∈F0∨w.heap.size≤b
 kp:Kept F0 w w'
 dlk:∀ b∈Fl,b∉Fk
 dlw:∀ b∈Fl,b∉Fw
 dkw:∀ b∈Fk,b∉Fw
 dgh:∀ b∈F,b∉Fh
section
variable {S:Nat→Prop} {w:World} {n0 B:Nat} {F0:List Nat} {yc:Array Value} {w' w6 w9:World} {g vl vk vw vh v9:Value} {ps qs hs:List Place} {ll lk lw tq:List Task} {F Fl Fk Fw Fh F9:List Nat}
theorem yD.ext (h:yD S w n0 B F0 yc w' g vl vk vw vh ps ll lk lw hs F Fl Fk Fw Fh) (hx:Ext w' w6):yD S w n0 B F0 yc w6 g vl vk vw vh ps ll lk lw hs F Fl Fk Fw Fh :=
 ⟨h.rg.ext hx,h.rl.ext hx,h.rk.ext hx,h.r3.ext hx,h.rh.ext hx,h.yd.ext hx,h.inF,h.kp.trans (Kept.dw hx),h.dlk,h.dlw,h.dkw,h.dgh⟩
theorem yD.size (h:yD S w n0 B F0 yc w' g vl vk vw vh ps ll lk lw hs F Fl Fk Fw Fh):w.heap.size≤w'.heap.size:=h.kp.size
theorem yD.same (h:yD S w n0 B F0 yc w' g vl vk vw vh ps ll lk lw hs F Fl Fk Fw Fh) (hS:∀ b,S b→b < w.heap.size∧b∉F0):Same S w w':=h.kp.same fun b hb=>(hS b hb).2
theorem yD.sg (h:yD S w n0 B F0 yc w' g vl vk vw vh ps ll lk lw hs F Fl Fk Fw Fh) (hS:∀ b,S b→b < w.heap.size∧b∉F0):∀ b,S b→b∉F:=fun b hb hm=>(h.inF b hm).elim (hS b hb).2 fun h1=>by have:=(hS b hb).1;omega
theorem Jl {G:List Nat} (hS:∀ b,S b→b < w.heap.size∧b∉F0) (hG:∀ b∈G,w.heap.size≤b):∀ b,S b→b∉G:=fun b hb hm=>by have:=(hS b hb).1;have:=hG b hm;omega
theorem tH {G:List Nat} {T:TypeId} (hT:T≠2) (h:∀ b∈G,∃ C,aF w b T C):∀ b∈G,∃ C T,aF w b T C∧T≠2:=fun b hb=>by
 obtain ⟨C,hc⟩:=h b hb;exact ⟨C,T,hc,hT⟩
theorem yH {G:List Nat} {T:TypeId} (hT:T≠45) (h:∀ b∈G,∃ C,aF w b T C) (hk:Kept G w w') (hb:aF w B 45 yc):aF w' B 45 yc :=
 (hk.block B hb.lt fun hm=>by
   obtain ⟨C,hc⟩:=h B hm;exact hT (uN hc hb)).trans hb
theorem pO {G H:List Nat} (hd:∀ b∈G,b∉H) (J6:∀ b∈F9,b∈G∨w.heap.size≤b) (hH:∀ b∈H,b < w.heap.size):∀ b∈F9,b∉H:=fun b hb hm=>(J6 b hb).elim (fun h=>hd b h hm) fun h=>by have:=hH b hm;omega
theorem yD.aoM (h:yD S w n0 B F0 yc w6 g vl vk vw vh ps ll lk lw hs F Fl Fk Fw Fh) (hS:∀ b,S b→b < w.heap.size∧b∉F0) (hr:kD S w.heap.size w9 v9 (ll ++ tq) F9) (hk:Kept Fl w6 w9) (J6:∀ b∈F9,b∈Fl∨w6.heap.size≤b):yD S w n0 B F0 yc w9 g v9 vk vw vh ps (ll ++ tq) lk lw hs F F9 Fk Fw Fh:=by
 have ht:=h.rl.tag;have hs:=Jl hS h.rl.ge;exact ⟨h.rg.kept hk (tH (by decide) ht) (lH h.rg.tag ht (by decide)),hr,h.rk.kept hs hk fun b hb hm=>h.dlk b hm hb,h.r3.kept hs hk fun b hb hm=>h.dlw b hm hb,h.rh.kept hk (tH (by decide) ht) (lH h.rh.tag ht (by decide)),yH (by decide) ht hk h.yd,h.inF,h.kp.step hk fun b hb=>.inr (h.rl.ge b hb),pO h.dlk J6 h.rk.lt,pO h.dlw J6 h.r3.lt,h.dkw,h.dgh⟩
theorem yD.aoL (h:yD S w n0 B F0 yc w6 g vl vk vw vh ps ll lk lw hs F Fl Fk Fw Fh) (hS:∀ b,S b→b < w.heap.size∧b∉F0) (hr:kD S w.heap.size w9 v9 (lk ++ tq) F9) (hk:Kept Fk w6 w9) (J6:∀ b∈F9,b∈Fk∨w6.heap.size≤b):yD S w n0 B F0 yc w9 g vl v9 vw vh ps ll (lk ++ tq) lw hs F Fl F9 Fw Fh:=by
 have ht:=h.rk.tag;have hs:=Jl hS h.rk.ge;exact ⟨h.rg.kept hk (tH (by decide) ht) (lH h.rg.tag ht (by decide)),h.rl.kept hs hk h.dlk,hr,h.r3.kept hs hk fun b hb hm=>h.dkw b hm hb,h.rh.kept hk (tH (by decide) ht) (lH h.rh.tag ht (by decide)),yH (by decide) ht hk h.yd,h.inF,h.kp.step hk fun b hb=>.inr (h.rk.ge b hb),fun b hb hm=>pO (fun b hb hm=>h.dlk b hm hb) J6 h.rl.lt b hm hb,h.dlw,pO h.dkw J6 h.r3.lt,h.dgh⟩
theorem yD.aoN (h:yD S w n0 B F0 yc w6 g vl vk vw vh ps ll lk lw hs F Fl Fk Fw Fh) (hS:∀ b,S b→b < w.heap.size∧b∉F0) (hr:kD S w.heap.size w9 v9 (lw ++ tq) F9) (hk:Kept Fw w6 w9) (J6:∀ b∈F9,b∈Fw∨w6.heap.size≤b):yD S w n0 B F0 yc w9 g vl vk v9 vh ps ll lk (lw ++ tq) hs F Fl Fk F9 Fh:=by
 have ht:=h.r3.tag;have hs:=Jl hS h.r3.ge;exact ⟨h.rg.kept hk (tH (by decide) ht) (lH h.rg.tag ht (by decide)),h.rl.kept hs hk h.dlw,h.rk.kept hs hk h.dkw,hr,h.rh.kept hk (tH (by decide) ht) (lH h.rh.tag ht (by decide)),yH (by decide) ht hk h.yd,h.inF,h.kp.step hk fun b hb=>.inr (h.r3.ge b hb),h.dlk,fun b hb hm=>pO (fun b hb hm=>h.dlw b hm hb) J6 h.rl.lt b hm hb,fun b hb hm=>pO (fun b hb hm=>h.dkw b hm hb) J6 h.rk.lt b hm hb,h.dgh⟩
theorem yD.adr (h:yD S w n0 B F0 yc w6 g vl vk vw vh ps ll lk lw hs F Fl Fk Fw Fh) (hS:∀ b,S b→b < w.heap.size∧b∉F0) (hr:dY n0 w9 v9 (ps ++ qs) F9) (hk:Kept F w6 w9) (J6:∀ b∈F9,b∈F∨w6.heap.size≤b):yD S w n0 B F0 yc w9 v9 vl vk vw vh (ps ++ qs) ll lk lw hs F9 Fl Fk Fw Fh:=by
 have ht:=h.rg.tag;have hsg:=h.sg hS;exact ⟨hr,h.rl.kept hsg hk (lH h.rl.tag ht (by decide)),h.rk.kept hsg hk (lH h.rk.tag ht (by decide)),h.r3.kept hsg hk (lH h.r3.tag ht (by decide)),h.rh.kept hk (tH (by decide) ht) fun b hb hm=>h.dgh b hm hb,yH (by decide) ht hk h.yd,fun b hb=>(J6 b hb).elim (h.inF b) fun h1=>.inr (Nat.le_trans h.size h1),h.kp.step hk h.inF,h.dlk,h.dlw,h.dkw,pO h.dgh J6 h.rh.lt⟩
theorem yD.aoK (h:yD S w n0 B F0 yc w6 g vl vk vw vh ps ll lk lw hs F Fl Fk Fw Fh) (hS:∀ b,S b→b < w.heap.size∧b∉F0) (hr:dY w.heap.size w9 v9 (hs ++ qs) F9) (hk:Kept Fh w6 w9) (J6:∀ b∈F9,b∈Fh∨w6.heap.size≤b):yD S w n0 B F0 yc w9 g vl vk vw v9 ps ll lk lw (hs ++ qs) F Fl Fk Fw F9:=by
 have ht:=h.rh.tag;have hsg:=Jl hS h.rh.ge;exact ⟨h.rg.kept hk (tH (by decide) ht) h.dgh,h.rl.kept hsg hk (lH h.rl.tag ht (by decide)),h.rk.kept hsg hk (lH h.rk.tag ht (by decide)),h.r3.kept hsg hk (lH h.r3.tag ht (by decide)),hr,yH (by decide) ht hk h.yd,h.inF,h.kp.step hk fun b hb=>.inr (h.rh.ge b hb),h.dlk,h.dlw,h.dkw,fun b hb hm=>pO (fun b hb hm=>h.dgh b hm hb) J6 h.rg.lt b hm hb⟩
end
end Go.Proofs.YtbdicafambkhdaaGreat
/- Words on the walk of the reference's l14Label. Printed by wip/slabelw.py. -/
namespace Go.Proofs.YtbdicafambkhdaaGreat
open Go.Proofs.Tryz
open Go.RowKit
attribute [local irreducible] wpQuiet
theorem QG {y:aK} {got:List Place} {l:List Task} {k:Nat} (hk:k < l.length):iy y got (l.take (k+1))=vJ y (iy y got (l.take k)) (nth l k):=by
 rw [iy,aV hk,List.foldl_append];rfl
theorem acj {y:aK} {got:List Place} {l:List Task} {k:Nat} (hk:k < l.length) (h:dP (nth l k)=false):iy y got (l.take (k+1))=iy y got (l.take k):=by rw [QG hk,vJ,if_neg (by simp [h])]
theorem aek {y:aK} {got:List Place} {l:List Task} {k:Nat} (hk:k < l.length) (h:dP (nth l k)=true):iy y got (l.take (k+1))=(if (uM y (iy y got (l.take k)).2 (nth l k)).length=0 then (iy y got (l.take k)).1 ++ [nth l k] else (iy y got (l.take k)).1,(iy y got (l.take k)).2 ++ uM y (iy y got (l.take k)).2 (nth l k)):=by
 rw [QG hk,vJ,if_pos h,uM];split <;> simp
theorem acu (y:aK) (ps:List Place) (t:Task):(uM y ps t).length≤1:=by unfold uM;split <;> simp
theorem acn {y:aK} {got:List Place} {l:List Task} {k:Nat} {s:List Place × List Task × List Task} (hk:k < l.length):(l.take (k+1)).foldl (gZ y got) s=gZ y got ((l.take k).foldl (gZ y got) s) (nth l k):=by
 rw [aV hk,List.foldl_append];rfl
theorem acD {y:aK} {a:Label} {ps:List Place} {l:List Task} (h:Turn y a ps l) (k:Nat):Turn y a ps (l.take k) :=
 ⟨fun t ht=>h.lab t (List.mem_of_mem_take ht),h.ids.sublist (List.take_sublist _ _),h.far,fun t ht=>h.state t (List.mem_of_mem_take ht),fun t ht=>h.late t (List.mem_of_mem_take ht),fun t ht=>h.need t (List.mem_of_mem_take ht)⟩
theorem afH {y:aK} {a:Label} {ps:List Place} {l:List Task} (h:Turn y a ps l) (hf:∀ t∈l,iI y t) (hok:∀ p∈ps,P7 p) (k:Nat):(∀ p∈(iy y ps (l.take k)).2,P7 p)∧(iy y ps (l.take k)).2.length≤ps.length+l.length∧(iy y ps (l.take k)).1.length≤l.length:=by
 have ht:=acD h k;obtain ⟨e1,_⟩:=yU (y:=y) (ps:=ps) (l.take k) ht.lab ht.ids;refine ⟨fun p hp=>?_,?_,?_⟩
 · rw [← e1] at hp;have:=qI (f:=step1 y) (p:=fun qs=>∀ p∈qs,Fine a ps p) (l:=l.take k) (b:=ps) (fun p hp=>.inl hp) (fun b x hx hb=>af2 (hf x (List.mem_of_mem_take hx)) (ht.lab x hx) hb);exact (this p hp).ok hok
 · rw [← e1];have:=fP (s:=fun ps:List Place=>ps.length) (f:=step1 y) len1 (l.take k) ps;rw [List.length_take] at this;omega
 · have:∀ (m:List Task) (s:List Task × List Place),(m.foldl (vJ y) s).1.length≤s.1.length+m.length:=fP (s:=fun s:List Task × List Place=>s.1.length) (f:=vJ y) (fun b x=>by unfold vJ;split <;> (try split) <;> simp);have h2:=this (l.take k) ([],ps);rw [List.length_take] at h2;simp only [List.length_nil] at h2;unfold iy;omega
theorem afI {y:aK} {got:List Place} {l:List Task}:∀ m:List Task,(∀ t∈m,t∈l)→(m.foldl (gZ y got) ([],[],[])).1.length≤m.length∧(m.foldl (gZ y got) ([],[],[])).2.1.length≤m.length∧(m.foldl (gZ y got) ([],[],[])).2.2.length≤m.length∧(∀ t∈(m.foldl (gZ y got) ([],[],[])).2.1,t∈l):=by
 intro m;induction m using zI with
 | nil=>intro _;simp
 | snoc m x ih =>
   intro h;obtain ⟨h1,h2,h3,h4⟩:=ih fun t ht=>h t (by simp [ht]);have e:(m ++ [x]).foldl (gZ y got) ([],[],[])=gZ y got (m.foldl (gZ y got) ([],[],[])) x:=by rw [List.foldl_append];rfl
   rw [e];generalize m.foldl (gZ y got) ([],[],[])=s at *;unfold gZ;simp only [List.length_append,List.length_singleton];split
   · exact ⟨by omega,by omega,by omega,h4⟩
   · split
     · refine ⟨by simp only [List.length_append,List.length_singleton];omega,by simp only [List.length_append,List.length_singleton];omega,by dsimp only;omega,fun t ht=>?_⟩;rcases List.mem_append.1 ht with ht | ht
       · exact h4 t ht
       · rw [List.mem_singleton.1 ht];exact h x (by simp)
     · exact ⟨by dsimp only;omega,by dsimp only;omega,by simp only [List.length_append,List.length_singleton];omega,h4⟩
theorem acy {y:aK} {got:List Place} {s:List Place × List Task × List Task} {t:Task} (h:dP t=true):gZ y got s t=s:=by rw [gZ,if_pos h]
theorem aar {y:aK} {got:List Place} {s:List Place × List Task × List Task} {t:Task} (h:dP t=false) (h2:qL y (got ++ s.1) t=true):gZ y got s t=(s.1 ++ [iY t],s.2.1 ++ [t],s.2.2):=by rw [gZ,if_neg (by simp [h]),if_pos h2]
theorem aas {y:aK} {got:List Place} {s:List Place × List Task × List Task} {t:Task} (h:dP t=false) (h2:qL y (got ++ s.1) t=false):gZ y got s t=(s.1,s.2.1,s.2.2 ++ [t]):=by rw [gZ,if_neg (by simp [h]),if_neg (by simp [h2])]
theorem dY.addr {n0:Nat} {w:World} {A:Option Addr} {n c:Nat} {ps:List Place} {F:List Nat} (h:dY n0 w (.slice A n c) ps F) (h0:0 < ps.length):∃ B,A=some ⟨B,0,none⟩∧ps.length≤c∧c≤maxLen:=by
 obtain ⟨m,hm,ho,hn,hf⟩:=h;rcases ho with ⟨rfl,_⟩ | ⟨B,c',C,Fs,hv,h1,h2,h3,_⟩
 · rw [← hm] at h0;simp at h0
 · injection hv with e1 e2 e3
   subst e3;exact ⟨B,e1,by rw [← hm,List.length_map];exact h2,h3⟩
theorem dY.at {n0:Nat} {w:World} {B n c k:Nat} {ps:List Place} {F:List Nat} (h:dY n0 w (.slice (some ⟨B,0,none⟩) n c) ps F) (hk:k < ps.length):∃ A1 n1 c1 G,w.rangeAt B (k * 7) (bY (nth ps k) (.slice A1 n1 c1))∧iQ (nth ps k)∧aW jD 2 w (.slice A1 n1 c1) (nth ps k).nodes G:=by
 obtain ⟨m,hm,ho,hn,hf⟩:=h;have hkm:k < m.length:=by rw [← hm,List.length_map] at hk;exact hk
 obtain ⟨A,c',hv,h1,h2,hr⟩:=ho.rd.open_;injection hv with e2 e3 e4
 obtain ⟨b,o,cs,hA,hs,⟨rfl,hf'⟩,hc⟩:=hr k hkm;rw [← e2] at hA;cases hA;have e:nth ps k=(nth m k).x:=by rw [← hm,sZ hkm]
 rw [e];refine ⟨_,_,_,_,by simpa [FB] using hc,hf',hn _ (bG hkm)⟩
theorem aa4 {y:aK} {t:Task} (h:iI y t):Rh y t:=⟨h.lab,by have:=h.id;unfold I64;omega,h.need,h.long⟩
theorem aat {y:aK} {left waits:List Task} {l:List Task} {k:Nat} {s:List Place} (hk:k < l.length):(l.take (k+1)).foldl (stepD y left waits) s=stepD y left waits ((l.take k).foldl (stepD y left waits) s) (nth l k):=by
 rw [aV hk,List.foldl_append];rfl
theorem acA {y:aK} {left waits:List Task} {got:List Place} {t:Task} (h:0≤pI left t.label t.id∨0≤pI waits t.label t.id):stepD y left waits got t=got ++ toP y got t 41:=by
 have e:(kK left t || kK waits t)=true:=by
  rw [kK,kK,← jr,← jr];rcases h with h | h
  · rw [decide_eq_true (p:=0≤idxOf (jv t.label t.id) left) h];rfl
  · rw [decide_eq_true (p:=0≤idxOf (jv t.label t.id) waits) h,Bool.or_true]
 rw [stepD,if_pos e];rfl
theorem aeA {y:aK} {left waits:List Task} {got:List Place} {t:Task} (h1:¬ 0≤pI left t.label t.id) (h2:¬ 0≤pI waits t.label t.id):stepD y left waits got t=got:=by
 have e:(kK left t || kK waits t)=false:=by
  rw [kK,kK,← jr,← jr,decide_eq_false (p:=0≤idxOf (jv t.label t.id) left) h1,decide_eq_false (p:=0≤idxOf (jv t.label t.id) waits) h2];rfl
 rw [stepD,if_neg (by simp [e])]
theorem alW {S:Nat→Prop} {w:World} {n0 n1 B:Nat} {F0:List Nat} {yc:Array Value} {w6 w9:World} {g vl vk vw vh u:Value} {ps hs qs:List Place} {ll lk lw:List Task} {F Fl Fk Fw Fh G:List Nat} (h:yD S w n0 B F0 yc w6 g vl vk vw vh ps ll lk lw hs F Fl Fk Fw Fh) (hk:Kept Fl w6 w9) (hq:dY n1 w6 u qs G):dY n1 w9 u qs G :=
 hq.kept hk (tH (by decide) h.rl.tag) (lH hq.tag h.rl.tag (by decide))
theorem dY.zero {n0:Nat} {w:World}:dY n0 w (.slice none 0 0) [] []:=⟨[],rfl,aW.nil _,by simp,by simp⟩
theorem Ub (y:aK) (ps:List Place) (t:Task) (k:Nat):(toP y ps t k).length≤1:=by unfold toP;split <;> simp
theorem afC {l:List Place} (p:Place) (h:l.length≤1):(orP l p).length=1:=by
 by_cases h0:l.length=0
 · rw [orP,if_pos h0];rfl
 · rw [orP,if_neg h0];omega
theorem DF (y:aK) (had:List Place) (kp:List Task):∀ (k:Nat) (got:List Place),(ou y had kp k got).length=got.length+k
 | 0,got=>rfl
 | k+1,got=>by rw [ou,List.length_append,DF y had kp k got,afC _ (Ub _ _ _ _)];omega
theorem acz (y:aK) (left waits:List Task) (got:List Place) (t:Task):(stepD y left waits got t).length≤got.length+1:=by
 unfold stepD newP;split
 · split <;> simp
 · omega
end Go.Proofs.YtbdicafambkhdaaGreat

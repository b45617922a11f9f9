/- Whether two data are equal: eq... Printed by wip/gen.py. How the laws count the size of their data. What the sizes count. Printed by wip/gen.py. How large data are: sz... Printed by wip/gen.py. What turns a walk of a law into the row that says it: the arguments' readings opened, and the row's last step. No program in sight. The laws' arguments, opened to plain data. Printed by wip/gen.py. The generated words of types that are new with this seat. Printed by wip/genx.py. -/
import Derived.Test.YtoblacfjmcpbmaaGreatRows
import Derived.Test.YtoblacfjmcpbmaaGreatGElems
import Derived.Test.YtoblacfjmcpbmaaGreatLib
import Derived.ProofKit
import Derived.Deep.Slices
namespace Go.Proofs.YtoblacfjmcpbmaaGreat
open Go.RowKit
attribute [local irreducible] wpQuiet
end Go.Proofs.YtoblacfjmcpbmaaGreat
namespace Go.Proofs.YtoblacfjmcpbmaaGreat
end Go.Proofs.YtoblacfjmcpbmaaGreat
namespace Go.Proofs.YtoblacfjmcpbmaaGreat
end Go.Proofs.YtoblacfjmcpbmaaGreat
namespace Go.Proofs.YtoblacfjmcpbmaaGreat
open Go.RowKit
attribute [local irreducible] wpQuiet
end Go.Proofs.YtoblacfjmcpbmaaGreat
namespace Go.Proofs.YtoblacfjmcpbmaaGreat
open Go.RowKit Go.ChangeShapes Go.WideShapes Go.Deep
def Opens {α:Type} (P:Program) (t:TypeId) (E:Elem α):Prop :=
 ∀ {H:Type} {enc:TypeId × Value→H} {w:World} {base:Nat} {spare:Nat→Bool} {held:Bool} {fuel:Nat} {cs:List Value} {x:DataW H × List MemPlace},
   DataW.trod enc P w base spare held fuel t cs=.some x→∃ y,E.rel (fun _=>True) w cs y
theorem cells_range {w:World} {base:Nat} {a:Addr} {n:Nat} {cs:List Value} (h:w.cells? base a n=.some cs):cs.length=n∧∀ j,j < n→w.cell? (a.add j)=cs[j]?:=by
 obtain ⟨_,h1,h2⟩:=World.cells?_some h
 exact ⟨h1,h2⟩
theorem opens_row {α:Type} {P:Program} {t e:TypeId} {E:Elem α} (ht:P.underlying t=.some (.slice e)) (hC:P.cellsOf e=E.size) (hz:0 < E.size) (ho:Opens P e E):Opens P t (ERow E):=by
 intro H enc w base spare held fuel cs x h
 rcases open_slice ht h with ⟨rfl,_⟩ | ⟨a,len,cap,m,n,D,Pl,rfl,_,hl,hm,hmm,hxx,hi⟩
 · exact ⟨[],_,rfl,none,0,rfl,Nat.le_refl _,Nat.zero_le _,fun k x hk=>by simp at hk⟩
 · have hlm:len≤m:=by subst hmm;split <;> omega
   have hel:∀ i,i < len→∃ y:α,∃ cs',E.rel (fun _=>True) w cs' y∧cs'.length=E.size∧∀ j,j < E.size→w.cell? ((a.add (i * E.size)).add j)=cs'[j]?:=fun i hlt=>by
    obtain ⟨cs',hc,hd⟩:=hi i (by omega)
    obtain ⟨y,hy⟩:=ho hd
    rw [hC] at hc
    obtain ⟨h1,h2⟩:=cells_range hc
    exact ⟨y,cs',hy,h1,h2⟩
   have hex:∃ l:List α,l.length=len∧∀ i y,l[i]? = .some y→∃ cs',E.rel (fun _=>True) w cs' y∧cs'.length=E.size∧∀ j,j < E.size→w.cell? ((a.add (i * E.size)).add j)=cs'[j]?:=by
    clear hi hl hm hmm hlm h hxx
    induction len with
    | zero=>exact ⟨[],rfl,fun i y hy=>by simp at hy⟩
    | succ len ih =>
      obtain ⟨l,h1,h2⟩:=ih (fun i hlt=>hel i (by omega))
      obtain ⟨y,hy⟩:=hel len (by omega)
      refine ⟨l ++ [y],by simp [h1],fun i z hz=>?_⟩
      by_cases hi:i < l.length
      · rw [List.getElem?_append_left hi] at hz
        exact h2 i z hz
      · rw [List.getElem?_append_right (by omega)] at hz
        obtain ⟨hlt,rfl⟩:i - l.length=0∧y=z:=by
         rcases Nat.eq_zero_or_pos (i - l.length) with h0 | h0
         · rw [h0] at hz;exact ⟨h0,by simpa using hz⟩
         · rw [List.getElem?_eq_none (by simp;omega)] at hz;cases hz
        obtain rfl:i=len:=by omega
        exact hy
   obtain ⟨l,h1,h2⟩:=hex
   subst h1
   refine ⟨l,_,rfl,some a,cap,rfl,hl,hm,fun k y hk=>?_⟩
   obtain ⟨cs',hy,hcl,hc⟩:=h2 k y hk
   have hs:a.spot=none:=by
    have hkl:k < l.length:=(List.getElem?_eq_some_iff.1 hk).1
    obtain ⟨cs0,_,hcl0,hc0⟩:=h2 0 (l[0]'(by omega)) (List.getElem?_eq_getElem (by omega))
    have h0:=hc0 0 hz
    rw [List.getElem?_eq_getElem (by omega),Nat.zero_mul] at h0
    have:=World.cell?_spot h0
    simpa [Addr.add] using this
   obtain ⟨b,o,s⟩:=a
   obtain rfl:s=none:=hs
   refine ⟨b,o,cs',rfl,trivial,hy,fun j v hj=>?_⟩
   have hjl:j < cs'.length:=(List.getElem?_eq_some_iff.1 hj).1
   have:=hc j (by omega)
   rw [hj] at this
   rw [← this,Addr.add_mid,Addr.add_mid]
section
variable {H:Type} {enc:TypeId × Value→H} {P:Program}
theorem trodAll_stays (hl:laidOutB P=true) {W W':World} (hb:Ext W W') {sp:Nat→Bool}:∀ {ts:List TypeId} {vs:List Value} {ds:List (DataW H)} {ps:List MemPlace},(∀ t∈ts,P.readableRec t=true∧t < P.types.size) →
 DataW.TrodAll enc P W 0 (fun _=>true) true ts vs ds ps→(∀ p∈ps,p.block < W.heap.size)→(∀ p∈ps,sp p.block=true)→DataW.TrodAll enc P W' 0 sp true ts vs ds ps
 | [],[],[],_,_,h,_,_=>h
 | _ :: _,_ :: _,_ :: _,_,hT,⟨p,q,h1,h2,e⟩,hlt,hs=>by
   subst e
   refine ⟨p,q,?_,trodAll_stays hl hb (fun t ht=>hT t (List.mem_cons_of_mem _ ht)) h2 (fun x hx=>hlt x (List.mem_append_right _ hx)) (fun x hx=>hs x (List.mem_append_right _ hx)),rfl⟩
   exact WideElems.Trod_stays hl (hT _ (List.mem_cons_self ..)).1 (hT _ (List.mem_cons_self ..)).2 h1 (fun x hx=>Below.same hb (hlt x (List.mem_append_left _ hx))) (fun x hx=>hs x (List.mem_append_left _ hx))
theorem law_post {f:Func} {s:ChangeSpec} {apart fresh handsOn again:Bool} {W W':World} {args:Array Value} {ds:List (DataW H)} {before:List MemPlace} {tb:TypeId}
 (hl:laidOutB P=true) (hr:f.resultTypes = #[tb]) (hb:P.underlying tb=.some .bool) (hT:∀ t∈f.params.toList,P.readableRec t=true∧t < P.types.size)
 (hsv:s.vars = []) (hfn:s.fn H (ds ++ []) = { results:=[.lit (.bool true)],args:=ds })
 (hW:DataW.Whole enc P f.params.toList s.vars apart W args.toList ds [] before) (hx:Ext W W') :
 s.post enc P f apart fresh handsOn again W args (.bool true) W':=by
 have hlt:∀ p∈before,p.block < W.heap.size:=fun p hp=>hW.lt p hp
 have hold:∀ p∈before,(fun b=>decide (b < W.heap.size)) p.block=true:=fun p hp=>by simpa using hlt p hp
 have hW':=hW
 obtain ⟨pa,pv,hA,hV,rfl,hz,hn⟩:=hW
 rw [hsv] at hV
 obtain rfl:pv = []:=hV
 rw [List.append_nil] at hlt hold hz hn hW'
 have hargs:∀ sp:Nat→Bool,(∀ p∈pa,sp p.block=true)→DataW.TrodAll enc P W' 0 sp true f.params.toList args.toList (s.fn H (ds ++ [])).args pa:=fun sp hs=>by
  rw [hfn]
  exact trodAll_stays hl hx hT hA hlt hs
 have hres:∀ (b:Nat) (sp:Nat→Bool) (hd:Bool),DataW.TrodAll enc P W' b sp hd f.resultTypes.toList ((Value.bool true).resultList f.resultTypes.size) (s.fn H (ds ++ [])).results []:=fun b sp hd=>by
  rw [hfn,hr]
  exact trodAll_mk1 (shut_bool hb true)
 have hvars:∀ sp:Nat→Bool,DataW.TrodVars enc P W' sp s.vars (s.fn H (ds ++ [])).vars []:=fun sp=>by
  rw [hfn,hsv]
  exact rfl
 refine ⟨ds,[],pa,[],pa,[],hW',hres _ _ _,hargs _ hold,hvars _,World.keptBut_mono (fun p hp=>⟨hp,Or.inr (Or.inl hp)⟩) (Below.frame hx (·∈pa)),fun _=>?_⟩
 refine ⟨ok_one hr rfl (okWide_bool_mk hb true),_,_,([] ++ pa) ++ [],⟨[] ++ pa,[],trodAll_append (hargs _ (fun _ _=>rfl)) (hres _ _ _),hvars _,rfl,?_,?_⟩,?_⟩
 · intro b off hp
   have hin:MemPlace.cell b off∈pa:=by simpa using hp
   rw [Below.frozen hx (hlt _ hin)]
   exact hz b off hin
 · intro ha
   simpa using hn ha
 · intro p hp _
   simpa using hp
end
end Go.Proofs.YtoblacfjmcpbmaaGreat
namespace Go.Proofs.YtoblacfjmcpbmaaGreat
open Go.RowKit Go.ChangeShapes Go.WideShapes Go.Deep
end Go.Proofs.YtoblacfjmcpbmaaGreat
namespace Go.Proofs.YtoblacfjmcpbmaaGreat
open Go.RowKit
attribute [local irreducible] wpQuiet
end Go.Proofs.YtoblacfjmcpbmaaGreat

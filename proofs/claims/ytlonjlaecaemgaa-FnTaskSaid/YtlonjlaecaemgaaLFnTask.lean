/- The law FnTask: a right task comes back from its bytes, a task whose forerunner is gone is gone; its row. The conditions: none. -/
import Derived.Test.YtlonjlaecaemgaaKFnTask
import Derived.Test.YtlonjlaecaemgaaFnTaskW
import Derived.Test.YtlonjlaecaemgaaGYardE
namespace Go.Proofs.Ytlonjlaecaemgaa
open Go.ChangeShapes Go.WideShapes Go.ChangeAt Go.RowKit
attribute [local irreducible] wpQuiet
theorem opens_u8 {P:Program} {t:TypeId} (ht:P.underlying t=.some (.int .u8)):Opens P t EByte:=by
 intro H enc w base spare held fuel cs x h
 obtain ⟨n,rfl,_,hw⟩:=DataW.trod_int ht h
 refine ⟨n,rfl,?_⟩
 simp [Lit.wf,IntKind.min,IntKind.max,IntKind.signed,IntKind.bits] at hw
 omega
theorem opens_Uint8S:Opens Try.prog 22 (ERow EByte):=opens_row Try.underlying22 (by kernel_rfl) (by decide) (opens_u8 Try.underlying5)
set_option maxRecDepth 100000 in
theorem fnTask_lifted (os:Os) (started:os.Started) (H:Type) (enc:TypeId × Value→H) :
 ReturnsInHanded {} Try.checked os 3 .any (Rows.fnTaskSpec.pre6 enc Try.prog Try.f3 Rows.fnTaskRow.domain false) (Rows.fnTaskSpec.post enc Try.prog Try.f3 false true false false):=by
 refine returnsInHanded_of_change (C:=Try.checked) (show ownKnob Try.prog.godebug=none by kernel_rfl) started (by kernel_rfl) Try.func3
  (ChangeSpec.witness6 (enc:=enc) (C:=Try.checked) false ⟨#[],#[.slice none 0 0,.slice none 0 0],[]⟩ 8 (by kernel_rfl) (by kernel_rfl) (by kernel_rfl) (by kernel_rfl)) ?_
 intro W base args ds gs before hval0 hW hcnd _
 have hval:∀ (j:Nat) t v,Try.f3.params[j]? = some t→args[j]? = some v→Value.okWide Try.prog W .any base t v:=hval0
 have hW':=hW
 obtain ⟨p,q,hA0,hV,rfl,hfz,hnd⟩:=hW
 have hA:DataW.TrodAll enc Try.prog W 0 (fun _=>true) true Try.f3.params.toList args.toList ds p:=hA0
 rw [Try.params3] at hA hval
 obtain ⟨v0,v1,d0,d1,p0,p1,rfl,rfl,rfl,h0,h1⟩:=trodAll_two hA
 obtain ⟨rfl,rfl⟩:=trodVars_none hV
 obtain ⟨fu0,hf0⟩:=h0
 obtain ⟨l1,u0,e0,rl1⟩:=opens_Uint8S hf0
 obtain ⟨a0,len0,cap0,rfl⟩:=okWide_slice Try.underlying22 (hval 0 22 v0 rfl rfl)
 obtain rfl:u0=_:=by simpa [Value.cells] using e0.symm
 clear hf0 e0
 obtain ⟨fu1,hf1⟩:=h1
 obtain ⟨l2,u1,e1,rl2⟩:=opens_Uint8S hf1
 obtain ⟨a1,len1,cap1,rfl⟩:=okWide_slice Try.underlying22 (hval 1 22 v1 rfl rfl)
 obtain rfl:u1=_:=by simpa [Value.cells] using e1.symm
 clear hf1 e1
 clear hA0 hval0 hval hcnd
 refine (fnTask_walk l1 l2 _ _ W rl1 rl2).mono fun e W2 ⟨he,hx⟩=>?_
 subst he
 exact ⟨_,rfl,law_post (by kernel_rfl) (by kernel_rfl) Try.underlying4 (by intro t ht;rw [Try.params3] at ht;simp only [List.mem_cons,List.not_mem_nil,or_false] at ht;rcases ht with rfl | rfl <;> exact ⟨by kernel_rfl,of_decide_eq_true (by kernel_rfl)⟩) rfl rfl hW' hx⟩
theorem fnTask_holds:Rows.FnTaskSaid :=
 OpenClaim.holds_of_wide 3 Try.f3 rfl rfl rfl rfl rfl rfl rfl ⟨rfl,rfl,rfl,rfl,rfl⟩ rfl rfl rfl rfl rfl (by kernel_rfl) Try.func3 fnTask_closed
  (of_decide_eq_true (by kernel_rfl)) (by unfold Func.isWrapper;rw [if_neg (of_decide_eq_false (by kernel_rfl))];exact ⟨rfl,rfl⟩)
  (fun os started H enc _=>fnTask_lifted os started H enc)
end Go.Proofs.Ytlonjlaecaemgaa

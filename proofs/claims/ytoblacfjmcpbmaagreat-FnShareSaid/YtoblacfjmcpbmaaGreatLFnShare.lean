/- The law FnShare: of two tasks that differ in their owners alone the one whose owner has used less comes first and is given its nodes first; its row. The conditions: none. -/
import Derived.Test.YtoblacfjmcpbmaaGreatKFnShare
import Derived.Test.YtoblacfjmcpbmaaGreatFnShareW
import Derived.Test.YtoblacfjmcpbmaaGreatGYardE
namespace Go.Proofs.YtoblacfjmcpbmaaGreat
open Go.ChangeShapes Go.WideShapes Go.ChangeAt Go.RowKit
attribute [local irreducible] wpQuiet
theorem opens_u8 {P:Program} {t:TypeId} (ht:P.underlying t=.some (.int .u8)):Opens P t EByte:=by
 intro H enc w base spare held fuel cs x h
 obtain ⟨n,rfl,_,hw⟩:=DataW.trod_int ht h
 refine ⟨n,rfl,?_⟩
 simp [Lit.wf,IntKind.min,IntKind.max,IntKind.signed,IntKind.bits] at hw
 omega
theorem opens_Uint8S:Opens Tryz.prog 22 (ERow EByte):=opens_row Tryz.underlying22 (by kernel_rfl) (by decide) (opens_u8 Tryz.underlying5)
set_option maxRecDepth 100000 in
theorem fnShare_lifted (os:Os) (started:os.Started) (H:Type) (enc:TypeId × Value→H) :
 ReturnsInHanded {} Tryz.checked os 3 .any (Rows.fnShareSpec.pre6 enc Tryz.prog Tryz.f3 Rows.fnShareRow.domain false) (Rows.fnShareSpec.post enc Tryz.prog Tryz.f3 false true false false):=by
 refine returnsInHanded_of_change (C:=Tryz.checked) (show ownKnob Tryz.prog.godebug=none by kernel_rfl) started (by kernel_rfl) Tryz.func3
  (ChangeSpec.witness6 (enc:=enc) (C:=Tryz.checked) false ⟨#[],#[.slice none 0 0],[]⟩ 8 (by kernel_rfl) (by kernel_rfl) (by kernel_rfl) (by kernel_rfl)) ?_
 intro W base args ds gs before hval0 hW hcnd _
 have hval:∀ (j:Nat) t v,Tryz.f3.params[j]? = some t→args[j]? = some v→Value.okWide Tryz.prog W .any base t v:=hval0
 have hW':=hW
 obtain ⟨p,q,hA0,hV,rfl,hfz,hnd⟩:=hW
 have hA:DataW.TrodAll enc Tryz.prog W 0 (fun _=>true) true Tryz.f3.params.toList args.toList ds p:=hA0
 rw [Tryz.params3] at hA hval
 obtain ⟨v0,d0,rfl,rfl,h0⟩:=trodAll_one hA
 obtain ⟨rfl,rfl⟩:=trodVars_none hV
 obtain ⟨fu0,hf0⟩:=h0
 obtain ⟨l1,u0,e0,rl1⟩:=opens_Uint8S hf0
 obtain ⟨a0,len0,cap0,rfl⟩:=okWide_slice Tryz.underlying22 (hval 0 22 v0 rfl rfl)
 obtain rfl:u0=_:=by simpa [Value.cells] using e0.symm
 clear hf0 e0
 clear hA0 hval0 hval hcnd
 refine (fnShare_walk l1 _ W rl1).mono fun e W2 ⟨he,hx⟩=>?_
 subst he
 exact ⟨_,rfl,law_post (by kernel_rfl) (by kernel_rfl) Tryz.underlying4 (by intro t ht;rw [Tryz.params3] at ht;simp only [List.mem_cons,List.not_mem_nil,or_false] at ht;rcases ht with rfl <;> exact ⟨by kernel_rfl,of_decide_eq_true (by kernel_rfl)⟩) rfl rfl hW' hx⟩
theorem fnShare_holds:Rows.FnShareSaid :=
 OpenClaim.holds_of_wide 3 Tryz.f3 rfl rfl rfl rfl rfl rfl rfl ⟨rfl,rfl,rfl,rfl,rfl⟩ rfl rfl rfl rfl rfl (by kernel_rfl) Tryz.func3 fnShare_closed
  (of_decide_eq_true (by kernel_rfl)) (by unfold Func.isWrapper;rw [if_neg (of_decide_eq_false (by kernel_rfl))];exact ⟨rfl,rfl⟩)
  (fun os started H enc _=>fnShare_lifted os started H enc)
end Go.Proofs.YtoblacfjmcpbmaaGreat

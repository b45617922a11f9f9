/- The walk of impl.UsesRight. -/
import Derived.Test.YtoblacfjmcpbmaaGreatUsesC
namespace Go.Proofs.YtoblacfjmcpbmaaGreat
open Go.RowKit
attribute [local irreducible] wpQuiet
set_option maxHeartbeats 8000000 in
set_option maxRecDepth 50000 in
theorem usesRight_any {S:Nat→Prop} (l:List Use) (v:Value) (w:World) (h:Rd EUse S w v l) :
 Calls Tryz.prog 34 #[v] w fun e w'=>e=.returned (.bool (usesRight l))∧Ext w w':=by
 have HR:=Lib.hid h
 obtain ⟨A,c,rfl,h1,h2,hk⟩:=h.open_
 unfold maxLen at h2
 have HK:=Lib.hid hk
 clear hk h
 go_enter Tryz.func34,Tryz.ntmps34
 go_wp2_with fail
 go_loopw [7] (fun i w'=>∃ k:Nat,k≤l.length∧i=.int .i64 k∧(∀ j,j < k→useAt l j=true)∧Ext w w') (fun i _=>l.length - (intOf i).toNat)
 case atStart=>exact ⟨0,by omega,rfl,fun j hj=>by omega,Ext.refl _⟩
 case round =>
  obtain ⟨k,hk1,rfl,hall,hx⟩:=hrel
  have HA:=Lib.hid hall
  have HX:=Lib.hid hx
  clear hall
  by_cases hlt:k < l.length
  · obtain ⟨b,o,cs,rfl,_,⟨rfl,hfit⟩,hc⟩:=HK.out k hlt
    have HL:Hid (FitLabel (nth l k).label):=Lib.hid ⟨hfit.1,hfit.2.1⟩
    have HS:Hid (Str (nth l k).owner):=Lib.hid hfit.2.2.1
    have HF0:=Lib.hid hfit
    have c0:=Ext.some hx (hc 0 _ rfl)
    have c1:=Ext.some hx (hc 1 _ rfl)
    have c2:=Ext.some hx (hc 2 _ rfl)
    have c3:=Ext.some hx (hc 3 _ rfl)
    simp only [EUse,Nat.add_zero] at c0 c1 c2 c3
    have HT:=Lib.hid (Rd.take HR.out (Nat.le_of_lt hlt))
    clear hc hfit
    by_cases hl:labelRight (nth l k).label=true
    · by_cases hm:nameRight (nth l k).owner=true
      · by_cases hu:isB (nth l k).used 1 100000=true
        · by_cases h0:0 < k
          · obtain ⟨m,rfl⟩:∃ m,k=m+1:=⟨k - 1,by omega⟩
            obtain ⟨b',o',cs',hbo,_,⟨rfl,hfit1⟩,hd⟩:=HK.out m (by omega)
            cases hbo
            have HF1:=Lib.hid hfit1
            have d0:=Ext.some hx (hd 0 _ rfl)
            have d1:=Ext.some hx (hd 1 _ rfl)
            have d2:=Ext.some hx (hd 2 _ rfl)
            have d3:=Ext.some hx (hd 3 _ rfl)
            simp only [EUse,Nat.add_zero] at d0 d1 d2 d3
            clear hd hfit1
            have i0:(0:Int)≤(m:Int)+1:=by omega
            have i1:(m:Int)+1 < (l.length:Int):=by omega
            have i2:((m:Int)+1).toNat=m+1:=by omega
            have i3:IntKind.i64.wrap (m:Int)=(m:Int):=IntWalk.i64_in _ (by omega)
            have i4:m < l.length:=by omega
            have i5:(m:Int)+1≤(c:Int):=by omega
            have i6:m+1≤c:=by omega
            by_cases hle:cmpUses (nth l m) (nth l (m+1)) < 0
            · have hle':¬ 0≤cmpUses (nth l m) (nth l (m+1)):=by omega
              by_cases hn:ownersOf (l.take (m+1)) (nth l (m+1)).label=6
              · have HF:Hid (usesRight l=false):=Lib.hid (usesRight_false hlt (useAt_many hn))
                go_wp2_with fail
                obtain ⟨W,B,hW__,hB__,hxW,hbox__⟩:=box_new wr #[.int .i64 (nth l (m+1)).label.level,.int .i64 (nth l (m+1)).label.set,.string (nth l (m+1)).owner,.int .i64 (nth l (m+1)).used] 75
                rw [← hW__,← hB__]
                have e0:=hbox__ 0 _ rfl
                have e1:=hbox__ 1 _ rfl
                have e2:=hbox__ 2 _ rfl
                have e3:=hbox__ 3 _ rfl
                clear hW__ hB__ hbox__
                have d0':=Ext.some hxW d0
                have d1':=Ext.some hxW d1
                have d2':=Ext.some hxW d2
                have d3':=Ext.some hxW d3
                refine wp_region_ext (by kernel_rfl) (by kernel_rfl) ?_
                repeat (
                 (refine wpQuiet_step (fun K hK=>?_)
                  go_simp
                  first
                   | (refine hK _ ?_;clear hK K)
                   | (apply Exists.intro
                      refine ⟨fun w__ hx__=>?_,hK _ ?_⟩
                      · have e0__:=Ext.some hx__ e0;have e1__:=Ext.some hx__ e1;have e2__:=Ext.some hx__ e2;have e3__:=Ext.some hx__ e3;have d0'__:=Ext.some hx__ d0';have d1'__:=Ext.some hx__ d1';have d2'__:=Ext.some hx__ d2';have d3'__:=Ext.some hx__ d3';first | exact rfl | (go_simp;done) | (go_simp;exact rfl) | (go_at_call 67;exact ext_of hx__ (labelRight_any (S:=S) (nth l (m+1)).label _ _ (rel_Label HL.out))) | (go_at_call 65;exact ext_of_same hx__ (nameRight_any _ _ HS.out)) | (go_at_call 30;exact ext_of_same hx__ (within_any _ _ _ _)) | (go_at_call 81;exact ext_of hx__ (compareUses_any (S:=S) (S':=S) (nth l m) (nth l (m+1)) _ _ _ (rel_Use HF1.out) (rel_Use HF0.out)))
                      clear hK K)))
                refine wpQuiet_nil ?_
                intro w1 hx1
                go_wp2_with fail
                have X1:=Lib.hid (HX.out.trans (hxW.trans hx1))
                have g0:=Ext.some hx1 e0
                have g1:=Ext.some hx1 e1
                clear e0 e1 e2 e3 hx1 hxW d0' d1' d2' d3'
                rename World=>V
                refine wp_region_ext (by kernel_rfl) (by kernel_rfl) ?_
                repeat (
                 (refine wpQuiet_step (fun K hK=>?_)
                  go_simp
                  first
                   | (refine hK _ ?_;clear hK K)
                   | (apply Exists.intro
                      refine ⟨fun w__ hx__=>?_,hK _ ?_⟩
                      · have g0__:=Ext.some hx__ g0;have g1__:=Ext.some hx__ g1;first | exact rfl | (go_simp;done) | (go_simp;exact rfl) | (go_at_call 82;exact ext_of hx__ (ownersOf_any (S:=S) (S':=S) (l.take (m+1)) (nth l (m+1)).label _ _ _ (HT.out.ext (X1.out.trans hx__)) (rel_Label HL.out)))
                      clear hK K)))
                refine wpQuiet_nil ?_
                intro w1 hx1
                go_wp2_with fail
                go_ret
                exact ⟨ret_bool HF.out.symm,X1.out.trans hx1⟩
              · have HN:=Lib.hid hn
                have hn2:¬ ((ownersOf (l.take (m+1)) (nth l (m+1)).label:Nat):Int)=6:=by omega
                clear hn
                go_wp2_with fail
                obtain ⟨W,B,hW__,hB__,hxW,hbox__⟩:=box_new wr #[.int .i64 (nth l (m+1)).label.level,.int .i64 (nth l (m+1)).label.set,.string (nth l (m+1)).owner,.int .i64 (nth l (m+1)).used] 75
                rw [← hW__,← hB__]
                have e0:=hbox__ 0 _ rfl
                have e1:=hbox__ 1 _ rfl
                have e2:=hbox__ 2 _ rfl
                have e3:=hbox__ 3 _ rfl
                clear hW__ hB__ hbox__
                have d0':=Ext.some hxW d0
                have d1':=Ext.some hxW d1
                have d2':=Ext.some hxW d2
                have d3':=Ext.some hxW d3
                refine wp_region_ext (by kernel_rfl) (by kernel_rfl) ?_
                repeat (
                 (refine wpQuiet_step (fun K hK=>?_)
                  go_simp
                  first
                   | (refine hK _ ?_;clear hK K)
                   | (apply Exists.intro
                      refine ⟨fun w__ hx__=>?_,hK _ ?_⟩
                      · have e0__:=Ext.some hx__ e0;have e1__:=Ext.some hx__ e1;have e2__:=Ext.some hx__ e2;have e3__:=Ext.some hx__ e3;have d0'__:=Ext.some hx__ d0';have d1'__:=Ext.some hx__ d1';have d2'__:=Ext.some hx__ d2';have d3'__:=Ext.some hx__ d3';first | exact rfl | (go_simp;done) | (go_simp;exact rfl) | (go_at_call 67;exact ext_of hx__ (labelRight_any (S:=S) (nth l (m+1)).label _ _ (rel_Label HL.out))) | (go_at_call 65;exact ext_of_same hx__ (nameRight_any _ _ HS.out)) | (go_at_call 30;exact ext_of_same hx__ (within_any _ _ _ _)) | (go_at_call 81;exact ext_of hx__ (compareUses_any (S:=S) (S':=S) (nth l m) (nth l (m+1)) _ _ _ (rel_Use HF1.out) (rel_Use HF0.out)))
                      clear hK K)))
                refine wpQuiet_nil ?_
                intro w1 hx1
                go_wp2_with fail
                have X1:=Lib.hid (HX.out.trans (hxW.trans hx1))
                have g0:=Ext.some hx1 e0
                have g1:=Ext.some hx1 e1
                clear e0 e1 e2 e3 hx1 hxW d0' d1' d2' d3'
                rename World=>V
                refine wp_region_ext (by kernel_rfl) (by kernel_rfl) ?_
                repeat (
                 (refine wpQuiet_step (fun K hK=>?_)
                  go_simp
                  first
                   | (refine hK _ ?_;clear hK K)
                   | (apply Exists.intro
                      refine ⟨fun w__ hx__=>?_,hK _ ?_⟩
                      · have g0__:=Ext.some hx__ g0;have g1__:=Ext.some hx__ g1;first | exact rfl | (go_simp;done) | (go_simp;exact rfl) | (go_at_call 82;exact ext_of hx__ (ownersOf_any (S:=S) (S':=S) (l.take (m+1)) (nth l (m+1)).label _ _ _ (HT.out.ext (X1.out.trans hx__)) (rel_Label HL.out)))
                      clear hK K)))
                refine wpQuiet_nil ?_
                intro w1 hx1
                go_wp2_with fail
                go_roundw
                case rel=>exact ⟨m+2,by omega,by go_num,all_succ HA.out (useAt_all hl hm hu (by rw [useAfter_succ];exact decide_eq_true hle) HN.out),X1.out.trans hx1⟩
                case measure=>simp only [intOf];(try simp);(try omega)
            · have hgt:0≤cmpUses (nth l m) (nth l (m+1)):=by omega
              have HF:Hid (usesRight l=false):=Lib.hid (usesRight_false hlt (useAt_after (by rw [useAfter_succ];exact decide_eq_false hle)))
              clear hle
              go_wp2_with fail
              obtain ⟨W,B,hW__,hB__,hxW,hbox__⟩:=box_new wr #[.int .i64 (nth l (m+1)).label.level,.int .i64 (nth l (m+1)).label.set,.string (nth l (m+1)).owner,.int .i64 (nth l (m+1)).used] 75
              rw [← hW__,← hB__]
              have e0:=hbox__ 0 _ rfl
              have e1:=hbox__ 1 _ rfl
              have e2:=hbox__ 2 _ rfl
              have e3:=hbox__ 3 _ rfl
              clear hW__ hB__ hbox__
              have d0':=Ext.some hxW d0
              have d1':=Ext.some hxW d1
              have d2':=Ext.some hxW d2
              have d3':=Ext.some hxW d3
              refine wp_region_ext (by kernel_rfl) (by kernel_rfl) ?_
              repeat (
               (refine wpQuiet_step (fun K hK=>?_)
                go_simp
                first
                 | (refine hK _ ?_;clear hK K)
                 | (apply Exists.intro
                    refine ⟨fun w__ hx__=>?_,hK _ ?_⟩
                    · have e0__:=Ext.some hx__ e0;have e1__:=Ext.some hx__ e1;have e2__:=Ext.some hx__ e2;have e3__:=Ext.some hx__ e3;have d0'__:=Ext.some hx__ d0';have d1'__:=Ext.some hx__ d1';have d2'__:=Ext.some hx__ d2';have d3'__:=Ext.some hx__ d3';first | exact rfl | (go_simp;done) | (go_simp;exact rfl) | (go_at_call 67;exact ext_of hx__ (labelRight_any (S:=S) (nth l (m+1)).label _ _ (rel_Label HL.out))) | (go_at_call 65;exact ext_of_same hx__ (nameRight_any _ _ HS.out)) | (go_at_call 30;exact ext_of_same hx__ (within_any _ _ _ _)) | (go_at_call 81;exact ext_of hx__ (compareUses_any (S:=S) (S':=S) (nth l m) (nth l (m+1)) _ _ _ (rel_Use HF1.out) (rel_Use HF0.out)))
                    clear hK K)))
              refine wpQuiet_nil ?_
              intro w1 hx1
              go_wp2_with fail
              go_ret
              exact ⟨ret_bool HF.out.symm,HX.out.trans (hxW.trans hx1)⟩
          · obtain rfl:k=0:=by omega
            simp only [Nat.zero_mul,Nat.add_zero] at c0 c1 c2 c3
            have hn:ownersOf (l.take 0) (nth l 0).label≠6:=by simp [ownersOf]
            · have HN:=Lib.hid hn
              have hn2:¬ ((ownersOf (l.take 0) (nth l 0).label:Nat):Int)=6:=by omega
              clear hn
              go_wp2_with fail
              obtain ⟨W,B,hW__,hB__,hxW,hbox__⟩:=box_new wr #[.int .i64 (nth l 0).label.level,.int .i64 (nth l 0).label.set,.string (nth l 0).owner,.int .i64 (nth l 0).used] 75
              rw [← hW__,← hB__]
              have e0:=hbox__ 0 _ rfl
              have e1:=hbox__ 1 _ rfl
              have e2:=hbox__ 2 _ rfl
              have e3:=hbox__ 3 _ rfl
              clear hW__ hB__ hbox__
              refine wp_region_ext (by kernel_rfl) (by kernel_rfl) ?_
              repeat (
               (refine wpQuiet_step (fun K hK=>?_)
                go_simp
                first
                 | (refine hK _ ?_;clear hK K)
                 | (apply Exists.intro
                    refine ⟨fun w__ hx__=>?_,hK _ ?_⟩
                    · have e0__:=Ext.some hx__ e0;have e1__:=Ext.some hx__ e1;have e2__:=Ext.some hx__ e2;have e3__:=Ext.some hx__ e3;first | exact rfl | (go_simp;done) | (go_simp;exact rfl) | (go_at_call 67;exact ext_of hx__ (labelRight_any (S:=S) (nth l 0).label _ _ (rel_Label HL.out))) | (go_at_call 65;exact ext_of_same hx__ (nameRight_any _ _ HS.out)) | (go_at_call 30;exact ext_of_same hx__ (within_any _ _ _ _))
                    clear hK K)))
              refine wpQuiet_nil ?_
              intro w1 hx1
              go_wp2_with fail
              have X1:=Lib.hid (HX.out.trans (hxW.trans hx1))
              have g0:=Ext.some hx1 e0
              have g1:=Ext.some hx1 e1
              clear e0 e1 e2 e3 hx1 hxW
              rename World=>V
              refine wp_region_ext (by kernel_rfl) (by kernel_rfl) ?_
              repeat (
               (refine wpQuiet_step (fun K hK=>?_)
                go_simp
                first
                 | (refine hK _ ?_;clear hK K)
                 | (apply Exists.intro
                    refine ⟨fun w__ hx__=>?_,hK _ ?_⟩
                    · have g0__:=Ext.some hx__ g0;have g1__:=Ext.some hx__ g1;first | exact rfl | (go_simp;done) | (go_simp;exact rfl) | (go_at_call 82;exact ext_of hx__ (ownersOf_any (S:=S) (S':=S) (l.take 0) (nth l 0).label _ _ _ (HT.out.ext (X1.out.trans hx__)) (rel_Label HL.out)))
                    clear hK K)))
              refine wpQuiet_nil ?_
              intro w1 hx1
              go_wp2_with fail
              go_roundw
              case rel=>exact ⟨1,by omega,by go_num,all_succ HA.out (useAt_all hl hm hu (by exact useAfter_zero l) HN.out),X1.out.trans hx1⟩
              case measure=>simp only [intOf];(try simp);(try omega)
        · have HF:Hid (usesRight l=false):=Lib.hid (usesRight_false hlt (useAt_bad (by simp [useOk,hu])))
          simp only [Bool.not_eq_true] at hu
          go_wp2_with fail
          obtain ⟨W,B,hW__,hB__,hxW,hbox__⟩:=box_new wr #[.int .i64 (nth l k).label.level,.int .i64 (nth l k).label.set,.string (nth l k).owner,.int .i64 (nth l k).used] 75
          rw [← hW__,← hB__]
          have e0:=hbox__ 0 _ rfl
          have e1:=hbox__ 1 _ rfl
          have e2:=hbox__ 2 _ rfl
          have e3:=hbox__ 3 _ rfl
          clear hW__ hB__ hbox__
          refine wp_region_ext (by kernel_rfl) (by kernel_rfl) ?_
          repeat (
           (refine wpQuiet_step (fun K hK=>?_)
            go_simp
            first
             | (refine hK _ ?_;clear hK K)
             | (apply Exists.intro
                refine ⟨fun w__ hx__=>?_,hK _ ?_⟩
                · have e0__:=Ext.some hx__ e0;have e1__:=Ext.some hx__ e1;have e2__:=Ext.some hx__ e2;have e3__:=Ext.some hx__ e3;first | exact rfl | (go_simp;done) | (go_simp;exact rfl) | (go_at_call 67;exact ext_of hx__ (labelRight_any (S:=S) (nth l k).label _ _ (rel_Label HL.out))) | (go_at_call 65;exact ext_of_same hx__ (nameRight_any _ _ HS.out)) | (go_at_call 30;exact ext_of_same hx__ (within_any _ _ _ _))
                clear hK K)))
          refine wpQuiet_nil ?_
          intro w1 hx1
          go_wp2_with fail
          go_ret
          exact ⟨ret_bool HF.out.symm,HX.out.trans (hxW.trans hx1)⟩
      · have HF:Hid (usesRight l=false):=Lib.hid (usesRight_false hlt (useAt_bad (by simp [useOk,hm])))
        simp only [Bool.not_eq_true] at hm
        go_wp2_with fail
        obtain ⟨W,B,hW__,hB__,hxW,hbox__⟩:=box_new wr #[.int .i64 (nth l k).label.level,.int .i64 (nth l k).label.set,.string (nth l k).owner,.int .i64 (nth l k).used] 75
        rw [← hW__,← hB__]
        have e0:=hbox__ 0 _ rfl
        have e1:=hbox__ 1 _ rfl
        have e2:=hbox__ 2 _ rfl
        have e3:=hbox__ 3 _ rfl
        clear hW__ hB__ hbox__
        refine wp_region_ext (by kernel_rfl) (by kernel_rfl) ?_
        repeat (
         (refine wpQuiet_step (fun K hK=>?_)
          go_simp
          first
           | (refine hK _ ?_;clear hK K)
           | (apply Exists.intro
              refine ⟨fun w__ hx__=>?_,hK _ ?_⟩
              · have e0__:=Ext.some hx__ e0;have e1__:=Ext.some hx__ e1;have e2__:=Ext.some hx__ e2;have e3__:=Ext.some hx__ e3;first | exact rfl | (go_simp;done) | (go_simp;exact rfl) | (go_at_call 67;exact ext_of hx__ (labelRight_any (S:=S) (nth l k).label _ _ (rel_Label HL.out))) | (go_at_call 65;exact ext_of_same hx__ (nameRight_any _ _ HS.out)) | (go_at_call 30;exact ext_of_same hx__ (within_any _ _ _ _))
              clear hK K)))
        refine wpQuiet_nil ?_
        intro w1 hx1
        go_wp2_with fail
        go_ret
        exact ⟨ret_bool HF.out.symm,HX.out.trans (hxW.trans hx1)⟩
    · have HF:Hid (usesRight l=false):=Lib.hid (usesRight_false hlt (useAt_bad (by simp [useOk,hl])))
      simp only [Bool.not_eq_true] at hl
      go_wp2_with fail
      obtain ⟨W,B,hW__,hB__,hxW,hbox__⟩:=box_new wr #[.int .i64 (nth l k).label.level,.int .i64 (nth l k).label.set,.string (nth l k).owner,.int .i64 (nth l k).used] 75
      rw [← hW__,← hB__]
      have e0:=hbox__ 0 _ rfl
      have e1:=hbox__ 1 _ rfl
      have e2:=hbox__ 2 _ rfl
      have e3:=hbox__ 3 _ rfl
      clear hW__ hB__ hbox__
      refine wp_region_ext (by kernel_rfl) (by kernel_rfl) ?_
      repeat (
       (refine wpQuiet_step (fun K hK=>?_)
        go_simp
        first
         | (refine hK _ ?_;clear hK K)
         | (apply Exists.intro
            refine ⟨fun w__ hx__=>?_,hK _ ?_⟩
            · have e0__:=Ext.some hx__ e0;have e1__:=Ext.some hx__ e1;have e2__:=Ext.some hx__ e2;have e3__:=Ext.some hx__ e3;first | exact rfl | (go_simp;done) | (go_simp;exact rfl) | (go_at_call 67;exact ext_of hx__ (labelRight_any (S:=S) (nth l k).label _ _ (rel_Label HL.out))) | (go_at_call 65;exact ext_of_same hx__ (nameRight_any _ _ HS.out)) | (go_at_call 30;exact ext_of_same hx__ (within_any _ _ _ _))
            clear hK K)))
      refine wpQuiet_nil ?_
      intro w1 hx1
      go_wp2_with fail
      go_ret
      exact ⟨ret_bool HF.out.symm,HX.out.trans (hxW.trans hx1)⟩
  · have HF:Hid (usesRight l=decide (l.length≤48)):=Lib.hid (usesRight_of fun i hi=>HA.out i (by omega))
    go_wp2_with fail
    go_ret
    exact ⟨ret_bool (by rw [HF.out];simp;omega),HX.out⟩
end Go.Proofs.YtoblacfjmcpbmaaGreat

/- GR-TEXT. Walks of other texts once more: memory grew by draws and new blocks alone. Printed by wip/gr.py. GR-TEXT. The walk of UseOf once more: memory grew by draws and new blocks alone. Printed by wip/gr.py. GR-TEXT. The closures of taskOrder: the rank of a task, the comparison of two. -/
import Derived.Test.YtoblacfjmcpbmaaGreatOrdY
import Derived.Deep.RegionHeld3
set_option maxHeartbeats 16000000
set_option maxRecDepth 100000
namespace Go.Proofs.YtoblacfjmcpbmaaGreat
open Go.RowKit
attribute [local irreducible] wpQuiet
theorem labelRight_gr {S:Nat→Prop} (x:Label) (cs:List Value) (w:World) (h:ELabel.rel S w cs x) :
 Calls Tryz.prog 67 #[.agg cs.toArray] w fun e w'=>e=.returned (.bool (labelRight x))∧Gr w w':=by
 obtain ⟨rfl,hi⟩:=h
 clear hi
 simp only [cellsLabel]
 go_enter Tryz.func67,Tryz.ntmps67
 go_wp2_with (go_at_call 30;refine (within_any _ _ _ _).mono ?_;rintro e w' ⟨rfl,rfl⟩)
 all_goals (go_ret;exact ⟨ret_bool (by simp_all [labelRight]),(Gr.refl _).alloc _⟩)
theorem ownersOf_gr {S S':Nat→Prop} (l:List Use) (a:Label) (v:Value) (cs:List Value) (w:World) (h:Rd EUse S w v l) (g:ELabel.rel S' w cs a) :
 Calls Tryz.prog 82 #[v,.agg cs.toArray] w fun e w'=>e=.returned (.int .i64 (ownersOf l a))∧Gr w w':=by
 obtain ⟨rfl,hi⟩:=g
 clear hi
 obtain ⟨A,c,rfl,h1,h2,hk⟩:=h.open_
 unfold maxLen at h2
 have HK:=Lib.hid hk
 clear hk h
 simp only [cellsLabel]
 go_enter Tryz.func82,Tryz.ntmps82
 go_wp2_with fail
 obtain ⟨W,B,hW__,hB__,hxW,hbox__⟩:=box_new_gr w #[.int .i64 a.level,.int .i64 a.set] 24
 rw [← hW__,← hB__]
 have b0:=hbox__ 0 _ rfl
 have b1:=hbox__ 1 _ rfl
 clear hW__ hB__ hbox__
 have HB0:=Lib.hid b0
 have HB1:=Lib.hid b1
 have HW:=Lib.hid hxW
 clear b0 b1 hxW
 go_loopw [5,10] (fun n i w'=>∃ k:Nat,k≤l.length∧i=.int .i64 k∧n=.int .i64 (ownersOf (l.take k) a)∧Gr W w') (fun _ i _=>l.length - (intOf i).toNat)
 case atStart=>exact ⟨0,by omega,rfl,rfl,Gr.refl _⟩
 case round =>
  obtain ⟨k,hk1,rfl,rfl,hx⟩:=hrel
  have HX:=Lib.hid hx
  by_cases hlt:k < l.length
  · obtain ⟨b,o,cs,rfl,_,⟨rfl,_⟩,hc⟩:=HK.out k hlt
    have hxx:=HW.out.trans hx
    have c0:=Gr.some hxx (hc 0 _ rfl)
    have c1:=Gr.some hxx (hc 1 _ rfl)
    have c2:=Gr.some hxx (hc 2 _ rfl)
    have c3:=Gr.some hxx (hc 3 _ rfl)
    simp only [EUse,Nat.add_zero] at c0 c1 c2 c3
    have d0:=fun o:Obj=>Gr.some (hx.alloc o) HB0.out
    have d1:=fun o:Obj=>Gr.some (hx.alloc o) HB1.out
    have hs:=ownersOf_succ (a:=a) hlt
    have hle:ownersOf (l.take k) a < 2 ^ 63 - 1:=by have:=ownersOf_le (l.take k) a;have:=List.length_take_le k l;omega
    clear hc hx hxx
    generalize hn:ownersOf (l.take k) a=n at *
    have HN:=Lib.hid hn
    clear hn
    by_cases e0:(nth l k).label.level=a.level
    · by_cases e1:(nth l k).label.set=a.set
      · rw [if_pos (Label.ext e0 e1)] at hs
        have HS:=Lib.hid hs
        clear hs
        go_wp2_with fail
        go_roundw
        case rel=>exact ⟨k+1,by omega,by go_num,by rw [HS.out];go_num,((HX.out.alloc _))⟩
        case measure=>simp [intOf];omega
      · rw [if_neg (fun e=>e1 (congrArg Label.set e))] at hs
        have HS:=Lib.hid hs
        clear hs
        go_wp2_with fail
        go_roundw
        case rel=>exact ⟨k+1,by omega,by go_num,by rw [HS.out];go_num,((HX.out.alloc _))⟩
        case measure=>simp [intOf];omega
    · rw [if_neg (fun e=>e0 (congrArg Label.level e))] at hs
      have HS:=Lib.hid hs
      clear hs
      go_wp2_with fail
      go_roundw
      case rel=>exact ⟨k+1,by omega,by go_num,by rw [HS.out];go_num,((HX.out.alloc _))⟩
      case measure=>simp [intOf];omega
  · have he:k=l.length:=by omega
    subst he
    go_wp2_with fail
    go_ret
    exact ⟨ret_int (by rw [List.take_length]),HW.out.trans HX.out⟩
theorem usesRight_gr {S:Nat→Prop} (l:List Use) (v:Value) (w:World) (h:Rd EUse S w v l) :
 Calls Tryz.prog 34 #[v] w fun e w'=>e=.returned (.bool (usesRight l))∧Gr w w':=by
 have HR:=Lib.hid h
 obtain ⟨A,c,rfl,h1,h2,hk⟩:=h.open_
 unfold maxLen at h2
 have HK:=Lib.hid hk
 clear hk h
 go_enter Tryz.func34,Tryz.ntmps34
 go_wp2_with fail
 go_loopw [7] (fun i w'=>∃ k:Nat,k≤l.length∧i=.int .i64 k∧(∀ j,j < k→useAt l j=true)∧Gr w w') (fun i _=>l.length - (intOf i).toNat)
 case atStart=>exact ⟨0,by omega,rfl,fun j hj=>by omega,Gr.refl _⟩
 case round =>
  obtain ⟨k,hk1,rfl,hall,hx⟩:=hrel
  have HA:=Lib.hid hall
  have HX:=Lib.hid hx
  clear hall
  by_cases hlt:k < l.length
  · obtain ⟨b,o,cs,rfl,_,⟨rfl,hfit⟩,hc⟩:=HK.out k hlt
    have HL:Hid (FitLabel (nth l k).label):=Lib.hid ⟨hfit.1,hfit.2.1⟩
    have HS:Hid (Str (nth l k).owner):=Lib.hid hfit.2.2.1
    have HF0:=Lib.hid hfit
    have c0:=Gr.some hx (hc 0 _ rfl)
    have c1:=Gr.some hx (hc 1 _ rfl)
    have c2:=Gr.some hx (hc 2 _ rfl)
    have c3:=Gr.some hx (hc 3 _ rfl)
    simp only [EUse,Nat.add_zero] at c0 c1 c2 c3
    have HT:=Lib.hid (Rd.take HR.out (Nat.le_of_lt hlt))
    clear hc hfit
    by_cases hl:labelRight (nth l k).label=true
    · by_cases hm:nameRight (nth l k).owner=true
      · by_cases hu:isB (nth l k).used 1 100000=true
        · by_cases h0:0 < k
          · obtain ⟨m,rfl⟩:∃ m,k=m+1:=⟨k - 1,by omega⟩
            obtain ⟨b',o',cs',hbo,_,⟨rfl,hfit1⟩,hd⟩:=HK.out m (by omega)
            cases hbo
            have HF1:=Lib.hid hfit1
            have d0:=Gr.some hx (hd 0 _ rfl)
            have d1:=Gr.some hx (hd 1 _ rfl)
            have d2:=Gr.some hx (hd 2 _ rfl)
            have d3:=Gr.some hx (hd 3 _ rfl)
            simp only [EUse,Nat.add_zero] at d0 d1 d2 d3
            clear hd hfit1
            have i0:(0:Int)≤(m:Int)+1:=by omega
            have i1:(m:Int)+1 < (l.length:Int):=by omega
            have i2:((m:Int)+1).toNat=m+1:=by omega
            have i3:IntKind.i64.wrap (m:Int)=(m:Int):=IntWalk.i64_in _ (by omega)
            have i4:m < l.length:=by omega
            have i5:(m:Int)+1≤(c:Int):=by omega
            have i6:m+1≤c:=by omega
            by_cases hle:cmpUses (nth l m) (nth l (m+1)) < 0
            · have hle':¬ 0≤cmpUses (nth l m) (nth l (m+1)):=by omega
              by_cases hn:ownersOf (l.take (m+1)) (nth l (m+1)).label=6
              · have HF:Hid (usesRight l=false):=Lib.hid (usesRight_false hlt (useAt_many hn))
                go_wp2_with fail
                obtain ⟨W,B,hW__,hB__,hxW,hbox__⟩:=box_new_gr wr #[.int .i64 (nth l (m+1)).label.level,.int .i64 (nth l (m+1)).label.set,.string (nth l (m+1)).owner,.int .i64 (nth l (m+1)).used] 75
                rw [← hW__,← hB__]
                have e0:=hbox__ 0 _ rfl
                have e1:=hbox__ 1 _ rfl
                have e2:=hbox__ 2 _ rfl
                have e3:=hbox__ 3 _ rfl
                clear hW__ hB__ hbox__
                have d0':=Gr.some hxW d0
                have d1':=Gr.some hxW d1
                have d2':=Gr.some hxW d2
                have d3':=Gr.some hxW d3
                refine wp_region_gr (by kernel_rfl) (by kernel_rfl) ?_
                repeat (
                 (refine wpQuiet_step (fun K hK=>?_)
                  go_simp
                  first
                   | (refine hK _ ?_;clear hK K)
                   | (apply Exists.intro
                      refine ⟨fun w__ hx__=>?_,hK _ ?_⟩
                      · have e0__:=Gr.some hx__ e0;have e1__:=Gr.some hx__ e1;have e2__:=Gr.some hx__ e2;have e3__:=Gr.some hx__ e3;have d0'__:=Gr.some hx__ d0';have d1'__:=Gr.some hx__ d1';have d2'__:=Gr.some hx__ d2';have d3'__:=Gr.some hx__ d3';first | exact rfl | (go_simp;done) | (go_simp;exact rfl) | (go_at_call 67;exact gr_of hx__ (labelRight_gr (S:=S) (nth l (m+1)).label _ _ (rel_Label HL.out))) | (go_at_call 65;exact gr_of_same hx__ (nameRight_any _ _ HS.out)) | (go_at_call 30;exact gr_of_same hx__ (within_any _ _ _ _)) | (go_at_call 81;exact gr_of hx__ (compareUses_gr (S:=S) (S':=S) (nth l m) (nth l (m+1)) _ _ _ (rel_Use HF1.out) (rel_Use HF0.out)))
                      clear hK K)))
                refine wpQuiet_nil ?_
                intro w1 hx1
                go_wp2_with fail
                have X1:=Lib.hid (HX.out.trans (hxW.trans hx1))
                have g0:=Gr.some hx1 e0
                have g1:=Gr.some hx1 e1
                clear e0 e1 e2 e3 hx1 hxW d0' d1' d2' d3'
                rename World=>V
                refine wp_region_gr (by kernel_rfl) (by kernel_rfl) ?_
                repeat (
                 (refine wpQuiet_step (fun K hK=>?_)
                  go_simp
                  first
                   | (refine hK _ ?_;clear hK K)
                   | (apply Exists.intro
                      refine ⟨fun w__ hx__=>?_,hK _ ?_⟩
                      · have g0__:=Gr.some hx__ g0;have g1__:=Gr.some hx__ g1;first | exact rfl | (go_simp;done) | (go_simp;exact rfl) | (go_at_call 82;exact gr_of hx__ (ownersOf_gr (S:=S) (S':=S) (l.take (m+1)) (nth l (m+1)).label _ _ _ (HT.out.ext (X1.out.trans hx__)) (rel_Label HL.out)))
                      clear hK K)))
                refine wpQuiet_nil ?_
                intro w1 hx1
                go_wp2_with fail
                go_ret
                exact ⟨ret_bool HF.out.symm,X1.out.trans hx1⟩
              · have HN:=Lib.hid hn
                have hn2:¬ ((ownersOf (l.take (m+1)) (nth l (m+1)).label:Nat):Int)=6:=by omega
                clear hn
                go_wp2_with fail
                obtain ⟨W,B,hW__,hB__,hxW,hbox__⟩:=box_new_gr wr #[.int .i64 (nth l (m+1)).label.level,.int .i64 (nth l (m+1)).label.set,.string (nth l (m+1)).owner,.int .i64 (nth l (m+1)).used] 75
                rw [← hW__,← hB__]
                have e0:=hbox__ 0 _ rfl
                have e1:=hbox__ 1 _ rfl
                have e2:=hbox__ 2 _ rfl
                have e3:=hbox__ 3 _ rfl
                clear hW__ hB__ hbox__
                have d0':=Gr.some hxW d0
                have d1':=Gr.some hxW d1
                have d2':=Gr.some hxW d2
                have d3':=Gr.some hxW d3
                refine wp_region_gr (by kernel_rfl) (by kernel_rfl) ?_
                repeat (
                 (refine wpQuiet_step (fun K hK=>?_)
                  go_simp
                  first
                   | (refine hK _ ?_;clear hK K)
                   | (apply Exists.intro
                      refine ⟨fun w__ hx__=>?_,hK _ ?_⟩
                      · have e0__:=Gr.some hx__ e0;have e1__:=Gr.some hx__ e1;have e2__:=Gr.some hx__ e2;have e3__:=Gr.some hx__ e3;have d0'__:=Gr.some hx__ d0';have d1'__:=Gr.some hx__ d1';have d2'__:=Gr.some hx__ d2';have d3'__:=Gr.some hx__ d3';first | exact rfl | (go_simp;done) | (go_simp;exact rfl) | (go_at_call 67;exact gr_of hx__ (labelRight_gr (S:=S) (nth l (m+1)).label _ _ (rel_Label HL.out))) | (go_at_call 65;exact gr_of_same hx__ (nameRight_any _ _ HS.out)) | (go_at_call 30;exact gr_of_same hx__ (within_any _ _ _ _)) | (go_at_call 81;exact gr_of hx__ (compareUses_gr (S:=S) (S':=S) (nth l m) (nth l (m+1)) _ _ _ (rel_Use HF1.out) (rel_Use HF0.out)))
                      clear hK K)))
                refine wpQuiet_nil ?_
                intro w1 hx1
                go_wp2_with fail
                have X1:=Lib.hid (HX.out.trans (hxW.trans hx1))
                have g0:=Gr.some hx1 e0
                have g1:=Gr.some hx1 e1
                clear e0 e1 e2 e3 hx1 hxW d0' d1' d2' d3'
                rename World=>V
                refine wp_region_gr (by kernel_rfl) (by kernel_rfl) ?_
                repeat (
                 (refine wpQuiet_step (fun K hK=>?_)
                  go_simp
                  first
                   | (refine hK _ ?_;clear hK K)
                   | (apply Exists.intro
                      refine ⟨fun w__ hx__=>?_,hK _ ?_⟩
                      · have g0__:=Gr.some hx__ g0;have g1__:=Gr.some hx__ g1;first | exact rfl | (go_simp;done) | (go_simp;exact rfl) | (go_at_call 82;exact gr_of hx__ (ownersOf_gr (S:=S) (S':=S) (l.take (m+1)) (nth l (m+1)).label _ _ _ (HT.out.ext (X1.out.trans hx__)) (rel_Label HL.out)))
                      clear hK K)))
                refine wpQuiet_nil ?_
                intro w1 hx1
                go_wp2_with fail
                go_roundw
                case rel=>exact ⟨m+2,by omega,by go_num,all_succ HA.out (useAt_all hl hm hu (by rw [useAfter_succ];exact decide_eq_true hle) HN.out),X1.out.trans hx1⟩
                case measure=>simp only [intOf];(try simp);(try omega)
            · have hgt:0≤cmpUses (nth l m) (nth l (m+1)):=by omega
              have HF:Hid (usesRight l=false):=Lib.hid (usesRight_false hlt (useAt_after (by rw [useAfter_succ];exact decide_eq_false hle)))
              clear hle
              go_wp2_with fail
              obtain ⟨W,B,hW__,hB__,hxW,hbox__⟩:=box_new_gr wr #[.int .i64 (nth l (m+1)).label.level,.int .i64 (nth l (m+1)).label.set,.string (nth l (m+1)).owner,.int .i64 (nth l (m+1)).used] 75
              rw [← hW__,← hB__]
              have e0:=hbox__ 0 _ rfl
              have e1:=hbox__ 1 _ rfl
              have e2:=hbox__ 2 _ rfl
              have e3:=hbox__ 3 _ rfl
              clear hW__ hB__ hbox__
              have d0':=Gr.some hxW d0
              have d1':=Gr.some hxW d1
              have d2':=Gr.some hxW d2
              have d3':=Gr.some hxW d3
              refine wp_region_gr (by kernel_rfl) (by kernel_rfl) ?_
              repeat (
               (refine wpQuiet_step (fun K hK=>?_)
                go_simp
                first
                 | (refine hK _ ?_;clear hK K)
                 | (apply Exists.intro
                    refine ⟨fun w__ hx__=>?_,hK _ ?_⟩
                    · have e0__:=Gr.some hx__ e0;have e1__:=Gr.some hx__ e1;have e2__:=Gr.some hx__ e2;have e3__:=Gr.some hx__ e3;have d0'__:=Gr.some hx__ d0';have d1'__:=Gr.some hx__ d1';have d2'__:=Gr.some hx__ d2';have d3'__:=Gr.some hx__ d3';first | exact rfl | (go_simp;done) | (go_simp;exact rfl) | (go_at_call 67;exact gr_of hx__ (labelRight_gr (S:=S) (nth l (m+1)).label _ _ (rel_Label HL.out))) | (go_at_call 65;exact gr_of_same hx__ (nameRight_any _ _ HS.out)) | (go_at_call 30;exact gr_of_same hx__ (within_any _ _ _ _)) | (go_at_call 81;exact gr_of hx__ (compareUses_gr (S:=S) (S':=S) (nth l m) (nth l (m+1)) _ _ _ (rel_Use HF1.out) (rel_Use HF0.out)))
                    clear hK K)))
              refine wpQuiet_nil ?_
              intro w1 hx1
              go_wp2_with fail
              go_ret
              exact ⟨ret_bool HF.out.symm,HX.out.trans (hxW.trans hx1)⟩
          · obtain rfl:k=0:=by omega
            simp only [Nat.zero_mul,Nat.add_zero] at c0 c1 c2 c3
            have hn:ownersOf (l.take 0) (nth l 0).label≠6:=by simp [ownersOf]
            · have HN:=Lib.hid hn
              have hn2:¬ ((ownersOf (l.take 0) (nth l 0).label:Nat):Int)=6:=by omega
              clear hn
              go_wp2_with fail
              obtain ⟨W,B,hW__,hB__,hxW,hbox__⟩:=box_new_gr wr #[.int .i64 (nth l 0).label.level,.int .i64 (nth l 0).label.set,.string (nth l 0).owner,.int .i64 (nth l 0).used] 75
              rw [← hW__,← hB__]
              have e0:=hbox__ 0 _ rfl
              have e1:=hbox__ 1 _ rfl
              have e2:=hbox__ 2 _ rfl
              have e3:=hbox__ 3 _ rfl
              clear hW__ hB__ hbox__
              refine wp_region_gr (by kernel_rfl) (by kernel_rfl) ?_
              repeat (
               (refine wpQuiet_step (fun K hK=>?_)
                go_simp
                first
                 | (refine hK _ ?_;clear hK K)
                 | (apply Exists.intro
                    refine ⟨fun w__ hx__=>?_,hK _ ?_⟩
                    · have e0__:=Gr.some hx__ e0;have e1__:=Gr.some hx__ e1;have e2__:=Gr.some hx__ e2;have e3__:=Gr.some hx__ e3;first | exact rfl | (go_simp;done) | (go_simp;exact rfl) | (go_at_call 67;exact gr_of hx__ (labelRight_gr (S:=S) (nth l 0).label _ _ (rel_Label HL.out))) | (go_at_call 65;exact gr_of_same hx__ (nameRight_any _ _ HS.out)) | (go_at_call 30;exact gr_of_same hx__ (within_any _ _ _ _))
                    clear hK K)))
              refine wpQuiet_nil ?_
              intro w1 hx1
              go_wp2_with fail
              have X1:=Lib.hid (HX.out.trans (hxW.trans hx1))
              have g0:=Gr.some hx1 e0
              have g1:=Gr.some hx1 e1
              clear e0 e1 e2 e3 hx1 hxW
              rename World=>V
              refine wp_region_gr (by kernel_rfl) (by kernel_rfl) ?_
              repeat (
               (refine wpQuiet_step (fun K hK=>?_)
                go_simp
                first
                 | (refine hK _ ?_;clear hK K)
                 | (apply Exists.intro
                    refine ⟨fun w__ hx__=>?_,hK _ ?_⟩
                    · have g0__:=Gr.some hx__ g0;have g1__:=Gr.some hx__ g1;first | exact rfl | (go_simp;done) | (go_simp;exact rfl) | (go_at_call 82;exact gr_of hx__ (ownersOf_gr (S:=S) (S':=S) (l.take 0) (nth l 0).label _ _ _ (HT.out.ext (X1.out.trans hx__)) (rel_Label HL.out)))
                    clear hK K)))
              refine wpQuiet_nil ?_
              intro w1 hx1
              go_wp2_with fail
              go_roundw
              case rel=>exact ⟨1,by omega,by go_num,all_succ HA.out (useAt_all hl hm hu (by exact useAfter_zero l) HN.out),X1.out.trans hx1⟩
              case measure=>simp only [intOf];(try simp);(try omega)
        · have HF:Hid (usesRight l=false):=Lib.hid (usesRight_false hlt (useAt_bad (by simp [useOk,hu])))
          simp only [Bool.not_eq_true] at hu
          go_wp2_with fail
          obtain ⟨W,B,hW__,hB__,hxW,hbox__⟩:=box_new_gr wr #[.int .i64 (nth l k).label.level,.int .i64 (nth l k).label.set,.string (nth l k).owner,.int .i64 (nth l k).used] 75
          rw [← hW__,← hB__]
          have e0:=hbox__ 0 _ rfl
          have e1:=hbox__ 1 _ rfl
          have e2:=hbox__ 2 _ rfl
          have e3:=hbox__ 3 _ rfl
          clear hW__ hB__ hbox__
          refine wp_region_gr (by kernel_rfl) (by kernel_rfl) ?_
          repeat (
           (refine wpQuiet_step (fun K hK=>?_)
            go_simp
            first
             | (refine hK _ ?_;clear hK K)
             | (apply Exists.intro
                refine ⟨fun w__ hx__=>?_,hK _ ?_⟩
                · have e0__:=Gr.some hx__ e0;have e1__:=Gr.some hx__ e1;have e2__:=Gr.some hx__ e2;have e3__:=Gr.some hx__ e3;first | exact rfl | (go_simp;done) | (go_simp;exact rfl) | (go_at_call 67;exact gr_of hx__ (labelRight_gr (S:=S) (nth l k).label _ _ (rel_Label HL.out))) | (go_at_call 65;exact gr_of_same hx__ (nameRight_any _ _ HS.out)) | (go_at_call 30;exact gr_of_same hx__ (within_any _ _ _ _))
                clear hK K)))
          refine wpQuiet_nil ?_
          intro w1 hx1
          go_wp2_with fail
          go_ret
          exact ⟨ret_bool HF.out.symm,HX.out.trans (hxW.trans hx1)⟩
      · have HF:Hid (usesRight l=false):=Lib.hid (usesRight_false hlt (useAt_bad (by simp [useOk,hm])))
        simp only [Bool.not_eq_true] at hm
        go_wp2_with fail
        obtain ⟨W,B,hW__,hB__,hxW,hbox__⟩:=box_new_gr wr #[.int .i64 (nth l k).label.level,.int .i64 (nth l k).label.set,.string (nth l k).owner,.int .i64 (nth l k).used] 75
        rw [← hW__,← hB__]
        have e0:=hbox__ 0 _ rfl
        have e1:=hbox__ 1 _ rfl
        have e2:=hbox__ 2 _ rfl
        have e3:=hbox__ 3 _ rfl
        clear hW__ hB__ hbox__
        refine wp_region_gr (by kernel_rfl) (by kernel_rfl) ?_
        repeat (
         (refine wpQuiet_step (fun K hK=>?_)
          go_simp
          first
           | (refine hK _ ?_;clear hK K)
           | (apply Exists.intro
              refine ⟨fun w__ hx__=>?_,hK _ ?_⟩
              · have e0__:=Gr.some hx__ e0;have e1__:=Gr.some hx__ e1;have e2__:=Gr.some hx__ e2;have e3__:=Gr.some hx__ e3;first | exact rfl | (go_simp;done) | (go_simp;exact rfl) | (go_at_call 67;exact gr_of hx__ (labelRight_gr (S:=S) (nth l k).label _ _ (rel_Label HL.out))) | (go_at_call 65;exact gr_of_same hx__ (nameRight_any _ _ HS.out)) | (go_at_call 30;exact gr_of_same hx__ (within_any _ _ _ _))
              clear hK K)))
        refine wpQuiet_nil ?_
        intro w1 hx1
        go_wp2_with fail
        go_ret
        exact ⟨ret_bool HF.out.symm,HX.out.trans (hxW.trans hx1)⟩
    · have HF:Hid (usesRight l=false):=Lib.hid (usesRight_false hlt (useAt_bad (by simp [useOk,hl])))
      simp only [Bool.not_eq_true] at hl
      go_wp2_with fail
      obtain ⟨W,B,hW__,hB__,hxW,hbox__⟩:=box_new_gr wr #[.int .i64 (nth l k).label.level,.int .i64 (nth l k).label.set,.string (nth l k).owner,.int .i64 (nth l k).used] 75
      rw [← hW__,← hB__]
      have e0:=hbox__ 0 _ rfl
      have e1:=hbox__ 1 _ rfl
      have e2:=hbox__ 2 _ rfl
      have e3:=hbox__ 3 _ rfl
      clear hW__ hB__ hbox__
      refine wp_region_gr (by kernel_rfl) (by kernel_rfl) ?_
      repeat (
       (refine wpQuiet_step (fun K hK=>?_)
        go_simp
        first
         | (refine hK _ ?_;clear hK K)
         | (apply Exists.intro
            refine ⟨fun w__ hx__=>?_,hK _ ?_⟩
            · have e0__:=Gr.some hx__ e0;have e1__:=Gr.some hx__ e1;have e2__:=Gr.some hx__ e2;have e3__:=Gr.some hx__ e3;first | exact rfl | (go_simp;done) | (go_simp;exact rfl) | (go_at_call 67;exact gr_of hx__ (labelRight_gr (S:=S) (nth l k).label _ _ (rel_Label HL.out))) | (go_at_call 65;exact gr_of_same hx__ (nameRight_any _ _ HS.out)) | (go_at_call 30;exact gr_of_same hx__ (within_any _ _ _ _))
            clear hK K)))
      refine wpQuiet_nil ?_
      intro w1 hx1
      go_wp2_with fail
      go_ret
      exact ⟨ret_bool HF.out.symm,HX.out.trans (hxW.trans hx1)⟩
  · have HF:Hid (usesRight l=decide (l.length≤48)):=Lib.hid (usesRight_of fun i hi=>HA.out i (by omega))
    go_wp2_with fail
    go_ret
    exact ⟨ret_bool (by rw [HF.out];simp;omega),HX.out⟩
theorem indexFunc_Use_gr {S:Nat→Prop} (l:List Use) (p:Use→Bool) (v:Value) (f:Nat) (caps:Array Value) (w:World) (h:Rd EUse S w v l) (hcall:∀ (args:Array Value) (W:World),(callFunc f args).run Tryz.prog W=.ok (.enter f args) W)
 (hf:∀ (cs:List Value) (x:Use) (w1:World),Gr w w1→EUse.rel S w1 cs x→Calls Tryz.prog f (#[.agg cs.toArray] ++ caps) w1 fun e w'=>e=.returned (.bool (p x))∧Gr w1 w') :
 Calls Tryz.prog 79 #[v,.func (.func f) #[] caps] w fun e w'=>e=.returned (.int .i64 (idxOf p l))∧Gr w w':=by
 obtain ⟨A,c,rfl,h1,h2,hk⟩:=h.open_
 unfold maxLen at h2
 have HK:=Lib.hid hk
 have HF:=Lib.hid hf
 clear hk h hf
 go_enter Tryz.func79,Tryz.ntmps79
 go_wp2_with fail
 go_loopw [8] (fun i w'=>∃ k:Nat,k≤l.length∧i=.int .i64 k∧(∀ j,j < k→p (nth l j)=false)∧Gr w w') (fun i _=>l.length - (intOf i).toNat)
 case atStart=>exact ⟨0,by omega,rfl,fun j hj=>by omega,Gr.refl _⟩
 case round =>
  obtain ⟨k,hk1,rfl,hall,hx⟩:=hrel
  have HA:=Lib.hid hall
  have HX:=Lib.hid hx
  clear hall
  by_cases hlt:k < l.length
  · obtain ⟨b,o,cs,rfl,hb,hr,hc⟩:=HK.out k hlt
    have HR:=Lib.hid (EUse.keep (hx.same S) hr)
    have HC:=Lib.hid (hx.range hc)
    have HI:Hid ((Tryz.prog.info? 75).map (·.size)=some cs.length):=Lib.hid (by rw [EUse.len hr];kernel_rfl)
    clear hr hc hx
    by_cases hp:p (nth l k)=true
    · have HE:Hid (idxOf p l=k):=Lib.hid (idxOf_some hlt HA.out hp)
      go_wp2_with (first | (refine wpList_load_mid rfl 75 _ rfl b (o+k * 4) rfl cs _ HC.out Tryz.underlying75 rfl HI.out ?_) | ((with_reducible refine (HF.out cs (nth l k) _ HX.out HR.out).mono ?_);rintro e w1 ⟨rfl,hx1⟩;have HX1:=Lib.hid hx1;clear hx1))
      go_ret
      exact ⟨ret_int HE.out.symm,HX.out.trans HX1.out⟩
    · simp only [Bool.not_eq_true] at hp
      have HE:=Lib.hid (all_succ HA.out hp)
      go_wp2_with (first | (refine wpList_load_mid rfl 75 _ rfl b (o+k * 4) rfl cs _ HC.out Tryz.underlying75 rfl HI.out ?_) | ((with_reducible refine (HF.out cs (nth l k) _ HX.out HR.out).mono ?_);rintro e w1 ⟨rfl,hx1⟩;have HX1:=Lib.hid hx1;clear hx1))
      go_roundw
      case rel=>exact ⟨k+1,by omega,by go_num,HE.out,HX.out.trans HX1.out⟩
      case measure=>simp [intOf];omega
  · have HE:Hid (idxOf p l = -1):=Lib.hid (idxOf_none fun j hj=>HA.out j (by omega))
    go_wp2_with fail
    go_ret
    exact ⟨ret_int HE.out.symm,HX.out⟩
theorem indexFunc_Use_2_gr {S:Nat→Prop} (l:List Use) (p:Use→Bool) (v:Value) (f:Nat) (c1 c2:Value) (w:World) (h:Rd EUse S w v l) (hcall:∀ (args:Array Value) (W:World),(callFunc f args).run Tryz.prog W=.ok (.enter f args) W)
 (hf:∀ (cs:List Value) (x:Use) (w1:World),Gr w w1→EUse.rel S w1 cs x→Calls Tryz.prog f #[.agg cs.toArray,c1,c2] w1 fun e w'=>e=.returned (.bool (p x))∧Gr w1 w') :
 Calls Tryz.prog 79 #[v,.func (.func f) #[] #[c1,c2]] w fun e w'=>e=.returned (.int .i64 (idxOf p l))∧Gr w w' :=
 indexFunc_Use_gr l p v f #[c1,c2] w h hcall fun cs x w1 hx hr=>by rw [show (#[.agg cs.toArray] ++ #[c1,c2]:Array Value) = #[.agg cs.toArray,c1,c2] from rfl];exact hf cs x w1 hx hr
theorem useAt1_gr {S:Nat→Prop} (x:Use) (a:Label) (o:ByteArray) (cs:List Value) (B:Nat) (w:World) (h:EUse.rel S w cs x) (d0:w.cell? ⟨B,0,none⟩=some (.int .i64 a.level)) (d1:w.cell? ⟨B,1,none⟩=some (.int .i64 a.set)) (d2:w.cell? ⟨B+1,0,none⟩=some (.string o)) :
 Calls Tryz.prog 80 #[.agg cs.toArray,.pointer (some ⟨B,0,none⟩),.pointer (some ⟨B+1,0,none⟩)] w fun e w'=>e=.returned (.bool (isUse a o x))∧Gr w w':=by
 obtain ⟨rfl,hi⟩:=h
 clear hi
 have d0':=fun ob:Obj=>Gr.some ((Gr.refl w).alloc ob) d0
 have d1':=fun ob:Obj=>Gr.some ((Gr.refl w).alloc ob) d1
 have d2':=fun ob:Obj=>Gr.some ((Gr.refl w).alloc ob) d2
 have ite__:=@ite_ok
 simp only [cellsUse]
 go_enter Tryz.func80,Tryz.ntmps80
 go_wp2_with fail
 all_goals (go_ret;exact ⟨ret_bool (by rw [isUse_iff];simp [*] <;> (rw [Bool.eq_iff_iff];simp)),(Gr.refl _).alloc _⟩)
theorem useAt_gr {S:Nat→Prop} (l:List Use) (a:Label) (o:ByteArray) (v:Value) (w:World) (h:Rd EUse S w v l) :
 Calls Tryz.prog 33 #[v,.agg #[.int .i64 a.level,.int .i64 a.set],.string o] w fun e w'=>e=.returned (.int .i64 (useIx l a o))∧Gr w w':=by
 have HR:=Lib.hid h
 clear h
 go_enter Tryz.func33,Tryz.ntmps33
 go_wp2_with fail
 obtain ⟨W,B,hW,hB,hx0,a0,b0⟩:=boxes2_gr w #[.int .i64 a.level,.int .i64 a.set] #[.string o] 24 9
 rw [← hW,← hB]
 clear hW hB
 refine (indexFunc_Use_2_gr l (isUse a o) v _ _ _ _ (HR.out.ext hx0) call_useAt1 (fun cs x w1 hx hr=>useAt1_gr x a o cs B w1 hr ((a0.ext hx).cell 0) ((a0.ext hx).cell 1) ((b0.ext hx).cell 0))).mono ?_
 rintro e w1 ⟨rfl,hx1⟩
 clear a0 b0
 have HX:=Lib.hid (hx0.trans hx1)
 clear hx0 hx1
 go_wp2_with fail
 go_ret
 exact ⟨rfl,HX.out⟩
end Go.Proofs.YtoblacfjmcpbmaaGreat
namespace Go.Proofs.YtoblacfjmcpbmaaGreat
open Go.RowKit
attribute [local irreducible] wpQuiet
theorem useOfI_gr {S:Nat→Prop} (l:List Use) (a:Label) (o:ByteArray) (v:Value) (w:World) (h:Rd EUse S w v l) :
 Calls Tryz.prog 10 #[v,.agg #[.int .i64 a.level,.int .i64 a.set],.string o] w fun e w'=>e=.returned (.int .i64 (useOf l a o))∧Gr w w':=by
 have HR:=Lib.hid h
 obtain ⟨A,c,rfl,h1,h2,hk⟩:=h.open_
 unfold maxLen at h2
 have HK:=Lib.hid hk
 clear hk h
 by_cases hu:usesRight l=true
 · rcases idxOf_cases (isUse a o) l with ⟨hi,hn⟩ | ⟨k,hlt,hi,hp,hn⟩
   · have HI:Hid (useIx l a o = -1):=Lib.hid hi
     have HE:=Lib.hid (useOf_none (a:=a) (o:=o) hn)
     clear hi hn
     go_enter Tryz.func10,Tryz.ntmps10
     go_wp2_with (first | (go_at_call 33;refine (useAt_gr (S:=S) l a o _ _ (HR.out.ext ((Gr.refl _).alloc _).ext)).mono ?_;rintro e w1 ⟨rfl,hx1⟩;rw [HI.out];have HX1:=Lib.hid (((Gr.refl w).alloc _).trans hx1);clear hx1) | (go_at_call 34;refine (usesRight_gr (S:=S) l _ _ (HR.out.ext HX1.out.ext)).mono ?_;rintro e w2 ⟨rfl,hx2⟩))
     go_ret
     exact ⟨ret_int HE.out.symm,HX1.out.trans hx2⟩
   · have HI:Hid (useIx l a o=k):=Lib.hid hi
     have HE:=Lib.hid (useOf_some (short_of hu hlt hp) hu hlt hn hp)
     clear hi hn hp
     obtain ⟨b,q,cs,rfl,_,⟨rfl,hfit⟩,hc⟩:=HK.out k hlt
     have HC:=Lib.hid (hc 3 _ rfl)
     clear hc hfit
     go_enter Tryz.func10,Tryz.ntmps10
     go_wp2_with (first | (go_at_call 33;refine (useAt_gr (S:=S) l a o _ _ (HR.out.ext ((Gr.refl _).alloc _).ext)).mono ?_;rintro e w1 ⟨rfl,hx1⟩;rw [HI.out];have HX1:=Lib.hid (((Gr.refl w).alloc _).trans hx1);clear hx1) | (go_at_call 34;refine (usesRight_gr (S:=S) l _ _ (HR.out.ext HX1.out.ext)).mono ?_;rintro e w2 ⟨rfl,hx2⟩;have c3:=Gr.some (HX1.out.trans hx2) HC.out;simp only [EUse] at c3))
     go_ret
     exact ⟨ret_int HE.out.symm,HX1.out.trans hx2⟩
 · have HE:Hid (useOf l a o=0):=Lib.hid (by unfold useOf;rw [if_neg (fun h=>hu h.2)])
   simp only [Bool.not_eq_true] at hu
   go_enter Tryz.func10,Tryz.ntmps10
   go_wp2_with (first | (go_at_call 33;refine (useAt_gr (S:=S) l a o _ _ (HR.out.ext ((Gr.refl _).alloc _).ext)).mono ?_;rintro e w1 ⟨rfl,hx1⟩;have HX1:=Lib.hid (((Gr.refl w).alloc _).trans hx1);clear hx1) | (go_at_call 34;refine (usesRight_gr (S:=S) l _ _ (HR.out.ext HX1.out.ext)).mono ?_;rintro e w2 ⟨rfl,hx2⟩))
   go_ret
   exact ⟨ret_int HE.out.symm,HX1.out.trans hx2⟩
end Go.Proofs.YtoblacfjmcpbmaaGreat
namespace Go.Proofs.YtoblacfjmcpbmaaGreat
open Go.RowKit
attribute [local irreducible] wpQuiet
theorem call_order2:∀ (args:Array Value) (W:World),(callFunc 87 args).run Tryz.prog W=.ok (.enter 87 args) W:=by
 intro args W
 go_simp
theorem rank1_gr {S:Nat→Prop} (y:Yard) (x:Task) (A A6:Option Addr) (n c c6 Y:Nat) (w:World) (hb:0≤x.born∧x.born≤1000000) (hn:0≤y.now∧y.now≤1000000)
 (e6:w.cell? ⟨Y,6,none⟩=some (.slice A6 y.uses.length c6)) (e7:w.cell? ⟨Y,7,none⟩=some (.int .i64 y.now)) (hu:Rd EUse S w (.slice A6 y.uses.length c6) y.uses) :
 Calls Tryz.prog 84 #[.agg (cellsTask x (.slice A n c)).toArray,.pointer (some ⟨Y,0,none⟩)] w fun e w'=>e=.returned (.int .i64 (rankT y x))∧Gr w w':=by
 have HU:=Lib.hid hu
 have hw:IntKind.i64.wrap (y.now - x.born)=y.now - x.born:=IntWalk.i64_in _ (by omega)
 clear hb hn hu
 simp only [cellsTask]
 go_enter Tryz.func84,Tryz.ntmps84
 go_wp2_with fail
 obtain ⟨W,B,hW__,hB__,hxW,hbox__⟩:=box_new_gr w #[.int .i64 x.label.level,.int .i64 x.label.set,.int .i64 x.id,.string x.owner,.int .i64 x.need,.int .i64 x.long,.int .i64 x.prio,.int .i64 x.under.level,.int .i64 x.under.set,.int .i64 x.after,.int .i64 x.born,.int .i64 x.state,.int .i64 x.start,.slice A n c] 46
 rw [← hW__,← hB__]
 have b0:=hbox__ 0 _ rfl
 have b1:=hbox__ 1 _ rfl
 have b3:=hbox__ 3 _ rfl
 have b6:=hbox__ 6 _ rfl
 have b10:=hbox__ 10 _ rfl
 clear hW__ hB__ hbox__
 have g6:=Gr.some hxW e6
 have g7:=Gr.some hxW e7
 have HX:=Lib.hid hxW
 have HUO:Hid (∀ V,Gr W V→Calls Tryz.prog 10 #[.slice A6 y.uses.length c6,.agg #[.int .i64 x.label.level,.int .i64 x.label.set],.string x.owner] V fun e w'=>e=.returned (.int .i64 (useOf y.uses x.label x.owner))∧Gr V w'):=Lib.hid fun V hV=>useOfI_gr (S:=S) y.uses x.label x.owner _ _ (HU.out.ext (HX.out.trans hV))
 clear e6 e7 hxW
 refine wp_region_gr (by kernel_rfl) (by kernel_rfl) ?_
 repeat (
  (refine wpQuiet_step (fun K hK=>?_)
   go_simp
   first
    | (refine hK _ ?_;clear hK K)
    | (apply Exists.intro
       refine ⟨fun w__ hx__=>?_,hK _ ?_⟩
       · have b0__:=Gr.some hx__ b0;have b1__:=Gr.some hx__ b1;have b3__:=Gr.some hx__ b3;have b6__:=Gr.some hx__ b6;have b10__:=Gr.some hx__ b10;have g6__:=Gr.some hx__ g6;have g7__:=Gr.some hx__ g7;first | exact rfl | (go_simp;done) | (go_simp;exact rfl) | (go_at_call 10;exact gr_of hx__ (HUO.out _ hx__)) | (go_at_call 85;exact gr_of_same hx__ (rank_any _ _ _ _))
       clear hK K)))
 refine wpQuiet_nil ?_
 intro w1 hx1
 have H1:=Lib.hid hx1
 clear b0 b1 b3 b6 b10 g6 g7 hx1
 go_wp2_with fail
 go_ret
 exact ⟨ret_int rfl,HX.out.trans H1.out⟩
theorem rd_three (w:World) (a b c:Int) (T:TypeId) (ha:I64 a) (hb:I64 b) (hc:I64 c):Rd EInt (fun _=>True) (w.alloc (.cells #[.int .i64 a,.int .i64 b,.int .i64 c] T)) (.slice (some ⟨w.heap.size,0,none⟩) 3 3) [a,b,c]:=by
 refine ⟨_,_,rfl,Nat.le_refl _,by decide,fun k x hk=>?_⟩
 have hB:=Blk.new w T #[.int .i64 a,.int .i64 b,.int .i64 c]
 have h0:=hB.cell 0
 have h1:=hB.cell 1
 have h2:=hB.cell 2
 rcases k with _ | _ | _ | k
 · obtain rfl:a=x:=by simpa using hk
   exact ⟨_,_,_,rfl,trivial,⟨rfl,ha⟩,fun j u hj=>by
    rcases j with _ | j
    · rw [show (0+0 * EInt.size+0:Nat)=0 from rfl,h0];simpa using hj
    · simp at hj⟩
 · obtain rfl:b=x:=by simpa using hk
   exact ⟨_,_,_,rfl,trivial,⟨rfl,hb⟩,fun j u hj=>by
    rcases j with _ | j
    · rw [show (0+(0+1) * EInt.size+0:Nat)=1 from rfl,h1];simpa using hj
    · simp at hj⟩
 · obtain rfl:c=x:=by simpa using hk
   exact ⟨_,_,_,rfl,trivial,⟨rfl,hc⟩,fun j u hj=>by
    rcases j with _ | j
    · rw [show (0+(0+1+1) * EInt.size+0:Nat)=2 from rfl,h2];simpa using hj
    · simp at hj⟩
 · simp at hk
theorem cmp3_i64' (a b:Int):I64 (cmp3 a b):=by
 have:=cmp3_range a b
 unfold I64
 omega
theorem order2_gr {S:Nat→Prop} (y:Yard) (a b:Task) (A A' A6:Option Addr) (n c n' c' c6 Y C:Nat) (TC:TypeId) (w:World) (fa:FitTask a) (fb:FitTask b) (ha:0≤a.born∧a.born≤1000000) (hb:0≤b.born∧b.born≤1000000) (hn:0≤y.now∧y.now≤1000000)
 (e6:w.cell? ⟨Y,6,none⟩=some (.slice A6 y.uses.length c6)) (e7:w.cell? ⟨Y,7,none⟩=some (.int .i64 y.now)) (hu:Rd EUse S w (.slice A6 y.uses.length c6) y.uses) (hC:Blk w C TC #[.func (.func 84) #[] #[.pointer (some ⟨Y,0,none⟩)]]) :
 Calls Tryz.prog 87 #[.agg (cellsTask a (.slice A n c)).toArray,.agg (cellsTask b (.slice A' n' c')).toArray,.pointer (some ⟨C,0,none⟩)] w fun e w'=>e=.returned (.int .i64 (cmpT y a b))∧Gr w w':=by
 have HA:Hid (FitLabel a.label):=Lib.hid ⟨fa.1,fa.2.1⟩
 have HB:Hid (FitLabel b.label):=Lib.hid ⟨fb.1,fb.2.1⟩
 have HQ:Hid (∀ V,Gr w V→∀ (x:Task) (A:Option Addr) (n c:Nat),0≤x.born∧x.born≤1000000→Calls Tryz.prog 84 #[.agg (cellsTask x (.slice A n c)).toArray,.pointer (some ⟨Y,0,none⟩)] V fun e w'=>e=.returned (.int .i64 (rankT y x))∧Gr V w') :=
  Lib.hid fun V hV x A n c hx=>rank1_gr (S:=S) y x A A6 n c c6 Y V hx hn (Gr.some hV e6) (Gr.some hV e7) (hu.ext hV)
 have XA:=Lib.hid ha
 have XB:=Lib.hid hb
 clear fa fb ha hb hn e6 e7 hu
 simp only [cellsTask] at HQ ⊢
 go_enter Tryz.func87,Tryz.ntmps87
 go_upto_region 1 with (fail)
 obtain ⟨W,B,hW,hB,hx0,a0,b0⟩:=boxes2_gr w #[.int .i64 a.label.level,.int .i64 a.label.set,.int .i64 a.id,.string a.owner,.int .i64 a.need,.int .i64 a.long,.int .i64 a.prio,.int .i64 a.under.level,.int .i64 a.under.set,.int .i64 a.after,.int .i64 a.born,.int .i64 a.state,.int .i64 a.start,.slice A n c] #[.int .i64 b.label.level,.int .i64 b.label.set,.int .i64 b.id,.string b.owner,.int .i64 b.need,.int .i64 b.long,.int .i64 b.prio,.int .i64 b.under.level,.int .i64 b.under.set,.int .i64 b.after,.int .i64 b.born,.int .i64 b.state,.int .i64 b.start,.slice A' n' c'] 46 46
 rw [← hW,← hB]
 clear hW hB
 have XX:=Lib.hid hx0
 have al:∀ V,Gr W V→∀ i,V.cell? ⟨B,i,none⟩=_:=fun V hx=>(a0.ext hx).cell
 have bl:∀ V,Gr W V→∀ i,V.cell? ⟨B+1,i,none⟩=_:=fun V hx=>(b0.ext hx).cell
 have cl:∀ V,Gr W V→∀ i,V.cell? ⟨C,i,none⟩=_:=fun V hx=>(hC.ext (hx0.trans hx)).cell
 clear hx0 a0 b0 hC
 go_region_held3 (fun w'=>Gr W w') (first | exact (Gr.refl _).drew | assumption | exact Gr.alloc (by assumption) _ | exact Gr.trans (by assumption) hx9 | exact Gr.trans (by assumption) hx8 | exact Gr.trans (by assumption) hx7 | exact Gr.trans (by assumption) hx6) (first
  | (go_at_call 75;(refine (compareLabels_gr (S:=fun _=>True) (S':=fun _=>True) a.label b.label _ _ _ (rel_Label HA.out) (rel_Label HB.out)).mono ?_);rintro e w8 ⟨rfl,hx8⟩)
  | (go_at_call 84;(with_reducible refine (HQ.out _ (XX.out.trans (by assumption)) b _ _ _ XB.out).mono ?_);rintro e w7 ⟨rfl,hx7⟩)
  | (go_at_call 84;(with_reducible refine (HQ.out _ (XX.out.trans (by assumption)) a _ _ _ XA.out).mono ?_);rintro e w6 ⟨rfl,hx6⟩)
  | (go_at_call 76;refine (compare_any _ _ _).mono ?_;rintro e w1 ⟨rfl,rfl⟩)
  | (go_at_call 74;refine (or_gr [cmpLabels a.label b.label,cmp3 (rankT y b) (rankT y a),cmp3 a.id b.id] _ _ (rd_three _ _ _ _ _ (cmpLabels_i64 _ _) (cmp3_i64' _ _) (cmp3_i64' _ _))).mono ?_;rintro e w9 ⟨rfl,hx9⟩))
 all_goals
  clear al bl cl
  go_wp2_with fail
  go_ret
  exact ⟨rfl,XX.out.trans (by assumption)⟩
end Go.Proofs.YtoblacfjmcpbmaaGreat

/- The walk of the program's planLabel: its third loop. Printed by wip/plansplit.py. -/
import Derived.Test.YtoblacfjmcpbmaaGreatNavK
import Derived.Deep.CutBlock
namespace Go.Proofs.YtoblacfjmcpbmaaGreat
open Go.RowKit
attribute [local irreducible] wpQuiet
def After (K:Act→World→Prop) (R:World→Prop) (P0 V1 VL:Value):Prop :=
 ∀ (w':World),R w'→∀ (t2 t3 t5 t6 t7 t8 t9 t10 t11 t12 t13 t14 t15 t16 t17 t18 t19 t20 t21 t22 t23 t24 t25 t26 t27 t28 t29 t30 t31 t32 t33 t34 t35 t36 t37 t38 t39 t40 t41 t42 t43 t44 t45 t46 t47 t48 t49 t50 t51 t52 t53 t54 t55 t56 t57 t58 t59 t60 t61 t62 t63 t64 t65 t66 t67 t68 t69 t70 t71 t72 t73 t74 t75 t76 t77 t78 t79 t80 t81 t82 t83 t84 t85 t86 t87 t88 t89 t90 t91 t92 t93 t94 t95 t96 t97 t98 t99 t100 t101 t102 t103 t104 t105 t106 t107 t108 t109 t110 t111 t112 t113 t114 t115 t116 t117 t118 t119 t120 t121 t122 t123 t124 t125 t126 t127 t128 t129 t130 t131 t132 t133 t134 t135 t136 t137 t138 t139 t140 t141 t142 t143 t144 t145 t146 t147 t148 t149 t150 t151 t152 t153 t154 t155 t156 t157 t158 t159 t160 t161 t162 t163 t164 t165 t166 t167 t168 t169 t170 t171 t172 t173 t174 t175 t176 t177 t178 t179 t180 t181 t182 t183 t184 t185 t186 t187 t188 t189 t190 t191 t192 t193 t194 t195 t196 t197 t198 t199 t200 t201 t202 t203 t204 t205 t206 t207 t208 t209 t210 t211 t212 t213 t214 t215 t216 t217 t218 t219 t220 t221 t222 t223 t224 t225 t226 t227 t228 t229 t230 t231 t232 t233 t234 t235 t236 t237 t238 t239 t240 t241 t242 t243 t244 t245 t246 t247 t248 t249:Value),K { tmps:=#[P0,V1,t2,t3,VL,t5,t6,t7,t8,t9,t10,t11,t12,t13,t14,t15,t16,t17,t18,t19,t20,t21,t22,t23,t24,t25,t26,t27,t28,t29,t30,t31,t32,t33,t34,t35,t36,t37,t38,t39,t40,t41,t42,t43,t44,t45,t46,t47,t48,t49,t50,t51,t52,t53,t54,t55,t56,t57,t58,t59,t60,t61,t62,t63,t64,t65,t66,t67,t68,t69,t70,t71,t72,t73,t74,t75,t76,t77,t78,t79,t80,t81,t82,t83,t84,t85,t86,t87,t88,t89,t90,t91,t92,t93,t94,t95,t96,t97,t98,t99,t100,t101,t102,t103,t104,t105,t106,t107,t108,t109,t110,t111,t112,t113,t114,t115,t116,t117,t118,t119,t120,t121,t122,t123,t124,t125,t126,t127,t128,t129,t130,t131,t132,t133,t134,t135,t136,t137,t138,t139,t140,t141,t142,t143,t144,t145,t146,t147,t148,t149,t150,t151,t152,t153,t154,t155,t156,t157,t158,t159,t160,t161,t162,t163,t164,t165,t166,t167,t168,t169,t170,t171,t172,t173,t174,t175,t176,t177,t178,t179,t180,t181,t182,t183,t184,t185,t186,t187,t188,t189,t190,t191,t192,t193,t194,t195,t196,t197,t198,t199,t200,t201,t202,t203,t204,t205,t206,t207,t208,t209,t210,t211,t212,t213,t214,t215,t216,t217,t218,t219,t220,t221,t222,t223,t224,t225,t226,t227,t228,t229,t230,t231,t232,t233,t234,t235,t236,t237,t238,t239,t240,t241,t242,t243,t244,t245,t246,t247,t248,t249],defers:=[] } w'
set_option maxHeartbeats 64000000 in
set_option maxRecDepth 1000000 in
theorem planLabel_l3 {S:Nat→Prop} (y:Yard) (ps:List Place) (l:List Task) (a:Label) (v1 v2 v3 v4 v5 v6:Value) (B:Nat) (F0 G0:List Nat) (w wr0:World) (A:Option Addr) (c:Nat) (As:Option Addr) (cs:Nat) (Ah:Option Addr) (ch:Nat) (ml mk:List TV) (Fl Fk:List Nat) (Al:Option Addr) (cl:Nat) (Ak:Option Addr) (ck:Nat) (sr:List Task × List Task × List Place)
 (HS:Hid (∀ b,S b→b < w.heap.size∧b∉B :: F0)) (HO:Hid (RowsOk y)) (HFI:Hid (∀ t∈l,TaskFit y t)) (_HLE:Hid (y.nodes.length=y.config.nodes.length)) (HTU:Hid (Turn y a ps l)) (HR:Hid (PlR S w y v1 v2 v3 v4 v5 v6 (.slice As (startR y).length cs) (.slice Ah (hardR y).length ch))) (HSR:Hid (run2 y ps l=sr)) (HLS:Hid (sr.2.2.length≤20000∧sr.1.length≤96∧sr.2.1.length≤96)) (HSUB:Hid ((∀ u∈sr.1,u∈l)∧∀ u∈sr.2.1,u∈l∧0 < u.nodes.length)) (_HML:Hid (ml.map TV.x=sr.1)) (_HTL:Hid (TAt S w ml)) (HTK:Hid (TAt S w mk)) (HMK:Hid (mk.map TV.x=sr.2.1)) (HOL:Hid (OwS OTV 46 wr0 (.slice Al ml.length cl) ml Fl)) (HOKK:Hid (OwS OTV 46 wr0 (.slice Ak mk.length ck) mk Fk)) (HPP:Hid (PlS w B F0 G0 y v1 v2 v3 v4 v5 v6 (.slice As (startR y).length cs) (.slice Ah (hardR y).length ch) wr0 sr.2.2))
 (K:Act→World→Prop) (R:Ending→World→Prop) (s2 s3 s6 s7 s8 s9 s10 s11 s12 s13 s14 s15 s16 s17 s18 s19 s20 s21 s22 s23 s24 s25 s26 s27 s28 s29 s30 s31 s32 s33 s34 s35 s36 s37 s38 s39 s40 s41 s42 s43 s44 s45 s46 s47 s48 s49 s50 s51 s52 s53 s54 s55 s56 s57 s58 s59 s60 s61 s62 s63 s64 s65 s66 s67 s68 s69 s70 s71 s72 s73 s74 s75 s76 s77 s78 s79 s80 s81 s82 s83 s84 s85 s86 s87 s88 s89 s90 s91 s92 s93 s94 s95 s96 s97 s98 s99 s100 s101 s102 s103 s104 s105 s106 s107 s108 s109 s110 s111 s112 s113 s114 s115 s116 s117 s118 s119 s120 s121 s122 s123 s124 s125 s126 s127 s128 s129 s130 s131 s132 s133 s134 s138 s139 s140 s141 s142 s143 s144 s145 s146 s147 s148 s149 s150 s151 s152 s153 s154 s155 s156 s157 s158 s159 s160 s161 s162 s163 s164 s165 s166 s167 s168 s169 s170 s171 s172 s173 s174 s175 s176 s177 s178 s179 s180 s181 s182 s183 s184 s185 s186 s187 s188 s189 s190 s191 s192 s193 s194 s195 s196 s197 s198 s199 s200 s201 s202 s203 s204 s205 s206 s207 s208 s209 s210 s211 s212 s213 s214 s215 s216 s217 s218 s219 s220 s221 s222 s223 s224 s225 s226 s227 s228 s229 s230 s231 s232 s233 s234 s235 s236 s237 s238 s239 s240 s241 s242 s243 s244 s245 s246 s247 s248 s249:Value)
 (HK0:Hid (After K (fun w'=>PlS w B F0 G0 y v1 v2 v3 v4 v5 v6 (.slice As (startR y).length cs) (.slice Ah (hardR y).length ch) w' (sr.2.1.foldl (step3 y) sr.2.2)∧OwS OTV 46 w' (.slice Al ml.length cl) ml Fl) (.pointer (some ⟨B,0,none⟩)) (.slice A l.length c) (.slice Al ml.length cl))) :
 Code.wp Tryz.prog (nav [1,1,1,1,0,1] (codeOf Tryz.f96)) (Exit.then K (bodyPost Tryz.prog Tryz.f96 R)) { tmps:=#[.pointer (some ⟨B,0,none⟩),.slice A l.length c,s2,s3,.slice Al ml.length cl,.slice Ak mk.length ck,s6,s7,s8,s9,s10,s11,s12,s13,s14,s15,s16,s17,s18,s19,s20,s21,s22,s23,s24,s25,s26,s27,s28,s29,s30,s31,s32,s33,s34,s35,s36,s37,s38,s39,s40,s41,s42,s43,s44,s45,s46,s47,s48,s49,s50,s51,s52,s53,s54,s55,s56,s57,s58,s59,s60,s61,s62,s63,s64,s65,s66,s67,s68,s69,s70,s71,s72,s73,s74,s75,s76,s77,s78,s79,s80,s81,s82,s83,s84,s85,s86,s87,s88,s89,s90,s91,s92,s93,s94,s95,s96,s97,s98,s99,s100,s101,s102,s103,s104,s105,s106,s107,s108,s109,s110,s111,s112,s113,s114,s115,s116,s117,s118,s119,s120,s121,s122,s123,s124,s125,s126,s127,s128,s129,s130,s131,s132,s133,s134,.slice Ak mk.length ck,.int .i64 mk.length,.int .i64 0,s138,s139,s140,s141,s142,s143,s144,s145,s146,s147,s148,s149,s150,s151,s152,s153,s154,s155,s156,s157,s158,s159,s160,s161,s162,s163,s164,s165,s166,s167,s168,s169,s170,s171,s172,s173,s174,s175,s176,s177,s178,s179,s180,s181,s182,s183,s184,s185,s186,s187,s188,s189,s190,s191,s192,s193,s194,s195,s196,s197,s198,s199,s200,s201,s202,s203,s204,s205,s206,s207,s208,s209,s210,s211,s212,s213,s214,s215,s216,s217,s218,s219,s220,s221,s222,s223,s224,s225,s226,s227,s228,s229,s230,s231,s232,s233,s234,s235,s236,s237,s238,s239,s240,s241,s242,s243,s244,s245,s246,s247,s248,s249],defers:=[] } wr0:=by
 have hnow:=HO.out.now
 conv=>arg 2;simp only [nav,codeOf,Tryz.f96,Option.getD_some]
 go_wp2_with fail
 go_loopw [137] (fun i w'=>∃ j:Nat,j≤mk.length∧i=.int .i64 j∧PlS w B F0 G0 y v1 v2 v3 v4 v5 v6 (.slice As (startR y).length cs) (.slice Ah (hardR y).length ch) w' ((sr.2.1.take j).foldl (step3 y) sr.2.2) ∧
  OwS OTV 46 w' (.slice Al ml.length cl) ml Fl∧OwS OTV 46 w' (.slice Ak mk.length ck) mk Fk) (fun i _=>mk.length - (intOf i).toNat)
 case atStart=>exact ⟨0,Nat.zero_le _,rfl,by simpa using HPP.out,HOL.out,HOKK.out⟩
 case round =>
  obtain ⟨i,hi1,rfl,hP,hol,hok⟩:=hrel
  have HPP:=Lib.hid hP
  have HOL:=Lib.hid hol
  have HOKK:=Lib.hid hok
  clear hP hol hok
  by_cases hli:i < mk.length
  · obtain ⟨vp,m,F,hC,hm,hown,hF,hnn,hnd,hg,hkp⟩:=HPP.out
    have hsame:Same S w wr:=hkp.same fun b hb=>(HS.out b hb).2
    obtain ⟨Ak',ck',hvk,lk1,mk1,hkk⟩:=HOKK.out.rd.open_
    injection hvk with e1 e2 e3
    subst e1 e3
    clear e2
    unfold maxLen at mk1
    obtain ⟨b,q,cs0,rfl,hbS,⟨rfl,hft⟩,hc⟩:=hkk i hli
    simp only [cellsTask] at hc
    have hsr:Same (fun b=>b∈Fk) wr wr:=Same.refl _ _
    have z0:=hsr _ _ _ hbS (hc 0 _ rfl)
    have z1:=hsr _ _ _ hbS (hc 1 _ rfl)
    have z2:=hsr _ _ _ hbS (hc 2 _ rfl)
    have z3:=hsr _ _ _ hbS (hc 3 _ rfl)
    have z4:=hsr _ _ _ hbS (hc 4 _ rfl)
    have z5:=hsr _ _ _ hbS (hc 5 _ rfl)
    have z6:=hsr _ _ _ hbS (hc 6 _ rfl)
    have z7:=hsr _ _ _ hbS (hc 7 _ rfl)
    have z8:=hsr _ _ _ hbS (hc 8 _ rfl)
    have z9:=hsr _ _ _ hbS (hc 9 _ rfl)
    have z10:=hsr _ _ _ hbS (hc 10 _ rfl)
    have z11:=hsr _ _ _ hbS (hc 11 _ rfl)
    have z12:=hsr _ _ _ hbS (hc 12 _ rfl)
    have z13:=hsr _ _ _ hbS (hc 13 _ rfl)
    simp only [ETV,Nat.add_zero] at z0 z1 z2 z3 z4 z5 z6 z7 z8 z9 z10 z11 z12 z13
    have HT1:Hid (nth sr.2.1 i=(nth mk i).x):=Lib.hid (by rw [← HMK.out,nth_map hli])
    have HLK:Hid (mk.length=sr.2.1.length):=Lib.hid (by rw [← HMK.out,List.length_map])
    have HMEM:Hid (nth mk i∈mk):=Lib.hid (nth_mem hli)
    have HC:=Lib.hid hC
    have HM:=Lib.hid hm
    have HOW:=Lib.hid hown
    have HF:=Lib.hid hF
    have HNN:=Lib.hid hnn
    have HND:=Lib.hid hnd
    have HG:=Lib.hid hg
    have HKP:=Lib.hid hkp
    have HSM:=Lib.hid hsame
    have HFT:=Lib.hid hft
    have HRDW:=Lib.hid (HTK.out _ (nth_mem hli))
    have HRD:=Lib.hid ((HTK.out _ (nth_mem hli)).keep hsame)
    obtain ⟨Ap,cp,rfl,-⟩:=hown.form
    clear hC hm hown hF hnn hnd hg hkp hsame hc hft hkk hsr
    go_upto_region 23 with (fail)
    obtain ⟨W5,B5,hW__,hB__,hx__,hb__⟩:=new_box wr #[.int .i64 (nth mk i).x.label.level,.int .i64 (nth mk i).x.label.set,.int .i64 (nth mk i).x.id,.string (nth mk i).x.owner,.int .i64 (nth mk i).x.need,.int .i64 (nth mk i).x.long,.int .i64 (nth mk i).x.prio,.int .i64 (nth mk i).x.under.level,.int .i64 (nth mk i).x.under.set,.int .i64 (nth mk i).x.after,.int .i64 (nth mk i).x.born,.int .i64 (nth mk i).x.state,.int .i64 (nth mk i).x.start,.slice (nth mk i).A (nth mk i).n (nth mk i).c] 46
    rw [← hW__,← hB__]
    have XW5:=Lib.hid hx__
    have QB5:=Lib.hid hb__
    have EB5:=Lib.hid hB__
    clear hW__ hB__ hx__ hb__
    clear z0 z1 z2 z3 z4 z5 z6 z7 z8 z9 z10 z11 z12 z13
    have HTF:=Lib.hid (HFI.out _ (HSUB.out.2 _ (by rw [← HMK.out];exact List.mem_map.2 ⟨_,HMEM.out,rfl⟩)).1)
    obtain ⟨pk,hpk⟩:∃ pk,(sr.2.1.take i).foldl (step3 y) sr.2.2=pk:=⟨_,rfl⟩
    have HST:Hid ((sr.2.1.take (i+1)).foldl (step3 y) sr.2.2=step3 y pk (nth mk i).x):=Lib.hid (by rw [fold3_step (by rw [← HLK.out];exact hli),hpk,HT1.out])
    have HPL:Hid (pk.length≤30000):=Lib.hid (by
     rw [← hpk]
     have h1:=foldl_size (s:=fun ps:List Place=>ps.length) (f:=step3 y) len3 (sr.2.1.take i) sr.2.2
     rw [List.length_take] at h1
     have:=HLS.out
     omega)
    obtain ⟨d,hd1,hd2⟩:∃ d:Nat,idxOf (isOf (nth mk i).x.label (nth mk i).x.id) pk=(d:Int)∧d < pk.length:=by
     have h:=third_ix HTU.out (i:=i) (by rw [HSR.out,← HLK.out];exact hli)
     rwa [HSR.out,hpk,HT1.out] at h
    have HD1:=Lib.hid hd1
    have HCUT:Hid (cutP pk (nth mk i).x=pk.eraseIdx d):=Lib.hid (by rw [cutP,hd1];rfl)
    rw [hpk] at HPP HM
    clear hpk hd1
    have HML2:Hid (m.length=pk.length):=Lib.hid (by rw [← HM.out,List.length_map])
    have HRDP:Hid (Rd EPlace (fun _=>True) wr (.slice Ap m.length cp) pk):=Lib.hid (places_read HM.out HOW.out HNN.out)
    have HPO:Hid (∀ V,Ext W5 V→Calls Tryz.prog 137 #[.pointer (some ⟨B,0,none⟩),.agg #[.int .i64 (nth mk i).x.label.level,.int .i64 (nth mk i).x.label.set,.int .i64 (nth mk i).x.id,.string (nth mk i).x.owner,.int .i64 (nth mk i).x.need,.int .i64 (nth mk i).x.long,.int .i64 (nth mk i).x.prio,.int .i64 (nth mk i).x.under.level,.int .i64 (nth mk i).x.under.set,.int .i64 (nth mk i).x.after,.int .i64 (nth mk i).x.born,.int .i64 (nth mk i).x.state,.int .i64 (nth mk i).x.start,.slice (nth mk i).A (nth mk i).n (nth mk i).c]] V fun e w'=>e=.returned (.int .i64 (d:Int))∧Ext V w'):=Lib.hid fun V hV=>by
     rw [← HD1.out]
     exact placeOf_any (S:=fun _=>True) (S':=S) pk (nth mk i).x _ _ B V ((HC.out.ext (XW5.out.trans hV)).cell 10) (HRDP.out.ext (XW5.out.trans hV)) (rel_Task HFT.out (HRD.out.ext (XW5.out.trans hV)))
    have q5:=QB5.out.cell
    have b10:W5.cell? ⟨B,10,none⟩=some (.slice Ap m.length cp):=(HC.out.ext XW5.out).cell 10
    have hdl:(d:Int)+1≤9223372036854775807:=by have:=HPL.out;omega
    go_upto_region 25 with (first
     | (go_at_call 137;(with_reducible refine (HPO.out _ (Ext.refl _)).mono ?_);rintro e w6 ⟨rfl,hx6⟩;have X6:=Lib.hid (XW5.out.trans hx6);have Q6:=Lib.hid (QB5.out.ext hx6);replace q5:=(QB5.out.ext hx6).cell;replace b10:=Ext.some hx6 b10;clear hx6)
     | (go_at_call 138;(with_reducible refine (delete_PV m d _ F _ (HOW.out.ext X6.out) (by have h1:=HML2.out;have h2:=HPL.out;omega) (by rw [HML2.out];exact hd2)).mono ?_);rintro e w7 ⟨v7,F7,rfl,o7,f7,k7⟩;obtain ⟨A7,c7,hv7,-⟩:=OwS.form o7;subst hv7;have R7:PlC w7 B y v1 v2 v3 v4 v5 v6 _ _ _:=planner_after HC.out HOW.out X6.out k7;have rc:=Blk.cell R7 10;have rf:=Blk.frozen R7 10;clear b10))
    have hlen7:(m.eraseIdx d).length=(m.eraseIdx d).length:=rfl
    obtain ⟨W8,hW8⟩:∃ W8,W8=w7.setCell ⟨B,10,none⟩ (.slice A7 (m.eraseIdx d).length c7):=⟨_,rfl⟩
    have HP8:Hid (PlS w B F0 G0 y v1 v2 v3 v4 v5 v6 (.slice As (startR y).length cs) (.slice Ah (hardR y).length ch) W8 (pk.eraseIdx d)):=Lib.hid (by
     rw [hW8]
     have hkk:=k7
     have hp9:=(HPP.out.ext X6.out)
     exact PlS.cut (HC.out.ext X6.out) HM.out (HOW.out.ext X6.out) HF.out (fun e he=>(HNN.out e he).ext X6.out) HND.out HG.out (HKP.out.step (Kept.of_ext (F:=[]) X6.out) (by simp)) o7 k7 f7)
    have HOL8:Hid (OwS OTV 46 W8 (.slice Al ml.length cl) ml Fl):=Lib.hid (by rw [hW8];exact row_after HOL.out HOW.out HC.out X6.out k7)
    have HOK8:Hid (OwS OTV 46 W8 (.slice (some ⟨b,q,none⟩) mk.length ck) mk Fk):=Lib.hid (by rw [hW8];exact row_after HOKK.out HOW.out HC.out X6.out k7)
    have Q8:Hid (Blk W8 B5 46 #[.int .i64 (nth mk i).x.label.level,.int .i64 (nth mk i).x.label.set,.int .i64 (nth mk i).x.id,.string (nth mk i).x.owner,.int .i64 (nth mk i).x.need,.int .i64 (nth mk i).x.long,.int .i64 (nth mk i).x.prio,.int .i64 (nth mk i).x.under.level,.int .i64 (nth mk i).x.under.set,.int .i64 (nth mk i).x.after,.int .i64 (nth mk i).x.born,.int .i64 (nth mk i).x.state,.int .i64 (nth mk i).x.start,.slice (nth mk i).A (nth mk i).n (nth mk i).c]):=Lib.hid (by rw [hW8];exact far_tag (span_after Q6.out (HOW.out.ext X6.out) (Ext.refl _) k7 (by decide)) R7 (by decide))
    rw [← hW8]
    clear hW8 o7 f7 k7 R7 rc rf hlen7 q5
    clear HC HM HOW HF HNN HND HG HKP HRDP HPO HSM
    obtain ⟨vp8,m8,F8,hC,hm,hown,hF,hnn,hnd,hg,hkp⟩:=HP8.out
    have hsame:Same S w W8:=hkp.same fun b hb=>(HS.out b hb).2
    have HC:=Lib.hid hC
    have HM:=Lib.hid hm
    have HOW:=Lib.hid hown
    have HF:=Lib.hid hF
    have HNN:=Lib.hid hnn
    have HND:=Lib.hid hnd
    have HG:=Lib.hid hg
    have HKP:=Lib.hid hkp
    have HSM:=Lib.hid hsame
    have HRD8:=Lib.hid (HRDW.out.keep hsame)
    obtain ⟨Ap8,cp8,rfl,-⟩:=hown.form
    clear hC hm hown hF hnn hnd hg hkp hsame
    have HRDP:Hid (Rd EPlace (fun _=>True) W8 (.slice Ap8 m8.length cp8) (pk.eraseIdx d)):=Lib.hid (places_read HM.out HOW.out HNN.out)
    have HPL8:Hid ((pk.eraseIdx d).length≤30000):=Lib.hid (Nat.le_trans (List.length_eraseIdx_le ..) HPL.out)
    obtain ⟨r,hr⟩:∃ r,searchY y (pk.eraseIdx d) (nth mk i).x.label (nth mk i).x.need (nth mk i).x.long ((nth mk i).x.start+1 - y.now).toNat y.now=r:=⟨_,rfl⟩
    have HRR:=Lib.hid hr
    have HSE:Hid (∀ V,Ext W8 V→Calls Tryz.prog 139 #[.pointer (some ⟨B,0,none⟩),.agg #[.int .i64 (nth mk i).x.label.level,.int .i64 (nth mk i).x.label.set],.int .i64 (nth mk i).x.need,.int .i64 (nth mk i).x.long,.int .i64 (nth mk i).x.start] V (RetSearch r V)):=Lib.hid fun V hV=>by
     rw [← hr]
     exact search_any (S:=S) (S':=fun _=>True) y (pk.eraseIdx d) (nth mk i).x.label (nth mk i).x.need (nth mk i).x.long (nth mk i).x.start _ _ _ _ _ _ _ _ _ B V (HC.out.ext hV) ((HR.out.keep HSM.out).ext hV) (HRDP.out.ext hV) HO.out (by have:=HPL8.out;omega) HTF.out.need HTF.out.long (by have:=HTF.out.start;omega)
    clear hr
    have q8:=Q8.out.cell
    go_upto_region 26 with (go_at_call 139;(with_reducible refine (HSE.out _ (Ext.refl _)).mono ?_);rintro e w9 ⟨v9,G9,rfl,q9,g9,hx9⟩;obtain ⟨A9,c9,rfl,-⟩:=OwS.form q9;have X9:=Lib.hid hx9;have O9:=Lib.hid q9;have G9h:=Lib.hid g9;have Q9:=Lib.hid (Q8.out.ext hx9);clear q9 g9 hx9 q8)
    have HMV:Hid (moved y (pk.eraseIdx d) (nth mk i).x=movedOf (nth mk i).x r):=Lib.hid (moved_of HRR.out)
    obtain ⟨mv,hmv⟩:∃ mv,moved y (pk.eraseIdx d) (nth mk i).x=mv:=⟨_,rfl⟩
    have HMVE:=Lib.hid hmv
    rw [hmv] at HMV
    have HMOK:Hid (OkP mv):=Lib.hid (by rw [← hmv];exact ok_moved HTF.out)
    clear hmv
    obtain ⟨c,hc⟩:∃ c:Bool,c=staysAt (nth mk i).x r:=⟨_,rfl⟩
    have HCC:=Lib.hid hc
    clear hc
    go_cut [175] (fun u wc=>u=.bool c∧wc=w9)
    case first =>
     have q9:=Q9.out.cell
     have hst:=HTF.out.start
     have hnw:=HTF.out.now
     cases r with
     | none =>
       have hcc:c=true:=HCC.out
       subst hcc
       simp only [Option.elim]
       have he:((-1:Int) == (nth mk i).x.start)=false:=by simp;omega
       clear hst
       go_wp2_with fail
       go_meet
       exact ⟨rfl,rfl⟩
     | some fn =>
       obtain ⟨f,ns⟩:=fn
       have hcc:c=decide (f=(nth mk i).x.start):=HCC.out
       have hf:=(searchY_range _ _ HRR.out).1
       simp only [Option.elim]
       by_cases hfs:f=(nth mk i).x.start
       · have he:(f == (nth mk i).x.start)=true:=by simp [hfs]
         have hct:c=true:=by rw [hcc];simp [hfs]
         subst hct
         clear hcc hst hfs
         go_wp2_with fail
         go_meet
         exact ⟨rfl,rfl⟩
       · have he:(f == (nth mk i).x.start)=false:=by simp [hfs]
         have hct:c=false:=by rw [hcc];simp [hfs]
         subst hct
         have hf0:decide (f < 0)=false:=decide_eq_false (by omega)
         clear hcc hst hfs
         go_wp2_with fail
         go_meet
         exact ⟨by first | rfl | rw [hf0],rfl⟩
    case rest =>
    obtain ⟨rfl,rfl⟩:=hcut
    have HSTE:Hid ((sr.2.1.take (i+1)).foldl (step3 y) sr.2.2=pk.eraseIdx d ++ [mv]):=Lib.hid (by rw [HST.out,step3,HCUT.out,HMVE.out])
    cases c with
    | true =>
      have HMVV:Hid (mv=⟨(nth mk i).x.label,(nth mk i).x.id,(nth mk i).x.start,(nth mk i).x.start+1+(nth mk i).x.long,false,(nth mk i).x.nodes⟩):=Lib.hid (by rw [HMV.out,moved_kept HCC.out.symm];rfl)
      have HCLO:Hid (∀ V,Ext wc V→Calls Tryz.prog 78 #[.slice (nth mk i).A (nth mk i).n (nth mk i).c] V (RetO OInt 2 (nth mk i).x.nodes V)):=Lib.hid fun V hV=>cloneInt_any (S:=S) (nth mk i).x.nodes _ V (HRD8.out.ext (X9.out.trans hV)) (by have:=HTF.out.few;omega)
      have tl:∀ V,Ext wc V→∀ i,V.cell? ⟨B5,i,none⟩=_:=fun V hV=>(Q9.out.ext hV).cell
      go_upto_region 27 with (fail)
      go_region_held3 (fun V=>Ext wc V) (repeat (first | with_reducible assumption | with_reducible exact Ext.refl _ | with_reducible refine Ext.alloc ?_ _ | with_reducible refine Ext.drew ?_ | with_reducible refine Ext.setCell ?_ (by first | exact Nat.le_refl _ | exact Ext.size (by assumption) | (simp;done) | (simp;omega) | (show _≤_;omega)) _ | with_reducible refine Ext.trans ?_ hx10)) (first | (go_at_call 78;(with_reducible refine (HCLO.out _ (by repeat (first | with_reducible assumption | with_reducible exact Ext.refl _ | with_reducible refine Ext.alloc ?_ _ | with_reducible refine Ext.drew ?_ | with_reducible refine Ext.setCell ?_ (by first | exact Nat.le_refl _ | exact Ext.size (by assumption) | (simp;done) | (simp;omega) | (show _≤_;omega)) _ ))).mono ?_);rintro e w10 ⟨u10,G10,rfl,q10,g10,hx10⟩;obtain ⟨A10,c10,rfl,-⟩:=OwS.form q10))
      have hx10':Ext wc w10:=by assumption
      have X10:=Lib.hid (X9.out.trans hx10')
      have O10:Hid (OwS OInt 2 w10 (.slice A10 (nth mk i).x.nodes.length c10) mv.nodes G10):=Lib.hid (by rw [HMVV.out];exact q10)
      have G10h:Hid (∀ b∈G10,W8.heap.size≤b):=Lib.hid fun b hb=>Nat.le_trans X9.out.size (g10 b hb)
      have Q10:=Lib.hid (Q9.out.ext hx10')
      clear tl q10 g10 hx10 hx10'
      have HCN:=Lib.hid (HC.out.ext X10.out)
      have HOXX:=Lib.hid (HOW.out.ext X10.out)
      have HCE:Hid (([.int .i64 (nth mk i).x.label.level,.int .i64 (nth mk i).x.label.set,.int .i64 (nth mk i).x.id,.int .i64 (nth mk i).x.start,.int .i64 ((nth mk i).x.start+1+(nth mk i).x.long),.bool false,.slice A10 (nth mk i).x.nodes.length c10]:List Value)=cellsPlace mv (.slice A10 (nth mk i).x.nodes.length c10)):=Lib.hid (by rw [HMVV.out];rfl)
      have HFP:Hid (FitPlace mv):=Lib.hid (ok_fit HMOK.out)
      have hw1:IntKind.i64.wrap ((nth mk i).x.start+1)=(nth mk i).x.start+1:=IntWalk.i64_in _ (by have h1:=HMOK.out.lo;have h2:=HMOK.out.ord;have h3:=HMOK.out.hi;rw [HMVV.out] at h1 h2 h3;simp only at h1 h2 h3;omega)
      have hw2:IntKind.i64.wrap ((nth mk i).x.start+1+(nth mk i).x.long)=(nth mk i).x.start+1+(nth mk i).x.long:=IntWalk.i64_in _ (by have h1:=HMOK.out.lo;have h2:=HMOK.out.ord;have h3:=HMOK.out.hi;rw [HMVV.out] at h1 h2 h3;simp only at h1 h2 h3;omega)
      have hs0:=psx_start HCN.out HOXX.out
      have hB5n:B5∉B :: F8:=fun hm=>by
       rcases List.mem_cons.1 hm with h | h
       · exact absurd (tag_ne (h ▸ Q10.out) HCN.out) (by decide)
       · exact HOXX.out.apart Q10.out (by decide) h
      have tl:∀ V,PSx w10 B F8 V→∀ i,V.cell? ⟨B5,i,none⟩=_:=fun V hV=>hV.cells Q10.out hB5n
      have fl:∀ V,PSx w10 B F8 V→V.frozen? ⟨B,10,none⟩=false:=fun V hV=>hV.fz
      have b10:w10.cell? ⟨B,10,none⟩=some (.slice Ap8 m8.length cp8):=HCN.out.cell 10
      have b10a:=fun ob:Obj=>Ext.some ((Ext.refl w10).alloc ob) b10
      clear hB5n
      go_upto_region 28 with (fail)
      refine wp_region_held_drew (S:=fun V=>PSx w10 B F8 V) (by kernel_rfl) hs0.drew (fun hHeld=>?_)
      refine wpAnyH_take (i:=0) (oi:=_) (v:=?v__1) rfl (by kernel_rfl) (by kernel_rfl) (by kernel_rfl) (fun _ _ _ h=>h) (Or.inl ⟨by rfl,?hy__1⟩) (by assumption) ?rest__1
      case hy__1=>(intro w__ hSw__;go_simp;try (with_reducible rfl))
      try simp only [Act.put]
      refine wpAnyH_take (i:=1) (oi:=_) (v:=?v__2) rfl (by kernel_rfl) (by kernel_rfl) (by kernel_rfl) (fun _ _ _ h=>h) (Or.inl ⟨by rfl,?hy__2⟩) (by assumption) ?rest__2
      case hy__2=>(intro w__ hSw__;go_simp;try (with_reducible rfl))
      try simp only [Act.put]
      refine wpAnyH_take (i:=2) (oi:=_) (v:=?v__3) rfl (by kernel_rfl) (by kernel_rfl) (by kernel_rfl) (fun _ _ _ h=>h) (Or.inl ⟨by rfl,?hy__3⟩) (by assumption) ?rest__3
      case hy__3=>(intro w__ hSw__;go_simp;try (with_reducible rfl))
      try simp only [Act.put]
      refine wpAnyH_take (i:=3) (oi:=_) (v:=?v__4) rfl (by kernel_rfl) (by kernel_rfl) (by kernel_rfl) (fun _ _ _ h=>h) (Or.inl ⟨by rfl,?hy__4⟩) (by assumption) ?rest__4
      case hy__4=>(intro w__ hSw__;go_simp;try (with_reducible rfl))
      try simp only [Act.put]
      refine wpAnyH_take (i:=5) (oi:=_) (v:=?v__5) rfl (by kernel_rfl) (by kernel_rfl) (by kernel_rfl) (fun _ _ _ h=>h) (Or.inl ⟨by rfl,?hy__5⟩) (by assumption) ?rest__5
      case hy__5=>(intro w__ hSw__;go_simp;try (with_reducible rfl))
      try simp only [Act.put]
      refine wpAnyH_take (i:=6) (oi:=_) (v:=?v__6) rfl (by kernel_rfl) (by kernel_rfl) (by kernel_rfl) (fun _ _ _ h=>h) (Or.inl ⟨by rfl,?hy__6⟩) (by assumption) ?rest__6
      case hy__6=>(intro w__ hSw__;go_simp;try (with_reducible rfl))
      try simp only [Act.put]
      refine wpAnyH_take (i:=7) (oi:=_) (v:=?v__7) rfl (by kernel_rfl) (by kernel_rfl) (by kernel_rfl) (fun _ _ _ h=>h) (Or.inl ⟨by rfl,?hy__7⟩) (by assumption) ?rest__7
      case hy__7=>(intro w__ hSw__;go_simp;try (with_reducible rfl))
      try simp only [Act.put]
      refine wpAnyH_take (i:=8) (oi:=_) (v:=?v__8) rfl (by kernel_rfl) (by kernel_rfl) (by kernel_rfl) (fun _ _ _ h=>h) (Or.inl ⟨by rfl,?hy__8⟩) (by assumption) ?rest__8
      case hy__8=>(intro w__ hSw__;go_simp;try (with_reducible rfl))
      try simp only [Act.put]
      refine wpAnyH_take (i:=9) (oi:=_) (v:=?v__9) rfl (by kernel_rfl) (by kernel_rfl) (by kernel_rfl) (fun _ _ _ h=>h) (Or.inl ⟨by rfl,?hy__9⟩) (by assumption) ?rest__9
      case hy__9=>(intro w__ hSw__;go_simp;try (with_reducible rfl))
      try simp only [Act.put]
      refine wpAnyH_take (i:=10) (oi:=_) (v:=?v__10) rfl (by kernel_rfl) (by kernel_rfl) (by kernel_rfl) (fun _ _ _ h=>h) (Or.inl ⟨by rfl,?hy__10⟩) (by assumption) ?rest__10
      case hy__10=>(intro w__ hSw__;go_simp;try (with_reducible rfl))
      try simp only [Act.put]
      refine wpAnyH_take (i:=11) (oi:=_) (v:=?v__11) rfl (by kernel_rfl) (by kernel_rfl) (by kernel_rfl) (fun _ _ _ h=>h) (Or.inl ⟨by rfl,?hy__11⟩) (by assumption) ?rest__11
      case hy__11=>(intro w__ hSw__;go_simp;try (with_reducible rfl))
      try simp only [Act.put]
      refine wpAnyH_take (i:=12) (oi:=_) (v:=?v__12) rfl (by kernel_rfl) (by kernel_rfl) (by kernel_rfl) (fun _ _ _ h=>h) (Or.inl ⟨by rfl,?hy__12⟩) (by assumption) ?rest__12
      case hy__12=>(intro w__ hSw__;go_simp;try (with_reducible rfl))
      try simp only [Act.put]
      refine wpAnyH_take (i:=13) (oi:=_) (v:=?v__13) rfl (by kernel_rfl) (by kernel_rfl) (by kernel_rfl) (fun _ _ _ h=>h) (Or.inl ⟨by rfl,?hy__13⟩) (by assumption) ?rest__13
      case hy__13=>(intro w__ hSw__;go_simp;try (with_reducible rfl))
      try simp only [Act.put]
      refine wpAnyH_take (i:=14) (oi:=_) (v:=?v__14) rfl (by kernel_rfl) (by kernel_rfl) (by kernel_rfl) (fun _ _ _ h=>h) (Or.inl ⟨by rfl,?hy__14⟩) (by assumption) ?rest__14
      case hy__14=>(intro w__ hSw__;go_simp;try (with_reducible rfl))
      try simp only [Act.put]
      refine wpAnyH_take (i:=15) (oi:=_) (v:=?v__15) rfl (by kernel_rfl) (by kernel_rfl) (by kernel_rfl) (fun _ _ _ h=>h) (Or.inl ⟨by rfl,?hy__15⟩) (by assumption) ?rest__15
      case hy__15=>(intro w__ hSw__;go_simp;try (with_reducible rfl))
      try simp only [Act.put]
      refine wpAnyH_take (i:=16) (oi:=_) (v:=?v__16) rfl (by kernel_rfl) (by kernel_rfl) (by kernel_rfl) (fun _ _ _ h=>h) (Or.inl ⟨by rfl,?hy__16⟩) (by assumption) ?rest__16
      case hy__16=>(intro w__ hSw__;go_simp;try (with_reducible rfl))
      try simp only [Act.put]
      refine wpAnyH_ready (rs:=[4,17]) (by kernel_rfl) (by simp) ?_
      refine AllReadyH.cons (o:=_) rfl (fun K hK=>?_) ?_
      · go_simp
        refine hK.out _ _ (by repeat (first | with_reducible assumption | with_reducible refine PSx.set ?_ _ | with_reducible refine PSx.app ?_ hkp | with_reducible refine PSx.drew ?_ | with_reducible refine PSx.alloc ?_ _)) (fun hHeld=>?_)
        clear hK K
        try simp only [Act.put]
        refine wpAnyH_ready (rs:=[17]) (by kernel_rfl) (by simp) ?_
        refine AllReadyH.cons (o:=_) rfl (fun K hK=>?_) ?_
        · go_simp
          refine hK.out _ _ (by repeat (first | with_reducible assumption | with_reducible refine PSx.set ?_ _ | with_reducible refine PSx.app ?_ hkp | with_reducible refine PSx.drew ?_ | with_reducible refine PSx.alloc ?_ _)) (fun hHeld=>?_)
          clear hK K
          try simp only [Act.put]
          refine wpAnyH_ready (rs:=[18]) (by kernel_rfl) (by simp) ?_
          refine AllReadyH.cons (o:=_) rfl (fun K hK=>?_) ?_
          · (refine step_append_one (E:=EPV) (O:=OPV) (T:=138) (l:=m8) (F:=F8) (G:=[]) (y:=⟨mv,A10,(nth mk i).x.nodes.length,c10,G10⟩) (cs:=[.int .i64 (nth mk i).x.label.level,.int .i64 (nth mk i).x.label.set,.int .i64 (nth mk i).x.id,.int .i64 (nth mk i).x.start,.int .i64 ((nth mk i).x.start+1+(nth mk i).x.long),.bool false,.slice A10 (nth mk i).x.nodes.length c10]) (by rfl) _ _ 53 (by rfl) (.agg #[.int .i64 0,.int .i64 0,.int .i64 0,.int .i64 0,.int .i64 0,.bool false,.slice none 0 0]) 7 72 Tryz.underlying53 (by kernel_rfl) rfl rfl (by rfl) (HOXX.out.ext (by repeat (first | with_reducible assumption | with_reducible exact Ext.refl _ | with_reducible refine Ext.alloc ?_ _ | with_reducible refine Ext.drew ?_ | with_reducible refine Ext.setCell ?_ (by first | exact Nat.le_refl _ | exact Ext.size (by assumption) | (simp;done) | (simp;omega) | (show _≤_;omega)) _ ))) _ 0 1 (by rfl) ⟨⟨HCE.out,HFP.out⟩,rfl⟩ (Blk.new _ _ _).range (by simpa using HOW.out.nodup) (by have h1:=HPL8.out;rw [← HM.out,List.length_map] at h1;omega) (by decide) ?_;intro v'' w11 F3 how hkp hF3;obtain ⟨p11,k11,hv11,-⟩:=OwS.form how;subst hv11;have R11:=planner_after HCN.out HOXX.out (by repeat (first | with_reducible assumption | with_reducible exact Ext.refl _ | with_reducible refine Ext.alloc ?_ _ | with_reducible refine Ext.drew ?_ | with_reducible refine Ext.setCell ?_ (by first | exact Nat.le_refl _ | exact Ext.size (by assumption) | (simp;done) | (simp;omega) | (show _≤_;omega)) _ )) hkp;have rc:=Blk.cell R11 10;have rf:=Blk.frozen R11 10)
            refine hK.out _ _ (by repeat (first | with_reducible assumption | with_reducible refine PSx.set ?_ _ | with_reducible refine PSx.app ?_ hkp | with_reducible refine PSx.drew ?_ | with_reducible refine PSx.alloc ?_ _)) (fun hHeld=>?_)
            clear hK K
            try simp only [Act.put]
            refine wpAnyH_take (i:=19) (oi:=_) (v:=?v__17) rfl (by kernel_rfl) (by kernel_rfl) (by kernel_rfl) (fun _ _ _ h=>h) (Or.inl ⟨by rfl,?hy__17⟩) (by assumption) ?rest__17
            case hy__17=>(intro w__ hSw__;go_simp;try (with_reducible rfl))
            try simp only [Act.put]
            refine wpAnyH_take (i:=20) (oi:=_) (v:=?v__18) rfl (by kernel_rfl) (by kernel_rfl) (by kernel_rfl) (fun _ _ _ h=>h) (Or.inl ⟨by rfl,?hy__18⟩) (by assumption) ?rest__18
            case hy__18=>(intro w__ hSw__;go_simp;try (with_reducible rfl))
            try simp only [Act.put]
            refine wpAnyH_ready (rs:=[21]) (by kernel_rfl) (by simp) ?_
            refine AllReadyH.cons (o:=_) rfl (fun K hK=>?_) ?_
            · go_simp
              refine hK.out _ _ (by repeat (first | with_reducible assumption | with_reducible refine PSx.set ?_ _ | with_reducible refine PSx.app ?_ hkp | with_reducible refine PSx.drew ?_ | with_reducible refine PSx.alloc ?_ _)) (fun hHeld=>?_)
              clear hK K
              try simp only [Act.put]
              refine wpAnyH_done (by kernel_rfl) ?_ _
              have hxa:Ext W8 (w10.alloc (.cells #[.int .i64 (nth mk i).x.label.level,.int .i64 (nth mk i).x.label.set,.int .i64 (nth mk i).x.id,.int .i64 (nth mk i).x.start,.int .i64 ((nth mk i).x.start+1+(nth mk i).x.long),.bool false,.slice A10 (nth mk i).x.nodes.length c10] 138)):=X10.out.alloc _
              have hkp2:Kept F8 (w10.alloc (.cells #[.int .i64 (nth mk i).x.label.level,.int .i64 (nth mk i).x.label.set,.int .i64 (nth mk i).x.id,.int .i64 (nth mk i).x.start,.int .i64 ((nth mk i).x.start+1+(nth mk i).x.long),.bool false,.slice A10 (nth mk i).x.nodes.length c10] 138)) w11:=⟨hkp.os,hkp.tape,hkp.output,hkp.size,hkp.block⟩
              have hpush:PlS w B F0 G0 y v1 v2 v3 v4 v5 v6 (.slice As (startR y).length cs) (.slice Ah (hardR y).length ch) (w11.setCell ⟨B,10,none⟩ (.slice p11 (m8.length+1) k11)) (pk.eraseIdx d ++ [mv]):=PlS.push (e:=⟨mv,A10,(nth mk i).x.nodes.length,c10,G10⟩) HC.out HM.out HOW.out HF.out HNN.out HND.out HG.out HKP.out hxa (O10.out.ext ((Ext.refl _).alloc _)) G10h.out (by simpa using how) hkp2 (fun b hb=>match hF3 b hb with | .inl h=>.inl h | .inr (.inl h)=>absurd h (by simp) | .inr (.inr h)=>.inr h)
              have HPU:=Lib.hid hpush
              have HLR:Hid (OwS OTV 46 (w11.setCell ⟨B,10,none⟩ (.slice p11 (m8.length+1) k11)) (.slice Al ml.length cl) ml Fl):=Lib.hid (row_after HOL8.out HOW.out HC.out hxa hkp2)
              have HKRR:Hid (OwS OTV 46 (w11.setCell ⟨B,10,none⟩ (.slice p11 (m8.length+1) k11)) (.slice (some ⟨b,q,none⟩) mk.length ck) mk Fk):=Lib.hid (row_after HOK8.out HOW.out HC.out hxa hkp2)
              clear hpush hxa how hkp2 hkp hF3 R11 rc rf
              go_wp2_with fail
              go_roundw
              case rel=>exact ⟨i+1,by omega,by go_num,by rw [HSTE.out];exact HPU.out,HLR.out,HKRR.out⟩
              case measure=>simp [intOf];omega
            exact AllReadyH.nil
          exact AllReadyH.nil
        exact AllReadyH.nil
      refine AllReadyH.cons (o:=_) rfl (fun K hK=>?_) ?_
      · go_simp
        refine hK.out _ _ (by repeat (first | with_reducible assumption | with_reducible refine PSx.set ?_ _ | with_reducible refine PSx.app ?_ hkp | with_reducible refine PSx.drew ?_ | with_reducible refine PSx.alloc ?_ _)) (fun hHeld=>?_)
        clear hK K
        try simp only [Act.put]
        refine wpAnyH_ready (rs:=[4]) (by kernel_rfl) (by simp) ?_
        refine AllReadyH.cons (o:=_) rfl (fun K hK=>?_) ?_
        · go_simp
          refine hK.out _ _ (by repeat (first | with_reducible assumption | with_reducible refine PSx.set ?_ _ | with_reducible refine PSx.app ?_ hkp | with_reducible refine PSx.drew ?_ | with_reducible refine PSx.alloc ?_ _)) (fun hHeld=>?_)
          clear hK K
          try simp only [Act.put]
          refine wpAnyH_ready (rs:=[18]) (by kernel_rfl) (by simp) ?_
          refine AllReadyH.cons (o:=_) rfl (fun K hK=>?_) ?_
          · (refine step_append_one (E:=EPV) (O:=OPV) (T:=138) (l:=m8) (F:=F8) (G:=[]) (y:=⟨mv,A10,(nth mk i).x.nodes.length,c10,G10⟩) (cs:=[.int .i64 (nth mk i).x.label.level,.int .i64 (nth mk i).x.label.set,.int .i64 (nth mk i).x.id,.int .i64 (nth mk i).x.start,.int .i64 ((nth mk i).x.start+1+(nth mk i).x.long),.bool false,.slice A10 (nth mk i).x.nodes.length c10]) (by rfl) _ _ 53 (by rfl) (.agg #[.int .i64 0,.int .i64 0,.int .i64 0,.int .i64 0,.int .i64 0,.bool false,.slice none 0 0]) 7 72 Tryz.underlying53 (by kernel_rfl) rfl rfl (by rfl) (HOXX.out.ext (by repeat (first | with_reducible assumption | with_reducible exact Ext.refl _ | with_reducible refine Ext.alloc ?_ _ | with_reducible refine Ext.drew ?_ | with_reducible refine Ext.setCell ?_ (by first | exact Nat.le_refl _ | exact Ext.size (by assumption) | (simp;done) | (simp;omega) | (show _≤_;omega)) _ ))) _ 0 1 (by rfl) ⟨⟨HCE.out,HFP.out⟩,rfl⟩ (Blk.new _ _ _).range (by simpa using HOW.out.nodup) (by have h1:=HPL8.out;rw [← HM.out,List.length_map] at h1;omega) (by decide) ?_;intro v'' w11 F3 how hkp hF3;obtain ⟨p11,k11,hv11,-⟩:=OwS.form how;subst hv11;have R11:=planner_after HCN.out HOXX.out (by repeat (first | with_reducible assumption | with_reducible exact Ext.refl _ | with_reducible refine Ext.alloc ?_ _ | with_reducible refine Ext.drew ?_ | with_reducible refine Ext.setCell ?_ (by first | exact Nat.le_refl _ | exact Ext.size (by assumption) | (simp;done) | (simp;omega) | (show _≤_;omega)) _ )) hkp;have rc:=Blk.cell R11 10;have rf:=Blk.frozen R11 10)
            refine hK.out _ _ (by repeat (first | with_reducible assumption | with_reducible refine PSx.set ?_ _ | with_reducible refine PSx.app ?_ hkp | with_reducible refine PSx.drew ?_ | with_reducible refine PSx.alloc ?_ _)) (fun hHeld=>?_)
            clear hK K
            try simp only [Act.put]
            refine wpAnyH_take (i:=19) (oi:=_) (v:=?v__19) rfl (by kernel_rfl) (by kernel_rfl) (by kernel_rfl) (fun _ _ _ h=>h) (Or.inl ⟨by rfl,?hy__19⟩) (by assumption) ?rest__19
            case hy__19=>(intro w__ hSw__;go_simp;try (with_reducible rfl))
            try simp only [Act.put]
            refine wpAnyH_take (i:=20) (oi:=_) (v:=?v__20) rfl (by kernel_rfl) (by kernel_rfl) (by kernel_rfl) (fun _ _ _ h=>h) (Or.inl ⟨by rfl,?hy__20⟩) (by assumption) ?rest__20
            case hy__20=>(intro w__ hSw__;go_simp;try (with_reducible rfl))
            try simp only [Act.put]
            refine wpAnyH_ready (rs:=[21]) (by kernel_rfl) (by simp) ?_
            refine AllReadyH.cons (o:=_) rfl (fun K hK=>?_) ?_
            · go_simp
              refine hK.out _ _ (by repeat (first | with_reducible assumption | with_reducible refine PSx.set ?_ _ | with_reducible refine PSx.app ?_ hkp | with_reducible refine PSx.drew ?_ | with_reducible refine PSx.alloc ?_ _)) (fun hHeld=>?_)
              clear hK K
              try simp only [Act.put]
              refine wpAnyH_done (by kernel_rfl) ?_ _
              have hxa:Ext W8 (w10.alloc (.cells #[.int .i64 (nth mk i).x.label.level,.int .i64 (nth mk i).x.label.set,.int .i64 (nth mk i).x.id,.int .i64 (nth mk i).x.start,.int .i64 ((nth mk i).x.start+1+(nth mk i).x.long),.bool false,.slice A10 (nth mk i).x.nodes.length c10] 138)):=X10.out.alloc _
              have hkp2:Kept F8 (w10.alloc (.cells #[.int .i64 (nth mk i).x.label.level,.int .i64 (nth mk i).x.label.set,.int .i64 (nth mk i).x.id,.int .i64 (nth mk i).x.start,.int .i64 ((nth mk i).x.start+1+(nth mk i).x.long),.bool false,.slice A10 (nth mk i).x.nodes.length c10] 138)) w11:=⟨hkp.os,hkp.tape,hkp.output,hkp.size,hkp.block⟩
              have hpush:PlS w B F0 G0 y v1 v2 v3 v4 v5 v6 (.slice As (startR y).length cs) (.slice Ah (hardR y).length ch) (w11.setCell ⟨B,10,none⟩ (.slice p11 (m8.length+1) k11)) (pk.eraseIdx d ++ [mv]):=PlS.push (e:=⟨mv,A10,(nth mk i).x.nodes.length,c10,G10⟩) HC.out HM.out HOW.out HF.out HNN.out HND.out HG.out HKP.out hxa (O10.out.ext ((Ext.refl _).alloc _)) G10h.out (by simpa using how) hkp2 (fun b hb=>match hF3 b hb with | .inl h=>.inl h | .inr (.inl h)=>absurd h (by simp) | .inr (.inr h)=>.inr h)
              have HPU:=Lib.hid hpush
              have HLR:Hid (OwS OTV 46 (w11.setCell ⟨B,10,none⟩ (.slice p11 (m8.length+1) k11)) (.slice Al ml.length cl) ml Fl):=Lib.hid (row_after HOL8.out HOW.out HC.out hxa hkp2)
              have HKRR:Hid (OwS OTV 46 (w11.setCell ⟨B,10,none⟩ (.slice p11 (m8.length+1) k11)) (.slice (some ⟨b,q,none⟩) mk.length ck) mk Fk):=Lib.hid (row_after HOK8.out HOW.out HC.out hxa hkp2)
              clear hpush hxa how hkp2 hkp hF3 R11 rc rf
              go_wp2_with fail
              go_roundw
              case rel=>exact ⟨i+1,by omega,by go_num,by rw [HSTE.out];exact HPU.out,HLR.out,HKRR.out⟩
              case measure=>simp [intOf];omega
            exact AllReadyH.nil
          exact AllReadyH.nil
        exact AllReadyH.nil
      exact AllReadyH.nil
    | false =>
      cases r with
      | none=>exact absurd HCC.out (by simp [staysAt])
      | some fn =>
        obtain ⟨f,ns⟩:=fn
        have HMVV:Hid (mv=⟨(nth mk i).x.label,(nth mk i).x.id,f,f+1+(nth mk i).x.long,false,ns⟩):=Lib.hid (by rw [HMV.out,moved_found HCC.out.symm];rfl)
        simp only [Option.elim] at O9 ⊢
        have O10:Hid (OwS OInt 2 wc (.slice A9 ns.length c9) mv.nodes G9):=Lib.hid (by rw [HMVV.out];exact O9.out)
        have HCN:=Lib.hid (HC.out.ext X9.out)
        have HOXX:=Lib.hid (HOW.out.ext X9.out)
        have HCE:Hid (([.int .i64 (nth mk i).x.label.level,.int .i64 (nth mk i).x.label.set,.int .i64 (nth mk i).x.id,.int .i64 f,.int .i64 (f+1+(nth mk i).x.long),.bool false,.slice A9 ns.length c9]:List Value)=cellsPlace mv (.slice A9 ns.length c9)):=Lib.hid (by rw [HMVV.out];rfl)
        have HFP:Hid (FitPlace mv):=Lib.hid (ok_fit HMOK.out)
        have hw1:IntKind.i64.wrap (f+1)=f+1:=IntWalk.i64_in _ (by have h1:=HMOK.out.lo;have h2:=HMOK.out.ord;have h3:=HMOK.out.hi;rw [HMVV.out] at h1 h2 h3;simp only at h1 h2 h3;omega)
        have hw2:IntKind.i64.wrap (f+1+(nth mk i).x.long)=f+1+(nth mk i).x.long:=IntWalk.i64_in _ (by have h1:=HMOK.out.lo;have h2:=HMOK.out.ord;have h3:=HMOK.out.hi;rw [HMVV.out] at h1 h2 h3;simp only at h1 h2 h3;omega)
        have hs0:=psx_start HCN.out HOXX.out
        have hB5n:B5∉B :: F8:=fun hm=>by
         rcases List.mem_cons.1 hm with h | h
         · exact absurd (tag_ne (h ▸ Q9.out) HCN.out) (by decide)
         · exact HOXX.out.apart Q9.out (by decide) h
        have tl:∀ V,PSx wc B F8 V→∀ i,V.cell? ⟨B5,i,none⟩=_:=fun V hV=>hV.cells Q9.out hB5n
        have fl:∀ V,PSx wc B F8 V→V.frozen? ⟨B,10,none⟩=false:=fun V hV=>hV.fz
        have b10:wc.cell? ⟨B,10,none⟩=some (.slice Ap8 m8.length cp8):=HCN.out.cell 10
        have b10a:=fun ob:Obj=>Ext.some ((Ext.refl wc).alloc ob) b10
        clear hB5n
        go_upto_region 28 with (fail)
        refine wp_region_held_drew (S:=fun V=>PSx wc B F8 V) (by kernel_rfl) hs0.drew (fun hHeld=>?_)
        refine wpAnyH_take (i:=0) (oi:=_) (v:=?v__21) rfl (by kernel_rfl) (by kernel_rfl) (by kernel_rfl) (fun _ _ _ h=>h) (Or.inl ⟨by rfl,?hy__21⟩) (by assumption) ?rest__21
        case hy__21=>(intro w__ hSw__;go_simp;try (with_reducible rfl))
        try simp only [Act.put]
        refine wpAnyH_take (i:=1) (oi:=_) (v:=?v__22) rfl (by kernel_rfl) (by kernel_rfl) (by kernel_rfl) (fun _ _ _ h=>h) (Or.inl ⟨by rfl,?hy__22⟩) (by assumption) ?rest__22
        case hy__22=>(intro w__ hSw__;go_simp;try (with_reducible rfl))
        try simp only [Act.put]
        refine wpAnyH_take (i:=2) (oi:=_) (v:=?v__23) rfl (by kernel_rfl) (by kernel_rfl) (by kernel_rfl) (fun _ _ _ h=>h) (Or.inl ⟨by rfl,?hy__23⟩) (by assumption) ?rest__23
        case hy__23=>(intro w__ hSw__;go_simp;try (with_reducible rfl))
        try simp only [Act.put]
        refine wpAnyH_take (i:=3) (oi:=_) (v:=?v__24) rfl (by kernel_rfl) (by kernel_rfl) (by kernel_rfl) (fun _ _ _ h=>h) (Or.inl ⟨by rfl,?hy__24⟩) (by assumption) ?rest__24
        case hy__24=>(intro w__ hSw__;go_simp;try (with_reducible rfl))
        try simp only [Act.put]
        refine wpAnyH_take (i:=5) (oi:=_) (v:=?v__25) rfl (by kernel_rfl) (by kernel_rfl) (by kernel_rfl) (fun _ _ _ h=>h) (Or.inl ⟨by rfl,?hy__25⟩) (by assumption) ?rest__25
        case hy__25=>(intro w__ hSw__;go_simp;try (with_reducible rfl))
        try simp only [Act.put]
        refine wpAnyH_take (i:=6) (oi:=_) (v:=?v__26) rfl (by kernel_rfl) (by kernel_rfl) (by kernel_rfl) (fun _ _ _ h=>h) (Or.inl ⟨by rfl,?hy__26⟩) (by assumption) ?rest__26
        case hy__26=>(intro w__ hSw__;go_simp;try (with_reducible rfl))
        try simp only [Act.put]
        refine wpAnyH_take (i:=7) (oi:=_) (v:=?v__27) rfl (by kernel_rfl) (by kernel_rfl) (by kernel_rfl) (fun _ _ _ h=>h) (Or.inl ⟨by rfl,?hy__27⟩) (by assumption) ?rest__27
        case hy__27=>(intro w__ hSw__;go_simp;try (with_reducible rfl))
        try simp only [Act.put]
        refine wpAnyH_take (i:=8) (oi:=_) (v:=?v__28) rfl (by kernel_rfl) (by kernel_rfl) (by kernel_rfl) (fun _ _ _ h=>h) (Or.inl ⟨by rfl,?hy__28⟩) (by assumption) ?rest__28
        case hy__28=>(intro w__ hSw__;go_simp;try (with_reducible rfl))
        try simp only [Act.put]
        refine wpAnyH_take (i:=9) (oi:=_) (v:=?v__29) rfl (by kernel_rfl) (by kernel_rfl) (by kernel_rfl) (fun _ _ _ h=>h) (Or.inl ⟨by rfl,?hy__29⟩) (by assumption) ?rest__29
        case hy__29=>(intro w__ hSw__;go_simp;try (with_reducible rfl))
        try simp only [Act.put]
        refine wpAnyH_take (i:=10) (oi:=_) (v:=?v__30) rfl (by kernel_rfl) (by kernel_rfl) (by kernel_rfl) (fun _ _ _ h=>h) (Or.inl ⟨by rfl,?hy__30⟩) (by assumption) ?rest__30
        case hy__30=>(intro w__ hSw__;go_simp;try (with_reducible rfl))
        try simp only [Act.put]
        refine wpAnyH_take (i:=11) (oi:=_) (v:=?v__31) rfl (by kernel_rfl) (by kernel_rfl) (by kernel_rfl) (fun _ _ _ h=>h) (Or.inl ⟨by rfl,?hy__31⟩) (by assumption) ?rest__31
        case hy__31=>(intro w__ hSw__;go_simp;try (with_reducible rfl))
        try simp only [Act.put]
        refine wpAnyH_take (i:=12) (oi:=_) (v:=?v__32) rfl (by kernel_rfl) (by kernel_rfl) (by kernel_rfl) (fun _ _ _ h=>h) (Or.inl ⟨by rfl,?hy__32⟩) (by assumption) ?rest__32
        case hy__32=>(intro w__ hSw__;go_simp;try (with_reducible rfl))
        try simp only [Act.put]
        refine wpAnyH_take (i:=13) (oi:=_) (v:=?v__33) rfl (by kernel_rfl) (by kernel_rfl) (by kernel_rfl) (fun _ _ _ h=>h) (Or.inl ⟨by rfl,?hy__33⟩) (by assumption) ?rest__33
        case hy__33=>(intro w__ hSw__;go_simp;try (with_reducible rfl))
        try simp only [Act.put]
        refine wpAnyH_take (i:=14) (oi:=_) (v:=?v__34) rfl (by kernel_rfl) (by kernel_rfl) (by kernel_rfl) (fun _ _ _ h=>h) (Or.inl ⟨by rfl,?hy__34⟩) (by assumption) ?rest__34
        case hy__34=>(intro w__ hSw__;go_simp;try (with_reducible rfl))
        try simp only [Act.put]
        refine wpAnyH_take (i:=15) (oi:=_) (v:=?v__35) rfl (by kernel_rfl) (by kernel_rfl) (by kernel_rfl) (fun _ _ _ h=>h) (Or.inl ⟨by rfl,?hy__35⟩) (by assumption) ?rest__35
        case hy__35=>(intro w__ hSw__;go_simp;try (with_reducible rfl))
        try simp only [Act.put]
        refine wpAnyH_take (i:=16) (oi:=_) (v:=?v__36) rfl (by kernel_rfl) (by kernel_rfl) (by kernel_rfl) (fun _ _ _ h=>h) (Or.inl ⟨by rfl,?hy__36⟩) (by assumption) ?rest__36
        case hy__36=>(intro w__ hSw__;go_simp;try (with_reducible rfl))
        try simp only [Act.put]
        refine wpAnyH_ready (rs:=[4,17]) (by kernel_rfl) (by simp) ?_
        refine AllReadyH.cons (o:=_) rfl (fun K hK=>?_) ?_
        · go_simp
          refine hK.out _ _ (by repeat (first | with_reducible assumption | with_reducible refine PSx.set ?_ _ | with_reducible refine PSx.app ?_ hkp | with_reducible refine PSx.drew ?_ | with_reducible refine PSx.alloc ?_ _)) (fun hHeld=>?_)
          clear hK K
          try simp only [Act.put]
          refine wpAnyH_ready (rs:=[17]) (by kernel_rfl) (by simp) ?_
          refine AllReadyH.cons (o:=_) rfl (fun K hK=>?_) ?_
          · go_simp
            refine hK.out _ _ (by repeat (first | with_reducible assumption | with_reducible refine PSx.set ?_ _ | with_reducible refine PSx.app ?_ hkp | with_reducible refine PSx.drew ?_ | with_reducible refine PSx.alloc ?_ _)) (fun hHeld=>?_)
            clear hK K
            try simp only [Act.put]
            refine wpAnyH_ready (rs:=[18]) (by kernel_rfl) (by simp) ?_
            refine AllReadyH.cons (o:=_) rfl (fun K hK=>?_) ?_
            · (refine step_append_one (E:=EPV) (O:=OPV) (T:=138) (l:=m8) (F:=F8) (G:=[]) (y:=⟨mv,A9,ns.length,c9,G9⟩) (cs:=[.int .i64 (nth mk i).x.label.level,.int .i64 (nth mk i).x.label.set,.int .i64 (nth mk i).x.id,.int .i64 f,.int .i64 (f+1+(nth mk i).x.long),.bool false,.slice A9 ns.length c9]) (by rfl) _ _ 53 (by rfl) (.agg #[.int .i64 0,.int .i64 0,.int .i64 0,.int .i64 0,.int .i64 0,.bool false,.slice none 0 0]) 7 72 Tryz.underlying53 (by kernel_rfl) rfl rfl (by rfl) (HOXX.out.ext (by repeat (first | with_reducible assumption | with_reducible exact Ext.refl _ | with_reducible refine Ext.alloc ?_ _ | with_reducible refine Ext.drew ?_ | with_reducible refine Ext.setCell ?_ (by first | exact Nat.le_refl _ | exact Ext.size (by assumption) | (simp;done) | (simp;omega) | (show _≤_;omega)) _ ))) _ 0 1 (by rfl) ⟨⟨HCE.out,HFP.out⟩,rfl⟩ (Blk.new _ _ _).range (by simpa using HOW.out.nodup) (by have h1:=HPL8.out;rw [← HM.out,List.length_map] at h1;omega) (by decide) ?_;intro v'' w11 F3 how hkp hF3;obtain ⟨p11,k11,hv11,-⟩:=OwS.form how;subst hv11;have R11:=planner_after HCN.out HOXX.out (by repeat (first | with_reducible assumption | with_reducible exact Ext.refl _ | with_reducible refine Ext.alloc ?_ _ | with_reducible refine Ext.drew ?_ | with_reducible refine Ext.setCell ?_ (by first | exact Nat.le_refl _ | exact Ext.size (by assumption) | (simp;done) | (simp;omega) | (show _≤_;omega)) _ )) hkp;have rc:=Blk.cell R11 10;have rf:=Blk.frozen R11 10)
              refine hK.out _ _ (by repeat (first | with_reducible assumption | with_reducible refine PSx.set ?_ _ | with_reducible refine PSx.app ?_ hkp | with_reducible refine PSx.drew ?_ | with_reducible refine PSx.alloc ?_ _)) (fun hHeld=>?_)
              clear hK K
              try simp only [Act.put]
              refine wpAnyH_take (i:=19) (oi:=_) (v:=?v__37) rfl (by kernel_rfl) (by kernel_rfl) (by kernel_rfl) (fun _ _ _ h=>h) (Or.inl ⟨by rfl,?hy__37⟩) (by assumption) ?rest__37
              case hy__37=>(intro w__ hSw__;go_simp;try (with_reducible rfl))
              try simp only [Act.put]
              refine wpAnyH_take (i:=20) (oi:=_) (v:=?v__38) rfl (by kernel_rfl) (by kernel_rfl) (by kernel_rfl) (fun _ _ _ h=>h) (Or.inl ⟨by rfl,?hy__38⟩) (by assumption) ?rest__38
              case hy__38=>(intro w__ hSw__;go_simp;try (with_reducible rfl))
              try simp only [Act.put]
              refine wpAnyH_ready (rs:=[21]) (by kernel_rfl) (by simp) ?_
              refine AllReadyH.cons (o:=_) rfl (fun K hK=>?_) ?_
              · go_simp
                refine hK.out _ _ (by repeat (first | with_reducible assumption | with_reducible refine PSx.set ?_ _ | with_reducible refine PSx.app ?_ hkp | with_reducible refine PSx.drew ?_ | with_reducible refine PSx.alloc ?_ _)) (fun hHeld=>?_)
                clear hK K
                try simp only [Act.put]
                refine wpAnyH_done (by kernel_rfl) ?_ _
                have hxa:Ext W8 (wc.alloc (.cells #[.int .i64 (nth mk i).x.label.level,.int .i64 (nth mk i).x.label.set,.int .i64 (nth mk i).x.id,.int .i64 f,.int .i64 (f+1+(nth mk i).x.long),.bool false,.slice A9 ns.length c9] 138)):=X9.out.alloc _
                have hkp2:Kept F8 (wc.alloc (.cells #[.int .i64 (nth mk i).x.label.level,.int .i64 (nth mk i).x.label.set,.int .i64 (nth mk i).x.id,.int .i64 f,.int .i64 (f+1+(nth mk i).x.long),.bool false,.slice A9 ns.length c9] 138)) w11:=⟨hkp.os,hkp.tape,hkp.output,hkp.size,hkp.block⟩
                have hpush:PlS w B F0 G0 y v1 v2 v3 v4 v5 v6 (.slice As (startR y).length cs) (.slice Ah (hardR y).length ch) (w11.setCell ⟨B,10,none⟩ (.slice p11 (m8.length+1) k11)) (pk.eraseIdx d ++ [mv]):=PlS.push (e:=⟨mv,A9,ns.length,c9,G9⟩) HC.out HM.out HOW.out HF.out HNN.out HND.out HG.out HKP.out hxa (O10.out.ext ((Ext.refl _).alloc _)) G9h.out (by simpa using how) hkp2 (fun b hb=>match hF3 b hb with | .inl h=>.inl h | .inr (.inl h)=>absurd h (by simp) | .inr (.inr h)=>.inr h)
                have HPU:=Lib.hid hpush
                have HLR:Hid (OwS OTV 46 (w11.setCell ⟨B,10,none⟩ (.slice p11 (m8.length+1) k11)) (.slice Al ml.length cl) ml Fl):=Lib.hid (row_after HOL8.out HOW.out HC.out hxa hkp2)
                have HKRR:Hid (OwS OTV 46 (w11.setCell ⟨B,10,none⟩ (.slice p11 (m8.length+1) k11)) (.slice (some ⟨b,q,none⟩) mk.length ck) mk Fk):=Lib.hid (row_after HOK8.out HOW.out HC.out hxa hkp2)
                clear hpush hxa how hkp2 hkp hF3 R11 rc rf
                go_wp2_with fail
                go_roundw
                case rel=>exact ⟨i+1,by omega,by go_num,by rw [HSTE.out];exact HPU.out,HLR.out,HKRR.out⟩
                case measure=>simp [intOf];omega
              exact AllReadyH.nil
            exact AllReadyH.nil
          exact AllReadyH.nil
        refine AllReadyH.cons (o:=_) rfl (fun K hK=>?_) ?_
        · go_simp
          refine hK.out _ _ (by repeat (first | with_reducible assumption | with_reducible refine PSx.set ?_ _ | with_reducible refine PSx.app ?_ hkp | with_reducible refine PSx.drew ?_ | with_reducible refine PSx.alloc ?_ _)) (fun hHeld=>?_)
          clear hK K
          try simp only [Act.put]
          refine wpAnyH_ready (rs:=[4]) (by kernel_rfl) (by simp) ?_
          refine AllReadyH.cons (o:=_) rfl (fun K hK=>?_) ?_
          · go_simp
            refine hK.out _ _ (by repeat (first | with_reducible assumption | with_reducible refine PSx.set ?_ _ | with_reducible refine PSx.app ?_ hkp | with_reducible refine PSx.drew ?_ | with_reducible refine PSx.alloc ?_ _)) (fun hHeld=>?_)
            clear hK K
            try simp only [Act.put]
            refine wpAnyH_ready (rs:=[18]) (by kernel_rfl) (by simp) ?_
            refine AllReadyH.cons (o:=_) rfl (fun K hK=>?_) ?_
            · (refine step_append_one (E:=EPV) (O:=OPV) (T:=138) (l:=m8) (F:=F8) (G:=[]) (y:=⟨mv,A9,ns.length,c9,G9⟩) (cs:=[.int .i64 (nth mk i).x.label.level,.int .i64 (nth mk i).x.label.set,.int .i64 (nth mk i).x.id,.int .i64 f,.int .i64 (f+1+(nth mk i).x.long),.bool false,.slice A9 ns.length c9]) (by rfl) _ _ 53 (by rfl) (.agg #[.int .i64 0,.int .i64 0,.int .i64 0,.int .i64 0,.int .i64 0,.bool false,.slice none 0 0]) 7 72 Tryz.underlying53 (by kernel_rfl) rfl rfl (by rfl) (HOXX.out.ext (by repeat (first | with_reducible assumption | with_reducible exact Ext.refl _ | with_reducible refine Ext.alloc ?_ _ | with_reducible refine Ext.drew ?_ | with_reducible refine Ext.setCell ?_ (by first | exact Nat.le_refl _ | exact Ext.size (by assumption) | (simp;done) | (simp;omega) | (show _≤_;omega)) _ ))) _ 0 1 (by rfl) ⟨⟨HCE.out,HFP.out⟩,rfl⟩ (Blk.new _ _ _).range (by simpa using HOW.out.nodup) (by have h1:=HPL8.out;rw [← HM.out,List.length_map] at h1;omega) (by decide) ?_;intro v'' w11 F3 how hkp hF3;obtain ⟨p11,k11,hv11,-⟩:=OwS.form how;subst hv11;have R11:=planner_after HCN.out HOXX.out (by repeat (first | with_reducible assumption | with_reducible exact Ext.refl _ | with_reducible refine Ext.alloc ?_ _ | with_reducible refine Ext.drew ?_ | with_reducible refine Ext.setCell ?_ (by first | exact Nat.le_refl _ | exact Ext.size (by assumption) | (simp;done) | (simp;omega) | (show _≤_;omega)) _ )) hkp;have rc:=Blk.cell R11 10;have rf:=Blk.frozen R11 10)
              refine hK.out _ _ (by repeat (first | with_reducible assumption | with_reducible refine PSx.set ?_ _ | with_reducible refine PSx.app ?_ hkp | with_reducible refine PSx.drew ?_ | with_reducible refine PSx.alloc ?_ _)) (fun hHeld=>?_)
              clear hK K
              try simp only [Act.put]
              refine wpAnyH_take (i:=19) (oi:=_) (v:=?v__39) rfl (by kernel_rfl) (by kernel_rfl) (by kernel_rfl) (fun _ _ _ h=>h) (Or.inl ⟨by rfl,?hy__39⟩) (by assumption) ?rest__39
              case hy__39=>(intro w__ hSw__;go_simp;try (with_reducible rfl))
              try simp only [Act.put]
              refine wpAnyH_take (i:=20) (oi:=_) (v:=?v__40) rfl (by kernel_rfl) (by kernel_rfl) (by kernel_rfl) (fun _ _ _ h=>h) (Or.inl ⟨by rfl,?hy__40⟩) (by assumption) ?rest__40
              case hy__40=>(intro w__ hSw__;go_simp;try (with_reducible rfl))
              try simp only [Act.put]
              refine wpAnyH_ready (rs:=[21]) (by kernel_rfl) (by simp) ?_
              refine AllReadyH.cons (o:=_) rfl (fun K hK=>?_) ?_
              · go_simp
                refine hK.out _ _ (by repeat (first | with_reducible assumption | with_reducible refine PSx.set ?_ _ | with_reducible refine PSx.app ?_ hkp | with_reducible refine PSx.drew ?_ | with_reducible refine PSx.alloc ?_ _)) (fun hHeld=>?_)
                clear hK K
                try simp only [Act.put]
                refine wpAnyH_done (by kernel_rfl) ?_ _
                have hxa:Ext W8 (wc.alloc (.cells #[.int .i64 (nth mk i).x.label.level,.int .i64 (nth mk i).x.label.set,.int .i64 (nth mk i).x.id,.int .i64 f,.int .i64 (f+1+(nth mk i).x.long),.bool false,.slice A9 ns.length c9] 138)):=X9.out.alloc _
                have hkp2:Kept F8 (wc.alloc (.cells #[.int .i64 (nth mk i).x.label.level,.int .i64 (nth mk i).x.label.set,.int .i64 (nth mk i).x.id,.int .i64 f,.int .i64 (f+1+(nth mk i).x.long),.bool false,.slice A9 ns.length c9] 138)) w11:=⟨hkp.os,hkp.tape,hkp.output,hkp.size,hkp.block⟩
                have hpush:PlS w B F0 G0 y v1 v2 v3 v4 v5 v6 (.slice As (startR y).length cs) (.slice Ah (hardR y).length ch) (w11.setCell ⟨B,10,none⟩ (.slice p11 (m8.length+1) k11)) (pk.eraseIdx d ++ [mv]):=PlS.push (e:=⟨mv,A9,ns.length,c9,G9⟩) HC.out HM.out HOW.out HF.out HNN.out HND.out HG.out HKP.out hxa (O10.out.ext ((Ext.refl _).alloc _)) G9h.out (by simpa using how) hkp2 (fun b hb=>match hF3 b hb with | .inl h=>.inl h | .inr (.inl h)=>absurd h (by simp) | .inr (.inr h)=>.inr h)
                have HPU:=Lib.hid hpush
                have HLR:Hid (OwS OTV 46 (w11.setCell ⟨B,10,none⟩ (.slice p11 (m8.length+1) k11)) (.slice Al ml.length cl) ml Fl):=Lib.hid (row_after HOL8.out HOW.out HC.out hxa hkp2)
                have HKRR:Hid (OwS OTV 46 (w11.setCell ⟨B,10,none⟩ (.slice p11 (m8.length+1) k11)) (.slice (some ⟨b,q,none⟩) mk.length ck) mk Fk):=Lib.hid (row_after HOK8.out HOW.out HC.out hxa hkp2)
                clear hpush hxa how hkp2 hkp hF3 R11 rc rf
                go_wp2_with fail
                go_roundw
                case rel=>exact ⟨i+1,by omega,by go_num,by rw [HSTE.out];exact HPU.out,HLR.out,HKRR.out⟩
                case measure=>simp [intOf];omega
              exact AllReadyH.nil
            exact AllReadyH.nil
          exact AllReadyH.nil
        exact AllReadyH.nil
  · obtain rfl:i=mk.length:=by omega
    have HLK:Hid (mk.length=sr.2.1.length):=Lib.hid (by rw [← HMK.out,List.length_map])
    obtain ⟨q3,hq3⟩:∃ q3,sr.2.1.foldl (step3 y) sr.2.2=q3:=⟨_,rfl⟩
    have HQ3:=Lib.hid hq3
    have HP3:Hid (PlS w B F0 G0 y v1 v2 v3 v4 v5 v6 (.slice As (startR y).length cs) (.slice Ah (hardR y).length ch) wr q3):=Lib.hid (by have h:=HPP.out;rw [HLK.out,List.take_length,hq3] at h;exact h)
    have HLQ:Hid (q3.length≤30000):=Lib.hid (by rw [← hq3];have h1:=foldl_size (s:=fun ps:List Place=>ps.length) (f:=step3 y) len3 sr.2.1 sr.2.2;have:=HLS.out;omega)
    clear hq3 hi1 hli HPP
    have HOLE:=Lib.hid HOL.out
    go_wp2_with fail
    (try simp only [Exit.inBlock,Exit.then])
    refine HK0.out _ ⟨?_,HOLE.out⟩ _ _ _ _ _ _ _ _ _ _ _ _ _ _ _ _ _ _ _ _ _ _ _ _ _ _ _ _ _ _ _ _ _ _ _ _ _ _ _ _ _ _ _ _ _ _ _ _ _ _ _ _ _ _ _ _ _ _ _ _ _ _ _ _ _ _ _ _ _ _ _ _ _ _ _ _ _ _ _ _ _ _ _ _ _ _ _ _ _ _ _ _ _ _ _ _ _ _ _ _ _ _ _ _ _ _ _ _ _ _ _ _ _ _ _ _ _ _ _ _ _ _ _ _ _ _ _ _ _ _ _ _ _ _ _ _ _ _ _ _ _ _ _ _ _ _ _ _ _ _ _ _ _ _ _ _ _ _ _ _ _ _ _ _ _ _ _ _ _ _ _ _ _ _ _ _ _ _ _ _ _ _ _ _ _ _ _ _ _ _ _ _ _ _ _ _ _ _ _ _ _ _ _ _ _ _ _ _ _ _ _ _ _ _ _ _ _ _ _ _ _ _ _ _ _ _ _ _ _ _ _ _ _ _ _ _ _ _ _ _ _ _ _ _ _ _ _
    rw [HQ3.out];exact HP3.out
end Go.Proofs.YtoblacfjmcpbmaaGreat

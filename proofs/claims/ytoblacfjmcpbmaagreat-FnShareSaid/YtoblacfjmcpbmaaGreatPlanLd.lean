/- The walk of the program's planLabel: its fourth loop. Printed by wip/plansplit.py. -/
import Derived.Test.YtoblacfjmcpbmaaGreatPlanLc
import Derived.Deep.CutBlock
namespace Go.Proofs.YtoblacfjmcpbmaaGreat
open Go.RowKit
attribute [local irreducible] wpQuiet
set_option maxHeartbeats 64000000 in
set_option maxRecDepth 1000000 in
theorem planLabel_l4 {S:Nat→Prop} (y:Yard) (ps:List Place) (l:List Task) (a:Label) (v1 v2 v3 v4 v5 v6:Value) (B:Nat) (F0 G0:List Nat) (w wr0:World) (A:Option Addr) (c:Nat) (As:Option Addr) (cs:Nat) (Ah:Option Addr) (ch:Nat) (ml _mk:List TV) (Fl _Fk:List Nat) (Al:Option Addr) (cl:Nat) (_Ak:Option Addr) (_ck:Nat) (sr:List Task × List Task × List Place) (q3:List Place)
 (HS:Hid (∀ b,S b→b < w.heap.size∧b∉B :: F0)) (HO:Hid (RowsOk y)) (HFI:Hid (∀ t∈l,TaskFit y t)) (_HLE:Hid (y.nodes.length=y.config.nodes.length)) (_HTU:Hid (Turn y a ps l)) (HR:Hid (PlR S w y v1 v2 v3 v4 v5 v6 (.slice As (startR y).length cs) (.slice Ah (hardR y).length ch))) (HSR:Hid (run2 y ps l=sr)) (HLS:Hid (sr.2.2.length≤20000∧sr.1.length≤96∧sr.2.1.length≤96)) (HSUB:Hid ((∀ u∈sr.1,u∈l)∧∀ u∈sr.2.1,u∈l∧0 < u.nodes.length)) (HML:Hid (ml.map TV.x=sr.1)) (_HTL:Hid (TAt S w ml)) (HQ3:Hid (sr.2.1.foldl (step3 y) sr.2.2=q3)) (HLQ:Hid (q3.length≤30000)) (HOL:Hid (OwS OTV 46 wr0 (.slice Al ml.length cl) ml Fl)) (HP3:Hid (PlS w B F0 G0 y v1 v2 v3 v4 v5 v6 (.slice As (startR y).length cs) (.slice Ah (hardR y).length ch) wr0 q3))
 (R:Ending→World→Prop) (s2 s3 s5 s6 s7 s8 s9 s10 s11 s12 s13 s14 s15 s16 s17 s18 s19 s20 s21 s22 s23 s24 s25 s26 s27 s28 s29 s30 s31 s32 s33 s34 s35 s36 s37 s38 s39 s40 s41 s42 s43 s44 s45 s46 s47 s48 s49 s50 s51 s52 s53 s54 s55 s56 s57 s58 s59 s60 s61 s62 s63 s64 s65 s66 s67 s68 s69 s70 s71 s72 s73 s74 s75 s76 s77 s78 s79 s80 s81 s82 s83 s84 s85 s86 s87 s88 s89 s90 s91 s92 s93 s94 s95 s96 s97 s98 s99 s100 s101 s102 s103 s104 s105 s106 s107 s108 s109 s110 s111 s112 s113 s114 s115 s116 s117 s118 s119 s120 s121 s122 s123 s124 s125 s126 s127 s128 s129 s130 s131 s132 s133 s134 s135 s136 s137 s138 s139 s140 s141 s142 s143 s144 s145 s146 s147 s148 s149 s150 s151 s152 s153 s154 s155 s156 s157 s158 s159 s160 s161 s162 s163 s164 s165 s166 s167 s168 s169 s170 s171 s172 s173 s174 s175 s176 s177 s178 s179 s180 s181 s182 s183 s184 s185 s186 s187 s188 s189 s190 s191 s192 s193 s194 s195 s196 s197 s198 s199 s200 s201 s202 s206 s207 s208 s209 s210 s211 s212 s213 s214 s215 s216 s217 s218 s219 s220 s221 s222 s223 s224 s225 s226 s227 s228 s229 s230 s231 s232 s233 s234 s235 s236 s237 s238 s239 s240 s241 s242 s243 s244 s245 s246 s247 s248 s249:Value)
 (HK0:Hid (After (bodyPost Tryz.prog Tryz.f96 R Exit.normal) (fun w'=>PlS w B F0 G0 y v1 v2 v3 v4 v5 v6 (.slice As (startR y).length cs) (.slice Ah (hardR y).length ch) w' (planLabel y ps l)) (.pointer (some ⟨B,0,none⟩)) (.slice A l.length c) (.slice Al ml.length cl))) :
 Code.wp Tryz.prog (nav [1,1,1,1,1,1] (codeOf Tryz.f96)) (bodyPost Tryz.prog Tryz.f96 R) { tmps:=#[.pointer (some ⟨B,0,none⟩),.slice A l.length c,s2,s3,.slice Al ml.length cl,s5,s6,s7,s8,s9,s10,s11,s12,s13,s14,s15,s16,s17,s18,s19,s20,s21,s22,s23,s24,s25,s26,s27,s28,s29,s30,s31,s32,s33,s34,s35,s36,s37,s38,s39,s40,s41,s42,s43,s44,s45,s46,s47,s48,s49,s50,s51,s52,s53,s54,s55,s56,s57,s58,s59,s60,s61,s62,s63,s64,s65,s66,s67,s68,s69,s70,s71,s72,s73,s74,s75,s76,s77,s78,s79,s80,s81,s82,s83,s84,s85,s86,s87,s88,s89,s90,s91,s92,s93,s94,s95,s96,s97,s98,s99,s100,s101,s102,s103,s104,s105,s106,s107,s108,s109,s110,s111,s112,s113,s114,s115,s116,s117,s118,s119,s120,s121,s122,s123,s124,s125,s126,s127,s128,s129,s130,s131,s132,s133,s134,s135,s136,s137,s138,s139,s140,s141,s142,s143,s144,s145,s146,s147,s148,s149,s150,s151,s152,s153,s154,s155,s156,s157,s158,s159,s160,s161,s162,s163,s164,s165,s166,s167,s168,s169,s170,s171,s172,s173,s174,s175,s176,s177,s178,s179,s180,s181,s182,s183,s184,s185,s186,s187,s188,s189,s190,s191,s192,s193,s194,s195,s196,s197,s198,s199,s200,s201,s202,.slice Al ml.length cl,.int .i64 ml.length,.int .i64 0,s206,s207,s208,s209,s210,s211,s212,s213,s214,s215,s216,s217,s218,s219,s220,s221,s222,s223,s224,s225,s226,s227,s228,s229,s230,s231,s232,s233,s234,s235,s236,s237,s238,s239,s240,s241,s242,s243,s244,s245,s246,s247,s248,s249],defers:=[] } wr0:=by
 have hnow:=HO.out.now
 conv=>arg 2;simp only [nav,codeOf,Tryz.f96,Option.getD_some]
 go_wp2_with fail
 go_loopw [205] (fun i w'=>∃ j:Nat,j≤ml.length∧i=.int .i64 j∧PlS w B F0 G0 y v1 v2 v3 v4 v5 v6 (.slice As (startR y).length cs) (.slice Ah (hardR y).length ch) w' ((sr.1.take j).foldl (step4 y) q3) ∧
  OwS OTV 46 w' (.slice Al ml.length cl) ml Fl) (fun i _=>ml.length - (intOf i).toNat)
 case atStart=>exact ⟨0,Nat.zero_le _,rfl,by simpa using HP3.out,HOL.out⟩
 case round =>
  obtain ⟨i,hi1,rfl,hP,hol⟩:=hrel
  have HPP:=Lib.hid hP
  have HOL:=Lib.hid hol
  clear hP hol
  by_cases hli:i < ml.length
  · obtain ⟨vp,m,F,hC,hm,hown,hF,hnn,hnd,hg,hkp⟩:=HPP.out
    have hsame:Same S w wr:=hkp.same fun b hb=>(HS.out b hb).2
    obtain ⟨Al',cl',hvk,lk1,mk1,hkk⟩:=HOL.out.rd.open_
    injection hvk with e1 e2 e3
    subst e1 e3
    clear e2
    unfold maxLen at mk1
    obtain ⟨b,q,cs0,rfl,hbS,⟨rfl,hft⟩,hc⟩:=hkk i hli
    simp only [cellsTask] at hc
    have hsr:Same (fun b=>b∈Fl) wr wr:=Same.refl _ _
    have z0:=hsr _ _ _ hbS (hc 0 _ rfl)
    have z1:=hsr _ _ _ hbS (hc 1 _ rfl)
    have z2:=hsr _ _ _ hbS (hc 2 _ rfl)
    have z3:=hsr _ _ _ hbS (hc 3 _ rfl)
    have z4:=hsr _ _ _ hbS (hc 4 _ rfl)
    have z5:=hsr _ _ _ hbS (hc 5 _ rfl)
    have z6:=hsr _ _ _ hbS (hc 6 _ rfl)
    have z7:=hsr _ _ _ hbS (hc 7 _ rfl)
    have z8:=hsr _ _ _ hbS (hc 8 _ rfl)
    have z9:=hsr _ _ _ hbS (hc 9 _ rfl)
    have z10:=hsr _ _ _ hbS (hc 10 _ rfl)
    have z11:=hsr _ _ _ hbS (hc 11 _ rfl)
    have z12:=hsr _ _ _ hbS (hc 12 _ rfl)
    have z13:=hsr _ _ _ hbS (hc 13 _ rfl)
    simp only [ETV,Nat.add_zero] at z0 z1 z2 z3 z4 z5 z6 z7 z8 z9 z10 z11 z12 z13
    have HMEM:Hid (nth ml i∈ml):=Lib.hid (nth_mem hli)
    have HT1:Hid (nth sr.1 i=(nth ml i).x):=Lib.hid (by rw [← HML.out,nth_map hli])
    have HLM:Hid (ml.length=sr.1.length):=Lib.hid (by rw [← HML.out,List.length_map])
    have HC:=Lib.hid hC
    have HM:=Lib.hid hm
    have HOW:=Lib.hid hown
    have HF:=Lib.hid hF
    have HNN:=Lib.hid hnn
    have HND:=Lib.hid hnd
    have HG:=Lib.hid hg
    have HKP:=Lib.hid hkp
    have HSM:=Lib.hid hsame
    have HFT:=Lib.hid hft
    obtain ⟨Ap,cp,rfl,-⟩:=hown.form
    clear hC hm hown hF hnn hnd hg hkp hsame hc hft hkk hsr
    go_upto_region 33 with (fail)
    obtain ⟨W5,B5,hW__,hB__,hx__,hb__⟩:=new_box wr #[.int .i64 (nth ml i).x.label.level,.int .i64 (nth ml i).x.label.set,.int .i64 (nth ml i).x.id,.string (nth ml i).x.owner,.int .i64 (nth ml i).x.need,.int .i64 (nth ml i).x.long,.int .i64 (nth ml i).x.prio,.int .i64 (nth ml i).x.under.level,.int .i64 (nth ml i).x.under.set,.int .i64 (nth ml i).x.after,.int .i64 (nth ml i).x.born,.int .i64 (nth ml i).x.state,.int .i64 (nth ml i).x.start,.slice (nth ml i).A (nth ml i).n (nth ml i).c] 46
    rw [← hW__,← hB__]
    have XW5:=Lib.hid hx__
    have QB5:=Lib.hid hb__
    have EB5:=Lib.hid hB__
    clear hW__ hB__ hx__ hb__
    clear z0 z1 z2 z3 z4 z5 z6 z7 z8 z9 z10 z11 z12 z13
    have HTF:=Lib.hid (HFI.out _ (HSUB.out.1 _ (by rw [← HML.out];exact List.mem_map.2 ⟨_,HMEM.out,rfl⟩)))
    obtain ⟨pk,hpk⟩:∃ pk,(sr.1.take i).foldl (step4 y) q3=pk:=⟨_,rfl⟩
    have HST:Hid ((sr.1.take (i+1)).foldl (step4 y) q3=step4 y pk (nth ml i).x):=Lib.hid (by rw [take_succ_nth (by rw [← HLM.out];exact hli),List.foldl_append,hpk,HT1.out];rfl)
    have HPL:Hid (pk.length≤40000):=Lib.hid (by
     rw [← hpk]
     have h1:=foldl_size (s:=fun ps:List Place=>ps.length) (f:=step4 y) len4 (sr.1.take i) q3
     rw [List.length_take] at h1
     have:=HLS.out
     have:=HLQ.out
     omega)
    rw [hpk] at HPP HM
    clear hpk
    have HRDP:Hid (Rd EPlace (fun _=>True) wr (.slice Ap m.length cp) pk):=Lib.hid (places_read HM.out HOW.out HNN.out)
    obtain ⟨r,hr⟩:∃ r,searchY y pk (nth ml i).x.label (nth ml i).x.need (nth ml i).x.long 41 y.now=r:=⟨_,rfl⟩
    have HRR:=Lib.hid hr
    have HSE:Hid (∀ V,Ext W5 V→Calls Tryz.prog 139 #[.pointer (some ⟨B,0,none⟩),.agg #[.int .i64 (nth ml i).x.label.level,.int .i64 (nth ml i).x.label.set],.int .i64 (nth ml i).x.need,.int .i64 (nth ml i).x.long,.int .i64 (y.now+40)] V (RetSearch r V)):=Lib.hid fun V hV=>by
     rw [← hr,show (41:Nat)=(y.now+40+1 - y.now).toNat by omega]
     exact search_any (S:=S) (S':=fun _=>True) y pk (nth ml i).x.label (nth ml i).x.need (nth ml i).x.long (y.now+40) _ _ _ _ _ _ _ _ _ B V (HC.out.ext (XW5.out.trans hV)) ((HR.out.keep HSM.out).ext (XW5.out.trans hV)) (HRDP.out.ext (XW5.out.trans hV)) HO.out (by have:=HPL.out;omega) HTF.out.need HTF.out.long (by have:=HTF.out.now;omega)
    clear hr
    have tl:∀ V,Ext W5 V→∀ i,V.cell? ⟨B5,i,none⟩=_:=fun V hV=>(QB5.out.ext hV).cell
    have bl:∀ V,Ext W5 V→∀ i,V.cell? ⟨B,i,none⟩=_:=fun V hV=>(HC.out.ext (XW5.out.trans hV)).cell
    have hw40:IntKind.i64.wrap (y.now+40)=y.now+40:=IntWalk.i64_in _ (by have:=HTF.out.now;omega)
    go_region_held3 (fun V=>Ext W5 V) (repeat (first | with_reducible assumption | with_reducible exact Ext.refl _ | with_reducible refine Ext.alloc ?_ _ | with_reducible refine Ext.drew ?_ | with_reducible refine Ext.setCell ?_ (by first | exact Nat.le_refl _ | exact Ext.size (by assumption) | (simp;done) | (simp;omega) | (show _≤_;omega)) _ | with_reducible refine Ext.trans ?_ hx8)) (first | (go_at_call 139;(with_reducible refine (HSE.out _ (by repeat (first | with_reducible assumption | with_reducible exact Ext.refl _ | with_reducible refine Ext.alloc ?_ _ | with_reducible refine Ext.drew ?_ | with_reducible refine Ext.setCell ?_ (by first | exact Nat.le_refl _ | exact Ext.size (by assumption) | (simp;done) | (simp;omega) | (show _≤_;omega)) _ ))).mono ?_);rintro e w8 ⟨v8,G8,rfl,q8,g8,hx8⟩;obtain ⟨A8,c8,rfl,-⟩:=OwS.form q8))
    have hx8':Ext W5 w8:=by assumption
    have X8:=Lib.hid (XW5.out.trans hx8')
    have Q8:=Lib.hid (QB5.out.ext hx8')
    have G8h:Hid (∀ b∈G8,wr.heap.size≤b):=Lib.hid fun b hb=>Nat.le_trans XW5.out.size (g8 b hb)
    have Q8S:=Lib.hid q8
    clear tl bl hw40 q8 g8 hx8 hx8'
    cases r with
    | none =>
      have HSTE:Hid ((sr.1.take (i+1)).foldl (step4 y) q3=pk):=Lib.hid (by rw [HST.out,step4,newP,HRR.out,List.append_nil])
      simp only [Option.elim]
      go_wp2_with fail
      go_roundw
      case rel=>exact ⟨i+1,by omega,by go_num,by rw [HSTE.out];exact HPP.out.ext X8.out,HOL.out.ext X8.out⟩
      case measure=>simp [intOf];omega
    | some fn =>
      obtain ⟨f,ns⟩:=fn
      have HSTE:Hid ((sr.1.take (i+1)).foldl (step4 y) q3=pk ++ [foundP (nth ml i).x f ns]):=Lib.hid (by rw [HST.out,step4,newP,HRR.out])
      have HMOK:Hid (OkP (foundP (nth ml i).x f ns)):=Lib.hid (ok_found HTF.out HRR.out (by have:=HTF.out.now;omega))
      have HMVV:Hid (foundP (nth ml i).x f ns=⟨(nth ml i).x.label,(nth ml i).x.id,f,f+1+(nth ml i).x.long,false,ns⟩):=Lib.hid rfl
      have hf0:(0:Int)≤f:=HMOK.out.lo
      simp only [Option.elim] at Q8S ⊢
      have O8:Hid (OwS OInt 2 w8 (.slice A8 ns.length c8) (foundP (nth ml i).x f ns).nodes G8):=Q8S
      have HCN:=Lib.hid (HC.out.ext X8.out)
      have HOXX:=Lib.hid (HOW.out.ext X8.out)
      have HCE:Hid (([.int .i64 (nth ml i).x.label.level,.int .i64 (nth ml i).x.label.set,.int .i64 (nth ml i).x.id,.int .i64 f,.int .i64 (f+1+(nth ml i).x.long),.bool false,.slice A8 ns.length c8]:List Value)=cellsPlace (foundP (nth ml i).x f ns) (.slice A8 ns.length c8)):=Lib.hid (by rw [HMVV.out];rfl)
      have HFP:Hid (FitPlace (foundP (nth ml i).x f ns)):=Lib.hid (ok_fit HMOK.out)
      have hw1:IntKind.i64.wrap (f+1)=f+1:=IntWalk.i64_in _ (by have h1:=HMOK.out.lo;have h2:=HMOK.out.ord;have h3:=HMOK.out.hi;rw [HMVV.out] at h1 h2 h3;simp only at h1 h2 h3;omega)
      have hw2:IntKind.i64.wrap (f+1+(nth ml i).x.long)=f+1+(nth ml i).x.long:=IntWalk.i64_in _ (by have h1:=HMOK.out.lo;have h2:=HMOK.out.ord;have h3:=HMOK.out.hi;rw [HMVV.out] at h1 h2 h3;simp only at h1 h2 h3;omega)
      have hs0:=psx_start HCN.out HOXX.out
      have hB5n:B5∉B :: F:=fun hm=>by
       rcases List.mem_cons.1 hm with h | h
       · exact absurd (tag_ne (h ▸ Q8.out) HCN.out) (by decide)
       · exact HOXX.out.apart Q8.out (by decide) h
      have tl:∀ V,PSx w8 B F V→∀ i,V.cell? ⟨B5,i,none⟩=_:=fun V hV=>hV.cells Q8.out hB5n
      have fl:∀ V,PSx w8 B F V→V.frozen? ⟨B,10,none⟩=false:=fun V hV=>hV.fz
      have b10:w8.cell? ⟨B,10,none⟩=some (.slice Ap m.length cp):=HCN.out.cell 10
      have b10a:=fun ob:Obj=>Ext.some ((Ext.refl w8).alloc ob) b10
      clear hB5n
      go_upto_region 35 with (fail)
      refine wp_region_held_drew (S:=fun V=>PSx w8 B F V) (by kernel_rfl) hs0.drew (fun hHeld=>?_)
      refine wpAnyH_take (i:=0) (oi:=_) (v:=?v__1) rfl (by kernel_rfl) (by kernel_rfl) (by kernel_rfl) (fun _ _ _ h=>h) (Or.inl ⟨by rfl,?hy__1⟩) (by assumption) ?rest__1
      case hy__1=>(intro w__ hSw__;go_simp;try (with_reducible rfl))
      try simp only [Act.put]
      refine wpAnyH_take (i:=1) (oi:=_) (v:=?v__2) rfl (by kernel_rfl) (by kernel_rfl) (by kernel_rfl) (fun _ _ _ h=>h) (Or.inl ⟨by rfl,?hy__2⟩) (by assumption) ?rest__2
      case hy__2=>(intro w__ hSw__;go_simp;try (with_reducible rfl))
      try simp only [Act.put]
      refine wpAnyH_take (i:=2) (oi:=_) (v:=?v__3) rfl (by kernel_rfl) (by kernel_rfl) (by kernel_rfl) (fun _ _ _ h=>h) (Or.inl ⟨by rfl,?hy__3⟩) (by assumption) ?rest__3
      case hy__3=>(intro w__ hSw__;go_simp;try (with_reducible rfl))
      try simp only [Act.put]
      refine wpAnyH_take (i:=3) (oi:=_) (v:=?v__4) rfl (by kernel_rfl) (by kernel_rfl) (by kernel_rfl) (fun _ _ _ h=>h) (Or.inl ⟨by rfl,?hy__4⟩) (by assumption) ?rest__4
      case hy__4=>(intro w__ hSw__;go_simp;try (with_reducible rfl))
      try simp only [Act.put]
      refine wpAnyH_take (i:=5) (oi:=_) (v:=?v__5) rfl (by kernel_rfl) (by kernel_rfl) (by kernel_rfl) (fun _ _ _ h=>h) (Or.inl ⟨by rfl,?hy__5⟩) (by assumption) ?rest__5
      case hy__5=>(intro w__ hSw__;go_simp;try (with_reducible rfl))
      try simp only [Act.put]
      refine wpAnyH_take (i:=6) (oi:=_) (v:=?v__6) rfl (by kernel_rfl) (by kernel_rfl) (by kernel_rfl) (fun _ _ _ h=>h) (Or.inl ⟨by rfl,?hy__6⟩) (by assumption) ?rest__6
      case hy__6=>(intro w__ hSw__;go_simp;try (with_reducible rfl))
      try simp only [Act.put]
      refine wpAnyH_take (i:=7) (oi:=_) (v:=?v__7) rfl (by kernel_rfl) (by kernel_rfl) (by kernel_rfl) (fun _ _ _ h=>h) (Or.inl ⟨by rfl,?hy__7⟩) (by assumption) ?rest__7
      case hy__7=>(intro w__ hSw__;go_simp;try (with_reducible rfl))
      try simp only [Act.put]
      refine wpAnyH_take (i:=8) (oi:=_) (v:=?v__8) rfl (by kernel_rfl) (by kernel_rfl) (by kernel_rfl) (fun _ _ _ h=>h) (Or.inl ⟨by rfl,?hy__8⟩) (by assumption) ?rest__8
      case hy__8=>(intro w__ hSw__;go_simp;try (with_reducible rfl))
      try simp only [Act.put]
      refine wpAnyH_take (i:=9) (oi:=_) (v:=?v__9) rfl (by kernel_rfl) (by kernel_rfl) (by kernel_rfl) (fun _ _ _ h=>h) (Or.inl ⟨by rfl,?hy__9⟩) (by assumption) ?rest__9
      case hy__9=>(intro w__ hSw__;go_simp;try (with_reducible rfl))
      try simp only [Act.put]
      refine wpAnyH_take (i:=10) (oi:=_) (v:=?v__10) rfl (by kernel_rfl) (by kernel_rfl) (by kernel_rfl) (fun _ _ _ h=>h) (Or.inl ⟨by rfl,?hy__10⟩) (by assumption) ?rest__10
      case hy__10=>(intro w__ hSw__;go_simp;try (with_reducible rfl))
      try simp only [Act.put]
      refine wpAnyH_take (i:=11) (oi:=_) (v:=?v__11) rfl (by kernel_rfl) (by kernel_rfl) (by kernel_rfl) (fun _ _ _ h=>h) (Or.inl ⟨by rfl,?hy__11⟩) (by assumption) ?rest__11
      case hy__11=>(intro w__ hSw__;go_simp;try (with_reducible rfl))
      try simp only [Act.put]
      refine wpAnyH_take (i:=12) (oi:=_) (v:=?v__12) rfl (by kernel_rfl) (by kernel_rfl) (by kernel_rfl) (fun _ _ _ h=>h) (Or.inl ⟨by rfl,?hy__12⟩) (by assumption) ?rest__12
      case hy__12=>(intro w__ hSw__;go_simp;try (with_reducible rfl))
      try simp only [Act.put]
      refine wpAnyH_take (i:=13) (oi:=_) (v:=?v__13) rfl (by kernel_rfl) (by kernel_rfl) (by kernel_rfl) (fun _ _ _ h=>h) (Or.inl ⟨by rfl,?hy__13⟩) (by assumption) ?rest__13
      case hy__13=>(intro w__ hSw__;go_simp;try (with_reducible rfl))
      try simp only [Act.put]
      refine wpAnyH_take (i:=14) (oi:=_) (v:=?v__14) rfl (by kernel_rfl) (by kernel_rfl) (by kernel_rfl) (fun _ _ _ h=>h) (Or.inl ⟨by rfl,?hy__14⟩) (by assumption) ?rest__14
      case hy__14=>(intro w__ hSw__;go_simp;try (with_reducible rfl))
      try simp only [Act.put]
      refine wpAnyH_take (i:=15) (oi:=_) (v:=?v__15) rfl (by kernel_rfl) (by kernel_rfl) (by kernel_rfl) (fun _ _ _ h=>h) (Or.inl ⟨by rfl,?hy__15⟩) (by assumption) ?rest__15
      case hy__15=>(intro w__ hSw__;go_simp;try (with_reducible rfl))
      try simp only [Act.put]
      refine wpAnyH_take (i:=16) (oi:=_) (v:=?v__16) rfl (by kernel_rfl) (by kernel_rfl) (by kernel_rfl) (fun _ _ _ h=>h) (Or.inl ⟨by rfl,?hy__16⟩) (by assumption) ?rest__16
      case hy__16=>(intro w__ hSw__;go_simp;try (with_reducible rfl))
      try simp only [Act.put]
      refine wpAnyH_ready (rs:=[4,17]) (by kernel_rfl) (by simp) ?_
      refine AllReadyH.cons (o:=_) rfl (fun K hK=>?_) ?_
      · go_simp
        refine hK.out _ _ (by repeat (first | with_reducible assumption | with_reducible refine PSx.set ?_ _ | with_reducible refine PSx.app ?_ hkp | with_reducible refine PSx.drew ?_ | with_reducible refine PSx.alloc ?_ _)) (fun hHeld=>?_)
        clear hK K
        try simp only [Act.put]
        refine wpAnyH_ready (rs:=[17]) (by kernel_rfl) (by simp) ?_
        refine AllReadyH.cons (o:=_) rfl (fun K hK=>?_) ?_
        · go_simp
          refine hK.out _ _ (by repeat (first | with_reducible assumption | with_reducible refine PSx.set ?_ _ | with_reducible refine PSx.app ?_ hkp | with_reducible refine PSx.drew ?_ | with_reducible refine PSx.alloc ?_ _)) (fun hHeld=>?_)
          clear hK K
          try simp only [Act.put]
          refine wpAnyH_ready (rs:=[18]) (by kernel_rfl) (by simp) ?_
          refine AllReadyH.cons (o:=_) rfl (fun K hK=>?_) ?_
          · (refine step_append_one (E:=EPV) (O:=OPV) (T:=138) (l:=m) (F:=F) (G:=[]) (y:=⟨(foundP (nth ml i).x f ns),A8,ns.length,c8,G8⟩) (cs:=[.int .i64 (nth ml i).x.label.level,.int .i64 (nth ml i).x.label.set,.int .i64 (nth ml i).x.id,.int .i64 f,.int .i64 (f+1+(nth ml i).x.long),.bool false,.slice A8 ns.length c8]) (by rfl) _ _ 53 (by rfl) (.agg #[.int .i64 0,.int .i64 0,.int .i64 0,.int .i64 0,.int .i64 0,.bool false,.slice none 0 0]) 7 72 Tryz.underlying53 (by kernel_rfl) rfl rfl (by rfl) (HOXX.out.ext (by repeat (first | with_reducible assumption | with_reducible exact Ext.refl _ | with_reducible refine Ext.alloc ?_ _ | with_reducible refine Ext.drew ?_ | with_reducible refine Ext.setCell ?_ (by first | exact Nat.le_refl _ | exact Ext.size (by assumption) | (simp;done) | (simp;omega) | (show _≤_;omega)) _ ))) _ 0 1 (by rfl) ⟨⟨HCE.out,HFP.out⟩,rfl⟩ (Blk.new _ _ _).range (by simpa using HOW.out.nodup) (by have h1:=HPL.out;rw [← HM.out,List.length_map] at h1;omega) (by decide) ?_;intro v'' w11 F3 how hkp hF3;obtain ⟨p11,k11,hv11,-⟩:=OwS.form how;subst hv11;have R11:=planner_after HCN.out HOXX.out (by repeat (first | with_reducible assumption | with_reducible exact Ext.refl _ | with_reducible refine Ext.alloc ?_ _ | with_reducible refine Ext.drew ?_ | with_reducible refine Ext.setCell ?_ (by first | exact Nat.le_refl _ | exact Ext.size (by assumption) | (simp;done) | (simp;omega) | (show _≤_;omega)) _ )) hkp;have rc:=Blk.cell R11 10;have rf:=Blk.frozen R11 10)
            refine hK.out _ _ (by repeat (first | with_reducible assumption | with_reducible refine PSx.set ?_ _ | with_reducible refine PSx.app ?_ hkp | with_reducible refine PSx.drew ?_ | with_reducible refine PSx.alloc ?_ _)) (fun hHeld=>?_)
            clear hK K
            try simp only [Act.put]
            refine wpAnyH_take (i:=19) (oi:=_) (v:=?v__17) rfl (by kernel_rfl) (by kernel_rfl) (by kernel_rfl) (fun _ _ _ h=>h) (Or.inl ⟨by rfl,?hy__17⟩) (by assumption) ?rest__17
            case hy__17=>(intro w__ hSw__;go_simp;try (with_reducible rfl))
            try simp only [Act.put]
            refine wpAnyH_take (i:=20) (oi:=_) (v:=?v__18) rfl (by kernel_rfl) (by kernel_rfl) (by kernel_rfl) (fun _ _ _ h=>h) (Or.inl ⟨by rfl,?hy__18⟩) (by assumption) ?rest__18
            case hy__18=>(intro w__ hSw__;go_simp;try (with_reducible rfl))
            try simp only [Act.put]
            refine wpAnyH_ready (rs:=[21]) (by kernel_rfl) (by simp) ?_
            refine AllReadyH.cons (o:=_) rfl (fun K hK=>?_) ?_
            · go_simp
              refine hK.out _ _ (by repeat (first | with_reducible assumption | with_reducible refine PSx.set ?_ _ | with_reducible refine PSx.app ?_ hkp | with_reducible refine PSx.drew ?_ | with_reducible refine PSx.alloc ?_ _)) (fun hHeld=>?_)
              clear hK K
              try simp only [Act.put]
              refine wpAnyH_done (by kernel_rfl) ?_ _
              have hxa:Ext wr (w8.alloc (.cells #[.int .i64 (nth ml i).x.label.level,.int .i64 (nth ml i).x.label.set,.int .i64 (nth ml i).x.id,.int .i64 f,.int .i64 (f+1+(nth ml i).x.long),.bool false,.slice A8 ns.length c8] 138)):=X8.out.alloc _
              have hkp2:Kept F (w8.alloc (.cells #[.int .i64 (nth ml i).x.label.level,.int .i64 (nth ml i).x.label.set,.int .i64 (nth ml i).x.id,.int .i64 f,.int .i64 (f+1+(nth ml i).x.long),.bool false,.slice A8 ns.length c8] 138)) w11:=⟨hkp.os,hkp.tape,hkp.output,hkp.size,hkp.block⟩
              have hpush:PlS w B F0 G0 y v1 v2 v3 v4 v5 v6 (.slice As (startR y).length cs) (.slice Ah (hardR y).length ch) (w11.setCell ⟨B,10,none⟩ (.slice p11 (m.length+1) k11)) (pk ++ [(foundP (nth ml i).x f ns)]):=PlS.push (e:=⟨(foundP (nth ml i).x f ns),A8,ns.length,c8,G8⟩) HC.out HM.out HOW.out HF.out HNN.out HND.out HG.out HKP.out hxa (O8.out.ext ((Ext.refl _).alloc _)) G8h.out (by simpa using how) hkp2 (fun b hb=>match hF3 b hb with | .inl h=>.inl h | .inr (.inl h)=>absurd h (by simp) | .inr (.inr h)=>.inr h)
              have HPU:=Lib.hid hpush
              have HLR:Hid (OwS OTV 46 (w11.setCell ⟨B,10,none⟩ (.slice p11 (m.length+1) k11)) (.slice (some ⟨b,q,none⟩) ml.length cl) ml Fl):=Lib.hid (row_after HOL.out HOW.out HC.out hxa hkp2)
              clear hpush hxa how hkp2 hkp hF3 R11 rc rf
              go_wp2_with fail
              go_roundw
              case rel=>exact ⟨i+1,by omega,by go_num,by rw [HSTE.out];exact HPU.out,HLR.out⟩
              case measure=>simp [intOf];omega
            exact AllReadyH.nil
          exact AllReadyH.nil
        exact AllReadyH.nil
      refine AllReadyH.cons (o:=_) rfl (fun K hK=>?_) ?_
      · go_simp
        refine hK.out _ _ (by repeat (first | with_reducible assumption | with_reducible refine PSx.set ?_ _ | with_reducible refine PSx.app ?_ hkp | with_reducible refine PSx.drew ?_ | with_reducible refine PSx.alloc ?_ _)) (fun hHeld=>?_)
        clear hK K
        try simp only [Act.put]
        refine wpAnyH_ready (rs:=[4]) (by kernel_rfl) (by simp) ?_
        refine AllReadyH.cons (o:=_) rfl (fun K hK=>?_) ?_
        · go_simp
          refine hK.out _ _ (by repeat (first | with_reducible assumption | with_reducible refine PSx.set ?_ _ | with_reducible refine PSx.app ?_ hkp | with_reducible refine PSx.drew ?_ | with_reducible refine PSx.alloc ?_ _)) (fun hHeld=>?_)
          clear hK K
          try simp only [Act.put]
          refine wpAnyH_ready (rs:=[18]) (by kernel_rfl) (by simp) ?_
          refine AllReadyH.cons (o:=_) rfl (fun K hK=>?_) ?_
          · (refine step_append_one (E:=EPV) (O:=OPV) (T:=138) (l:=m) (F:=F) (G:=[]) (y:=⟨(foundP (nth ml i).x f ns),A8,ns.length,c8,G8⟩) (cs:=[.int .i64 (nth ml i).x.label.level,.int .i64 (nth ml i).x.label.set,.int .i64 (nth ml i).x.id,.int .i64 f,.int .i64 (f+1+(nth ml i).x.long),.bool false,.slice A8 ns.length c8]) (by rfl) _ _ 53 (by rfl) (.agg #[.int .i64 0,.int .i64 0,.int .i64 0,.int .i64 0,.int .i64 0,.bool false,.slice none 0 0]) 7 72 Tryz.underlying53 (by kernel_rfl) rfl rfl (by rfl) (HOXX.out.ext (by repeat (first | with_reducible assumption | with_reducible exact Ext.refl _ | with_reducible refine Ext.alloc ?_ _ | with_reducible refine Ext.drew ?_ | with_reducible refine Ext.setCell ?_ (by first | exact Nat.le_refl _ | exact Ext.size (by assumption) | (simp;done) | (simp;omega) | (show _≤_;omega)) _ ))) _ 0 1 (by rfl) ⟨⟨HCE.out,HFP.out⟩,rfl⟩ (Blk.new _ _ _).range (by simpa using HOW.out.nodup) (by have h1:=HPL.out;rw [← HM.out,List.length_map] at h1;omega) (by decide) ?_;intro v'' w11 F3 how hkp hF3;obtain ⟨p11,k11,hv11,-⟩:=OwS.form how;subst hv11;have R11:=planner_after HCN.out HOXX.out (by repeat (first | with_reducible assumption | with_reducible exact Ext.refl _ | with_reducible refine Ext.alloc ?_ _ | with_reducible refine Ext.drew ?_ | with_reducible refine Ext.setCell ?_ (by first | exact Nat.le_refl _ | exact Ext.size (by assumption) | (simp;done) | (simp;omega) | (show _≤_;omega)) _ )) hkp;have rc:=Blk.cell R11 10;have rf:=Blk.frozen R11 10)
            refine hK.out _ _ (by repeat (first | with_reducible assumption | with_reducible refine PSx.set ?_ _ | with_reducible refine PSx.app ?_ hkp | with_reducible refine PSx.drew ?_ | with_reducible refine PSx.alloc ?_ _)) (fun hHeld=>?_)
            clear hK K
            try simp only [Act.put]
            refine wpAnyH_take (i:=19) (oi:=_) (v:=?v__19) rfl (by kernel_rfl) (by kernel_rfl) (by kernel_rfl) (fun _ _ _ h=>h) (Or.inl ⟨by rfl,?hy__19⟩) (by assumption) ?rest__19
            case hy__19=>(intro w__ hSw__;go_simp;try (with_reducible rfl))
            try simp only [Act.put]
            refine wpAnyH_take (i:=20) (oi:=_) (v:=?v__20) rfl (by kernel_rfl) (by kernel_rfl) (by kernel_rfl) (fun _ _ _ h=>h) (Or.inl ⟨by rfl,?hy__20⟩) (by assumption) ?rest__20
            case hy__20=>(intro w__ hSw__;go_simp;try (with_reducible rfl))
            try simp only [Act.put]
            refine wpAnyH_ready (rs:=[21]) (by kernel_rfl) (by simp) ?_
            refine AllReadyH.cons (o:=_) rfl (fun K hK=>?_) ?_
            · go_simp
              refine hK.out _ _ (by repeat (first | with_reducible assumption | with_reducible refine PSx.set ?_ _ | with_reducible refine PSx.app ?_ hkp | with_reducible refine PSx.drew ?_ | with_reducible refine PSx.alloc ?_ _)) (fun hHeld=>?_)
              clear hK K
              try simp only [Act.put]
              refine wpAnyH_done (by kernel_rfl) ?_ _
              have hxa:Ext wr (w8.alloc (.cells #[.int .i64 (nth ml i).x.label.level,.int .i64 (nth ml i).x.label.set,.int .i64 (nth ml i).x.id,.int .i64 f,.int .i64 (f+1+(nth ml i).x.long),.bool false,.slice A8 ns.length c8] 138)):=X8.out.alloc _
              have hkp2:Kept F (w8.alloc (.cells #[.int .i64 (nth ml i).x.label.level,.int .i64 (nth ml i).x.label.set,.int .i64 (nth ml i).x.id,.int .i64 f,.int .i64 (f+1+(nth ml i).x.long),.bool false,.slice A8 ns.length c8] 138)) w11:=⟨hkp.os,hkp.tape,hkp.output,hkp.size,hkp.block⟩
              have hpush:PlS w B F0 G0 y v1 v2 v3 v4 v5 v6 (.slice As (startR y).length cs) (.slice Ah (hardR y).length ch) (w11.setCell ⟨B,10,none⟩ (.slice p11 (m.length+1) k11)) (pk ++ [(foundP (nth ml i).x f ns)]):=PlS.push (e:=⟨(foundP (nth ml i).x f ns),A8,ns.length,c8,G8⟩) HC.out HM.out HOW.out HF.out HNN.out HND.out HG.out HKP.out hxa (O8.out.ext ((Ext.refl _).alloc _)) G8h.out (by simpa using how) hkp2 (fun b hb=>match hF3 b hb with | .inl h=>.inl h | .inr (.inl h)=>absurd h (by simp) | .inr (.inr h)=>.inr h)
              have HPU:=Lib.hid hpush
              have HLR:Hid (OwS OTV 46 (w11.setCell ⟨B,10,none⟩ (.slice p11 (m.length+1) k11)) (.slice (some ⟨b,q,none⟩) ml.length cl) ml Fl):=Lib.hid (row_after HOL.out HOW.out HC.out hxa hkp2)
              clear hpush hxa how hkp2 hkp hF3 R11 rc rf
              go_wp2_with fail
              go_roundw
              case rel=>exact ⟨i+1,by omega,by go_num,by rw [HSTE.out];exact HPU.out,HLR.out⟩
              case measure=>simp [intOf];omega
            exact AllReadyH.nil
          exact AllReadyH.nil
        exact AllReadyH.nil
      exact AllReadyH.nil
  · obtain rfl:i=ml.length:=by omega
    have HLM:Hid (ml.length=sr.1.length):=Lib.hid (by rw [← HML.out,List.length_map])
    have hend:planLabel y ps l=(sr.1.take ml.length).foldl (step4 y) q3:=by rw [planLabel,HSR.out,HQ3.out,HLM.out,List.take_length]
    have HEND:=Lib.hid hend
    clear hend
    have HPE:=Lib.hid HPP.out
    go_wp2_with fail
    (try simp only [Exit.inBlock,Exit.then])
    refine HK0.out _ ?_ _ _ _ _ _ _ _ _ _ _ _ _ _ _ _ _ _ _ _ _ _ _ _ _ _ _ _ _ _ _ _ _ _ _ _ _ _ _ _ _ _ _ _ _ _ _ _ _ _ _ _ _ _ _ _ _ _ _ _ _ _ _ _ _ _ _ _ _ _ _ _ _ _ _ _ _ _ _ _ _ _ _ _ _ _ _ _ _ _ _ _ _ _ _ _ _ _ _ _ _ _ _ _ _ _ _ _ _ _ _ _ _ _ _ _ _ _ _ _ _ _ _ _ _ _ _ _ _ _ _ _ _ _ _ _ _ _ _ _ _ _ _ _ _ _ _ _ _ _ _ _ _ _ _ _ _ _ _ _ _ _ _ _ _ _ _ _ _ _ _ _ _ _ _ _ _ _ _ _ _ _ _ _ _ _ _ _ _ _ _ _ _ _ _ _ _ _ _ _ _ _ _ _ _ _ _ _ _ _ _ _ _ _ _ _ _ _ _ _ _ _ _ _ _ _ _ _ _ _ _ _ _ _ _ _ _ _ _ _ _ _ _ _ _ _ _ _
    rw [HEND.out];exact HPE.out
end Go.Proofs.YtoblacfjmcpbmaaGreat

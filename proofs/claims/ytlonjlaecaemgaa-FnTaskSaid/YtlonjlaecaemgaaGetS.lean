/- The walks of GetNum and GetText, the program's and the reference's. Printed by wip/getn.py. -/
import Derived.Test.YtlonjlaecaemgaaGetP
import Derived.BigQuiet
set_option maxHeartbeats 8000000
set_option maxRecDepth 100000
namespace Go.Proofs.Ytlonjlaecaemgaa
open Go.RowKit
attribute [local irreducible] wpQuiet
theorem specGetNum_any (t:ByteArray) (a:Int) (w:World) (ha:I64 a) (ht:Str t) :
 Calls Try.prog 31 #[.string t,.int .i64 a] w fun e w'=>e=.returned (.agg #[.int .i64 (getNum t a).num,.int .i64 (getNum t a).at_,.int .i64 (getNum t a).code])∧Ext w w':=by
 unfold Str maxLen at ht
 go_enter Try.func31,Try.ntmps31
 go_upto_region 1 with (fail)
 obtain ⟨W,R,hW,hB,hBl,hx0,b0⟩:∃ W B,W=w.alloc (.cells #[.int .i64 0,.int .i64 0,.int .i64 0] 59)∧B=w.heap.size∧w.heap.size≤B∧Ext w W∧Blk W B 59 #[.int .i64 0,.int .i64 0,.int .i64 0]:=⟨_,_,rfl,rfl,Nat.le_refl _,(Ext.refl w).alloc _,Blk.new _ _ _⟩
 rw [← hW,← hB]
 have HRB:=Lib.hid hBl
 have R0:=Lib.hid b0
 have X0:=Lib.hid hx0
 clear hW hB hx0 b0 hBl
 by_cases hl:8000 < t.size
 · have HE:Hid (getNum t a=⟨0,0,2⟩):=Lib.hid (by rw [getNum,if_pos hl])
   go_wp2_with (refine wpList_store_mid rfl 59 _ _ rfl R 0 #[.int .i64 0,.int .i64 0,.int .i64 2] rfl rfl (Blk.there (t:=59) (cs:=#[.int .i64 0,.int .i64 0,.int .i64 0]) R0.out) (by kernel_rfl) (all_oneCell_toArray (cs:=[.int .i64 0,.int .i64 0,.int .i64 2]) (by simp [Value.oneCell'])) ?_)
   exact bodyPost_ret (v:=.agg #[.int .i64 0,.int .i64 0,.int .i64 2]) (results_blk Try.results31 rfl (Blk.setAll (t:=59) (cs:=#[.int .i64 0,.int .i64 0,.int .i64 0]) (vs:=#[.int .i64 0,.int .i64 0,.int .i64 2]) R0.out rfl) Try.underlying59 rfl (by kernel_rfl)) rfl ⟨by rw [HE.out],setCells_ext HRB.out _ _ _ X0.out⟩
 by_cases hn:a < 0
 · have HE:Hid (getNum t a=⟨0,0,1⟩):=Lib.hid (by rw [getNum,if_neg hl,if_pos hn])
   go_wp2_with (refine wpList_store_mid rfl 59 _ _ rfl R 0 #[.int .i64 0,.int .i64 0,.int .i64 1] rfl rfl (Blk.there (t:=59) (cs:=#[.int .i64 0,.int .i64 0,.int .i64 0]) R0.out) (by kernel_rfl) (all_oneCell_toArray (cs:=[.int .i64 0,.int .i64 0,.int .i64 1]) (by simp [Value.oneCell'])) ?_)
   exact bodyPost_ret (v:=.agg #[.int .i64 0,.int .i64 0,.int .i64 1]) (results_blk Try.results31 rfl (Blk.setAll (t:=59) (cs:=#[.int .i64 0,.int .i64 0,.int .i64 0]) (vs:=#[.int .i64 0,.int .i64 0,.int .i64 1]) R0.out rfl) Try.underlying59 rfl (by kernel_rfl)) rfl ⟨by rw [HE.out],setCells_ext HRB.out _ _ _ X0.out⟩
 obtain ⟨A,rfl⟩:∃ A:Nat,a=A:=⟨a.toNat,by omega⟩
 have HE:Hid (getNum t (A:Int)=numGo t A 10 0 0):=Lib.hid (by rw [getNum,if_neg hl,if_neg hn,Int.toNat_natCast])
 have hl2:t.size≤8000:=by omega
 have hA2:(A:Int)≤9223372036854775807:=ha.2
 clear ha hl hn ht
 go_wp2_with fail
 go_loop [5,6] (fun u i=>∃ k U:Nat,k≤10∧i=.int .i64 k∧u=.int .u64 U∧U < 2 ^ (7 * k)∧getNum t (A:Int)=numGo t A (10 - k) k U) (fun _ i=>10 - (intOf i).toNat)
 case atStart=>exact ⟨0,0,by omega,rfl,rfl,by decide,HE.out⟩
 case round =>
  obtain ⟨k,U,hk,rfl,rfl,hU,hgo⟩:=hrel
  have HU:=Lib.hid hU
  have HG:=Lib.hid hgo
  clear hU hgo
  by_cases h10:k < 10
  · skip
    have HS10:Hid (10 - k=(9 - k)+1):=Lib.hid (by omega)
    by_cases hs:t.size≤A+k
    · have HF:Hid (getNum t (A:Int)=⟨0,0,4⟩):=Lib.hid (by rw [HG.out,HS10.out,numGo,if_pos hs])
      go_wp2_with (refine wpList_store_mid rfl 59 _ _ rfl R 0 #[.int .i64 0,.int .i64 0,.int .i64 4] rfl rfl (Blk.there (t:=59) (cs:=#[.int .i64 0,.int .i64 0,.int .i64 0]) R0.out) (by kernel_rfl) (all_oneCell_toArray (cs:=[.int .i64 0,.int .i64 0,.int .i64 4]) (by simp [Value.oneCell'])) ?_)
      exact bodyPost_ret (v:=.agg #[.int .i64 0,.int .i64 0,.int .i64 4]) (results_blk Try.results31 rfl (Blk.setAll (t:=59) (cs:=#[.int .i64 0,.int .i64 0,.int .i64 0]) (vs:=#[.int .i64 0,.int .i64 0,.int .i64 4]) R0.out rfl) Try.underlying59 rfl (by kernel_rfl)) rfl ⟨by rw [HF.out],setCells_ext HRB.out _ _ _ X0.out⟩
    have hlt:A+k < t.size:=by omega
    have HB:=Lib.hid (byteAt_eq hlt)
    have hb:=byteAt_lt t (A+k)
    have HI:Hid (((A:Int)+(k:Int)).toNat=A+k):=Lib.hid (by omega)
    generalize hbv:byteAt t (A+k)=bv at *
    have HBV:=Lib.hid hbv
    clear hbv
    by_cases h9:k=9∧1 < bv
    · obtain ⟨h9a,h9b⟩:=h9
      have HF:Hid (getNum t (A:Int)=⟨0,0,3⟩):=Lib.hid (by rw [HG.out,HS10.out,numGo,if_neg hs,HBV.out,if_pos ⟨h9a,h9b⟩])
      subst h9a
      have hbq:=HB.out
      go_wp2_with (refine wpList_store_mid rfl 59 _ _ rfl R 0 #[.int .i64 0,.int .i64 0,.int .i64 3] rfl rfl (Blk.there (t:=59) (cs:=#[.int .i64 0,.int .i64 0,.int .i64 0]) R0.out) (by kernel_rfl) (all_oneCell_toArray (cs:=[.int .i64 0,.int .i64 0,.int .i64 3]) (by simp [Value.oneCell'])) ?_)
      exact bodyPost_ret (v:=.agg #[.int .i64 0,.int .i64 0,.int .i64 3]) (results_blk Try.results31 rfl (Blk.setAll (t:=59) (cs:=#[.int .i64 0,.int .i64 0,.int .i64 0]) (vs:=#[.int .i64 0,.int .i64 0,.int .i64 3]) R0.out rfl) Try.underlying59 rfl (by kernel_rfl)) rfl ⟨by rw [HF.out],setCells_ext HRB.out _ _ _ X0.out⟩
    have H9:=Lib.hid h9
    have hbq:=HB.out
    have HU64:=num_u64 HU.out (by omega) h9
    have HST:Hid (IntKind.u64.wrap ((U:Int)+IntKind.u64.wrap ((bv:Int) % 128 * 2 ^ (7 * k)))=((U+bv % 128 * 2 ^ (7 * k):Nat):Int)):=Lib.hid (add7w HU.out (by omega) h9)
    have HN1:Hid (U+bv % 128 * 2 ^ (7 * k) < 2 ^ (7 * (k+1))):=Lib.hid (num_step HU.out)
    have HG1:Hid (getNum t (A:Int)=if bv < 128 then if bv=0∧0 < k then ⟨0,0,3⟩ else ⟨unzig (U+bv % 128 * 2 ^ (7 * k)),((A+k+1:Nat):Int),0⟩ else numGo t A (10 - (k+1)) (k+1) (U+bv % 128 * 2 ^ (7 * k))):=Lib.hid (by rw [HG.out,HS10.out,numGo,if_neg hs,HBV.out,if_neg H9.out,show 9 - k=10 - (k+1) by omega])
    generalize hV:U+bv % 128 * 2 ^ (7 * k)=V at *
    clear hV
    have hcut:(((k:Int) == 9)=false)∨(((k:Int) == 9)=true∧¬ (1 < (bv:Int))):=by
     rcases Nat.lt_or_ge k 9 with h | h
     · left;simp;omega
     · right;refine ⟨by simp;omega,by omega⟩
    clear h9
    rcases hcut with e9 | ⟨e9,e1⟩
    · skip
      go_upto_region 15 with (fail)
      rw [HST.out]
      by_cases hlow:bv < 128
      · have hlow2:(bv:Int) < 128:=by omega
        by_cases hz:bv=0
        · by_cases hk0:0 < k
          · have hk0i:(0:Int) < (k:Int):=by omega
            have HF:Hid (getNum t (A:Int)=⟨0,0,3⟩):=Lib.hid (by rw [HG1.out,if_pos hlow,if_pos ⟨hz,hk0⟩])
            have hz2:((bv:Int) == 0)=true:=by simp;omega
            clear hz hbq
            go_wp2_with (refine wpList_store_mid rfl 59 _ _ rfl R 0 #[.int .i64 0,.int .i64 0,.int .i64 3] rfl rfl (Blk.there (t:=59) (cs:=#[.int .i64 0,.int .i64 0,.int .i64 0]) R0.out) (by kernel_rfl) (all_oneCell_toArray (cs:=[.int .i64 0,.int .i64 0,.int .i64 3]) (by simp [Value.oneCell'])) ?_)
            exact bodyPost_ret (v:=.agg #[.int .i64 0,.int .i64 0,.int .i64 3]) (results_blk Try.results31 rfl (Blk.setAll (t:=59) (cs:=#[.int .i64 0,.int .i64 0,.int .i64 0]) (vs:=#[.int .i64 0,.int .i64 0,.int .i64 3]) R0.out rfl) Try.underlying59 rfl (by kernel_rfl)) rfl ⟨by rw [HF.out],setCells_ext HRB.out _ _ _ X0.out⟩
          · have hk0i:¬ (0:Int) < (k:Int):=by omega
            have HF:Hid (getNum t (A:Int)=⟨unzig V,((A+k+1:Nat):Int),0⟩):=Lib.hid (by rw [HG1.out,if_pos hlow,if_neg (fun h=>hk0 h.2)])
            have hz2:((bv:Int) == 0)=true:=by simp;omega
            clear hz hbq
            by_cases hp:V % 2=1
            · have HZ:Hid (getNum t (A:Int)=⟨-((V:Int) / 2) - 1,(A:Int)+(k:Int)+1,0⟩):=Lib.hid (by rw [HF.out,NumOut.mk.injEq];refine ⟨by rw [unzig,if_pos hp];omega,by omega,rfl⟩)
              have hp2:(((V:Int) % 2) == 1)=true:=by simp;omega
              clear hp
              go_wp2_with (refine wpList_store_mid rfl 59 _ _ rfl R 0 #[.int .i64 (-((V:Int) / 2) - 1),.int .i64 ((A:Int)+(k:Int)+1),.int .i64 0] rfl rfl (Blk.there (t:=59) (cs:=#[.int .i64 0,.int .i64 0,.int .i64 0]) R0.out) (by kernel_rfl) (all_oneCell_toArray (cs:=[.int .i64 (-((V:Int) / 2) - 1),.int .i64 ((A:Int)+(k:Int)+1),.int .i64 0]) (by simp [Value.oneCell'])) ?_)
              exact bodyPost_ret (v:=.agg #[.int .i64 (-((V:Int) / 2) - 1),.int .i64 ((A:Int)+(k:Int)+1),.int .i64 0]) (results_blk Try.results31 rfl (Blk.setAll (t:=59) (cs:=#[.int .i64 0,.int .i64 0,.int .i64 0]) (vs:=#[.int .i64 (-((V:Int) / 2) - 1),.int .i64 ((A:Int)+(k:Int)+1),.int .i64 0]) R0.out rfl) Try.underlying59 rfl (by kernel_rfl)) rfl ⟨by rw [HZ.out],setCells_ext HRB.out _ _ _ X0.out⟩
            · have HZ:Hid (getNum t (A:Int)=⟨(V:Int) / 2,(A:Int)+(k:Int)+1,0⟩):=Lib.hid (by rw [HF.out,NumOut.mk.injEq];refine ⟨by rw [unzig,if_neg hp];omega,by omega,rfl⟩)
              have hp2:(((V:Int) % 2) == 1)=false:=by simp;omega
              clear hp
              go_wp2_with (refine wpList_store_mid rfl 59 _ _ rfl R 0 #[.int .i64 ((V:Int) / 2),.int .i64 ((A:Int)+(k:Int)+1),.int .i64 0] rfl rfl (Blk.there (t:=59) (cs:=#[.int .i64 0,.int .i64 0,.int .i64 0]) R0.out) (by kernel_rfl) (all_oneCell_toArray (cs:=[.int .i64 ((V:Int) / 2),.int .i64 ((A:Int)+(k:Int)+1),.int .i64 0]) (by simp [Value.oneCell'])) ?_)
              exact bodyPost_ret (v:=.agg #[.int .i64 ((V:Int) / 2),.int .i64 ((A:Int)+(k:Int)+1),.int .i64 0]) (results_blk Try.results31 rfl (Blk.setAll (t:=59) (cs:=#[.int .i64 0,.int .i64 0,.int .i64 0]) (vs:=#[.int .i64 ((V:Int) / 2),.int .i64 ((A:Int)+(k:Int)+1),.int .i64 0]) R0.out rfl) Try.underlying59 rfl (by kernel_rfl)) rfl ⟨by rw [HZ.out],setCells_ext HRB.out _ _ _ X0.out⟩
        · have HF:Hid (getNum t (A:Int)=⟨unzig V,((A+k+1:Nat):Int),0⟩):=Lib.hid (by rw [HG1.out,if_pos hlow,if_neg (fun h=>hz h.1)])
          have hz2:((bv:Int) == 0)=false:=by simp;omega
          clear hbq
          by_cases hp:V % 2=1
          · have HZ:Hid (getNum t (A:Int)=⟨-((V:Int) / 2) - 1,(A:Int)+(k:Int)+1,0⟩):=Lib.hid (by rw [HF.out,NumOut.mk.injEq];refine ⟨by rw [unzig,if_pos hp];omega,by omega,rfl⟩)
            have hp2:(((V:Int) % 2) == 1)=true:=by simp;omega
            clear hp
            go_wp2_with (refine wpList_store_mid rfl 59 _ _ rfl R 0 #[.int .i64 (-((V:Int) / 2) - 1),.int .i64 ((A:Int)+(k:Int)+1),.int .i64 0] rfl rfl (Blk.there (t:=59) (cs:=#[.int .i64 0,.int .i64 0,.int .i64 0]) R0.out) (by kernel_rfl) (all_oneCell_toArray (cs:=[.int .i64 (-((V:Int) / 2) - 1),.int .i64 ((A:Int)+(k:Int)+1),.int .i64 0]) (by simp [Value.oneCell'])) ?_)
            exact bodyPost_ret (v:=.agg #[.int .i64 (-((V:Int) / 2) - 1),.int .i64 ((A:Int)+(k:Int)+1),.int .i64 0]) (results_blk Try.results31 rfl (Blk.setAll (t:=59) (cs:=#[.int .i64 0,.int .i64 0,.int .i64 0]) (vs:=#[.int .i64 (-((V:Int) / 2) - 1),.int .i64 ((A:Int)+(k:Int)+1),.int .i64 0]) R0.out rfl) Try.underlying59 rfl (by kernel_rfl)) rfl ⟨by rw [HZ.out],setCells_ext HRB.out _ _ _ X0.out⟩
          · have HZ:Hid (getNum t (A:Int)=⟨(V:Int) / 2,(A:Int)+(k:Int)+1,0⟩):=Lib.hid (by rw [HF.out,NumOut.mk.injEq];refine ⟨by rw [unzig,if_neg hp];omega,by omega,rfl⟩)
            have hp2:(((V:Int) % 2) == 1)=false:=by simp;omega
            clear hp
            go_wp2_with (refine wpList_store_mid rfl 59 _ _ rfl R 0 #[.int .i64 ((V:Int) / 2),.int .i64 ((A:Int)+(k:Int)+1),.int .i64 0] rfl rfl (Blk.there (t:=59) (cs:=#[.int .i64 0,.int .i64 0,.int .i64 0]) R0.out) (by kernel_rfl) (all_oneCell_toArray (cs:=[.int .i64 ((V:Int) / 2),.int .i64 ((A:Int)+(k:Int)+1),.int .i64 0]) (by simp [Value.oneCell'])) ?_)
            exact bodyPost_ret (v:=.agg #[.int .i64 ((V:Int) / 2),.int .i64 ((A:Int)+(k:Int)+1),.int .i64 0]) (results_blk Try.results31 rfl (Blk.setAll (t:=59) (cs:=#[.int .i64 0,.int .i64 0,.int .i64 0]) (vs:=#[.int .i64 ((V:Int) / 2),.int .i64 ((A:Int)+(k:Int)+1),.int .i64 0]) R0.out rfl) Try.underlying59 rfl (by kernel_rfl)) rfl ⟨by rw [HZ.out],setCells_ext HRB.out _ _ _ X0.out⟩
      · have hlow2:¬ (bv:Int) < 128:=by omega
        have HF:Hid (getNum t (A:Int)=numGo t A (10 - (k+1)) (k+1) V):=Lib.hid (by rw [HG1.out,if_neg hlow])
        go_wp2_with fail
        refine ⟨⟨k+1,V,by omega,by go_num,rfl,HN1.out,HF.out⟩,?_⟩
        simp [intOf] <;> omega
    · skip
      go_upto_region 15 with (fail)
      rw [HST.out]
      by_cases hlow:bv < 128
      · have hlow2:(bv:Int) < 128:=by omega
        by_cases hz:bv=0
        · by_cases hk0:0 < k
          · have hk0i:(0:Int) < (k:Int):=by omega
            have HF:Hid (getNum t (A:Int)=⟨0,0,3⟩):=Lib.hid (by rw [HG1.out,if_pos hlow,if_pos ⟨hz,hk0⟩])
            have hz2:((bv:Int) == 0)=true:=by simp;omega
            clear hz hbq
            go_wp2_with (refine wpList_store_mid rfl 59 _ _ rfl R 0 #[.int .i64 0,.int .i64 0,.int .i64 3] rfl rfl (Blk.there (t:=59) (cs:=#[.int .i64 0,.int .i64 0,.int .i64 0]) R0.out) (by kernel_rfl) (all_oneCell_toArray (cs:=[.int .i64 0,.int .i64 0,.int .i64 3]) (by simp [Value.oneCell'])) ?_)
            exact bodyPost_ret (v:=.agg #[.int .i64 0,.int .i64 0,.int .i64 3]) (results_blk Try.results31 rfl (Blk.setAll (t:=59) (cs:=#[.int .i64 0,.int .i64 0,.int .i64 0]) (vs:=#[.int .i64 0,.int .i64 0,.int .i64 3]) R0.out rfl) Try.underlying59 rfl (by kernel_rfl)) rfl ⟨by rw [HF.out],setCells_ext HRB.out _ _ _ X0.out⟩
          · have hk0i:¬ (0:Int) < (k:Int):=by omega
            have HF:Hid (getNum t (A:Int)=⟨unzig V,((A+k+1:Nat):Int),0⟩):=Lib.hid (by rw [HG1.out,if_pos hlow,if_neg (fun h=>hk0 h.2)])
            have hz2:((bv:Int) == 0)=true:=by simp;omega
            clear hz hbq
            by_cases hp:V % 2=1
            · have HZ:Hid (getNum t (A:Int)=⟨-((V:Int) / 2) - 1,(A:Int)+(k:Int)+1,0⟩):=Lib.hid (by rw [HF.out,NumOut.mk.injEq];refine ⟨by rw [unzig,if_pos hp];omega,by omega,rfl⟩)
              have hp2:(((V:Int) % 2) == 1)=true:=by simp;omega
              clear hp
              go_wp2_with (refine wpList_store_mid rfl 59 _ _ rfl R 0 #[.int .i64 (-((V:Int) / 2) - 1),.int .i64 ((A:Int)+(k:Int)+1),.int .i64 0] rfl rfl (Blk.there (t:=59) (cs:=#[.int .i64 0,.int .i64 0,.int .i64 0]) R0.out) (by kernel_rfl) (all_oneCell_toArray (cs:=[.int .i64 (-((V:Int) / 2) - 1),.int .i64 ((A:Int)+(k:Int)+1),.int .i64 0]) (by simp [Value.oneCell'])) ?_)
              exact bodyPost_ret (v:=.agg #[.int .i64 (-((V:Int) / 2) - 1),.int .i64 ((A:Int)+(k:Int)+1),.int .i64 0]) (results_blk Try.results31 rfl (Blk.setAll (t:=59) (cs:=#[.int .i64 0,.int .i64 0,.int .i64 0]) (vs:=#[.int .i64 (-((V:Int) / 2) - 1),.int .i64 ((A:Int)+(k:Int)+1),.int .i64 0]) R0.out rfl) Try.underlying59 rfl (by kernel_rfl)) rfl ⟨by rw [HZ.out],setCells_ext HRB.out _ _ _ X0.out⟩
            · have HZ:Hid (getNum t (A:Int)=⟨(V:Int) / 2,(A:Int)+(k:Int)+1,0⟩):=Lib.hid (by rw [HF.out,NumOut.mk.injEq];refine ⟨by rw [unzig,if_neg hp];omega,by omega,rfl⟩)
              have hp2:(((V:Int) % 2) == 1)=false:=by simp;omega
              clear hp
              go_wp2_with (refine wpList_store_mid rfl 59 _ _ rfl R 0 #[.int .i64 ((V:Int) / 2),.int .i64 ((A:Int)+(k:Int)+1),.int .i64 0] rfl rfl (Blk.there (t:=59) (cs:=#[.int .i64 0,.int .i64 0,.int .i64 0]) R0.out) (by kernel_rfl) (all_oneCell_toArray (cs:=[.int .i64 ((V:Int) / 2),.int .i64 ((A:Int)+(k:Int)+1),.int .i64 0]) (by simp [Value.oneCell'])) ?_)
              exact bodyPost_ret (v:=.agg #[.int .i64 ((V:Int) / 2),.int .i64 ((A:Int)+(k:Int)+1),.int .i64 0]) (results_blk Try.results31 rfl (Blk.setAll (t:=59) (cs:=#[.int .i64 0,.int .i64 0,.int .i64 0]) (vs:=#[.int .i64 ((V:Int) / 2),.int .i64 ((A:Int)+(k:Int)+1),.int .i64 0]) R0.out rfl) Try.underlying59 rfl (by kernel_rfl)) rfl ⟨by rw [HZ.out],setCells_ext HRB.out _ _ _ X0.out⟩
        · have HF:Hid (getNum t (A:Int)=⟨unzig V,((A+k+1:Nat):Int),0⟩):=Lib.hid (by rw [HG1.out,if_pos hlow,if_neg (fun h=>hz h.1)])
          have hz2:((bv:Int) == 0)=false:=by simp;omega
          clear hbq
          by_cases hp:V % 2=1
          · have HZ:Hid (getNum t (A:Int)=⟨-((V:Int) / 2) - 1,(A:Int)+(k:Int)+1,0⟩):=Lib.hid (by rw [HF.out,NumOut.mk.injEq];refine ⟨by rw [unzig,if_pos hp];omega,by omega,rfl⟩)
            have hp2:(((V:Int) % 2) == 1)=true:=by simp;omega
            clear hp
            go_wp2_with (refine wpList_store_mid rfl 59 _ _ rfl R 0 #[.int .i64 (-((V:Int) / 2) - 1),.int .i64 ((A:Int)+(k:Int)+1),.int .i64 0] rfl rfl (Blk.there (t:=59) (cs:=#[.int .i64 0,.int .i64 0,.int .i64 0]) R0.out) (by kernel_rfl) (all_oneCell_toArray (cs:=[.int .i64 (-((V:Int) / 2) - 1),.int .i64 ((A:Int)+(k:Int)+1),.int .i64 0]) (by simp [Value.oneCell'])) ?_)
            exact bodyPost_ret (v:=.agg #[.int .i64 (-((V:Int) / 2) - 1),.int .i64 ((A:Int)+(k:Int)+1),.int .i64 0]) (results_blk Try.results31 rfl (Blk.setAll (t:=59) (cs:=#[.int .i64 0,.int .i64 0,.int .i64 0]) (vs:=#[.int .i64 (-((V:Int) / 2) - 1),.int .i64 ((A:Int)+(k:Int)+1),.int .i64 0]) R0.out rfl) Try.underlying59 rfl (by kernel_rfl)) rfl ⟨by rw [HZ.out],setCells_ext HRB.out _ _ _ X0.out⟩
          · have HZ:Hid (getNum t (A:Int)=⟨(V:Int) / 2,(A:Int)+(k:Int)+1,0⟩):=Lib.hid (by rw [HF.out,NumOut.mk.injEq];refine ⟨by rw [unzig,if_neg hp];omega,by omega,rfl⟩)
            have hp2:(((V:Int) % 2) == 1)=false:=by simp;omega
            clear hp
            go_wp2_with (refine wpList_store_mid rfl 59 _ _ rfl R 0 #[.int .i64 ((V:Int) / 2),.int .i64 ((A:Int)+(k:Int)+1),.int .i64 0] rfl rfl (Blk.there (t:=59) (cs:=#[.int .i64 0,.int .i64 0,.int .i64 0]) R0.out) (by kernel_rfl) (all_oneCell_toArray (cs:=[.int .i64 ((V:Int) / 2),.int .i64 ((A:Int)+(k:Int)+1),.int .i64 0]) (by simp [Value.oneCell'])) ?_)
            exact bodyPost_ret (v:=.agg #[.int .i64 ((V:Int) / 2),.int .i64 ((A:Int)+(k:Int)+1),.int .i64 0]) (results_blk Try.results31 rfl (Blk.setAll (t:=59) (cs:=#[.int .i64 0,.int .i64 0,.int .i64 0]) (vs:=#[.int .i64 ((V:Int) / 2),.int .i64 ((A:Int)+(k:Int)+1),.int .i64 0]) R0.out rfl) Try.underlying59 rfl (by kernel_rfl)) rfl ⟨by rw [HZ.out],setCells_ext HRB.out _ _ _ X0.out⟩
      · exact absurd (show (1:Int) < (bv:Int) by omega) (by omega)
  · obtain rfl:k=10:=by omega
    have HF:Hid (getNum t (A:Int)=⟨0,0,3⟩):=Lib.hid (by rw [HG.out];rfl)
    go_wp2_with (refine wpList_store_mid rfl 59 _ _ rfl R 0 #[.int .i64 0,.int .i64 0,.int .i64 3] rfl rfl (Blk.there (t:=59) (cs:=#[.int .i64 0,.int .i64 0,.int .i64 0]) R0.out) (by kernel_rfl) (all_oneCell_toArray (cs:=[.int .i64 0,.int .i64 0,.int .i64 3]) (by simp [Value.oneCell'])) ?_)
    exact bodyPost_ret (v:=.agg #[.int .i64 0,.int .i64 0,.int .i64 3]) (results_blk Try.results31 rfl (Blk.setAll (t:=59) (cs:=#[.int .i64 0,.int .i64 0,.int .i64 0]) (vs:=#[.int .i64 0,.int .i64 0,.int .i64 3]) R0.out rfl) Try.underlying59 rfl (by kernel_rfl)) rfl ⟨by rw [HF.out],setCells_ext HRB.out _ _ _ X0.out⟩
theorem getNumI_any (t:ByteArray) (A:Nat) (w:World) (hl2:t.size≤8000) (hA:A < t.size) :
 Calls Try.prog 82 #[.string t,.int .i64 A] w fun e w'=>e=.returned (.agg #[.int .i64 (getNum t (A:Int)).num,.int .i64 (getNum t (A:Int)).at_,.int .i64 (getNum t (A:Int)).code])∧Ext w w':=by
 have HE:Hid (getNum t (A:Int)=numGo t A 10 0 0):=Lib.hid (by rw [getNum,if_neg (by omega),if_neg (by omega),Int.toNat_natCast])
 go_enter Try.func82,Try.ntmps82
 go_upto_region 1 with (fail)
 obtain ⟨W,R,hW,hB,hBl,hx0,b0⟩:∃ W B,W=w.alloc (.cells #[.int .i64 0,.int .i64 0,.int .i64 0] 59)∧B=w.heap.size∧w.heap.size≤B∧Ext w W∧Blk W B 59 #[.int .i64 0,.int .i64 0,.int .i64 0]:=⟨_,_,rfl,rfl,Nat.le_refl _,(Ext.refl w).alloc _,Blk.new _ _ _⟩
 rw [← hW,← hB]
 have HRB:=Lib.hid hBl
 have R0:=Lib.hid b0
 have X0:=Lib.hid hx0
 clear hW hB hx0 b0 hBl
 go_wp2_with fail
 go_loop [5,6] (fun u i=>∃ k U:Nat,k≤9∧i=.int .i64 k∧u=.int .u64 U∧U < 2 ^ (7 * k)∧getNum t (A:Int)=numGo t A (10 - k) k U) (fun _ i=>10 - (intOf i).toNat)
 case atStart=>exact ⟨0,0,by omega,rfl,rfl,by decide,HE.out⟩
 case round =>
  obtain ⟨k,U,hk,rfl,rfl,hU,hgo⟩:=hrel
  have HU:=Lib.hid hU
  have HG:=Lib.hid hgo
  clear hU hgo
  have h10:k < 10:=by omega
  have HS10:Hid (10 - k=(9 - k)+1):=Lib.hid (by omega)
  by_cases hs:t.size≤A+k
  · have HF:Hid (getNum t (A:Int)=⟨0,0,4⟩):=Lib.hid (by rw [HG.out,HS10.out,numGo,if_pos hs])
    go_wp2_with (refine wpList_store_mid rfl 59 _ _ rfl R 0 #[.int .i64 0,.int .i64 0,.int .i64 4] rfl rfl (Blk.there (t:=59) (cs:=#[.int .i64 0,.int .i64 0,.int .i64 0]) R0.out) (by kernel_rfl) (all_oneCell_toArray (cs:=[.int .i64 0,.int .i64 0,.int .i64 4]) (by simp [Value.oneCell'])) ?_)
    exact bodyPost_ret (v:=.agg #[.int .i64 0,.int .i64 0,.int .i64 4]) (results_blk Try.results82 rfl (Blk.setAll (t:=59) (cs:=#[.int .i64 0,.int .i64 0,.int .i64 0]) (vs:=#[.int .i64 0,.int .i64 0,.int .i64 4]) R0.out rfl) Try.underlying59 rfl (by kernel_rfl)) rfl ⟨by rw [HF.out],setCells_ext HRB.out _ _ _ X0.out⟩
  have hlt:A+k < t.size:=by omega
  have HB:=Lib.hid (byteAt_eq hlt)
  have hb:=byteAt_lt t (A+k)
  have HI:Hid (((A:Int)+(k:Int)).toNat=A+k):=Lib.hid (by omega)
  generalize hbv:byteAt t (A+k)=bv at *
  have HBV:=Lib.hid hbv
  clear hbv
  by_cases h9:k=9∧1 < bv
  · obtain ⟨h9a,h9b⟩:=h9
    have HF:Hid (getNum t (A:Int)=⟨0,0,3⟩):=Lib.hid (by rw [HG.out,HS10.out,numGo,if_neg hs,HBV.out,if_pos ⟨h9a,h9b⟩])
    subst h9a
    have hbq:=HB.out
    go_wp2_with (refine wpList_store_mid rfl 59 _ _ rfl R 0 #[.int .i64 0,.int .i64 0,.int .i64 3] rfl rfl (Blk.there (t:=59) (cs:=#[.int .i64 0,.int .i64 0,.int .i64 0]) R0.out) (by kernel_rfl) (all_oneCell_toArray (cs:=[.int .i64 0,.int .i64 0,.int .i64 3]) (by simp [Value.oneCell'])) ?_)
    exact bodyPost_ret (v:=.agg #[.int .i64 0,.int .i64 0,.int .i64 3]) (results_blk Try.results82 rfl (Blk.setAll (t:=59) (cs:=#[.int .i64 0,.int .i64 0,.int .i64 0]) (vs:=#[.int .i64 0,.int .i64 0,.int .i64 3]) R0.out rfl) Try.underlying59 rfl (by kernel_rfl)) rfl ⟨by rw [HF.out],setCells_ext HRB.out _ _ _ X0.out⟩
  have H9:=Lib.hid h9
  have hbq:=HB.out
  have HU64:=num_u64 HU.out (by omega) h9
  have HST:Hid (bits BinOp.or IntKind.u64 (U:Int) (IntKind.u64.wrap ((bv:Int) % 128 * 2 ^ (7 * k)))=((U+bv % 128 * 2 ^ (7 * k):Nat):Int)):=Lib.hid (or7w HU.out (by omega) h9)
  have HN1:Hid (U+bv % 128 * 2 ^ (7 * k) < 2 ^ (7 * (k+1))):=Lib.hid (num_step HU.out)
  have HG1:Hid (getNum t (A:Int)=if bv < 128 then if bv=0∧0 < k then ⟨0,0,3⟩ else ⟨unzig (U+bv % 128 * 2 ^ (7 * k)),((A+k+1:Nat):Int),0⟩ else numGo t A (10 - (k+1)) (k+1) (U+bv % 128 * 2 ^ (7 * k))):=Lib.hid (by rw [HG.out,HS10.out,numGo,if_neg hs,HBV.out,if_neg H9.out,show 9 - k=10 - (k+1) by omega])
  generalize hV:U+bv % 128 * 2 ^ (7 * k)=V at *
  clear hV
  have HK9:Hid (128≤bv→k≤8):=Lib.hid (fun h=>by omega)
  have hcut:(((k:Int) == 9)=false)∨(((k:Int) == 9)=true∧¬ (1 < (bv:Int))):=by
   rcases Nat.lt_or_ge k 9 with h | h
   · left;simp;omega
   · right;refine ⟨by simp;omega,by omega⟩
  clear h9
  rcases hcut with e9 | ⟨e9,e1⟩
  · skip
    go_upto_region 10 with (fail)
    rw [HST.out]
    by_cases hlow:bv < 128
    · have hlow2:(bv:Int) < 128:=by omega
      by_cases hz:bv=0
      · by_cases hk0:0 < k
        · have hk0i:(0:Int) < (k:Int):=by omega
          have HF:Hid (getNum t (A:Int)=⟨0,0,3⟩):=Lib.hid (by rw [HG1.out,if_pos hlow,if_pos ⟨hz,hk0⟩])
          have hz2:((bv:Int) == 0)=true:=by simp;omega
          clear hz hbq
          go_wp2_with (refine wpList_store_mid rfl 59 _ _ rfl R 0 #[.int .i64 0,.int .i64 0,.int .i64 3] rfl rfl (Blk.there (t:=59) (cs:=#[.int .i64 0,.int .i64 0,.int .i64 0]) R0.out) (by kernel_rfl) (all_oneCell_toArray (cs:=[.int .i64 0,.int .i64 0,.int .i64 3]) (by simp [Value.oneCell'])) ?_)
          exact bodyPost_ret (v:=.agg #[.int .i64 0,.int .i64 0,.int .i64 3]) (results_blk Try.results82 rfl (Blk.setAll (t:=59) (cs:=#[.int .i64 0,.int .i64 0,.int .i64 0]) (vs:=#[.int .i64 0,.int .i64 0,.int .i64 3]) R0.out rfl) Try.underlying59 rfl (by kernel_rfl)) rfl ⟨by rw [HF.out],setCells_ext HRB.out _ _ _ X0.out⟩
        · have hk0i:¬ (0:Int) < (k:Int):=by omega
          have HF:Hid (getNum t (A:Int)=⟨unzig V,((A+k+1:Nat):Int),0⟩):=Lib.hid (by rw [HG1.out,if_pos hlow,if_neg (fun h=>hk0 h.2)])
          have hz2:((bv:Int) == 0)=true:=by simp;omega
          clear hz hbq
          by_cases hp:V % 2=1
          · have HZ:Hid (getNum t (A:Int)=⟨-((V:Int) / 2) - 1,(A:Int)+(k:Int)+1,0⟩):=Lib.hid (by rw [HF.out,NumOut.mk.injEq];refine ⟨by rw [unzig,if_pos hp];omega,by omega,rfl⟩)
            have hp2:(((V:Int) % 2) == 1)=true:=by simp;omega
            clear hp
            go_upto_region 16 with (fail)
            rw [not_bits (by omega) (by omega)]
            go_wp2_with (refine wpList_store_mid rfl 59 _ _ rfl R 0 #[.int .i64 (-((V:Int) / 2) - 1),.int .i64 ((A:Int)+(k:Int)+1),.int .i64 0] rfl rfl (Blk.there (t:=59) (cs:=#[.int .i64 0,.int .i64 0,.int .i64 0]) R0.out) (by kernel_rfl) (all_oneCell_toArray (cs:=[.int .i64 (-((V:Int) / 2) - 1),.int .i64 ((A:Int)+(k:Int)+1),.int .i64 0]) (by simp [Value.oneCell'])) ?_)
            exact bodyPost_ret (v:=.agg #[.int .i64 (-((V:Int) / 2) - 1),.int .i64 ((A:Int)+(k:Int)+1),.int .i64 0]) (results_blk Try.results82 rfl (Blk.setAll (t:=59) (cs:=#[.int .i64 0,.int .i64 0,.int .i64 0]) (vs:=#[.int .i64 (-((V:Int) / 2) - 1),.int .i64 ((A:Int)+(k:Int)+1),.int .i64 0]) R0.out rfl) Try.underlying59 rfl (by kernel_rfl)) rfl ⟨by rw [HZ.out],setCells_ext HRB.out _ _ _ X0.out⟩
          · have HZ:Hid (getNum t (A:Int)=⟨(V:Int) / 2,(A:Int)+(k:Int)+1,0⟩):=Lib.hid (by rw [HF.out,NumOut.mk.injEq];refine ⟨by rw [unzig,if_neg hp];omega,by omega,rfl⟩)
            have hp2:(((V:Int) % 2) == 1)=false:=by simp;omega
            clear hp
            go_wp2_with (refine wpList_store_mid rfl 59 _ _ rfl R 0 #[.int .i64 ((V:Int) / 2),.int .i64 ((A:Int)+(k:Int)+1),.int .i64 0] rfl rfl (Blk.there (t:=59) (cs:=#[.int .i64 0,.int .i64 0,.int .i64 0]) R0.out) (by kernel_rfl) (all_oneCell_toArray (cs:=[.int .i64 ((V:Int) / 2),.int .i64 ((A:Int)+(k:Int)+1),.int .i64 0]) (by simp [Value.oneCell'])) ?_)
            exact bodyPost_ret (v:=.agg #[.int .i64 ((V:Int) / 2),.int .i64 ((A:Int)+(k:Int)+1),.int .i64 0]) (results_blk Try.results82 rfl (Blk.setAll (t:=59) (cs:=#[.int .i64 0,.int .i64 0,.int .i64 0]) (vs:=#[.int .i64 ((V:Int) / 2),.int .i64 ((A:Int)+(k:Int)+1),.int .i64 0]) R0.out rfl) Try.underlying59 rfl (by kernel_rfl)) rfl ⟨by rw [HZ.out],setCells_ext HRB.out _ _ _ X0.out⟩
      · have HF:Hid (getNum t (A:Int)=⟨unzig V,((A+k+1:Nat):Int),0⟩):=Lib.hid (by rw [HG1.out,if_pos hlow,if_neg (fun h=>hz h.1)])
        have hz2:((bv:Int) == 0)=false:=by simp;omega
        clear hbq
        by_cases hp:V % 2=1
        · have HZ:Hid (getNum t (A:Int)=⟨-((V:Int) / 2) - 1,(A:Int)+(k:Int)+1,0⟩):=Lib.hid (by rw [HF.out,NumOut.mk.injEq];refine ⟨by rw [unzig,if_pos hp];omega,by omega,rfl⟩)
          have hp2:(((V:Int) % 2) == 1)=true:=by simp;omega
          clear hp
          go_upto_region 16 with (fail)
          rw [not_bits (by omega) (by omega)]
          go_wp2_with (refine wpList_store_mid rfl 59 _ _ rfl R 0 #[.int .i64 (-((V:Int) / 2) - 1),.int .i64 ((A:Int)+(k:Int)+1),.int .i64 0] rfl rfl (Blk.there (t:=59) (cs:=#[.int .i64 0,.int .i64 0,.int .i64 0]) R0.out) (by kernel_rfl) (all_oneCell_toArray (cs:=[.int .i64 (-((V:Int) / 2) - 1),.int .i64 ((A:Int)+(k:Int)+1),.int .i64 0]) (by simp [Value.oneCell'])) ?_)
          exact bodyPost_ret (v:=.agg #[.int .i64 (-((V:Int) / 2) - 1),.int .i64 ((A:Int)+(k:Int)+1),.int .i64 0]) (results_blk Try.results82 rfl (Blk.setAll (t:=59) (cs:=#[.int .i64 0,.int .i64 0,.int .i64 0]) (vs:=#[.int .i64 (-((V:Int) / 2) - 1),.int .i64 ((A:Int)+(k:Int)+1),.int .i64 0]) R0.out rfl) Try.underlying59 rfl (by kernel_rfl)) rfl ⟨by rw [HZ.out],setCells_ext HRB.out _ _ _ X0.out⟩
        · have HZ:Hid (getNum t (A:Int)=⟨(V:Int) / 2,(A:Int)+(k:Int)+1,0⟩):=Lib.hid (by rw [HF.out,NumOut.mk.injEq];refine ⟨by rw [unzig,if_neg hp];omega,by omega,rfl⟩)
          have hp2:(((V:Int) % 2) == 1)=false:=by simp;omega
          clear hp
          go_wp2_with (refine wpList_store_mid rfl 59 _ _ rfl R 0 #[.int .i64 ((V:Int) / 2),.int .i64 ((A:Int)+(k:Int)+1),.int .i64 0] rfl rfl (Blk.there (t:=59) (cs:=#[.int .i64 0,.int .i64 0,.int .i64 0]) R0.out) (by kernel_rfl) (all_oneCell_toArray (cs:=[.int .i64 ((V:Int) / 2),.int .i64 ((A:Int)+(k:Int)+1),.int .i64 0]) (by simp [Value.oneCell'])) ?_)
          exact bodyPost_ret (v:=.agg #[.int .i64 ((V:Int) / 2),.int .i64 ((A:Int)+(k:Int)+1),.int .i64 0]) (results_blk Try.results82 rfl (Blk.setAll (t:=59) (cs:=#[.int .i64 0,.int .i64 0,.int .i64 0]) (vs:=#[.int .i64 ((V:Int) / 2),.int .i64 ((A:Int)+(k:Int)+1),.int .i64 0]) R0.out rfl) Try.underlying59 rfl (by kernel_rfl)) rfl ⟨by rw [HZ.out],setCells_ext HRB.out _ _ _ X0.out⟩
    · have hlow2:¬ (bv:Int) < 128:=by omega
      have HF:Hid (getNum t (A:Int)=numGo t A (10 - (k+1)) (k+1) V):=Lib.hid (by rw [HG1.out,if_neg hlow])
      go_wp2_with fail
      refine ⟨⟨k+1,V,by have:=HK9.out (by omega);omega,by go_num,rfl,HN1.out,HF.out⟩,?_⟩
      simp [intOf] <;> omega
  · skip
    go_upto_region 10 with (fail)
    rw [HST.out]
    by_cases hlow:bv < 128
    · have hlow2:(bv:Int) < 128:=by omega
      by_cases hz:bv=0
      · by_cases hk0:0 < k
        · have hk0i:(0:Int) < (k:Int):=by omega
          have HF:Hid (getNum t (A:Int)=⟨0,0,3⟩):=Lib.hid (by rw [HG1.out,if_pos hlow,if_pos ⟨hz,hk0⟩])
          have hz2:((bv:Int) == 0)=true:=by simp;omega
          clear hz hbq
          go_wp2_with (refine wpList_store_mid rfl 59 _ _ rfl R 0 #[.int .i64 0,.int .i64 0,.int .i64 3] rfl rfl (Blk.there (t:=59) (cs:=#[.int .i64 0,.int .i64 0,.int .i64 0]) R0.out) (by kernel_rfl) (all_oneCell_toArray (cs:=[.int .i64 0,.int .i64 0,.int .i64 3]) (by simp [Value.oneCell'])) ?_)
          exact bodyPost_ret (v:=.agg #[.int .i64 0,.int .i64 0,.int .i64 3]) (results_blk Try.results82 rfl (Blk.setAll (t:=59) (cs:=#[.int .i64 0,.int .i64 0,.int .i64 0]) (vs:=#[.int .i64 0,.int .i64 0,.int .i64 3]) R0.out rfl) Try.underlying59 rfl (by kernel_rfl)) rfl ⟨by rw [HF.out],setCells_ext HRB.out _ _ _ X0.out⟩
        · have hk0i:¬ (0:Int) < (k:Int):=by omega
          have HF:Hid (getNum t (A:Int)=⟨unzig V,((A+k+1:Nat):Int),0⟩):=Lib.hid (by rw [HG1.out,if_pos hlow,if_neg (fun h=>hk0 h.2)])
          have hz2:((bv:Int) == 0)=true:=by simp;omega
          clear hz hbq
          by_cases hp:V % 2=1
          · have HZ:Hid (getNum t (A:Int)=⟨-((V:Int) / 2) - 1,(A:Int)+(k:Int)+1,0⟩):=Lib.hid (by rw [HF.out,NumOut.mk.injEq];refine ⟨by rw [unzig,if_pos hp];omega,by omega,rfl⟩)
            have hp2:(((V:Int) % 2) == 1)=true:=by simp;omega
            clear hp
            go_upto_region 16 with (fail)
            rw [not_bits (by omega) (by omega)]
            go_wp2_with (refine wpList_store_mid rfl 59 _ _ rfl R 0 #[.int .i64 (-((V:Int) / 2) - 1),.int .i64 ((A:Int)+(k:Int)+1),.int .i64 0] rfl rfl (Blk.there (t:=59) (cs:=#[.int .i64 0,.int .i64 0,.int .i64 0]) R0.out) (by kernel_rfl) (all_oneCell_toArray (cs:=[.int .i64 (-((V:Int) / 2) - 1),.int .i64 ((A:Int)+(k:Int)+1),.int .i64 0]) (by simp [Value.oneCell'])) ?_)
            exact bodyPost_ret (v:=.agg #[.int .i64 (-((V:Int) / 2) - 1),.int .i64 ((A:Int)+(k:Int)+1),.int .i64 0]) (results_blk Try.results82 rfl (Blk.setAll (t:=59) (cs:=#[.int .i64 0,.int .i64 0,.int .i64 0]) (vs:=#[.int .i64 (-((V:Int) / 2) - 1),.int .i64 ((A:Int)+(k:Int)+1),.int .i64 0]) R0.out rfl) Try.underlying59 rfl (by kernel_rfl)) rfl ⟨by rw [HZ.out],setCells_ext HRB.out _ _ _ X0.out⟩
          · have HZ:Hid (getNum t (A:Int)=⟨(V:Int) / 2,(A:Int)+(k:Int)+1,0⟩):=Lib.hid (by rw [HF.out,NumOut.mk.injEq];refine ⟨by rw [unzig,if_neg hp];omega,by omega,rfl⟩)
            have hp2:(((V:Int) % 2) == 1)=false:=by simp;omega
            clear hp
            go_wp2_with (refine wpList_store_mid rfl 59 _ _ rfl R 0 #[.int .i64 ((V:Int) / 2),.int .i64 ((A:Int)+(k:Int)+1),.int .i64 0] rfl rfl (Blk.there (t:=59) (cs:=#[.int .i64 0,.int .i64 0,.int .i64 0]) R0.out) (by kernel_rfl) (all_oneCell_toArray (cs:=[.int .i64 ((V:Int) / 2),.int .i64 ((A:Int)+(k:Int)+1),.int .i64 0]) (by simp [Value.oneCell'])) ?_)
            exact bodyPost_ret (v:=.agg #[.int .i64 ((V:Int) / 2),.int .i64 ((A:Int)+(k:Int)+1),.int .i64 0]) (results_blk Try.results82 rfl (Blk.setAll (t:=59) (cs:=#[.int .i64 0,.int .i64 0,.int .i64 0]) (vs:=#[.int .i64 ((V:Int) / 2),.int .i64 ((A:Int)+(k:Int)+1),.int .i64 0]) R0.out rfl) Try.underlying59 rfl (by kernel_rfl)) rfl ⟨by rw [HZ.out],setCells_ext HRB.out _ _ _ X0.out⟩
      · have HF:Hid (getNum t (A:Int)=⟨unzig V,((A+k+1:Nat):Int),0⟩):=Lib.hid (by rw [HG1.out,if_pos hlow,if_neg (fun h=>hz h.1)])
        have hz2:((bv:Int) == 0)=false:=by simp;omega
        clear hbq
        by_cases hp:V % 2=1
        · have HZ:Hid (getNum t (A:Int)=⟨-((V:Int) / 2) - 1,(A:Int)+(k:Int)+1,0⟩):=Lib.hid (by rw [HF.out,NumOut.mk.injEq];refine ⟨by rw [unzig,if_pos hp];omega,by omega,rfl⟩)
          have hp2:(((V:Int) % 2) == 1)=true:=by simp;omega
          clear hp
          go_upto_region 16 with (fail)
          rw [not_bits (by omega) (by omega)]
          go_wp2_with (refine wpList_store_mid rfl 59 _ _ rfl R 0 #[.int .i64 (-((V:Int) / 2) - 1),.int .i64 ((A:Int)+(k:Int)+1),.int .i64 0] rfl rfl (Blk.there (t:=59) (cs:=#[.int .i64 0,.int .i64 0,.int .i64 0]) R0.out) (by kernel_rfl) (all_oneCell_toArray (cs:=[.int .i64 (-((V:Int) / 2) - 1),.int .i64 ((A:Int)+(k:Int)+1),.int .i64 0]) (by simp [Value.oneCell'])) ?_)
          exact bodyPost_ret (v:=.agg #[.int .i64 (-((V:Int) / 2) - 1),.int .i64 ((A:Int)+(k:Int)+1),.int .i64 0]) (results_blk Try.results82 rfl (Blk.setAll (t:=59) (cs:=#[.int .i64 0,.int .i64 0,.int .i64 0]) (vs:=#[.int .i64 (-((V:Int) / 2) - 1),.int .i64 ((A:Int)+(k:Int)+1),.int .i64 0]) R0.out rfl) Try.underlying59 rfl (by kernel_rfl)) rfl ⟨by rw [HZ.out],setCells_ext HRB.out _ _ _ X0.out⟩
        · have HZ:Hid (getNum t (A:Int)=⟨(V:Int) / 2,(A:Int)+(k:Int)+1,0⟩):=Lib.hid (by rw [HF.out,NumOut.mk.injEq];refine ⟨by rw [unzig,if_neg hp];omega,by omega,rfl⟩)
          have hp2:(((V:Int) % 2) == 1)=false:=by simp;omega
          clear hp
          go_wp2_with (refine wpList_store_mid rfl 59 _ _ rfl R 0 #[.int .i64 ((V:Int) / 2),.int .i64 ((A:Int)+(k:Int)+1),.int .i64 0] rfl rfl (Blk.there (t:=59) (cs:=#[.int .i64 0,.int .i64 0,.int .i64 0]) R0.out) (by kernel_rfl) (all_oneCell_toArray (cs:=[.int .i64 ((V:Int) / 2),.int .i64 ((A:Int)+(k:Int)+1),.int .i64 0]) (by simp [Value.oneCell'])) ?_)
          exact bodyPost_ret (v:=.agg #[.int .i64 ((V:Int) / 2),.int .i64 ((A:Int)+(k:Int)+1),.int .i64 0]) (results_blk Try.results82 rfl (Blk.setAll (t:=59) (cs:=#[.int .i64 0,.int .i64 0,.int .i64 0]) (vs:=#[.int .i64 ((V:Int) / 2),.int .i64 ((A:Int)+(k:Int)+1),.int .i64 0]) R0.out rfl) Try.underlying59 rfl (by kernel_rfl)) rfl ⟨by rw [HZ.out],setCells_ext HRB.out _ _ _ X0.out⟩
    · exact absurd (show (1:Int) < (bv:Int) by omega) (by omega)
theorem longText_any (t:ByteArray) (w:World) (_ht:t.size≤maxLen):Calls Try.prog 64 #[.string t] w fun e w'=>e=.returned (.bool (decide (8000 < t.size)))∧w=w':=by
 unfold maxLen at _ht
 go_enter Try.func64,Try.ntmps64
 go_wp2_with fail
 go_ret
 exact ⟨ret_bool (by rw [Bool.eq_iff_iff];simp;omega),rfl⟩
theorem getNum_any (t:ByteArray) (a:Int) (w:World) (ht:Str t) :
 Calls Try.prog 79 #[.string t,.int .i64 a] w fun e w'=>e=.returned (.agg #[.int .i64 (getNum t a).num,.int .i64 (getNum t a).at_,.int .i64 (getNum t a).code])∧Ext w w':=by
 have HT:=Lib.hid ht
 unfold Str maxLen at ht
 go_enter Try.func79,Try.ntmps79
 go_upto_region 1 with (fail)
 obtain ⟨W,R,hW,hB,hBl,hx0,b0⟩:∃ W B,W=w.alloc (.cells #[.int .i64 0,.int .i64 0,.int .i64 0] 59)∧B=w.heap.size∧w.heap.size≤B∧Ext w W∧Blk W B 59 #[.int .i64 0,.int .i64 0,.int .i64 0]:=⟨_,_,rfl,rfl,Nat.le_refl _,(Ext.refl w).alloc _,Blk.new _ _ _⟩
 rw [← hW,← hB]
 have HRB:=Lib.hid hBl
 have R0:=Lib.hid b0
 have X0:=Lib.hid hx0
 clear hW hB hx0 b0 hBl
 by_cases hl:8000 < t.size
 · have HE:Hid (getNum t a=⟨0,0,2⟩):=Lib.hid (by rw [getNum,if_pos hl])
   have hl2:decide (8000 < t.size)=true:=by simpa using hl
   go_wp2_with (first | (go_at_call 64;refine (longText_any t _ HT.out).mono ?_;rintro e w' ⟨rfl,rfl⟩) | (refine wpList_store_mid rfl 59 _ _ rfl R 0 #[.int .i64 0,.int .i64 0,.int .i64 2] rfl rfl (Blk.there (t:=59) (cs:=#[.int .i64 0,.int .i64 0,.int .i64 0]) R0.out) (by kernel_rfl) (all_oneCell_toArray (cs:=[.int .i64 0,.int .i64 0,.int .i64 2]) (by simp [Value.oneCell'])) ?_))
   exact bodyPost_ret (v:=.agg #[.int .i64 0,.int .i64 0,.int .i64 2]) (results_blk Try.results79 rfl (Blk.setAll (t:=59) (cs:=#[.int .i64 0,.int .i64 0,.int .i64 0]) (vs:=#[.int .i64 0,.int .i64 0,.int .i64 2]) R0.out rfl) Try.underlying59 rfl (by kernel_rfl)) rfl ⟨by rw [HE.out],setCells_ext HRB.out _ _ _ X0.out⟩
 have hl2:decide (8000 < t.size)=false:=by simpa using hl
 by_cases hn:a < 0
 · have HE:Hid (getNum t a=⟨0,0,1⟩):=Lib.hid (by rw [getNum,if_neg hl,if_pos hn])
   go_wp2_with (first | (go_at_call 64;refine (longText_any t _ HT.out).mono ?_;rintro e w' ⟨rfl,rfl⟩) | (refine wpList_store_mid rfl 59 _ _ rfl R 0 #[.int .i64 0,.int .i64 0,.int .i64 1] rfl rfl (Blk.there (t:=59) (cs:=#[.int .i64 0,.int .i64 0,.int .i64 0]) R0.out) (by kernel_rfl) (all_oneCell_toArray (cs:=[.int .i64 0,.int .i64 0,.int .i64 1]) (by simp [Value.oneCell'])) ?_))
   exact bodyPost_ret (v:=.agg #[.int .i64 0,.int .i64 0,.int .i64 1]) (results_blk Try.results79 rfl (Blk.setAll (t:=59) (cs:=#[.int .i64 0,.int .i64 0,.int .i64 0]) (vs:=#[.int .i64 0,.int .i64 0,.int .i64 1]) R0.out rfl) Try.underlying59 rfl (by kernel_rfl)) rfl ⟨by rw [HE.out],setCells_ext HRB.out _ _ _ X0.out⟩
 obtain ⟨A,rfl⟩:∃ A:Nat,a=A:=⟨a.toNat,by omega⟩
 by_cases hs:t.size≤A
 · have HE:Hid (getNum t (A:Int)=⟨0,0,4⟩):=Lib.hid (by rw [getNum,if_neg hl,if_neg hn,Int.toNat_natCast,numGo,if_pos (show t.size≤A+0 from hs)])
   go_wp2_with (first | (go_at_call 64;refine (longText_any t _ HT.out).mono ?_;rintro e w' ⟨rfl,rfl⟩) | (refine wpList_store_mid rfl 59 _ _ rfl R 0 #[.int .i64 0,.int .i64 0,.int .i64 4] rfl rfl (Blk.there (t:=59) (cs:=#[.int .i64 0,.int .i64 0,.int .i64 0]) R0.out) (by kernel_rfl) (all_oneCell_toArray (cs:=[.int .i64 0,.int .i64 0,.int .i64 4]) (by simp [Value.oneCell'])) ?_))
   exact bodyPost_ret (v:=.agg #[.int .i64 0,.int .i64 0,.int .i64 4]) (results_blk Try.results79 rfl (Blk.setAll (t:=59) (cs:=#[.int .i64 0,.int .i64 0,.int .i64 0]) (vs:=#[.int .i64 0,.int .i64 0,.int .i64 4]) R0.out rfl) Try.underlying59 rfl (by kernel_rfl)) rfl ⟨by rw [HE.out],setCells_ext HRB.out _ _ _ X0.out⟩
 have hlt:A < t.size:=by omega
 have HC:Hid (t.size≤8000):=Lib.hid (by omega)
 have HLT:=Lib.hid hlt
 go_wp2_with (first | (go_at_call 64;refine (longText_any t _ HT.out).mono ?_;rintro e w' ⟨rfl,rfl⟩) | (go_at_call 82;(with_reducible refine (getNumI_any t A _ HC.out HLT.out).mono ?_);rintro e w1 ⟨rfl,hx1⟩;have X1:=Lib.hid (X0.out.trans hx1);have R1:=Lib.hid (R0.out.ext hx1);clear hx1) | (refine wpList_store_mid rfl 59 _ _ rfl R 0 #[.int .i64 (getNum t (A:Int)).num,.int .i64 (getNum t (A:Int)).at_,.int .i64 (getNum t (A:Int)).code] rfl rfl (Blk.there (t:=59) (cs:=#[.int .i64 0,.int .i64 0,.int .i64 0]) R1.out) (by kernel_rfl) (all_oneCell_toArray (cs:=[.int .i64 (getNum t (A:Int)).num,.int .i64 (getNum t (A:Int)).at_,.int .i64 (getNum t (A:Int)).code]) (by simp [Value.oneCell'])) ?_))
 exact bodyPost_ret (v:=.agg #[.int .i64 (getNum t (A:Int)).num,.int .i64 (getNum t (A:Int)).at_,.int .i64 (getNum t (A:Int)).code]) (results_blk Try.results79 rfl (Blk.setAll (t:=59) (cs:=#[.int .i64 0,.int .i64 0,.int .i64 0]) (vs:=#[.int .i64 (getNum t (A:Int)).num,.int .i64 (getNum t (A:Int)).at_,.int .i64 (getNum t (A:Int)).code]) R1.out rfl) Try.underlying59 rfl (by kernel_rfl)) rfl ⟨rfl,setCells_ext HRB.out _ _ _ X1.out⟩
end Go.Proofs.Ytlonjlaecaemgaa

/- Two ways to say that one set of bits lies in another. -/
import Derived.Test.YtlonjlaecaemgaaLib
import Derived.Laws.BitsAllLaws
namespace Go.Proofs.Ytlonjlaecaemgaa
open Go
theorem wrap_inj {m n:Nat} (hm:m < 18446744073709551616) (hn:n < 18446744073709551616) (h:IntKind.i64.wrap (m:Int)=IntKind.i64.wrap (n:Int)):m=n:=by
 rw [IntKind.wrap_i64,IntKind.wrap_i64] at h
 omega
theorem wrap_ofInt {b:Int} (h:I64 b):IntKind.i64.wrap ((BitVec.ofInt 64 b).toNat:Int)=b:=by
 obtain ⟨h1,h2⟩:=h
 rw [BitVec.toNat_ofInt,IntKind.wrap_i64]
 have e:(2:Nat) ^ 64=18446744073709551616:=by decide
 rw [e]
 omega
theorem and_iff (x y:BitVec 64):x &&& y=x↔x &&& ~~~y=0#64:=by
 constructor
 · intro h
   apply BitVec.eq_of_getElem_eq
   intro i hi
   have:=congrArg (fun z=>z[i]) h
   simp at this ⊢
   exact this
 · intro h
   apply BitVec.eq_of_getElem_eq
   intro i hi
   have:=congrArg (fun z=>z[i]) h
   simp at this ⊢
   exact this
theorem bits_sub {b d:Int} (hb:I64 b):(bits .and .i64 b d == b)=(bits .andNot .i64 b d == 0):=by
 rw [Bool.eq_iff_iff,beq_iff_eq,beq_iff_eq]
 show IntKind.i64.wrap ((BitVec.ofInt 64 b &&& BitVec.ofInt 64 d).toNat:Int)=b↔IntKind.i64.wrap ((BitVec.ofInt 64 b &&& ~~~(BitVec.ofInt 64 d)).toNat:Int)=0
 have l1:=(BitVec.ofInt 64 b &&& BitVec.ofInt 64 d).isLt
 have l2:=(BitVec.ofInt 64 b &&& ~~~(BitVec.ofInt 64 d)).isLt
 have l3:=(BitVec.ofInt 64 b).isLt
 have e:(2:Nat) ^ 64=18446744073709551616:=by decide
 rw [e] at l1 l2 l3
 constructor
 · intro h
   have h2:BitVec.ofInt 64 b &&& BitVec.ofInt 64 d=BitVec.ofInt 64 b:=BitVec.eq_of_toNat_eq (wrap_inj l1 l3 (h.trans (wrap_ofInt hb).symm))
   rw [(and_iff _ _).1 h2]
   decide
 · intro h
   have h2:BitVec.ofInt 64 b &&& ~~~(BitVec.ofInt 64 d)=0#64:=BitVec.eq_of_toNat_eq (wrap_inj l2 (by decide) (h.trans (by decide)))
   rw [(and_iff _ _).2 h2]
   exact wrap_ofInt hb
end Go.Proofs.Ytlonjlaecaemgaa

/- Reading numbers and texts out of their bytes, in plain Lean. -/
import Derived.Test.YtlonjlaecaemgaaLabels
import Derived.Laws.BitsAllLaws
namespace Go.Proofs.Ytlonjlaecaemgaa
structure NumOut where
 num:Int
 at_:Int
 code:Int
structure TextOut where
 text:ByteArray
 at_:Int
 code:Int
def unzig (u:Nat):Int:=if u % 2=1 then -((u / 2:Nat):Int) - 1 else ((u / 2:Nat):Int)
theorem unzig_fit {u:Nat} (h:u < 18446744073709551616):I64 (unzig u):=by
 unfold unzig I64
 split <;> omega
def numGo (t:ByteArray) (a:Nat):Nat→Nat→Nat→NumOut
 | 0,_,_=>⟨0,0,3⟩
 | f+1,k,u =>
   if t.size≤a+k then ⟨0,0,4⟩
   else if k=9∧1 < byteAt t (a+k) then ⟨0,0,3⟩
   else if byteAt t (a+k) < 128 then
    if byteAt t (a+k)=0∧0 < k then ⟨0,0,3⟩ else ⟨unzig (u+byteAt t (a+k) % 128 * 2 ^ (7 * k)),((a+k+1:Nat):Int),0⟩
   else numGo t a f (k+1) (u+byteAt t (a+k) % 128 * 2 ^ (7 * k))
def getNum (t:ByteArray) (at_:Int):NumOut:=if 8000 < t.size then ⟨0,0,2⟩ else if at_ < 0 then ⟨0,0,1⟩ else numGo t at_.toNat 10 0 0
theorem pow7 (k:Nat):2 ^ (7 * (k+1))=128 * 2 ^ (7 * k):=by
 rw [show 7 * (k+1)=7 * k+7 by omega,Nat.pow_add];omega
theorem num_step {k u b:Nat} (h:u < 2 ^ (7 * k)):u+b % 128 * 2 ^ (7 * k) < 2 ^ (7 * (k+1)):=by
 rw [pow7]
 have h1:b % 128≤127:=by omega
 have h2:=Nat.mul_le_mul_right (2 ^ (7 * k)) h1
 omega
theorem num_last {u b:Nat} (h:u < 2 ^ (7 * 9)) (hb:b≤1):u+b % 128 * 2 ^ (7 * 9) < 18446744073709551616:=by
 have:(2:Nat) ^ (7 * 9)=9223372036854775808:=by decide
 rw [this] at h ⊢
 have:b % 128≤1:=by omega
 have h2:=Nat.mul_le_mul_right 9223372036854775808 this
 omega
theorem pow7_le {k:Nat} (h:k≤8):2 ^ (7 * (k+1))≤9223372036854775808:=by
 have:2 ^ (7 * (k+1))≤2 ^ 63:=Nat.pow_le_pow_right (by decide) (by omega)
 simpa using this
theorem num_u64 {k u b:Nat} (h:u < 2 ^ (7 * k)) (hk:k≤9) (h9:¬ (k=9∧1 < b)):u+b % 128 * 2 ^ (7 * k) < 18446744073709551616:=by
 rcases Nat.lt_or_ge k 9 with h0 | h0
 · have h1:=num_step (b:=b) h
   have h2:=pow7_le (k:=k) (by omega)
   omega
 · obtain rfl:k=9:=by omega
   exact num_last h (by omega)
theorem numGo_fit (t:ByteArray) (a:Nat):∀ f k u,f+k=10→u < 2 ^ (7 * k)→I64 (numGo t a f k u).num∧0≤(numGo t a f k u).at_∧(numGo t a f k u).at_≤t.size∧0≤(numGo t a f k u).code∧(numGo t a f k u).code≤4
 | 0,k,u,_,_=>by simp [numGo,I64]
 | f+1,k,u,hf,hu=>by
   unfold numGo
   split
   · simp [I64]
   rename_i hs
   split
   · simp [I64]
   rename_i h9
   split
   · split
     · simp [I64]
     · exact ⟨unzig_fit (num_u64 hu (by omega) h9),by simp only;omega,by simp only;omega,by simp,by simp⟩
   · exact numGo_fit t a f (k+1) _ (by omega) (num_step hu)
theorem getNum_fit (t:ByteArray) (a:Int):I64 (getNum t a).num∧0≤(getNum t a).at_∧(getNum t a).at_≤t.size∧0≤(getNum t a).code∧(getNum t a).code≤4:=by
 unfold getNum
 split
 · simp [I64]
 split
 · simp [I64]
 exact numGo_fit t _ 10 0 0 rfl (by decide)
theorem getNum_size (t:ByteArray) (a:Int) (h:(getNum t a).code=0):t.size≤8000:=by
 unfold getNum at h
 split at h
 · simp at h
 · omega
def getText (t:ByteArray) (at_:Int):TextOut :=
 let o:=getNum t at_
 if o.code≠0 then ⟨⟨#[]⟩,0,o.code⟩
 else if o.num < 0∨8000 < o.num then ⟨⟨#[]⟩,0,3⟩
 else if (t.size:Int) < o.at_+o.num then ⟨⟨#[]⟩,0,4⟩
 else ⟨t.extract o.at_.toNat (o.at_+o.num).toNat,o.at_+o.num,0⟩
theorem getText_fit (t:ByteArray) (a:Int):Str (getText t a).text∧0≤(getText t a).at_∧(getText t a).at_≤8000∧0≤(getText t a).code∧(getText t a).code≤4:=by
 obtain ⟨h1,h2,h3,h4,h5⟩:=getNum_fit t a
 have h6:=getNum_size t a
 unfold getText Str maxLen
 simp only
 have e0:ByteArray.size ⟨#[]⟩=0:=rfl
 split
 · simp [e0];omega
 split
 · simp [e0]
 split
 · simp [e0]
 rename_i c1 c2 c3
 have:=h6 (by omega)
 simp [ByteArray.size_extract]
 omega
theorem shl7 {k b:Nat} (hk:k≤9) (h9:¬ (k=9∧1 < b)):IntKind.u64.wrap ((b:Int) % 128 * 2 ^ (7 * k))=((b % 128 * 2 ^ (7 * k):Nat):Int):=by
 have h:=num_u64 (k:=k) (u:=0) (b:=b) (Nat.two_pow_pos _) hk h9
 rw [show (b:Int) % 128 * 2 ^ (7 * k)=((b % 128 * 2 ^ (7 * k):Nat):Int) by simp]
 rw [IntKind.wrap_u64]
 omega
theorem add7w {k u b:Nat} (hu:u < 2 ^ (7 * k)) (hk:k≤9) (h9:¬ (k=9∧1 < b)):IntKind.u64.wrap ((u:Int)+IntKind.u64.wrap ((b:Int) % 128 * 2 ^ (7 * k)))=((u+b % 128 * 2 ^ (7 * k):Nat):Int):=by
 have h:=num_u64 hu hk h9
 rw [shl7 hk h9,IntKind.wrap_u64]
 omega
theorem or7w {k u b:Nat} (hu:u < 2 ^ (7 * k)) (hk:k≤9) (h9:¬ (k=9∧1 < b)):bits .or .u64 (u:Int) (IntKind.u64.wrap ((b:Int) % 128 * 2 ^ (7 * k)))=((u+b % 128 * 2 ^ (7 * k):Nat):Int):=by
 have h:=num_u64 hu hk h9
 rw [shl7 hk h9,u64_or_nat _ _ (by omega) (by omega),Nat.or_comm,nat_join (7 * k) _ _ (Nat.mul_mod_left _ _) hu,Nat.add_comm]
theorem not_bits {x:Int} (h0:0≤x) (h1:x < 9223372036854775808):bits BinOp.xor IntKind.i64 (if IntKind.i64.signed=true then -1 else 9223372036854775807) x = -x - 1:=by
 rw [if_pos (by rfl)]
 show IntKind.i64.wrap ((BitVec.ofInt 64 (-1) ^^^ BitVec.ofInt 64 x).toNat:Int)=_
 have e2:BitVec.ofInt 64 (-1)=BitVec.allOnes 64:=by decide
 rw [e2,BitVec.allOnes_xor,BitVec.toNat_not,BitVec.toNat_ofInt,IntKind.wrap_i64]
 have e3:(2:Nat) ^ 64=18446744073709551616:=by decide
 rw [e3]
 omega
end Go.Proofs.Ytlonjlaecaemgaa

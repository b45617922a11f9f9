/- A right task comes back from its bytes: the plain law of FnTask, its first half. -/
import Derived.Test.YtlonjlaecaemgaaRdP
import Derived.Test.YtlonjlaecaemgaaTBytesS
namespace Go.Proofs.Ytlonjlaecaemgaa
def AtB (t:ByteArray) (a:Nat) (x:ByteArray):Prop:=∃ p s:ByteArray,t=p ++ (x ++ s)∧p.size=a
theorem AtB.left {t:ByteArray} {a:Nat} {x y:ByteArray} (h:AtB t a (x ++ y)):AtB t a x:=by
 obtain ⟨p,s,rfl,hp⟩:=h
 exact ⟨p,y ++ s,by rw [ByteArray.append_assoc],hp⟩
theorem AtB.right {t:ByteArray} {a:Nat} {x y:ByteArray} (h:AtB t a (x ++ y)):AtB t (a+x.size) y:=by
 obtain ⟨p,s,rfl,rfl⟩:=h
 exact ⟨p ++ x,s,by simp only [ByteArray.append_assoc],by rw [ByteArray.size_append]⟩
theorem AtB.le {t:ByteArray} {a:Nat} {x:ByteArray} (h:AtB t a x):a+x.size≤t.size:=by
 obtain ⟨p,s,rfl,rfl⟩:=h
 simp only [ByteArray.size_append]
 omega
theorem AtB.byte {t:ByteArray} {a:Nat} {x:ByteArray} (h:AtB t a x) {j:Nat} (hj:j < x.size):byteAt t (a+j)=byteAt x j:=by
 have hle:=h.le
 obtain ⟨p,s,rfl,rfl⟩:=h
 rw [← byteAt_eq (by omega),← byteAt_eq hj]
 congr 1
 rw [ByteArray.getElem_append_right (by omega),ByteArray.getElem_append_left (by omega)]
 congr 1
 omega
theorem AtB.cut {t:ByteArray} {a:Nat} {x:ByteArray} (h:AtB t a x):t.extract a (a+x.size)=x:=by
 obtain ⟨p,s,rfl,rfl⟩:=h
 rw [ByteArray.extract_append]
 have e1:p.extract p.size (p.size+x.size)=ByteArray.empty:=by
  apply ByteArray.ext
  simp
 rw [e1,ByteArray.empty_append,show p.size - p.size=0 by omega,show p.size+x.size - p.size=x.size by omega,ByteArray.extract_append_eq_left rfl]
theorem leb_range:∀ u:Nat,∀ x∈leb u,0≤x∧x < 256:=by
 intro u
 induction u using Nat.strongRecOn with
 | _ u ih =>
   intro x hx
   rcases Nat.lt_or_ge u 128 with h | h
   · rw [leb_small h,List.mem_singleton] at hx
     omega
   · rw [leb_big h,List.mem_cons] at hx
     rcases hx with rfl | hx
     · omega
     · exact ih _ (by omega) x hx
theorem byte_nums {l:List Int} (h:∀ x∈l,0≤x∧x < 256) {j:Nat} (hj:j < l.length):(byteAt (strOfNums l) j:Int)=nth l j:=by
 have hs:j < (strOfNums l).size:=by rw [strOfNums_size];exact hj
 rw [← byteAt_eq hs,nth_eq hj]
 have hx:=h _ (List.getElem_mem hj)
 have e:(strOfNums l)[j]'hs=UInt8.ofNat (l[j]'hj).toNat:=by
  show (strOfNums l).data[j]'_=_
  simp [strOfNums]
 rw [e]
 simp only [UInt8.toNat_ofNat']
 omega
theorem numGo_leb (t:ByteArray) (a:Nat):∀ v k f u:Nat,(∀ j,j < (leb v).length→(byteAt t (a+k+j):Int)=nth (leb v) j)→a+k+(leb v).length≤t.size→(leb v).length≤f→k≤9→v * 2 ^ (7 * k)+u < 18446744073709551616→(k=0∨0 < v) →
 numGo t a f k u=⟨unzig (v * 2 ^ (7 * k)+u),((a+k+(leb v).length:Nat):Int),0⟩:=by
 intro v
 induction v using Nat.strongRecOn with
 | _ v ih =>
   intro k f u hb hs hf hk hu h0
   have hlp:=leb_pos v
   have h9:k=9→v≤1:=by
    intro e
    subst e
    have:(2:Nat) ^ (7 * 9)=9223372036854775808:=by decide
    rw [this] at hu
    omega
   match f,hf with
   | 0,hf=>omega
   | f+1,hf =>
     rcases Nat.lt_or_ge v 128 with h | h
     · have e:=leb_small h
       have hb0:=hb 0 (by omega)
       rw [e] at hb0 hs
       simp only [Nat.add_zero,nth,List.getD_cons_zero,List.length_singleton] at hb0 hs
       have hbv:byteAt t (a+k)=v:=by omega
       unfold numGo
       rw [if_neg (by omega),hbv,if_neg (by omega),if_pos h,if_neg (by omega),e]
       simp only [List.length_singleton,Nat.mod_eq_of_lt h,Nat.add_comm u]
     · have e:=leb_big h
       have hb0:=hb 0 (by omega)
       rw [e] at hb0
       simp only [Nat.add_zero,nth,List.getD_cons_zero] at hb0
       have hbv:byteAt t (a+k)=v % 128+128:=by omega
       have hl:(leb v).length=(leb (v / 128)).length+1:=by rw [e,List.length_cons]
       have hp:=pow7 k
       have hk9:k≠9:=fun e=>by have:=h9 e;omega
       have hdm:v / 128 * 2 ^ (7 * (k+1))+v % 128 * 2 ^ (7 * k)=v * 2 ^ (7 * k):=by
        rw [hp,← Nat.mul_assoc,← Nat.add_mul]
        congr 1
        omega
       unfold numGo
       rw [if_neg (by omega),hbv,if_neg (by omega),if_neg (by omega),show (v % 128+128) % 128=v % 128 by omega]
       rw [ih (v / 128) (by omega) (k+1) f (u+v % 128 * 2 ^ (7 * k)) (fun j hj=>?_) (by omega) (by omega) (by omega) (by omega) (by omega)]
       · congr 1
         · congr 1;omega
         · rw [hl];congr 1;omega
       · have:=hb (j+1) (by omega)
         rw [e] at this
         rw [show a+(k+1)+j=a+k+(j+1) by omega,this]
         simp [nth]
theorem unzig_zig (n:Int):unzig (zig n)=n:=by
 unfold unzig zig
 split <;> split <;> omega
theorem getNum_at {t:ByteArray} {a:Nat} {n:Int} (h:AtB t a (putNum n)) (hn:I64 n) (ht:t.size≤8000):getNum t (a:Int)=⟨n,((a+(putNum n).size:Nat):Int),0⟩:=by
 unfold getNum
 rw [if_neg (by omega),if_neg (by omega),Int.toNat_natCast]
 have hz:=zig_lt hn
 have hl:=leb_length 9 _ (Nat.lt_trans hz (by decide))
 have hsz:(putNum n).size=(leb (zig n)).length:=by unfold putNum;rw [strOfNums_size]
 have hle:=h.le
 rw [numGo_leb t a (zig n) 0 10 0 (fun j hj=>?_) (by omega) (by omega) (by omega) (by omega) (.inl rfl)]
 · rw [hsz]
   congr 1
   rw [show zig n * 2 ^ (7 * 0)+0=zig n by simp,unzig_zig]
 · rw [Nat.add_zero,h.byte (by omega)]
   exact byte_nums (leb_range _) hj
theorem rdNum_at {t:ByteArray} {a:Nat} {n:Int} {r:ByteArray} (h:AtB t a (putNum n ++ r)) (hn:I64 n) (ht:t.size≤8000):rdNum t (a:Int) 0=(n,((a+(putNum n).size:Nat):Int),0)∧AtB t (a+(putNum n).size) r:=by
 refine ⟨?_,h.right⟩
 rw [rdNum_go,getNum_at h.left hn ht]
theorem rdStr_at {t:ByteArray} {a:Nat} {o:ByteArray} {r:ByteArray} (h:AtB t a (putText o ++ r)) (ho:o.size≤8000) (ht:t.size≤8000):rdStr t (a:Int) 0=(o,((a+(putText o).size:Nat):Int),0)∧AtB t (a+(putText o).size) r:=by
 refine ⟨?_,h.right⟩
 have e:putText o=putNum (o.size:Int) ++ o:=by rw [putText,if_neg (by omega)]
 have h1:=h.left
 rw [e] at h1
 have hle:=h1.le
 have hcut:=h1.right.cut
 rw [ByteArray.size_append] at hle
 rw [rdStr_go,getText,getNum_at h1.left (by unfold I64;omega) ht]
 simp only
 rw [if_neg (by decide),if_neg (by omega),if_neg (by omega),e,ByteArray.size_append]
 simp only
 rw [Int.toNat_natCast,show (((a+(putNum (o.size:Int)).size:Nat):Int)+(o.size:Int)).toNat=a+(putNum (o.size:Int)).size+o.size by omega,hcut]
 congr 2
 omega
theorem numsFrom (l:List Int):∀ a:ByteArray,putNumsFrom a l=a ++ putNumsFrom ByteArray.empty l:=by
 induction l with
 | nil=>intro a;simp [putNumsFrom]
 | cons x l ih =>
   intro a
   unfold putNumsFrom
   rw [ih (a ++ putNum x),ih (ByteArray.empty ++ putNum x),ByteArray.append_assoc,ByteArray.empty_append]
theorem nums_cons (x:Int) (l:List Int):putNumsFrom ByteArray.empty (x :: l)=putNum x ++ putNumsFrom ByteArray.empty l:=by
 rw [putNumsFrom,numsFrom,ByteArray.empty_append]
theorem nums_size {l:List Int} (h:∀ x∈l,I64 x):(putNumsFrom ByteArray.empty l).size≤10 * l.length:=by
 induction l with
 | nil=>simp [putNumsFrom]
 | cons x l ih =>
   rw [nums_cons,ByteArray.size_append,List.length_cons]
   have h1:=putNum_size (h x (by simp))
   have h2:=ih fun y hy=>h y (List.mem_cons_of_mem _ hy)
   omega
theorem rdNums_at {t:ByteArray} {a:Nat} {l:List Int} {r:ByteArray} (h:AtB t a (putNumsFrom ByteArray.empty l ++ r)) (hl:∀ x∈l,I64 x) (ht:t.size≤8000) :
 ∀ k,k≤l.length→rdNums t k (a:Int) 0=(l.take k,((a+(putNumsFrom ByteArray.empty (l.take k)).size:Nat):Int),0)∧AtB t (a+(putNumsFrom ByteArray.empty (l.take k)).size) (putNumsFrom ByteArray.empty (l.drop k) ++ r)
 | 0,_=>by
   refine ⟨by simp [rdNums,putNumsFrom],?_⟩
   simpa [putNumsFrom] using h
 | k+1,hk=>by
   obtain ⟨h1,h2⟩:=rdNums_at h hl ht k (by omega)
   have hd:l.drop k=nth l k :: l.drop (k+1):=by rw [nth_eq (by omega),List.getElem_cons_drop]
   rw [hd,nums_cons,ByteArray.append_assoc] at h2
   obtain ⟨h3,h4⟩:=rdNum_at h2 (hl _ (nth_mem (by omega))) ht
   have htk:l.take (k+1)=l.take k ++ [nth l k]:=take_succ_nth (by omega)
   have hsz:(putNumsFrom ByteArray.empty (l.take (k+1))).size=(putNumsFrom ByteArray.empty (l.take k)).size+(putNum (nth l k)).size:=by
    rw [htk]
    clear h1 h2 h3 h4 hd htk
    generalize l.take k=m
    induction m with
    | nil=>simp [nums_cons,putNumsFrom]
    | cons x m ih=>rw [List.cons_append,nums_cons,nums_cons,ByteArray.size_append,ByteArray.size_append,ih];omega
   constructor
   · rw [rdNums,h1]
     simp only
     rw [h3,htk]
     simp only
     rw [← htk,hsz]
     congr 2
     omega
   · rw [hsz,← Nat.add_assoc]
     exact h4
theorem task_parts (x:Task):taskText x=putNum x.label.level ++ (putNum x.label.set ++ (putNum x.id ++ (putText x.owner ++ (putNum x.need ++ (putNum x.long ++ (putNum x.prio ++ (putNum x.under.level ++ (putNum x.under.set ++ (putNum x.after ++ (putNum x.born ++ (putNum x.state ++ (putNum x.start ++ (putNum (x.nodes.length:Int) ++ putNumsFrom ByteArray.empty x.nodes))))))))))))):=by
 unfold taskText taskHead
 rw [numsFrom x.nodes,numsFrom (restNums x),show (⟨#[]⟩:ByteArray)=ByteArray.empty from rfl]
 unfold headNums restNums
 simp only [nums_cons,ByteArray.append_assoc]
 rw [show putNumsFrom ByteArray.empty []=ByteArray.empty from rfl]
 simp only [ByteArray.empty_append]
structure TaskFit (x:Task):Prop where
 a1:I64 x.label.level
 a2:I64 x.label.set
 a3:I64 x.id
 a4:x.owner.size≤20
 a5:I64 x.need
 a6:I64 x.long
 a7:I64 x.prio
 a8:I64 x.under.level
 a9:I64 x.under.set
 a10:I64 x.after
 a11:I64 x.born
 a12:I64 x.state
 a13:I64 x.start
 a14:x.nodes.length≤6
 a15:∀ n∈x.nodes,I64 n
theorem rdCount_of {t:ByteArray} {a n b:Int} (e:rdNum t a 0=(n,b,0)) (h:isB n 0 6=true):rdCount t a 0 6=(n,b,0):=by
 rw [rdCount,if_neg]
 · exact e
 · rw [e]
   simp [h]
theorem AtB.three (p x s:ByteArray):AtB (p ++ x ++ s) p.size x:=⟨p,s,by rw [ByteArray.append_assoc],rfl⟩
theorem taskRead_at {t:ByteArray} {a:Nat} {x:Task} (hr:taskRight x=true) (hf:TaskFit x) (h:AtB t a (taskText x)) (ht:t.size≤8000):taskRead t (a:Int)=⟨x,((a+(taskText x).size:Nat):Int),0⟩:=by
 have hp:=task_parts x
 have hsz:(taskText x).size=_:=congrArg ByteArray.size hp
 simp only [ByteArray.size_append] at hsz
 rw [hp] at h
 obtain ⟨e1,h1⟩:=rdNum_at h hf.a1 ht
 obtain ⟨e2,h2⟩:=rdNum_at h1 hf.a2 ht
 obtain ⟨e3,h3⟩:=rdNum_at h2 hf.a3 ht
 obtain ⟨e4,h4⟩:=rdStr_at h3 (by have:=hf.a4;omega) ht
 obtain ⟨e5,h5⟩:=rdNum_at h4 hf.a5 ht
 obtain ⟨e6,h6⟩:=rdNum_at h5 hf.a6 ht
 obtain ⟨e7,h7⟩:=rdNum_at h6 hf.a7 ht
 obtain ⟨e8,h8⟩:=rdNum_at h7 hf.a8 ht
 obtain ⟨e9,h9⟩:=rdNum_at h8 hf.a9 ht
 obtain ⟨e10,h10⟩:=rdNum_at h9 hf.a10 ht
 obtain ⟨e11,h11⟩:=rdNum_at h10 hf.a11 ht
 obtain ⟨e12,h12⟩:=rdNum_at h11 hf.a12 ht
 obtain ⟨e13,h13⟩:=rdNum_at h12 hf.a13 ht
 have n6:=hf.a14
 obtain ⟨e14,h14⟩:=rdNum_at h13 (show I64 (x.nodes.length:Int) by unfold I64;omega) ht
 have app_e:∀ b,AtB t b (putNumsFrom ByteArray.empty x.nodes)→AtB t b (putNumsFrom ByteArray.empty x.nodes ++ ByteArray.empty):=fun b hb=>by rw [ByteArray.append_empty];exact hb
 have h15:=app_e _ h14
 obtain ⟨e15,-⟩:=rdNums_at h15 hf.a15 ht x.nodes.length (Nat.le_refl _)
 rw [List.take_length] at e15
 have ec:=rdCount_of e14 (show isB (x.nodes.length:Int) 0 6=true by simp [isB];omega)
 have et:rdTask t (a:Int) 0=(x,((a+(taskText x).size:Nat):Int),0):=by
  unfold rdTask
  simp only [e1,e2,e3,e4,e5,e6,e7,e8,e9,e10,e11,e12,e13,ec,Int.toNat_natCast,e15]
  congr 2
  rw [hsz]
  omega
 rw [taskRead,et]
 simp [hr]
theorem taskFit_of {x:Task} (hf:FitTask x) (hr:taskRight x=true) (hn:∀ n∈x.nodes,I64 n):TaskFit x:=by
 obtain ⟨b1,b2,b3,-,b5,b6,b7,b8,b9,b10,b11,b12,b13⟩:=hf
 have h6:=taskRight_nodes hr
 have ho:x.owner.size≤20:=by
  unfold taskRight nameRight at hr
  simp only [Bool.and_eq_true,decide_eq_true_eq] at hr
  exact hr.1.1.1.1.1.2.1.2
 exact ⟨b1,b2,b3,ho,b5,b6,b7,b8,b9,b10,b11,b12,b13,h6,hn⟩
end Go.Proofs.Ytlonjlaecaemgaa

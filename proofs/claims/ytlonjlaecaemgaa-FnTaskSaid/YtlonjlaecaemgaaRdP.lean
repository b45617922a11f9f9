/- TaskRead in plain Lean: the reader's chain, and what the reference makes of it. Printed by wip/rdp.py. -/
import Derived.Test.YtlonjlaecaemgaaRdT
namespace Go.Proofs.Ytlonjlaecaemgaa
def zeroTask:Task:=⟨⟨0,0⟩,0,⟨#[]⟩,0,0,0,⟨0,0⟩,0,0,0,0,[]⟩
def taskRead (t:ByteArray) (a:Int):TaskOut :=
 if (rdTask t a 0).2.2=0 then (if taskRight (rdTask t a 0).1=false then ⟨zeroTask,0,1⟩ else ⟨(rdTask t a 0).1,(rdTask t a 0).2.1,0⟩) else ⟨zeroTask,0,(rdTask t a 0).2.2⟩
theorem rdNum_go (t:ByteArray) (a:Int):rdNum t a 0=((getNum t a).num,(getNum t a).at_,(getNum t a).code):=by rw [rdNum,if_pos rfl]
theorem rdStr_go (t:ByteArray) (a:Int):rdStr t a 0=((getText t a).text,(getText t a).at_,(getText t a).code):=by rw [rdStr,if_pos rfl]
theorem rdNum_keep {t:ByteArray} {a c:Int} (h:c≠0):(rdNum t a c).2.2=c:=by rw [rdNum,if_neg h]
theorem rdStr_keep {t:ByteArray} {a c:Int} (h:c≠0):(rdStr t a c).2.2=c:=by rw [rdStr,if_neg h]
theorem rdCount_keep {t:ByteArray} {a c m:Int} (h:(rdNum t a c).2.2≠0):rdCount t a c m=rdNum t a c:=by rw [rdCount,if_neg (fun h2=>h h2.1)]
theorem rdNums_keep {t:ByteArray} {a c:Int} (h:c≠0):∀ k,(rdNums t k a c).2.2=c
 | 0=>rfl
 | k+1=>by
   have:=rdNums_keep (t:=t) (a:=a) h k
   show (rdNum t (rdNums t k a c).2.1 (rdNums t k a c).2.2).2.2=c
   rw [this]
   exact rdNum_keep h
theorem rdNums_err {t:ByteArray} {a c e:Int} {j:Nat} (h:(rdNums t j a c).2.2=e) (he:e≠0):∀ k,j≤k→(rdNums t k a c).2.2=e:=by
 intro k hk
 induction k with
 | zero=>obtain rfl:j=0:=by omega
         exact h
 | succ k ih =>
   rcases Nat.lt_or_ge j (k+1) with h1 | h1
   · have h2:=ih (by omega)
     show (rdNum t (rdNums t k a c).2.1 (rdNums t k a c).2.2).2.2=e
     rw [h2]
     exact rdNum_keep he
   · obtain rfl:j=k+1:=by omega
     exact h
theorem taskRead_err {t:ByteArray} {a e:Int} (h:(rdTask t a 0).2.2=e) (he:e≠0):taskRead t a=⟨zeroTask,0,e⟩:=by
 rw [taskRead,if_neg (by rw [h];exact he),h]
structure Chain (t:ByteArray) (a:Int) (r1 r2 r3:Int × Int × Int) (r4:ByteArray × Int × Int) (r5 r6 r7 r8 r9 r10 r11 r12 r13 r14:Int × Int × Int):Prop where
 h1:r1=rdNum t a 0
 h2:r2=rdNum t r1.2.1 r1.2.2
 h3:r3=rdNum t r2.2.1 r2.2.2
 h4:r4=rdStr t r3.2.1 r3.2.2
 h5:r5=rdNum t r4.2.1 r4.2.2
 h6:r6=rdNum t r5.2.1 r5.2.2
 h7:r7=rdNum t r6.2.1 r6.2.2
 h8:r8=rdNum t r7.2.1 r7.2.2
 h9:r9=rdNum t r8.2.1 r8.2.2
 h10:r10=rdNum t r9.2.1 r9.2.2
 h11:r11=rdNum t r10.2.1 r10.2.2
 h12:r12=rdNum t r11.2.1 r11.2.2
 h13:r13=rdNum t r12.2.1 r12.2.2
 h14:r14=rdNum t r13.2.1 r13.2.2
section
variable {t:ByteArray} {a:Int} {r1 r2 r3:Int × Int × Int} {r4:ByteArray × Int × Int} {r5 r6 r7 r8 r9 r10 r11 r12 r13 r14:Int × Int × Int}
theorem Chain.task (h:Chain t a r1 r2 r3 r4 r5 r6 r7 r8 r9 r10 r11 r12 r13 r14):rdTask t a 0=(⟨⟨r1.1,r2.1⟩,r3.1,r4.1,r5.1,r6.1,r7.1,⟨r8.1,r9.1⟩,r10.1,r11.1,r12.1,r13.1,(rdNums t (rdCount t r13.2.1 r13.2.2 6).1.toNat (rdCount t r13.2.1 r13.2.2 6).2.1 (rdCount t r13.2.1 r13.2.2 6).2.2).1⟩,(rdNums t (rdCount t r13.2.1 r13.2.2 6).1.toNat (rdCount t r13.2.1 r13.2.2 6).2.1 (rdCount t r13.2.1 r13.2.2 6).2.2).2):=by
 obtain ⟨h1,h2,h3,h4,h5,h6,h7,h8,h9,h10,h11,h12,h13,h14⟩:=h
 rw [h13,h12,h11,h10,h9,h8,h7,h6,h5,h4,h3,h2,h1]
 rfl
theorem Chain.err1 (h:Chain t a r1 r2 r3 r4 r5 r6 r7 r8 r9 r10 r11 r12 r13 r14) (he:r1.2.2≠0):taskRead t a=⟨zeroTask,0,r1.2.2⟩:=by
 refine taskRead_err ?_ he
 rw [h.task]
 have e1:r1.2.2=r1.2.2:=rfl
 have e2:r2.2.2=r1.2.2:=by rw [h.h2,e1];exact rdNum_keep he
 have e3:r3.2.2=r1.2.2:=by rw [h.h3,e2];exact rdNum_keep he
 have e4:r4.2.2=r1.2.2:=by rw [h.h4,e3];exact rdStr_keep he
 have e5:r5.2.2=r1.2.2:=by rw [h.h5,e4];exact rdNum_keep he
 have e6:r6.2.2=r1.2.2:=by rw [h.h6,e5];exact rdNum_keep he
 have e7:r7.2.2=r1.2.2:=by rw [h.h7,e6];exact rdNum_keep he
 have e8:r8.2.2=r1.2.2:=by rw [h.h8,e7];exact rdNum_keep he
 have e9:r9.2.2=r1.2.2:=by rw [h.h9,e8];exact rdNum_keep he
 have e10:r10.2.2=r1.2.2:=by rw [h.h10,e9];exact rdNum_keep he
 have e11:r11.2.2=r1.2.2:=by rw [h.h11,e10];exact rdNum_keep he
 have e12:r12.2.2=r1.2.2:=by rw [h.h12,e11];exact rdNum_keep he
 have e13:r13.2.2=r1.2.2:=by rw [h.h13,e12];exact rdNum_keep he
 have e14:r14.2.2=r1.2.2:=by rw [h.h14,e13];exact rdNum_keep he
 have hc:rdCount t r13.2.1 r13.2.2 6=r14:=by rw [rdCount_keep (by rw [← h.h14,e14];exact he),← h.h14]
 show (rdNums t _ _ (rdCount t r13.2.1 r13.2.2 6).2.2).2.2=r1.2.2
 rw [hc,e14]
 exact rdNums_keep he _
theorem Chain.err2 (h:Chain t a r1 r2 r3 r4 r5 r6 r7 r8 r9 r10 r11 r12 r13 r14) (he:r2.2.2≠0):taskRead t a=⟨zeroTask,0,r2.2.2⟩:=by
 refine taskRead_err ?_ he
 rw [h.task]
 have e2:r2.2.2=r2.2.2:=rfl
 have e3:r3.2.2=r2.2.2:=by rw [h.h3,e2];exact rdNum_keep he
 have e4:r4.2.2=r2.2.2:=by rw [h.h4,e3];exact rdStr_keep he
 have e5:r5.2.2=r2.2.2:=by rw [h.h5,e4];exact rdNum_keep he
 have e6:r6.2.2=r2.2.2:=by rw [h.h6,e5];exact rdNum_keep he
 have e7:r7.2.2=r2.2.2:=by rw [h.h7,e6];exact rdNum_keep he
 have e8:r8.2.2=r2.2.2:=by rw [h.h8,e7];exact rdNum_keep he
 have e9:r9.2.2=r2.2.2:=by rw [h.h9,e8];exact rdNum_keep he
 have e10:r10.2.2=r2.2.2:=by rw [h.h10,e9];exact rdNum_keep he
 have e11:r11.2.2=r2.2.2:=by rw [h.h11,e10];exact rdNum_keep he
 have e12:r12.2.2=r2.2.2:=by rw [h.h12,e11];exact rdNum_keep he
 have e13:r13.2.2=r2.2.2:=by rw [h.h13,e12];exact rdNum_keep he
 have e14:r14.2.2=r2.2.2:=by rw [h.h14,e13];exact rdNum_keep he
 have hc:rdCount t r13.2.1 r13.2.2 6=r14:=by rw [rdCount_keep (by rw [← h.h14,e14];exact he),← h.h14]
 show (rdNums t _ _ (rdCount t r13.2.1 r13.2.2 6).2.2).2.2=r2.2.2
 rw [hc,e14]
 exact rdNums_keep he _
theorem Chain.err3 (h:Chain t a r1 r2 r3 r4 r5 r6 r7 r8 r9 r10 r11 r12 r13 r14) (he:r3.2.2≠0):taskRead t a=⟨zeroTask,0,r3.2.2⟩:=by
 refine taskRead_err ?_ he
 rw [h.task]
 have e3:r3.2.2=r3.2.2:=rfl
 have e4:r4.2.2=r3.2.2:=by rw [h.h4,e3];exact rdStr_keep he
 have e5:r5.2.2=r3.2.2:=by rw [h.h5,e4];exact rdNum_keep he
 have e6:r6.2.2=r3.2.2:=by rw [h.h6,e5];exact rdNum_keep he
 have e7:r7.2.2=r3.2.2:=by rw [h.h7,e6];exact rdNum_keep he
 have e8:r8.2.2=r3.2.2:=by rw [h.h8,e7];exact rdNum_keep he
 have e9:r9.2.2=r3.2.2:=by rw [h.h9,e8];exact rdNum_keep he
 have e10:r10.2.2=r3.2.2:=by rw [h.h10,e9];exact rdNum_keep he
 have e11:r11.2.2=r3.2.2:=by rw [h.h11,e10];exact rdNum_keep he
 have e12:r12.2.2=r3.2.2:=by rw [h.h12,e11];exact rdNum_keep he
 have e13:r13.2.2=r3.2.2:=by rw [h.h13,e12];exact rdNum_keep he
 have e14:r14.2.2=r3.2.2:=by rw [h.h14,e13];exact rdNum_keep he
 have hc:rdCount t r13.2.1 r13.2.2 6=r14:=by rw [rdCount_keep (by rw [← h.h14,e14];exact he),← h.h14]
 show (rdNums t _ _ (rdCount t r13.2.1 r13.2.2 6).2.2).2.2=r3.2.2
 rw [hc,e14]
 exact rdNums_keep he _
theorem Chain.err5 (h:Chain t a r1 r2 r3 r4 r5 r6 r7 r8 r9 r10 r11 r12 r13 r14) (he:r5.2.2≠0):taskRead t a=⟨zeroTask,0,r5.2.2⟩:=by
 refine taskRead_err ?_ he
 rw [h.task]
 have e5:r5.2.2=r5.2.2:=rfl
 have e6:r6.2.2=r5.2.2:=by rw [h.h6,e5];exact rdNum_keep he
 have e7:r7.2.2=r5.2.2:=by rw [h.h7,e6];exact rdNum_keep he
 have e8:r8.2.2=r5.2.2:=by rw [h.h8,e7];exact rdNum_keep he
 have e9:r9.2.2=r5.2.2:=by rw [h.h9,e8];exact rdNum_keep he
 have e10:r10.2.2=r5.2.2:=by rw [h.h10,e9];exact rdNum_keep he
 have e11:r11.2.2=r5.2.2:=by rw [h.h11,e10];exact rdNum_keep he
 have e12:r12.2.2=r5.2.2:=by rw [h.h12,e11];exact rdNum_keep he
 have e13:r13.2.2=r5.2.2:=by rw [h.h13,e12];exact rdNum_keep he
 have e14:r14.2.2=r5.2.2:=by rw [h.h14,e13];exact rdNum_keep he
 have hc:rdCount t r13.2.1 r13.2.2 6=r14:=by rw [rdCount_keep (by rw [← h.h14,e14];exact he),← h.h14]
 show (rdNums t _ _ (rdCount t r13.2.1 r13.2.2 6).2.2).2.2=r5.2.2
 rw [hc,e14]
 exact rdNums_keep he _
theorem Chain.err6 (h:Chain t a r1 r2 r3 r4 r5 r6 r7 r8 r9 r10 r11 r12 r13 r14) (he:r6.2.2≠0):taskRead t a=⟨zeroTask,0,r6.2.2⟩:=by
 refine taskRead_err ?_ he
 rw [h.task]
 have e6:r6.2.2=r6.2.2:=rfl
 have e7:r7.2.2=r6.2.2:=by rw [h.h7,e6];exact rdNum_keep he
 have e8:r8.2.2=r6.2.2:=by rw [h.h8,e7];exact rdNum_keep he
 have e9:r9.2.2=r6.2.2:=by rw [h.h9,e8];exact rdNum_keep he
 have e10:r10.2.2=r6.2.2:=by rw [h.h10,e9];exact rdNum_keep he
 have e11:r11.2.2=r6.2.2:=by rw [h.h11,e10];exact rdNum_keep he
 have e12:r12.2.2=r6.2.2:=by rw [h.h12,e11];exact rdNum_keep he
 have e13:r13.2.2=r6.2.2:=by rw [h.h13,e12];exact rdNum_keep he
 have e14:r14.2.2=r6.2.2:=by rw [h.h14,e13];exact rdNum_keep he
 have hc:rdCount t r13.2.1 r13.2.2 6=r14:=by rw [rdCount_keep (by rw [← h.h14,e14];exact he),← h.h14]
 show (rdNums t _ _ (rdCount t r13.2.1 r13.2.2 6).2.2).2.2=r6.2.2
 rw [hc,e14]
 exact rdNums_keep he _
theorem Chain.err7 (h:Chain t a r1 r2 r3 r4 r5 r6 r7 r8 r9 r10 r11 r12 r13 r14) (he:r7.2.2≠0):taskRead t a=⟨zeroTask,0,r7.2.2⟩:=by
 refine taskRead_err ?_ he
 rw [h.task]
 have e7:r7.2.2=r7.2.2:=rfl
 have e8:r8.2.2=r7.2.2:=by rw [h.h8,e7];exact rdNum_keep he
 have e9:r9.2.2=r7.2.2:=by rw [h.h9,e8];exact rdNum_keep he
 have e10:r10.2.2=r7.2.2:=by rw [h.h10,e9];exact rdNum_keep he
 have e11:r11.2.2=r7.2.2:=by rw [h.h11,e10];exact rdNum_keep he
 have e12:r12.2.2=r7.2.2:=by rw [h.h12,e11];exact rdNum_keep he
 have e13:r13.2.2=r7.2.2:=by rw [h.h13,e12];exact rdNum_keep he
 have e14:r14.2.2=r7.2.2:=by rw [h.h14,e13];exact rdNum_keep he
 have hc:rdCount t r13.2.1 r13.2.2 6=r14:=by rw [rdCount_keep (by rw [← h.h14,e14];exact he),← h.h14]
 show (rdNums t _ _ (rdCount t r13.2.1 r13.2.2 6).2.2).2.2=r7.2.2
 rw [hc,e14]
 exact rdNums_keep he _
theorem Chain.err8 (h:Chain t a r1 r2 r3 r4 r5 r6 r7 r8 r9 r10 r11 r12 r13 r14) (he:r8.2.2≠0):taskRead t a=⟨zeroTask,0,r8.2.2⟩:=by
 refine taskRead_err ?_ he
 rw [h.task]
 have e8:r8.2.2=r8.2.2:=rfl
 have e9:r9.2.2=r8.2.2:=by rw [h.h9,e8];exact rdNum_keep he
 have e10:r10.2.2=r8.2.2:=by rw [h.h10,e9];exact rdNum_keep he
 have e11:r11.2.2=r8.2.2:=by rw [h.h11,e10];exact rdNum_keep he
 have e12:r12.2.2=r8.2.2:=by rw [h.h12,e11];exact rdNum_keep he
 have e13:r13.2.2=r8.2.2:=by rw [h.h13,e12];exact rdNum_keep he
 have e14:r14.2.2=r8.2.2:=by rw [h.h14,e13];exact rdNum_keep he
 have hc:rdCount t r13.2.1 r13.2.2 6=r14:=by rw [rdCount_keep (by rw [← h.h14,e14];exact he),← h.h14]
 show (rdNums t _ _ (rdCount t r13.2.1 r13.2.2 6).2.2).2.2=r8.2.2
 rw [hc,e14]
 exact rdNums_keep he _
theorem Chain.err9 (h:Chain t a r1 r2 r3 r4 r5 r6 r7 r8 r9 r10 r11 r12 r13 r14) (he:r9.2.2≠0):taskRead t a=⟨zeroTask,0,r9.2.2⟩:=by
 refine taskRead_err ?_ he
 rw [h.task]
 have e9:r9.2.2=r9.2.2:=rfl
 have e10:r10.2.2=r9.2.2:=by rw [h.h10,e9];exact rdNum_keep he
 have e11:r11.2.2=r9.2.2:=by rw [h.h11,e10];exact rdNum_keep he
 have e12:r12.2.2=r9.2.2:=by rw [h.h12,e11];exact rdNum_keep he
 have e13:r13.2.2=r9.2.2:=by rw [h.h13,e12];exact rdNum_keep he
 have e14:r14.2.2=r9.2.2:=by rw [h.h14,e13];exact rdNum_keep he
 have hc:rdCount t r13.2.1 r13.2.2 6=r14:=by rw [rdCount_keep (by rw [← h.h14,e14];exact he),← h.h14]
 show (rdNums t _ _ (rdCount t r13.2.1 r13.2.2 6).2.2).2.2=r9.2.2
 rw [hc,e14]
 exact rdNums_keep he _
theorem Chain.err10 (h:Chain t a r1 r2 r3 r4 r5 r6 r7 r8 r9 r10 r11 r12 r13 r14) (he:r10.2.2≠0):taskRead t a=⟨zeroTask,0,r10.2.2⟩:=by
 refine taskRead_err ?_ he
 rw [h.task]
 have e10:r10.2.2=r10.2.2:=rfl
 have e11:r11.2.2=r10.2.2:=by rw [h.h11,e10];exact rdNum_keep he
 have e12:r12.2.2=r10.2.2:=by rw [h.h12,e11];exact rdNum_keep he
 have e13:r13.2.2=r10.2.2:=by rw [h.h13,e12];exact rdNum_keep he
 have e14:r14.2.2=r10.2.2:=by rw [h.h14,e13];exact rdNum_keep he
 have hc:rdCount t r13.2.1 r13.2.2 6=r14:=by rw [rdCount_keep (by rw [← h.h14,e14];exact he),← h.h14]
 show (rdNums t _ _ (rdCount t r13.2.1 r13.2.2 6).2.2).2.2=r10.2.2
 rw [hc,e14]
 exact rdNums_keep he _
theorem Chain.err11 (h:Chain t a r1 r2 r3 r4 r5 r6 r7 r8 r9 r10 r11 r12 r13 r14) (he:r11.2.2≠0):taskRead t a=⟨zeroTask,0,r11.2.2⟩:=by
 refine taskRead_err ?_ he
 rw [h.task]
 have e11:r11.2.2=r11.2.2:=rfl
 have e12:r12.2.2=r11.2.2:=by rw [h.h12,e11];exact rdNum_keep he
 have e13:r13.2.2=r11.2.2:=by rw [h.h13,e12];exact rdNum_keep he
 have e14:r14.2.2=r11.2.2:=by rw [h.h14,e13];exact rdNum_keep he
 have hc:rdCount t r13.2.1 r13.2.2 6=r14:=by rw [rdCount_keep (by rw [← h.h14,e14];exact he),← h.h14]
 show (rdNums t _ _ (rdCount t r13.2.1 r13.2.2 6).2.2).2.2=r11.2.2
 rw [hc,e14]
 exact rdNums_keep he _
theorem Chain.err12 (h:Chain t a r1 r2 r3 r4 r5 r6 r7 r8 r9 r10 r11 r12 r13 r14) (he:r12.2.2≠0):taskRead t a=⟨zeroTask,0,r12.2.2⟩:=by
 refine taskRead_err ?_ he
 rw [h.task]
 have e12:r12.2.2=r12.2.2:=rfl
 have e13:r13.2.2=r12.2.2:=by rw [h.h13,e12];exact rdNum_keep he
 have e14:r14.2.2=r12.2.2:=by rw [h.h14,e13];exact rdNum_keep he
 have hc:rdCount t r13.2.1 r13.2.2 6=r14:=by rw [rdCount_keep (by rw [← h.h14,e14];exact he),← h.h14]
 show (rdNums t _ _ (rdCount t r13.2.1 r13.2.2 6).2.2).2.2=r12.2.2
 rw [hc,e14]
 exact rdNums_keep he _
theorem Chain.err13 (h:Chain t a r1 r2 r3 r4 r5 r6 r7 r8 r9 r10 r11 r12 r13 r14) (he:r13.2.2≠0):taskRead t a=⟨zeroTask,0,r13.2.2⟩:=by
 refine taskRead_err ?_ he
 rw [h.task]
 have e13:r13.2.2=r13.2.2:=rfl
 have e14:r14.2.2=r13.2.2:=by rw [h.h14,e13];exact rdNum_keep he
 have hc:rdCount t r13.2.1 r13.2.2 6=r14:=by rw [rdCount_keep (by rw [← h.h14,e14];exact he),← h.h14]
 show (rdNums t _ _ (rdCount t r13.2.1 r13.2.2 6).2.2).2.2=r13.2.2
 rw [hc,e14]
 exact rdNums_keep he _
theorem Chain.err14 (h:Chain t a r1 r2 r3 r4 r5 r6 r7 r8 r9 r10 r11 r12 r13 r14) (he:r14.2.2≠0):taskRead t a=⟨zeroTask,0,r14.2.2⟩:=by
 refine taskRead_err ?_ he
 rw [h.task]
 have e14:r14.2.2=r14.2.2:=rfl
 have hc:rdCount t r13.2.1 r13.2.2 6=r14:=by rw [rdCount_keep (by rw [← h.h14,e14];exact he),← h.h14]
 show (rdNums t _ _ (rdCount t r13.2.1 r13.2.2 6).2.2).2.2=r14.2.2
 rw [hc,e14]
 exact rdNums_keep he _
theorem Chain.err4 (h:Chain t a r1 r2 r3 r4 r5 r6 r7 r8 r9 r10 r11 r12 r13 r14) (he:r4.2.2≠0):taskRead t a=⟨zeroTask,0,r4.2.2⟩:=by
 refine taskRead_err ?_ he
 rw [h.task]
 have e4:r4.2.2=r4.2.2:=rfl
 have e5:r5.2.2=r4.2.2:=by rw [h.h5,e4];exact rdNum_keep he
 have e6:r6.2.2=r4.2.2:=by rw [h.h6,e5];exact rdNum_keep he
 have e7:r7.2.2=r4.2.2:=by rw [h.h7,e6];exact rdNum_keep he
 have e8:r8.2.2=r4.2.2:=by rw [h.h8,e7];exact rdNum_keep he
 have e9:r9.2.2=r4.2.2:=by rw [h.h9,e8];exact rdNum_keep he
 have e10:r10.2.2=r4.2.2:=by rw [h.h10,e9];exact rdNum_keep he
 have e11:r11.2.2=r4.2.2:=by rw [h.h11,e10];exact rdNum_keep he
 have e12:r12.2.2=r4.2.2:=by rw [h.h12,e11];exact rdNum_keep he
 have e13:r13.2.2=r4.2.2:=by rw [h.h13,e12];exact rdNum_keep he
 have e14:r14.2.2=r4.2.2:=by rw [h.h14,e13];exact rdNum_keep he
 have hc:rdCount t r13.2.1 r13.2.2 6=r14:=by rw [rdCount_keep (by rw [← h.h14,e14];exact he),← h.h14]
 show (rdNums t _ _ (rdCount t r13.2.1 r13.2.2 6).2.2).2.2=r4.2.2
 rw [hc,e14]
 exact rdNums_keep he _
theorem Chain.err (h:Chain t a r1 r2 r3 r4 r5 r6 r7 r8 r9 r10 r11 r12 r13 r14) {i:Nat} (hi:i < 13) (he:nth [r1.2.2,r2.2.2,r3.2.2,r5.2.2,r6.2.2,r7.2.2,r8.2.2,r9.2.2,r10.2.2,r11.2.2,r12.2.2,r13.2.2,r14.2.2] i≠0):taskRead t a=⟨zeroTask,0,nth [r1.2.2,r2.2.2,r3.2.2,r5.2.2,r6.2.2,r7.2.2,r8.2.2,r9.2.2,r10.2.2,r11.2.2,r12.2.2,r13.2.2,r14.2.2] i⟩:=by
 match i,hi,he with
 | 0,_,he=>exact h.err1 he
 | 1,_,he=>exact h.err2 he
 | 2,_,he=>exact h.err3 he
 | 3,_,he=>exact h.err5 he
 | 4,_,he=>exact h.err6 he
 | 5,_,he=>exact h.err7 he
 | 6,_,he=>exact h.err8 he
 | 7,_,he=>exact h.err9 he
 | 8,_,he=>exact h.err10 he
 | 9,_,he=>exact h.err11 he
 | 10,_,he=>exact h.err12 he
 | 11,_,he=>exact h.err13 he
 | 12,_,he=>exact h.err14 he
theorem Chain.num (h:Chain t a r1 r2 r3 r4 r5 r6 r7 r8 r9 r10 r11 r12 r13 r14) {i:Nat} (hi:i < 13) (h3:i≠3) (ho:∀ j,j < i→nth [r1.2.2,r2.2.2,r3.2.2,r5.2.2,r6.2.2,r7.2.2,r8.2.2,r9.2.2,r10.2.2,r11.2.2,r12.2.2,r13.2.2,r14.2.2] j=0):getNum t (nth [a,r1.2.1,r2.2.1,r3.2.1,r5.2.1,r6.2.1,r7.2.1,r8.2.1,r9.2.1,r10.2.1,r11.2.1,r12.2.1,r13.2.1,r14.2.1] i)=⟨nth [r1.1,r2.1,r3.1,r5.1,r6.1,r7.1,r8.1,r9.1,r10.1,r11.1,r12.1,r13.1,r14.1] i,nth [a,r1.2.1,r2.2.1,r3.2.1,r5.2.1,r6.2.1,r7.2.1,r8.2.1,r9.2.1,r10.2.1,r11.2.1,r12.2.1,r13.2.1,r14.2.1] (i+1),nth [r1.2.2,r2.2.2,r3.2.2,r5.2.2,r6.2.2,r7.2.2,r8.2.2,r9.2.2,r10.2.2,r11.2.2,r12.2.2,r13.2.2,r14.2.2] i⟩:=by
 match i,hi,h3,ho with
 | 0,_,_,_ =>
   show getNum t a=⟨r1.1,r1.2.1,r1.2.2⟩
   rw [h.h1,rdNum_go]
 | 1,_,_,ho =>
   have hc:r1.2.2=0:=ho 0 (by decide)
   show getNum t r1.2.1=⟨r2.1,r2.2.1,r2.2.2⟩
   rw [h.h2,hc,rdNum_go]
 | 2,_,_,ho =>
   have hc:r2.2.2=0:=ho 1 (by decide)
   show getNum t r2.2.1=⟨r3.1,r3.2.1,r3.2.2⟩
   rw [h.h3,hc,rdNum_go]
 | 3,_,h3,_=>exact absurd rfl h3
 | 4,_,_,ho =>
   have hc:r5.2.2=0:=ho 3 (by decide)
   show getNum t r5.2.1=⟨r6.1,r6.2.1,r6.2.2⟩
   rw [h.h6,hc,rdNum_go]
 | 5,_,_,ho =>
   have hc:r6.2.2=0:=ho 4 (by decide)
   show getNum t r6.2.1=⟨r7.1,r7.2.1,r7.2.2⟩
   rw [h.h7,hc,rdNum_go]
 | 6,_,_,ho =>
   have hc:r7.2.2=0:=ho 5 (by decide)
   show getNum t r7.2.1=⟨r8.1,r8.2.1,r8.2.2⟩
   rw [h.h8,hc,rdNum_go]
 | 7,_,_,ho =>
   have hc:r8.2.2=0:=ho 6 (by decide)
   show getNum t r8.2.1=⟨r9.1,r9.2.1,r9.2.2⟩
   rw [h.h9,hc,rdNum_go]
 | 8,_,_,ho =>
   have hc:r9.2.2=0:=ho 7 (by decide)
   show getNum t r9.2.1=⟨r10.1,r10.2.1,r10.2.2⟩
   rw [h.h10,hc,rdNum_go]
 | 9,_,_,ho =>
   have hc:r10.2.2=0:=ho 8 (by decide)
   show getNum t r10.2.1=⟨r11.1,r11.2.1,r11.2.2⟩
   rw [h.h11,hc,rdNum_go]
 | 10,_,_,ho =>
   have hc:r11.2.2=0:=ho 9 (by decide)
   show getNum t r11.2.1=⟨r12.1,r12.2.1,r12.2.2⟩
   rw [h.h12,hc,rdNum_go]
 | 11,_,_,ho =>
   have hc:r12.2.2=0:=ho 10 (by decide)
   show getNum t r12.2.1=⟨r13.1,r13.2.1,r13.2.2⟩
   rw [h.h13,hc,rdNum_go]
 | 12,_,_,ho =>
   have hc:r13.2.2=0:=ho 11 (by decide)
   show getNum t r13.2.1=⟨r14.1,r14.2.1,r14.2.2⟩
   rw [h.h14,hc,rdNum_go]
theorem Chain.text (h:Chain t a r1 r2 r3 r4 r5 r6 r7 r8 r9 r10 r11 r12 r13 r14) (ho:∀ j,j < 3→nth [r1.2.2,r2.2.2,r3.2.2,r5.2.2,r6.2.2,r7.2.2,r8.2.2,r9.2.2,r10.2.2,r11.2.2,r12.2.2,r13.2.2,r14.2.2] j=0):getText t (nth [a,r1.2.1,r2.2.1,r3.2.1,r5.2.1,r6.2.1,r7.2.1,r8.2.1,r9.2.1,r10.2.1,r11.2.1,r12.2.1,r13.2.1,r14.2.1] 3)=⟨r4.1,r4.2.1,r4.2.2⟩:=by
 have hc:r3.2.2=0:=ho 2 (by decide)
 show getText t r3.2.1=_
 rw [h.h4,hc,rdStr_go]
theorem Chain.num3 (h:Chain t a r1 r2 r3 r4 r5 r6 r7 r8 r9 r10 r11 r12 r13 r14) (h4:r4.2.2=0):getNum t r4.2.1=⟨nth [r1.1,r2.1,r3.1,r5.1,r6.1,r7.1,r8.1,r9.1,r10.1,r11.1,r12.1,r13.1,r14.1] 3,nth [a,r1.2.1,r2.2.1,r3.2.1,r5.2.1,r6.2.1,r7.2.1,r8.2.1,r9.2.1,r10.2.1,r11.2.1,r12.2.1,r13.2.1,r14.2.1] 4,nth [r1.2.2,r2.2.2,r3.2.2,r5.2.2,r6.2.2,r7.2.2,r8.2.2,r9.2.2,r10.2.2,r11.2.2,r12.2.2,r13.2.2,r14.2.2] 3⟩:=by
 show getNum t r4.2.1=⟨r5.1,r5.2.1,r5.2.2⟩
 rw [h.h5,h4,rdNum_go]
theorem Chain.count_bad (h:Chain t a r1 r2 r3 r4 r5 r6 r7 r8 r9 r10 r11 r12 r13 r14) (h0:r14.2.2=0) (hb:isB r14.1 0 6=false):taskRead t a=⟨zeroTask,0,3⟩:=by
 refine taskRead_err ?_ (by decide)
 rw [h.task]
 have hc:rdCount t r13.2.1 r13.2.2 6=(0,r14.2.1,3):=by rw [rdCount,if_pos (by rw [← h.h14];exact ⟨h0,hb⟩),← h.h14]
 rw [hc]
 rfl
theorem Chain.count_ok (h:Chain t a r1 r2 r3 r4 r5 r6 r7 r8 r9 r10 r11 r12 r13 r14) (hb:isB r14.1 0 6=true):rdCount t r13.2.1 r13.2.2 6=r14:=by
 rw [rdCount,if_neg (by rw [← h.h14];simp [hb]),← h.h14]
theorem Chain.node_err (h:Chain t a r1 r2 r3 r4 r5 r6 r7 r8 r9 r10 r11 r12 r13 r14) (hb:isB r14.1 0 6=true) {k:Nat} {e:Int} (hk:k < r14.1.toNat) (he:(rdNums t (k+1) r14.2.1 r14.2.2).2.2=e) (hne:e≠0):taskRead t a=⟨zeroTask,0,e⟩:=by
 refine taskRead_err ?_ hne
 rw [h.task,h.count_ok hb]
 exact rdNums_err he hne _ hk
theorem Chain.done (h:Chain t a r1 r2 r3 r4 r5 r6 r7 r8 r9 r10 r11 r12 r13 r14) (hb:isB r14.1 0 6=true) (h0:(rdNums t r14.1.toNat r14.2.1 r14.2.2).2.2=0) :
 taskRead t a=if taskRight ⟨⟨r1.1,r2.1⟩,r3.1,r4.1,r5.1,r6.1,r7.1,⟨r8.1,r9.1⟩,r10.1,r11.1,r12.1,r13.1,(rdNums t r14.1.toNat r14.2.1 r14.2.2).1⟩=false then ⟨zeroTask,0,1⟩ else ⟨⟨⟨r1.1,r2.1⟩,r3.1,r4.1,r5.1,r6.1,r7.1,⟨r8.1,r9.1⟩,r10.1,r11.1,r12.1,r13.1,(rdNums t r14.1.toNat r14.2.1 r14.2.2).1⟩,(rdNums t r14.1.toNat r14.2.1 r14.2.2).2.1,0⟩:=by
 rw [taskRead,h.task,h.count_ok hb,if_pos h0]
end
end Go.Proofs.Ytlonjlaecaemgaa

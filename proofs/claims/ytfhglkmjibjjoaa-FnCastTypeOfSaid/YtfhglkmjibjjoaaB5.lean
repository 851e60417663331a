/- How many operands a kind of terms has; types that are the zero value. -/
import Derived.Test.YtfhglkmjibjjoaaB0
import Derived.Laws.Strings
set_option linter.unusedSimpArgs false
set_option linter.unusedVariables false
set_option maxRecDepth 100000
set_option maxHeartbeats 16000000
namespace Go.Proofs.Ytfhglkmjibjjoaa
open Go.RowKit
def aD (k:Int):Int:=if k=1∨k=2∨k=3∨k=4 then 0 else if k=5∨k=11∨k=12∨k=13∨k=14 then 1 else if k=6∨k=7∨k=8∨k=10 then 2 else if k=9 then 3 else -1
def noneB (k:Int)(n:Nat):Bool:=k==0&&(n:Int)==0
def Ty.noneB (t:Ty):Bool:=Go.Proofs.Ytfhglkmjibjjoaa.noneB t.kind t.kids.length
theorem mX  : (0:Int)=(0):=by
 rfl
theorem mY  : (0:Int)=(0):=by
 rfl
theorem mZ  : (0:Int)=(0):=by
 rfl
theorem n7  : (0:Int)=(0):=by
 rfl
theorem n9  : (1:Int)=(1):=by
 rfl
theorem na  : (2:Int)=(2):=by
 rfl
theorem nf  : (2:Int)=(2):=by
 rfl
theorem ng  : (2:Int)=(2):=by
 rfl
theorem nh  : (3:Int)=(3):=by
 rfl
theorem ni  : (2:Int)=(2):=by
 rfl
theorem lZ  : (1:Int)=(1):=by
 rfl
theorem m4  : (1:Int)=(1):=by
 rfl
theorem m7  : (1:Int)=(1):=by
 rfl
theorem mc  : (1:Int)=(1):=by
 rfl
theorem lA (k:Int)(h0:(k==1)=true):(0:Int)=(aD k):=by
 simp only[beq_iff_eq,beq_eq_false_iff_ne] at *;unfold aD;(repeat' split)<;>omega
theorem lB (k:Int)(h0:(k==1)=false)(h1:(k==2)=true):(0:Int)=(aD k):=by
 simp only[beq_iff_eq,beq_eq_false_iff_ne] at *;unfold aD;(repeat' split)<;>omega
theorem lC (k:Int)(h0:(k==1)=false)(h1:(k==2)=false)(h2:(k==3)=true):(0:Int)=(aD k):=by
 simp only[beq_iff_eq,beq_eq_false_iff_ne] at *;unfold aD;(repeat' split)<;>omega
theorem lD (k:Int)(h0:(k==1)=false)(h1:(k==2)=false)(h2:(k==3)=false)(h3:(k==4)=true):(0:Int)=(aD k):=by
 simp only[beq_iff_eq,beq_eq_false_iff_ne] at *;unfold aD;(repeat' split)<;>omega
theorem lF (k:Int)(h0:(k==1)=false)(h1:(k==2)=false)(h2:(k==3)=false)(h3:(k==4)=false)(h4:(k==5)=true):(1:Int)=(aD k):=by
 simp only[beq_iff_eq,beq_eq_false_iff_ne] at *;unfold aD;(repeat' split)<;>omega
theorem lG (k:Int)(h0:(k==1)=false)(h1:(k==2)=false)(h2:(k==3)=false)(h3:(k==4)=false)(h4:(k==5)=false)(h5:(k==11)=true):(1:Int)=(aD k):=by
 simp only[beq_iff_eq,beq_eq_false_iff_ne] at *;unfold aD;(repeat' split)<;>omega
theorem lH (k:Int)(h0:(k==1)=false)(h1:(k==2)=false)(h2:(k==3)=false)(h3:(k==4)=false)(h4:(k==5)=false)(h5:(k==11)=false)(h6:(k==12)=true):(1:Int)=(aD k):=by
 simp only[beq_iff_eq,beq_eq_false_iff_ne] at *;unfold aD;(repeat' split)<;>omega
theorem lI (k:Int)(h0:(k==1)=false)(h1:(k==2)=false)(h2:(k==3)=false)(h3:(k==4)=false)(h4:(k==5)=false)(h5:(k==11)=false)(h6:(k==12)=false)(h7:(k==13)=true):(1:Int)=(aD k):=by
 simp only[beq_iff_eq,beq_eq_false_iff_ne] at *;unfold aD;(repeat' split)<;>omega
theorem lJ (k:Int)(h0:(k==1)=false)(h1:(k==2)=false)(h2:(k==3)=false)(h3:(k==4)=false)(h4:(k==5)=false)(h5:(k==11)=false)(h6:(k==12)=false)(h7:(k==13)=false)(h8:(k==14)=true):(1:Int)=(aD k):=by
 simp only[beq_iff_eq,beq_eq_false_iff_ne] at *;unfold aD;(repeat' split)<;>omega
theorem lK (k:Int)(h0:(k==1)=false)(h1:(k==2)=false)(h2:(k==3)=false)(h3:(k==4)=false)(h4:(k==5)=false)(h5:(k==11)=false)(h6:(k==12)=false)(h7:(k==13)=false)(h8:(k==14)=false)(h9:(k==6)=true):(2:Int)=(aD k):=by
 simp only[beq_iff_eq,beq_eq_false_iff_ne] at *;unfold aD;(repeat' split)<;>omega
theorem lL (k:Int)(h0:(k==1)=false)(h1:(k==2)=false)(h2:(k==3)=false)(h3:(k==4)=false)(h4:(k==5)=false)(h5:(k==11)=false)(h6:(k==12)=false)(h7:(k==13)=false)(h8:(k==14)=false)(h9:(k==6)=false)(h10:(k==7)=true):(2:Int)=(aD k):=by
 simp only[beq_iff_eq,beq_eq_false_iff_ne] at *;unfold aD;(repeat' split)<;>omega
theorem lM (k:Int)(h0:(k==1)=false)(h1:(k==2)=false)(h2:(k==3)=false)(h3:(k==4)=false)(h4:(k==5)=false)(h5:(k==11)=false)(h6:(k==12)=false)(h7:(k==13)=false)(h8:(k==14)=false)(h9:(k==6)=false)(h10:(k==7)=false)(h11:(k==8)=true):(2:Int)=(aD k):=by
 simp only[beq_iff_eq,beq_eq_false_iff_ne] at *;unfold aD;(repeat' split)<;>omega
theorem lN (k:Int)(h0:(k==1)=false)(h1:(k==2)=false)(h2:(k==3)=false)(h3:(k==4)=false)(h4:(k==5)=false)(h5:(k==11)=false)(h6:(k==12)=false)(h7:(k==13)=false)(h8:(k==14)=false)(h9:(k==6)=false)(h10:(k==7)=false)(h11:(k==8)=false)(h12:(k==10)=true):(2:Int)=(aD k):=by
 simp only[beq_iff_eq,beq_eq_false_iff_ne] at *;unfold aD;(repeat' split)<;>omega
theorem lO (k:Int)(h0:(k==1)=false)(h1:(k==2)=false)(h2:(k==3)=false)(h3:(k==4)=false)(h4:(k==5)=false)(h5:(k==11)=false)(h6:(k==12)=false)(h7:(k==13)=false)(h8:(k==14)=false)(h9:(k==6)=false)(h10:(k==7)=false)(h11:(k==8)=false)(h12:(k==10)=false)(h13:(k==9)=true):(3:Int)=(aD k):=by
 simp only[beq_iff_eq,beq_eq_false_iff_ne] at *;unfold aD;(repeat' split)<;>omega
theorem lP (k:Int)(h0:(k==1)=false)(h1:(k==2)=false)(h2:(k==3)=false)(h3:(k==4)=false)(h4:(k==5)=false)(h5:(k==11)=false)(h6:(k==12)=false)(h7:(k==13)=false)(h8:(k==14)=false)(h9:(k==6)=false)(h10:(k==7)=false)(h11:(k==8)=false)(h12:(k==10)=false)(h13:(k==9)=false):(-1:Int)=(aD k):=by
 simp only[beq_iff_eq,beq_eq_false_iff_ne] at *;unfold aD;(repeat' split)<;>omega
theorem es (k:Int)(n:Nat)(h0:(k==0)=true):((n:Int)==0:Bool)=(noneB k n):=by
 simp_all [noneB]
theorem et (k:Int)(n:Nat)(h0:(k==0)=false):(false:Bool)=(noneB k n):=by
 simp_all [noneB]
theorem gm (k:Int)(n:Nat)(h0:(k==0)=true):((n:Int)==0:Bool)=(noneB k n):=by
 simp_all [noneB]
theorem gp (k:Int)(n:Nat)(h0:(k==0)=false):(false:Bool)=(noneB k n):=by
 simp_all [noneB]
theorem ou (w:World):Calls Try.prog 63 #[.int .i64 1] w fun e w'=>e = .returned (.int .i64 (0))∧Below w.heap.size w w':=by
 obtain⟨rr,hrr⟩ : ∃rr0:Int,(0)=rr0:=⟨_,rfl⟩
 rw[hrr];have HT:=zq hrr;clear hrr
 go_enter Try.func63,Try.ntmps63
 go_wp2_with fail
 refine(bo 1 1 14 _).mono ?_;rintro e w1 ⟨rfl,hb1⟩;rw[show aC (1) (1) (14)=true from by decide];have hB:=(al (Below.refl _ _) hb1)
 have zw1:=hB.size
 go_wp2_with fail
 refine bq (.int .i64 (0)) (by simp[results,Try.results63,go_sem,bne]) ?_
 exact⟨bg ((mX ).trans HT.out),(hB.alloc hB.size _)⟩
theorem ox (w:World):Calls Try.prog 63 #[.int .i64 2] w fun e w'=>e = .returned (.int .i64 (0))∧Below w.heap.size w w':=by
 obtain⟨rr,hrr⟩ : ∃rr0:Int,(0)=rr0:=⟨_,rfl⟩
 rw[hrr];have HT:=zq hrr;clear hrr
 go_enter Try.func63,Try.ntmps63
 go_wp2_with fail
 refine(bo 2 1 14 _).mono ?_;rintro e w1 ⟨rfl,hb1⟩;rw[show aC (2) (1) (14)=true from by decide];have hB:=(al (Below.refl _ _) hb1)
 have zw1:=hB.size
 go_wp2_with fail
 refine bq (.int .i64 (0)) (by simp[results,Try.results63,go_sem,bne]) ?_
 exact⟨bg ((mY ).trans HT.out),(hB.alloc hB.size _)⟩
theorem oy (w:World):Calls Try.prog 63 #[.int .i64 3] w fun e w'=>e = .returned (.int .i64 (0))∧Below w.heap.size w w':=by
 obtain⟨rr,hrr⟩ : ∃rr0:Int,(0)=rr0:=⟨_,rfl⟩
 rw[hrr];have HT:=zq hrr;clear hrr
 go_enter Try.func63,Try.ntmps63
 go_wp2_with fail
 refine(bo 3 1 14 _).mono ?_;rintro e w1 ⟨rfl,hb1⟩;rw[show aC (3) (1) (14)=true from by decide];have hB:=(al (Below.refl _ _) hb1)
 have zw1:=hB.size
 go_wp2_with fail
 refine bq (.int .i64 (0)) (by simp[results,Try.results63,go_sem,bne]) ?_
 exact⟨bg ((mZ ).trans HT.out),(hB.alloc hB.size _)⟩
theorem oz (w:World):Calls Try.prog 63 #[.int .i64 4] w fun e w'=>e = .returned (.int .i64 (0))∧Below w.heap.size w w':=by
 obtain⟨rr,hrr⟩ : ∃rr0:Int,(0)=rr0:=⟨_,rfl⟩
 rw[hrr];have HT:=zq hrr;clear hrr
 go_enter Try.func63,Try.ntmps63
 go_wp2_with fail
 refine(bo 4 1 14 _).mono ?_;rintro e w1 ⟨rfl,hb1⟩;rw[show aC (4) (1) (14)=true from by decide];have hB:=(al (Below.refl _ _) hb1)
 have zw1:=hB.size
 go_wp2_with fail
 refine bq (.int .i64 (0)) (by simp[results,Try.results63,go_sem,bne]) ?_
 exact⟨bg ((n7 ).trans HT.out),(hB.alloc hB.size _)⟩
theorem oA (w:World):Calls Try.prog 63 #[.int .i64 5] w fun e w'=>e = .returned (.int .i64 (1))∧Below w.heap.size w w':=by
 obtain⟨rr,hrr⟩ : ∃rr0:Int,(1)=rr0:=⟨_,rfl⟩
 rw[hrr];have HT:=zq hrr;clear hrr
 go_enter Try.func63,Try.ntmps63
 go_wp2_with fail
 refine(bo 5 1 14 _).mono ?_;rintro e w1 ⟨rfl,hb1⟩;rw[show aC (5) (1) (14)=true from by decide];have hB:=(al (Below.refl _ _) hb1)
 have zw1:=hB.size
 go_wp2_with fail
 refine bq (.int .i64 (1)) (by simp[results,Try.results63,go_sem,bne]) ?_
 exact⟨bg ((n9 ).trans HT.out),(hB.alloc hB.size _)⟩
theorem oB (w:World):Calls Try.prog 63 #[.int .i64 6] w fun e w'=>e = .returned (.int .i64 (2))∧Below w.heap.size w w':=by
 obtain⟨rr,hrr⟩ : ∃rr0:Int,(2)=rr0:=⟨_,rfl⟩
 rw[hrr];have HT:=zq hrr;clear hrr
 go_enter Try.func63,Try.ntmps63
 go_wp2_with fail
 refine(bo 6 1 14 _).mono ?_;rintro e w1 ⟨rfl,hb1⟩;rw[show aC (6) (1) (14)=true from by decide];have hB:=(al (Below.refl _ _) hb1)
 have zw1:=hB.size
 go_wp2_with fail
 refine bq (.int .i64 (2)) (by simp[results,Try.results63,go_sem,bne]) ?_
 exact⟨bg ((na ).trans HT.out),(hB.alloc hB.size _)⟩
theorem oC (w:World):Calls Try.prog 63 #[.int .i64 7] w fun e w'=>e = .returned (.int .i64 (2))∧Below w.heap.size w w':=by
 obtain⟨rr,hrr⟩ : ∃rr0:Int,(2)=rr0:=⟨_,rfl⟩
 rw[hrr];have HT:=zq hrr;clear hrr
 go_enter Try.func63,Try.ntmps63
 go_wp2_with fail
 refine(bo 7 1 14 _).mono ?_;rintro e w1 ⟨rfl,hb1⟩;rw[show aC (7) (1) (14)=true from by decide];have hB:=(al (Below.refl _ _) hb1)
 have zw1:=hB.size
 go_wp2_with fail
 refine bq (.int .i64 (2)) (by simp[results,Try.results63,go_sem,bne]) ?_
 exact⟨bg ((nf ).trans HT.out),(hB.alloc hB.size _)⟩
theorem oD (w:World):Calls Try.prog 63 #[.int .i64 8] w fun e w'=>e = .returned (.int .i64 (2))∧Below w.heap.size w w':=by
 obtain⟨rr,hrr⟩ : ∃rr0:Int,(2)=rr0:=⟨_,rfl⟩
 rw[hrr];have HT:=zq hrr;clear hrr
 go_enter Try.func63,Try.ntmps63
 go_wp2_with fail
 refine(bo 8 1 14 _).mono ?_;rintro e w1 ⟨rfl,hb1⟩;rw[show aC (8) (1) (14)=true from by decide];have hB:=(al (Below.refl _ _) hb1)
 have zw1:=hB.size
 go_wp2_with fail
 refine bq (.int .i64 (2)) (by simp[results,Try.results63,go_sem,bne]) ?_
 exact⟨bg ((ng ).trans HT.out),(hB.alloc hB.size _)⟩
theorem oE (w:World):Calls Try.prog 63 #[.int .i64 9] w fun e w'=>e = .returned (.int .i64 (3))∧Below w.heap.size w w':=by
 obtain⟨rr,hrr⟩ : ∃rr0:Int,(3)=rr0:=⟨_,rfl⟩
 rw[hrr];have HT:=zq hrr;clear hrr
 go_enter Try.func63,Try.ntmps63
 go_wp2_with fail
 refine(bo 9 1 14 _).mono ?_;rintro e w1 ⟨rfl,hb1⟩;rw[show aC (9) (1) (14)=true from by decide];have hB:=(al (Below.refl _ _) hb1)
 have zw1:=hB.size
 go_wp2_with fail
 refine bq (.int .i64 (3)) (by simp[results,Try.results63,go_sem,bne]) ?_
 exact⟨bg ((nh ).trans HT.out),(hB.alloc hB.size _)⟩
theorem nW (w:World):Calls Try.prog 63 #[.int .i64 10] w fun e w'=>e = .returned (.int .i64 (2))∧Below w.heap.size w w':=by
 obtain⟨rr,hrr⟩ : ∃rr0:Int,(2)=rr0:=⟨_,rfl⟩
 rw[hrr];have HT:=zq hrr;clear hrr
 go_enter Try.func63,Try.ntmps63
 go_wp2_with fail
 refine(bo 10 1 14 _).mono ?_;rintro e w1 ⟨rfl,hb1⟩;rw[show aC (10) (1) (14)=true from by decide];have hB:=(al (Below.refl _ _) hb1)
 have zw1:=hB.size
 go_wp2_with fail
 refine bq (.int .i64 (2)) (by simp[results,Try.results63,go_sem,bne]) ?_
 exact⟨bg ((ni ).trans HT.out),(hB.alloc hB.size _)⟩
theorem nX (w:World):Calls Try.prog 63 #[.int .i64 11] w fun e w'=>e = .returned (.int .i64 (1))∧Below w.heap.size w w':=by
 obtain⟨rr,hrr⟩ : ∃rr0:Int,(1)=rr0:=⟨_,rfl⟩
 rw[hrr];have HT:=zq hrr;clear hrr
 go_enter Try.func63,Try.ntmps63
 go_wp2_with fail
 refine(bo 11 1 14 _).mono ?_;rintro e w1 ⟨rfl,hb1⟩;rw[show aC (11) (1) (14)=true from by decide];have hB:=(al (Below.refl _ _) hb1)
 have zw1:=hB.size
 go_wp2_with fail
 refine bq (.int .i64 (1)) (by simp[results,Try.results63,go_sem,bne]) ?_
 exact⟨bg ((lZ ).trans HT.out),(hB.alloc hB.size _)⟩
theorem nY (w:World):Calls Try.prog 63 #[.int .i64 12] w fun e w'=>e = .returned (.int .i64 (1))∧Below w.heap.size w w':=by
 obtain⟨rr,hrr⟩ : ∃rr0:Int,(1)=rr0:=⟨_,rfl⟩
 rw[hrr];have HT:=zq hrr;clear hrr
 go_enter Try.func63,Try.ntmps63
 go_wp2_with fail
 refine(bo 12 1 14 _).mono ?_;rintro e w1 ⟨rfl,hb1⟩;rw[show aC (12) (1) (14)=true from by decide];have hB:=(al (Below.refl _ _) hb1)
 have zw1:=hB.size
 go_wp2_with fail
 refine bq (.int .i64 (1)) (by simp[results,Try.results63,go_sem,bne]) ?_
 exact⟨bg ((m4 ).trans HT.out),(hB.alloc hB.size _)⟩
theorem nZ (w:World):Calls Try.prog 63 #[.int .i64 13] w fun e w'=>e = .returned (.int .i64 (1))∧Below w.heap.size w w':=by
 obtain⟨rr,hrr⟩ : ∃rr0:Int,(1)=rr0:=⟨_,rfl⟩
 rw[hrr];have HT:=zq hrr;clear hrr
 go_enter Try.func63,Try.ntmps63
 go_wp2_with fail
 refine(bo 13 1 14 _).mono ?_;rintro e w1 ⟨rfl,hb1⟩;rw[show aC (13) (1) (14)=true from by decide];have hB:=(al (Below.refl _ _) hb1)
 have zw1:=hB.size
 go_wp2_with fail
 refine bq (.int .i64 (1)) (by simp[results,Try.results63,go_sem,bne]) ?_
 exact⟨bg ((m7 ).trans HT.out),(hB.alloc hB.size _)⟩
theorem o9 (w:World):Calls Try.prog 63 #[.int .i64 14] w fun e w'=>e = .returned (.int .i64 (1))∧Below w.heap.size w w':=by
 obtain⟨rr,hrr⟩ : ∃rr0:Int,(1)=rr0:=⟨_,rfl⟩
 rw[hrr];have HT:=zq hrr;clear hrr
 go_enter Try.func63,Try.ntmps63
 go_wp2_with fail
 refine(bo 14 1 14 _).mono ?_;rintro e w1 ⟨rfl,hb1⟩;rw[show aC (14) (1) (14)=true from by decide];have hB:=(al (Below.refl _ _) hb1)
 have zw1:=hB.size
 go_wp2_with fail
 refine bq (.int .i64 (1)) (by simp[results,Try.results63,go_sem,bne]) ?_
 exact⟨bg ((mc ).trans HT.out),(hB.alloc hB.size _)⟩
theorem cU (k:Int)(w:World):Calls Try.prog 63 #[.int .i64 k] w fun e w'=>e = .returned (.int .i64 (aD k))∧Below w.heap.size w w':=by
 by_cases h:k=1∨k=2∨k=3∨k=4∨k=5∨k=6∨k=7∨k=8∨k=9∨k=10∨k=11∨k=12∨k=13∨k=14
 ·rcases h with rfl | rfl | rfl | rfl | rfl | rfl | rfl | rfl | rfl | rfl | rfl | rfl | rfl | rfl
  ·exact ou w
  ·exact ox w
  ·exact oy w
  ·exact oz w
  ·exact oA w
  ·exact oB w
  ·exact oC w
  ·exact oD w
  ·exact oE w
  ·exact nW w
  ·exact nX w
  ·exact nY w
  ·exact nZ w
  ·exact o9 w
 ·have hw:aC k 1 14=false:=by unfold aC;simp;omega
  have hc:aD k = -1:=by unfold aD;rw[if_neg (by omega),if_neg (by omega),if_neg (by omega),if_neg (by omega)]
  have HW:=zq hw;have HC:=zq hc;clear hw hc h
  go_enter Try.func63,Try.ntmps63
  go_wp2_with fail
  refine(bo k 1 14 _).mono ?_;rintro e w1 ⟨rfl,hb1⟩;rw[HW.out]
  go_wp2_with fail
  go_ret
  exact⟨bg HC.out.symm,hb1⟩
theorem cH (k:Int)(w:World):Calls Try.prog 54 #[.int .i64 k] w fun e w'=>e = .returned (.int .i64 (aD k))∧Below w.heap.size w w':=by
 obtain⟨rr,hrr⟩ : ∃rr0:Int,(aD k)=rr0:=⟨_,rfl⟩
 rw[hrr];have HT:=zq hrr;clear hrr
 go_enter Try.func54,Try.ntmps54
 rcases Bool.eq_false_or_eq_true (k==1) with q1 | q1
 ·(try rw[q1])
  have nq1:(k != 1)=false:=by simp only[bne,q1];rfl
  go_wp2_with fail
  refine bq (.int .i64 (0)) (by simp[results,Try.results54,go_sem,bne]) ?_
  exact⟨bg ((lA k q1).trans HT.out),(Below.refl _ _)⟩
 ·(try rw[q1])
  have nq1:(k != 1)=true:=by simp only[bne,q1];rfl
  rcases Bool.eq_false_or_eq_true (k==2) with q2 | q2
  ·(try rw[q2])
   have nq2:(k != 2)=false:=by simp only[bne,q2];rfl
   go_wp2_with fail
   refine bq (.int .i64 (0)) (by simp[results,Try.results54,go_sem,bne]) ?_
   exact⟨bg ((lB k q1 q2).trans HT.out),(Below.refl _ _)⟩
  ·(try rw[q2])
   have nq2:(k != 2)=true:=by simp only[bne,q2];rfl
   rcases Bool.eq_false_or_eq_true (k==3) with q3 | q3
   ·(try rw[q3])
    have nq3:(k != 3)=false:=by simp only[bne,q3];rfl
    go_wp2_with fail
    refine bq (.int .i64 (0)) (by simp[results,Try.results54,go_sem,bne]) ?_
    exact⟨bg ((lC k q1 q2 q3).trans HT.out),(Below.refl _ _)⟩
   ·(try rw[q3])
    have nq3:(k != 3)=true:=by simp only[bne,q3];rfl
    rcases Bool.eq_false_or_eq_true (k==4) with q4 | q4
    ·(try rw[q4])
     have nq4:(k != 4)=false:=by simp only[bne,q4];rfl
     go_wp2_with fail
     refine bq (.int .i64 (0)) (by simp[results,Try.results54,go_sem,bne]) ?_
     exact⟨bg ((lD k q1 q2 q3 q4).trans HT.out),(Below.refl _ _)⟩
    ·(try rw[q4])
     have nq4:(k != 4)=true:=by simp only[bne,q4];rfl
     rcases Bool.eq_false_or_eq_true (k==5) with q5 | q5
     ·(try rw[q5])
      have nq5:(k != 5)=false:=by simp only[bne,q5];rfl
      go_wp2_with fail
      refine bq (.int .i64 (1)) (by simp[results,Try.results54,go_sem,bne]) ?_
      exact⟨bg ((lF k q1 q2 q3 q4 q5).trans HT.out),(Below.refl _ _)⟩
     ·(try rw[q5])
      have nq5:(k != 5)=true:=by simp only[bne,q5];rfl
      rcases Bool.eq_false_or_eq_true (k==11) with q6 | q6
      ·(try rw[q6])
       have nq6:(k != 11)=false:=by simp only[bne,q6];rfl
       go_wp2_with fail
       refine bq (.int .i64 (1)) (by simp[results,Try.results54,go_sem,bne]) ?_
       exact⟨bg ((lG k q1 q2 q3 q4 q5 q6).trans HT.out),(Below.refl _ _)⟩
      ·(try rw[q6])
       have nq6:(k != 11)=true:=by simp only[bne,q6];rfl
       rcases Bool.eq_false_or_eq_true (k==12) with q7 | q7
       ·(try rw[q7])
        have nq7:(k != 12)=false:=by simp only[bne,q7];rfl
        go_wp2_with fail
        refine bq (.int .i64 (1)) (by simp[results,Try.results54,go_sem,bne]) ?_
        exact⟨bg ((lH k q1 q2 q3 q4 q5 q6 q7).trans HT.out),(Below.refl _ _)⟩
       ·(try rw[q7])
        have nq7:(k != 12)=true:=by simp only[bne,q7];rfl
        rcases Bool.eq_false_or_eq_true (k==13) with q8 | q8
        ·(try rw[q8])
         have nq8:(k != 13)=false:=by simp only[bne,q8];rfl
         go_wp2_with fail
         refine bq (.int .i64 (1)) (by simp[results,Try.results54,go_sem,bne]) ?_
         exact⟨bg ((lI k q1 q2 q3 q4 q5 q6 q7 q8).trans HT.out),(Below.refl _ _)⟩
        ·(try rw[q8])
         have nq8:(k != 13)=true:=by simp only[bne,q8];rfl
         rcases Bool.eq_false_or_eq_true (k==14) with q9 | q9
         ·(try rw[q9])
          have nq9:(k != 14)=false:=by simp only[bne,q9];rfl
          go_wp2_with fail
          refine bq (.int .i64 (1)) (by simp[results,Try.results54,go_sem,bne]) ?_
          exact⟨bg ((lJ k q1 q2 q3 q4 q5 q6 q7 q8 q9).trans HT.out),(Below.refl _ _)⟩
         ·(try rw[q9])
          have nq9:(k != 14)=true:=by simp only[bne,q9];rfl
          rcases Bool.eq_false_or_eq_true (k==6) with q10 | q10
          ·(try rw[q10])
           have nq10:(k != 6)=false:=by simp only[bne,q10];rfl
           go_wp2_with fail
           refine bq (.int .i64 (2)) (by simp[results,Try.results54,go_sem,bne]) ?_
           exact⟨bg ((lK k q1 q2 q3 q4 q5 q6 q7 q8 q9 q10).trans HT.out),(Below.refl _ _)⟩
          ·(try rw[q10])
           have nq10:(k != 6)=true:=by simp only[bne,q10];rfl
           rcases Bool.eq_false_or_eq_true (k==7) with q11 | q11
           ·(try rw[q11])
            have nq11:(k != 7)=false:=by simp only[bne,q11];rfl
            go_wp2_with fail
            refine bq (.int .i64 (2)) (by simp[results,Try.results54,go_sem,bne]) ?_
            exact⟨bg ((lL k q1 q2 q3 q4 q5 q6 q7 q8 q9 q10 q11).trans HT.out),(Below.refl _ _)⟩
           ·(try rw[q11])
            have nq11:(k != 7)=true:=by simp only[bne,q11];rfl
            rcases Bool.eq_false_or_eq_true (k==8) with q12 | q12
            ·(try rw[q12])
             have nq12:(k != 8)=false:=by simp only[bne,q12];rfl
             go_wp2_with fail
             refine bq (.int .i64 (2)) (by simp[results,Try.results54,go_sem,bne]) ?_
             exact⟨bg ((lM k q1 q2 q3 q4 q5 q6 q7 q8 q9 q10 q11 q12).trans HT.out),(Below.refl _ _)⟩
            ·(try rw[q12])
             have nq12:(k != 8)=true:=by simp only[bne,q12];rfl
             rcases Bool.eq_false_or_eq_true (k==10) with q13 | q13
             ·(try rw[q13])
              have nq13:(k != 10)=false:=by simp only[bne,q13];rfl
              go_wp2_with fail
              refine bq (.int .i64 (2)) (by simp[results,Try.results54,go_sem,bne]) ?_
              exact⟨bg ((lN k q1 q2 q3 q4 q5 q6 q7 q8 q9 q10 q11 q12 q13).trans HT.out),(Below.refl _ _)⟩
             ·(try rw[q13])
              have nq13:(k != 10)=true:=by simp only[bne,q13];rfl
              rcases Bool.eq_false_or_eq_true (k==9) with q14 | q14
              ·(try rw[q14])
               have nq14:(k != 9)=false:=by simp only[bne,q14];rfl
               go_wp2_with fail
               refine bq (.int .i64 (3)) (by simp[results,Try.results54,go_sem,bne]) ?_
               exact⟨bg ((lO k q1 q2 q3 q4 q5 q6 q7 q8 q9 q10 q11 q12 q13 q14).trans HT.out),(Below.refl _ _)⟩
              ·(try rw[q14])
               have nq14:(k != 9)=true:=by simp only[bne,q14];rfl
               go_wp2_with fail
               refine bq (.int .i64 (-1)) (by simp[results,Try.results54,go_sem,bne]) ?_
               exact⟨bg ((lP k q1 q2 q3 q4 q5 q6 q7 q8 q9 q10 q11 q12 q13 q14).trans HT.out),(Below.refl _ _)⟩
theorem fP (k:Int)(a:Option Addr)(n q:Nat)(w:World):Calls Try.prog 66 #[.agg #[.int .i64 k,.slice a n q]] w fun e w'=>e = .returned (.bool (noneB k n))∧Below w.heap.size w w':=by
 obtain⟨rr,hrr⟩ : ∃rr0:Bool,(noneB k n)=rr0:=⟨_,rfl⟩
 rw[hrr];have HT:=zq hrr;clear hrr
 go_enter Try.func66,Try.ntmps66
 rcases Bool.eq_false_or_eq_true (k==0) with q1 | q1
 ·skip
  have nq1:(k != 0)=false:=by simp only[bne,q1];rfl
  go_wp2_with fail
  refine bq (.bool ((n:Int)==0)) (by simp[results,Try.results66,go_sem,bne]) ?_
  exact⟨au ((es k n q1).trans HT.out),ag⟩
 ·skip
  have nq1:(k != 0)=true:=by simp only[bne,q1];rfl
  go_wp2_with fail
  refine bq (.bool (false)) (by simp[results,Try.results66,go_sem,bne]) ?_
  exact⟨au ((et k n q1).trans HT.out),ag⟩
theorem j6 (k:Int)(a:Option Addr)(n q:Nat)(w:World):Calls Try.prog 79 #[.agg #[.int .i64 k,.slice a n q]] w fun e w'=>e = .returned (.bool (noneB k n))∧Below w.heap.size w w':=by
 obtain⟨rr,hrr⟩ : ∃rr0:Bool,(noneB k n)=rr0:=⟨_,rfl⟩
 rw[hrr];have HT:=zq hrr;clear hrr
 go_enter Try.func79,Try.ntmps79
 rcases Bool.eq_false_or_eq_true (k==0) with q1 | q1
 ·skip
  have nq1:(k != 0)=false:=by simp only[bne,q1];rfl
  go_wp2_with fail
  refine bq (.bool ((n:Int)==0)) (by simp[results,Try.results79,go_sem,bne]) ?_
  exact⟨au ((gm k n q1).trans HT.out),ag⟩
 ·skip
  have nq1:(k != 0)=true:=by simp only[bne,q1];rfl
  go_wp2_with fail
  refine bq (.bool (false)) (by simp[results,Try.results79,go_sem,bne]) ?_
  exact⟨au ((gp k n q1).trans HT.out),ag⟩
theorem ie (s:ByteArray)(w:World):Calls Try.prog 64 #[.string s] w fun e w'=>e = .returned (.bool (aI s))∧Below w.heap.size w w':=(nL s w).mono fun e w' h=>⟨h.1,h.2▸Below.refl _ _⟩
theorem bM (s:ByteArray)(w:World):Calls Try.prog 78 #[.string s] w fun e w'=>e = .returned (.bool (aI s))∧Below w.heap.size w w':=(j5 s w).mono fun e w' h=>⟨h.1,h.2▸Below.refl _ _⟩
theorem bf {s:ByteArray}(h:(s.toList == [])=true):aI s=false:=by
 have h1:s.toList = []:=by simpa using h
 rw[Go.ByteArray.toList_eq] at h1;refine iq ?_;intro h2;have:s.data.toList.length=0:=by rw[h1];rfl
 have:s.size=0:=by simpa using this
 omega
end Go.Proofs.Ytfhglkmjibjjoaa

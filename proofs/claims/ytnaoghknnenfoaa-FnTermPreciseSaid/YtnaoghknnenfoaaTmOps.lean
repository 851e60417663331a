/-
  How many operands a kind of terms has; types that are the zero value.
-/
import Derived.Test.YtnaoghknnenfoaaB3
import Derived.Test.YtnaoghknnenfoaaB0
import Derived.Test.YtnaoghknnenfoaaB3
import Derived.Laws.Strings
set_option linter.unusedSimpArgs false
set_option linter.unusedVariables false
set_option maxRecDepth 100000
namespace Go.Proofs.Ytnaoghknnenfoaa
open Go.RowKit
def aJ (k:Int):Int:=if k=1∨k=2∨k=3∨k=4 then 0 else if k=5∨k=11∨k=12∨k=13∨k=14 then 1 else if k=6∨k=7∨k=8∨k=10 then 2 else if k=9 then 3 else -1
def noneB (k:Int)(n:Nat):Bool:=k==0&&(n:Int)==0
def Ty.noneB (t:Ty):Bool:=Go.Proofs.Ytnaoghknnenfoaa.noneB t.kind t.kids.length
theorem oG  : (0:Int)=(0):=by
 rfl
theorem oI  : (0:Int)=(0):=by
 rfl
theorem oU  : (0:Int)=(0):=by
 rfl
theorem oZ  : (0:Int)=(0):=by
 rfl
theorem oC  : (1:Int)=(1):=by
 rfl
theorem p7  : (2:Int)=(2):=by
 rfl
theorem oX  : (2:Int)=(2):=by
 rfl
theorem oJ  : (2:Int)=(2):=by
 rfl
theorem oB  : (3:Int)=(3):=by
 rfl
theorem oS  : (2:Int)=(2):=by
 rfl
theorem ox  : (1:Int)=(1):=by
 rfl
theorem nw  : (1:Int)=(1):=by
 rfl
theorem lU  : (1:Int)=(1):=by
 rfl
theorem mg  : (1:Int)=(1):=by
 rfl
theorem ml (k:Int)(h0:(k==1)=true):(0:Int)=(aJ k):=by
 simp only [beq_iff_eq,beq_eq_false_iff_ne] at *;unfold aJ;(repeat' split)<;>omega
theorem nN (k:Int)(h0:(k==1)=false)(h1:(k==2)=true):(0:Int)=(aJ k):=by
 simp only [beq_iff_eq,beq_eq_false_iff_ne] at *;unfold aJ;(repeat' split)<;>omega
theorem nX (k:Int)(h0:(k==1)=false)(h1:(k==2)=false)(h2:(k==3)=true):(0:Int)=(aJ k):=by
 simp only [beq_iff_eq,beq_eq_false_iff_ne] at *;unfold aJ;(repeat' split)<;>omega
theorem nQ (k:Int)(h0:(k==1)=false)(h1:(k==2)=false)(h2:(k==3)=false)(h3:(k==4)=true):(0:Int)=(aJ k):=by
 simp only [beq_iff_eq,beq_eq_false_iff_ne] at *;unfold aJ;(repeat' split)<;>omega
theorem mM (k:Int)(h0:(k==1)=false)(h1:(k==2)=false)(h2:(k==3)=false)(h3:(k==4)=false)(h4:(k==5)=true):(1:Int)=(aJ k):=by
 simp only [beq_iff_eq,beq_eq_false_iff_ne] at *;unfold aJ;(repeat' split)<;>omega
theorem ly (k:Int)(h0:(k==1)=false)(h1:(k==2)=false)(h2:(k==3)=false)(h3:(k==4)=false)(h4:(k==5)=false)(h5:(k==11)=true):(1:Int)=(aJ k):=by
 simp only [beq_iff_eq,beq_eq_false_iff_ne] at *;unfold aJ;(repeat' split)<;>omega
theorem ng (k:Int)(h0:(k==1)=false)(h1:(k==2)=false)(h2:(k==3)=false)(h3:(k==4)=false)(h4:(k==5)=false)(h5:(k==11)=false)(h6:(k==12)=true):(1:Int)=(aJ k):=by
 simp only [beq_iff_eq,beq_eq_false_iff_ne] at *;unfold aJ;(repeat' split)<;>omega
theorem mn (k:Int)(h0:(k==1)=false)(h1:(k==2)=false)(h2:(k==3)=false)(h3:(k==4)=false)(h4:(k==5)=false)(h5:(k==11)=false)(h6:(k==12)=false)(h7:(k==13)=true):(1:Int)=(aJ k):=by
 simp only [beq_iff_eq,beq_eq_false_iff_ne] at *;unfold aJ;(repeat' split)<;>omega
theorem lk (k:Int)(h0:(k==1)=false)(h1:(k==2)=false)(h2:(k==3)=false)(h3:(k==4)=false)(h4:(k==5)=false)(h5:(k==11)=false)(h6:(k==12)=false)(h7:(k==13)=false)(h8:(k==14)=true):(1:Int)=(aJ k):=by
 simp only [beq_iff_eq,beq_eq_false_iff_ne] at *;unfold aJ;(repeat' split)<;>omega
theorem nV (k:Int)(h0:(k==1)=false)(h1:(k==2)=false)(h2:(k==3)=false)(h3:(k==4)=false)(h4:(k==5)=false)(h5:(k==11)=false)(h6:(k==12)=false)(h7:(k==13)=false)(h8:(k==14)=false)(h9:(k==6)=true):(2:Int)=(aJ k):=by
 simp only [beq_iff_eq,beq_eq_false_iff_ne] at *;unfold aJ;(repeat' split)<;>omega
theorem oa (k:Int)(h0:(k==1)=false)(h1:(k==2)=false)(h2:(k==3)=false)(h3:(k==4)=false)(h4:(k==5)=false)(h5:(k==11)=false)(h6:(k==12)=false)(h7:(k==13)=false)(h8:(k==14)=false)(h9:(k==6)=false)(h10:(k==7)=true):(2:Int)=(aJ k):=by
 simp only [beq_iff_eq,beq_eq_false_iff_ne] at *;unfold aJ;(repeat' split)<;>omega
theorem mR (k:Int)(h0:(k==1)=false)(h1:(k==2)=false)(h2:(k==3)=false)(h3:(k==4)=false)(h4:(k==5)=false)(h5:(k==11)=false)(h6:(k==12)=false)(h7:(k==13)=false)(h8:(k==14)=false)(h9:(k==6)=false)(h10:(k==7)=false)(h11:(k==8)=true):(2:Int)=(aJ k):=by
 simp only [beq_iff_eq,beq_eq_false_iff_ne] at *;unfold aJ;(repeat' split)<;>omega
theorem lj (k:Int)(h0:(k==1)=false)(h1:(k==2)=false)(h2:(k==3)=false)(h3:(k==4)=false)(h4:(k==5)=false)(h5:(k==11)=false)(h6:(k==12)=false)(h7:(k==13)=false)(h8:(k==14)=false)(h9:(k==6)=false)(h10:(k==7)=false)(h11:(k==8)=false)(h12:(k==10)=true):(2:Int)=(aJ k):=by
 simp only [beq_iff_eq,beq_eq_false_iff_ne] at *;unfold aJ;(repeat' split)<;>omega
theorem me (k:Int)(h0:(k==1)=false)(h1:(k==2)=false)(h2:(k==3)=false)(h3:(k==4)=false)(h4:(k==5)=false)(h5:(k==11)=false)(h6:(k==12)=false)(h7:(k==13)=false)(h8:(k==14)=false)(h9:(k==6)=false)(h10:(k==7)=false)(h11:(k==8)=false)(h12:(k==10)=false)(h13:(k==9)=true):(3:Int)=(aJ k):=by
 simp only [beq_iff_eq,beq_eq_false_iff_ne] at *;unfold aJ;(repeat' split)<;>omega
theorem my (k:Int)(h0:(k==1)=false)(h1:(k==2)=false)(h2:(k==3)=false)(h3:(k==4)=false)(h4:(k==5)=false)(h5:(k==11)=false)(h6:(k==12)=false)(h7:(k==13)=false)(h8:(k==14)=false)(h9:(k==6)=false)(h10:(k==7)=false)(h11:(k==8)=false)(h12:(k==10)=false)(h13:(k==9)=false):(-1:Int)=(aJ k):=by
 simp only [beq_iff_eq,beq_eq_false_iff_ne] at *;unfold aJ;(repeat' split)<;>omega
theorem er (k:Int)(n:Nat)(h0:(k==0)=true):((n:Int)==0:Bool)=(noneB k n):=by
 simp_all [noneB]
theorem el (k:Int)(n:Nat)(h0:(k==0)=false):(false:Bool)=(noneB k n):=by
 simp_all [noneB]
theorem gk (k:Int)(n:Nat)(h0:(k==0)=true):((n:Int)==0:Bool)=(noneB k n):=by
 simp_all [noneB]
theorem fS (k:Int)(n:Nat)(h0:(k==0)=false):(false:Bool)=(noneB k n):=by
 simp_all [noneB]
theorem pR (w:World):Calls Try.prog 57 #[.int .i64 1] w fun e w'=>e = .returned (.int .i64 (0))∧Below w.heap.size w w':=by
 obtain⟨rr,hrr⟩ : ∃rr0:Int,(0)=rr0:=⟨_,rfl⟩
 rw [hrr]
 have HT:=Lib.hid hrr
 clear hrr
 go_enter Try.func57,Try.ntmps57
 go_wp2_with fail
 refine(b9 1 1 14 _).mono ?_
 rintro e w1 ⟨rfl,hb1⟩
 rw [show aA (1) (1) (14)=true from by decide]
 have hB:=(ai (Below.refl _ _) hb1)
 have zw1:=hB.size
 go_wp2_with fail
 refine bodyPost_ret (v:=.int .i64 (0)) (by simp [results,Try.results57,go_sem,bne]) rfl ?_
 exact⟨bf ((oG ).trans HT.out),(hB.alloc hB.size _)⟩
theorem pU (w:World):Calls Try.prog 57 #[.int .i64 2] w fun e w'=>e = .returned (.int .i64 (0))∧Below w.heap.size w w':=by
 obtain⟨rr,hrr⟩ : ∃rr0:Int,(0)=rr0:=⟨_,rfl⟩
 rw [hrr]
 have HT:=Lib.hid hrr
 clear hrr
 go_enter Try.func57,Try.ntmps57
 go_wp2_with fail
 refine(b9 2 1 14 _).mono ?_
 rintro e w1 ⟨rfl,hb1⟩
 rw [show aA (2) (1) (14)=true from by decide]
 have hB:=(ai (Below.refl _ _) hb1)
 have zw1:=hB.size
 go_wp2_with fail
 refine bodyPost_ret (v:=.int .i64 (0)) (by simp [results,Try.results57,go_sem,bne]) rfl ?_
 exact⟨bf ((oI ).trans HT.out),(hB.alloc hB.size _)⟩
theorem pZ (w:World):Calls Try.prog 57 #[.int .i64 3] w fun e w'=>e = .returned (.int .i64 (0))∧Below w.heap.size w w':=by
 obtain⟨rr,hrr⟩ : ∃rr0:Int,(0)=rr0:=⟨_,rfl⟩
 rw [hrr]
 have HT:=Lib.hid hrr
 clear hrr
 go_enter Try.func57,Try.ntmps57
 go_wp2_with fail
 refine(b9 3 1 14 _).mono ?_
 rintro e w1 ⟨rfl,hb1⟩
 rw [show aA (3) (1) (14)=true from by decide]
 have hB:=(ai (Below.refl _ _) hb1)
 have zw1:=hB.size
 go_wp2_with fail
 refine bodyPost_ret (v:=.int .i64 (0)) (by simp [results,Try.results57,go_sem,bne]) rfl ?_
 exact⟨bf ((oU ).trans HT.out),(hB.alloc hB.size _)⟩
theorem qa (w:World):Calls Try.prog 57 #[.int .i64 4] w fun e w'=>e = .returned (.int .i64 (0))∧Below w.heap.size w w':=by
 obtain⟨rr,hrr⟩ : ∃rr0:Int,(0)=rr0:=⟨_,rfl⟩
 rw [hrr]
 have HT:=Lib.hid hrr
 clear hrr
 go_enter Try.func57,Try.ntmps57
 go_wp2_with fail
 refine(b9 4 1 14 _).mono ?_
 rintro e w1 ⟨rfl,hb1⟩
 rw [show aA (4) (1) (14)=true from by decide]
 have hB:=(ai (Below.refl _ _) hb1)
 have zw1:=hB.size
 go_wp2_with fail
 refine bodyPost_ret (v:=.int .i64 (0)) (by simp [results,Try.results57,go_sem,bne]) rfl ?_
 exact⟨bf ((oZ ).trans HT.out),(hB.alloc hB.size _)⟩
theorem pP (w:World):Calls Try.prog 57 #[.int .i64 5] w fun e w'=>e = .returned (.int .i64 (1))∧Below w.heap.size w w':=by
 obtain⟨rr,hrr⟩ : ∃rr0:Int,(1)=rr0:=⟨_,rfl⟩
 rw [hrr]
 have HT:=Lib.hid hrr
 clear hrr
 go_enter Try.func57,Try.ntmps57
 go_wp2_with fail
 refine(b9 5 1 14 _).mono ?_
 rintro e w1 ⟨rfl,hb1⟩
 rw [show aA (5) (1) (14)=true from by decide]
 have hB:=(ai (Below.refl _ _) hb1)
 have zw1:=hB.size
 go_wp2_with fail
 refine bodyPost_ret (v:=.int .i64 (1)) (by simp [results,Try.results57,go_sem,bne]) rfl ?_
 exact⟨bf ((oC ).trans HT.out),(hB.alloc hB.size _)⟩
theorem pW (w:World):Calls Try.prog 57 #[.int .i64 6] w fun e w'=>e = .returned (.int .i64 (2))∧Below w.heap.size w w':=by
 obtain⟨rr,hrr⟩ : ∃rr0:Int,(2)=rr0:=⟨_,rfl⟩
 rw [hrr]
 have HT:=Lib.hid hrr
 clear hrr
 go_enter Try.func57,Try.ntmps57
 go_wp2_with fail
 refine(b9 6 1 14 _).mono ?_
 rintro e w1 ⟨rfl,hb1⟩
 rw [show aA (6) (1) (14)=true from by decide]
 have hB:=(ai (Below.refl _ _) hb1)
 have zw1:=hB.size
 go_wp2_with fail
 refine bodyPost_ret (v:=.int .i64 (2)) (by simp [results,Try.results57,go_sem,bne]) rfl ?_
 exact⟨bf ((p7 ).trans HT.out),(hB.alloc hB.size _)⟩
theorem pT (w:World):Calls Try.prog 57 #[.int .i64 7] w fun e w'=>e = .returned (.int .i64 (2))∧Below w.heap.size w w':=by
 obtain⟨rr,hrr⟩ : ∃rr0:Int,(2)=rr0:=⟨_,rfl⟩
 rw [hrr]
 have HT:=Lib.hid hrr
 clear hrr
 go_enter Try.func57,Try.ntmps57
 go_wp2_with fail
 refine(b9 7 1 14 _).mono ?_
 rintro e w1 ⟨rfl,hb1⟩
 rw [show aA (7) (1) (14)=true from by decide]
 have hB:=(ai (Below.refl _ _) hb1)
 have zw1:=hB.size
 go_wp2_with fail
 refine bodyPost_ret (v:=.int .i64 (2)) (by simp [results,Try.results57,go_sem,bne]) rfl ?_
 exact⟨bf ((oX ).trans HT.out),(hB.alloc hB.size _)⟩
theorem pJ (w:World):Calls Try.prog 57 #[.int .i64 8] w fun e w'=>e = .returned (.int .i64 (2))∧Below w.heap.size w w':=by
 obtain⟨rr,hrr⟩ : ∃rr0:Int,(2)=rr0:=⟨_,rfl⟩
 rw [hrr]
 have HT:=Lib.hid hrr
 clear hrr
 go_enter Try.func57,Try.ntmps57
 go_wp2_with fail
 refine(b9 8 1 14 _).mono ?_
 rintro e w1 ⟨rfl,hb1⟩
 rw [show aA (8) (1) (14)=true from by decide]
 have hB:=(ai (Below.refl _ _) hb1)
 have zw1:=hB.size
 go_wp2_with fail
 refine bodyPost_ret (v:=.int .i64 (2)) (by simp [results,Try.results57,go_sem,bne]) rfl ?_
 exact⟨bf ((oJ ).trans HT.out),(hB.alloc hB.size _)⟩
theorem pM (w:World):Calls Try.prog 57 #[.int .i64 9] w fun e w'=>e = .returned (.int .i64 (3))∧Below w.heap.size w w':=by
 obtain⟨rr,hrr⟩ : ∃rr0:Int,(3)=rr0:=⟨_,rfl⟩
 rw [hrr]
 have HT:=Lib.hid hrr
 clear hrr
 go_enter Try.func57,Try.ntmps57
 go_wp2_with fail
 refine(b9 9 1 14 _).mono ?_
 rintro e w1 ⟨rfl,hb1⟩
 rw [show aA (9) (1) (14)=true from by decide]
 have hB:=(ai (Below.refl _ _) hb1)
 have zw1:=hB.size
 go_wp2_with fail
 refine bodyPost_ret (v:=.int .i64 (3)) (by simp [results,Try.results57,go_sem,bne]) rfl ?_
 exact⟨bf ((oB ).trans HT.out),(hB.alloc hB.size _)⟩
theorem pB (w:World):Calls Try.prog 57 #[.int .i64 10] w fun e w'=>e = .returned (.int .i64 (2))∧Below w.heap.size w w':=by
 obtain⟨rr,hrr⟩ : ∃rr0:Int,(2)=rr0:=⟨_,rfl⟩
 rw [hrr]
 have HT:=Lib.hid hrr
 clear hrr
 go_enter Try.func57,Try.ntmps57
 go_wp2_with fail
 refine(b9 10 1 14 _).mono ?_
 rintro e w1 ⟨rfl,hb1⟩
 rw [show aA (10) (1) (14)=true from by decide]
 have hB:=(ai (Below.refl _ _) hb1)
 have zw1:=hB.size
 go_wp2_with fail
 refine bodyPost_ret (v:=.int .i64 (2)) (by simp [results,Try.results57,go_sem,bne]) rfl ?_
 exact⟨bf ((oS ).trans HT.out),(hB.alloc hB.size _)⟩
theorem pp (w:World):Calls Try.prog 57 #[.int .i64 11] w fun e w'=>e = .returned (.int .i64 (1))∧Below w.heap.size w w':=by
 obtain⟨rr,hrr⟩ : ∃rr0:Int,(1)=rr0:=⟨_,rfl⟩
 rw [hrr]
 have HT:=Lib.hid hrr
 clear hrr
 go_enter Try.func57,Try.ntmps57
 go_wp2_with fail
 refine(b9 11 1 14 _).mono ?_
 rintro e w1 ⟨rfl,hb1⟩
 rw [show aA (11) (1) (14)=true from by decide]
 have hB:=(ai (Below.refl _ _) hb1)
 have zw1:=hB.size
 go_wp2_with fail
 refine bodyPost_ret (v:=.int .i64 (1)) (by simp [results,Try.results57,go_sem,bne]) rfl ?_
 exact⟨bf ((ox ).trans HT.out),(hB.alloc hB.size _)⟩
theorem pD (w:World):Calls Try.prog 57 #[.int .i64 12] w fun e w'=>e = .returned (.int .i64 (1))∧Below w.heap.size w w':=by
 obtain⟨rr,hrr⟩ : ∃rr0:Int,(1)=rr0:=⟨_,rfl⟩
 rw [hrr]
 have HT:=Lib.hid hrr
 clear hrr
 go_enter Try.func57,Try.ntmps57
 go_wp2_with fail
 refine(b9 12 1 14 _).mono ?_
 rintro e w1 ⟨rfl,hb1⟩
 rw [show aA (12) (1) (14)=true from by decide]
 have hB:=(ai (Below.refl _ _) hb1)
 have zw1:=hB.size
 go_wp2_with fail
 refine bodyPost_ret (v:=.int .i64 (1)) (by simp [results,Try.results57,go_sem,bne]) rfl ?_
 exact⟨bf ((nw ).trans HT.out),(hB.alloc hB.size _)⟩
theorem pF (w:World):Calls Try.prog 57 #[.int .i64 13] w fun e w'=>e = .returned (.int .i64 (1))∧Below w.heap.size w w':=by
 obtain⟨rr,hrr⟩ : ∃rr0:Int,(1)=rr0:=⟨_,rfl⟩
 rw [hrr]
 have HT:=Lib.hid hrr
 clear hrr
 go_enter Try.func57,Try.ntmps57
 go_wp2_with fail
 refine(b9 13 1 14 _).mono ?_
 rintro e w1 ⟨rfl,hb1⟩
 rw [show aA (13) (1) (14)=true from by decide]
 have hB:=(ai (Below.refl _ _) hb1)
 have zw1:=hB.size
 go_wp2_with fail
 refine bodyPost_ret (v:=.int .i64 (1)) (by simp [results,Try.results57,go_sem,bne]) rfl ?_
 exact⟨bf ((lU ).trans HT.out),(hB.alloc hB.size _)⟩
theorem py (w:World):Calls Try.prog 57 #[.int .i64 14] w fun e w'=>e = .returned (.int .i64 (1))∧Below w.heap.size w w':=by
 obtain⟨rr,hrr⟩ : ∃rr0:Int,(1)=rr0:=⟨_,rfl⟩
 rw [hrr]
 have HT:=Lib.hid hrr
 clear hrr
 go_enter Try.func57,Try.ntmps57
 go_wp2_with fail
 refine(b9 14 1 14 _).mono ?_
 rintro e w1 ⟨rfl,hb1⟩
 rw [show aA (14) (1) (14)=true from by decide]
 have hB:=(ai (Below.refl _ _) hb1)
 have zw1:=hB.size
 go_wp2_with fail
 refine bodyPost_ret (v:=.int .i64 (1)) (by simp [results,Try.results57,go_sem,bne]) rfl ?_
 exact⟨bf ((mg ).trans HT.out),(hB.alloc hB.size _)⟩
theorem cz (k:Int)(w:World):Calls Try.prog 57 #[.int .i64 k] w fun e w'=>e = .returned (.int .i64 (aJ k))∧Below w.heap.size w w':=by
 by_cases h:k=1∨k=2∨k=3∨k=4∨k=5∨k=6∨k=7∨k=8∨k=9∨k=10∨k=11∨k=12∨k=13∨k=14
 ·rcases h with rfl | rfl | rfl | rfl | rfl | rfl | rfl | rfl | rfl | rfl | rfl | rfl | rfl | rfl
  ·exact pR w
  ·exact pU w
  ·exact pZ w
  ·exact qa w
  ·exact pP w
  ·exact pW w
  ·exact pT w
  ·exact pJ w
  ·exact pM w
  ·exact pB w
  ·exact pp w
  ·exact pD w
  ·exact pF w
  ·exact py w
 ·have hw:aA k 1 14=false:=by unfold aA;simp;omega
  have hc:aJ k = -1:=by unfold aJ;rw [if_neg (by omega),if_neg (by omega),if_neg (by omega),if_neg (by omega)]
  have HW:=Lib.hid hw
  have HC:=Lib.hid hc
  clear hw hc h
  go_enter Try.func57,Try.ntmps57
  go_wp2_with fail
  refine(b9 k 1 14 _).mono ?_
  rintro e w1 ⟨rfl,hb1⟩
  rw [HW.out]
  go_wp2_with fail
  go_ret
  exact⟨bf HC.out.symm,hb1⟩
set_option maxHeartbeats 4000000 in
theorem dk (k:Int)(w:World):Calls Try.prog 55 #[.int .i64 k] w fun e w'=>e = .returned (.int .i64 (aJ k))∧Below w.heap.size w w':=by
 obtain⟨rr,hrr⟩ : ∃rr0:Int,(aJ k)=rr0:=⟨_,rfl⟩
 rw [hrr]
 have HT:=Lib.hid hrr
 clear hrr
 go_enter Try.func55,Try.ntmps55
 rcases Bool.eq_false_or_eq_true (k==1) with q1 | q1
 ·(try rw [q1])
  have nq1:(k != 1)=false:=by simp only [bne,q1];rfl
  go_wp2_with fail
  refine bodyPost_ret (v:=.int .i64 (0)) (by simp [results,Try.results55,go_sem,bne]) rfl ?_
  exact⟨bf ((ml k q1).trans HT.out),(Below.refl _ _)⟩
 ·(try rw [q1])
  have nq1:(k != 1)=true:=by simp only [bne,q1];rfl
  rcases Bool.eq_false_or_eq_true (k==2) with q2 | q2
  ·(try rw [q2])
   have nq2:(k != 2)=false:=by simp only [bne,q2];rfl
   go_wp2_with fail
   refine bodyPost_ret (v:=.int .i64 (0)) (by simp [results,Try.results55,go_sem,bne]) rfl ?_
   exact⟨bf ((nN k q1 q2).trans HT.out),(Below.refl _ _)⟩
  ·(try rw [q2])
   have nq2:(k != 2)=true:=by simp only [bne,q2];rfl
   rcases Bool.eq_false_or_eq_true (k==3) with q3 | q3
   ·(try rw [q3])
    have nq3:(k != 3)=false:=by simp only [bne,q3];rfl
    go_wp2_with fail
    refine bodyPost_ret (v:=.int .i64 (0)) (by simp [results,Try.results55,go_sem,bne]) rfl ?_
    exact⟨bf ((nX k q1 q2 q3).trans HT.out),(Below.refl _ _)⟩
   ·(try rw [q3])
    have nq3:(k != 3)=true:=by simp only [bne,q3];rfl
    rcases Bool.eq_false_or_eq_true (k==4) with q4 | q4
    ·(try rw [q4])
     have nq4:(k != 4)=false:=by simp only [bne,q4];rfl
     go_wp2_with fail
     refine bodyPost_ret (v:=.int .i64 (0)) (by simp [results,Try.results55,go_sem,bne]) rfl ?_
     exact⟨bf ((nQ k q1 q2 q3 q4).trans HT.out),(Below.refl _ _)⟩
    ·(try rw [q4])
     have nq4:(k != 4)=true:=by simp only [bne,q4];rfl
     rcases Bool.eq_false_or_eq_true (k==5) with q5 | q5
     ·(try rw [q5])
      have nq5:(k != 5)=false:=by simp only [bne,q5];rfl
      go_wp2_with fail
      refine bodyPost_ret (v:=.int .i64 (1)) (by simp [results,Try.results55,go_sem,bne]) rfl ?_
      exact⟨bf ((mM k q1 q2 q3 q4 q5).trans HT.out),(Below.refl _ _)⟩
     ·(try rw [q5])
      have nq5:(k != 5)=true:=by simp only [bne,q5];rfl
      rcases Bool.eq_false_or_eq_true (k==11) with q6 | q6
      ·(try rw [q6])
       have nq6:(k != 11)=false:=by simp only [bne,q6];rfl
       go_wp2_with fail
       refine bodyPost_ret (v:=.int .i64 (1)) (by simp [results,Try.results55,go_sem,bne]) rfl ?_
       exact⟨bf ((ly k q1 q2 q3 q4 q5 q6).trans HT.out),(Below.refl _ _)⟩
      ·(try rw [q6])
       have nq6:(k != 11)=true:=by simp only [bne,q6];rfl
       rcases Bool.eq_false_or_eq_true (k==12) with q7 | q7
       ·(try rw [q7])
        have nq7:(k != 12)=false:=by simp only [bne,q7];rfl
        go_wp2_with fail
        refine bodyPost_ret (v:=.int .i64 (1)) (by simp [results,Try.results55,go_sem,bne]) rfl ?_
        exact⟨bf ((ng k q1 q2 q3 q4 q5 q6 q7).trans HT.out),(Below.refl _ _)⟩
       ·(try rw [q7])
        have nq7:(k != 12)=true:=by simp only [bne,q7];rfl
        rcases Bool.eq_false_or_eq_true (k==13) with q8 | q8
        ·(try rw [q8])
         have nq8:(k != 13)=false:=by simp only [bne,q8];rfl
         go_wp2_with fail
         refine bodyPost_ret (v:=.int .i64 (1)) (by simp [results,Try.results55,go_sem,bne]) rfl ?_
         exact⟨bf ((mn k q1 q2 q3 q4 q5 q6 q7 q8).trans HT.out),(Below.refl _ _)⟩
        ·(try rw [q8])
         have nq8:(k != 13)=true:=by simp only [bne,q8];rfl
         rcases Bool.eq_false_or_eq_true (k==14) with q9 | q9
         ·(try rw [q9])
          have nq9:(k != 14)=false:=by simp only [bne,q9];rfl
          go_wp2_with fail
          refine bodyPost_ret (v:=.int .i64 (1)) (by simp [results,Try.results55,go_sem,bne]) rfl ?_
          exact⟨bf ((lk k q1 q2 q3 q4 q5 q6 q7 q8 q9).trans HT.out),(Below.refl _ _)⟩
         ·(try rw [q9])
          have nq9:(k != 14)=true:=by simp only [bne,q9];rfl
          rcases Bool.eq_false_or_eq_true (k==6) with q10 | q10
          ·(try rw [q10])
           have nq10:(k != 6)=false:=by simp only [bne,q10];rfl
           go_wp2_with fail
           refine bodyPost_ret (v:=.int .i64 (2)) (by simp [results,Try.results55,go_sem,bne]) rfl ?_
           exact⟨bf ((nV k q1 q2 q3 q4 q5 q6 q7 q8 q9 q10).trans HT.out),(Below.refl _ _)⟩
          ·(try rw [q10])
           have nq10:(k != 6)=true:=by simp only [bne,q10];rfl
           rcases Bool.eq_false_or_eq_true (k==7) with q11 | q11
           ·(try rw [q11])
            have nq11:(k != 7)=false:=by simp only [bne,q11];rfl
            go_wp2_with fail
            refine bodyPost_ret (v:=.int .i64 (2)) (by simp [results,Try.results55,go_sem,bne]) rfl ?_
            exact⟨bf ((oa k q1 q2 q3 q4 q5 q6 q7 q8 q9 q10 q11).trans HT.out),(Below.refl _ _)⟩
           ·(try rw [q11])
            have nq11:(k != 7)=true:=by simp only [bne,q11];rfl
            rcases Bool.eq_false_or_eq_true (k==8) with q12 | q12
            ·(try rw [q12])
             have nq12:(k != 8)=false:=by simp only [bne,q12];rfl
             go_wp2_with fail
             refine bodyPost_ret (v:=.int .i64 (2)) (by simp [results,Try.results55,go_sem,bne]) rfl ?_
             exact⟨bf ((mR k q1 q2 q3 q4 q5 q6 q7 q8 q9 q10 q11 q12).trans HT.out),(Below.refl _ _)⟩
            ·(try rw [q12])
             have nq12:(k != 8)=true:=by simp only [bne,q12];rfl
             rcases Bool.eq_false_or_eq_true (k==10) with q13 | q13
             ·(try rw [q13])
              have nq13:(k != 10)=false:=by simp only [bne,q13];rfl
              go_wp2_with fail
              refine bodyPost_ret (v:=.int .i64 (2)) (by simp [results,Try.results55,go_sem,bne]) rfl ?_
              exact⟨bf ((lj k q1 q2 q3 q4 q5 q6 q7 q8 q9 q10 q11 q12 q13).trans HT.out),(Below.refl _ _)⟩
             ·(try rw [q13])
              have nq13:(k != 10)=true:=by simp only [bne,q13];rfl
              rcases Bool.eq_false_or_eq_true (k==9) with q14 | q14
              ·(try rw [q14])
               have nq14:(k != 9)=false:=by simp only [bne,q14];rfl
               go_wp2_with fail
               refine bodyPost_ret (v:=.int .i64 (3)) (by simp [results,Try.results55,go_sem,bne]) rfl ?_
               exact⟨bf ((me k q1 q2 q3 q4 q5 q6 q7 q8 q9 q10 q11 q12 q13 q14).trans HT.out),(Below.refl _ _)⟩
              ·(try rw [q14])
               have nq14:(k != 9)=true:=by simp only [bne,q14];rfl
               go_wp2_with fail
               refine bodyPost_ret (v:=.int .i64 (-1)) (by simp [results,Try.results55,go_sem,bne]) rfl ?_
               exact⟨bf ((my k q1 q2 q3 q4 q5 q6 q7 q8 q9 q10 q11 q12 q13 q14).trans HT.out),(Below.refl _ _)⟩
set_option maxHeartbeats 1000000 in
theorem fy (k:Int)(a:Option Addr)(n q:Nat)(w:World):Calls Try.prog 61 #[.agg #[.int .i64 k,.slice a n q]] w fun e w'=>e = .returned (.bool (noneB k n))∧Below w.heap.size w w':=by
 obtain⟨rr,hrr⟩ : ∃rr0:Bool,(noneB k n)=rr0:=⟨_,rfl⟩
 rw [hrr]
 have HT:=Lib.hid hrr
 clear hrr
 go_enter Try.func61,Try.ntmps61
 rcases Bool.eq_false_or_eq_true (k==0) with q1 | q1
 ·skip
  have nq1:(k != 0)=false:=by simp only [bne,q1];rfl
  go_wp2_with fail
  refine bodyPost_ret (v:=.bool ((n:Int)==0)) (by simp [results,Try.results61,go_sem,bne]) rfl ?_
  exact⟨au ((er k n q1).trans HT.out),ah⟩
 ·skip
  have nq1:(k != 0)=true:=by simp only [bne,q1];rfl
  go_wp2_with fail
  refine bodyPost_ret (v:=.bool (false)) (by simp [results,Try.results61,go_sem,bne]) rfl ?_
  exact⟨au ((el k n q1).trans HT.out),ah⟩
set_option maxHeartbeats 1000000 in
theorem iq (k:Int)(a:Option Addr)(n q:Nat)(w:World):Calls Try.prog 73 #[.agg #[.int .i64 k,.slice a n q]] w fun e w'=>e = .returned (.bool (noneB k n))∧Below w.heap.size w w':=by
 obtain⟨rr,hrr⟩ : ∃rr0:Bool,(noneB k n)=rr0:=⟨_,rfl⟩
 rw [hrr]
 have HT:=Lib.hid hrr
 clear hrr
 go_enter Try.func73,Try.ntmps73
 rcases Bool.eq_false_or_eq_true (k==0) with q1 | q1
 ·skip
  have nq1:(k != 0)=false:=by simp only [bne,q1];rfl
  go_wp2_with fail
  refine bodyPost_ret (v:=.bool ((n:Int)==0)) (by simp [results,Try.results73,go_sem,bne]) rfl ?_
  exact⟨au ((gk k n q1).trans HT.out),ah⟩
 ·skip
  have nq1:(k != 0)=true:=by simp only [bne,q1];rfl
  go_wp2_with fail
  refine bodyPost_ret (v:=.bool (false)) (by simp [results,Try.results73,go_sem,bne]) rfl ?_
  exact⟨au ((fS k n q1).trans HT.out),ah⟩
theorem i6 (s:ByteArray)(w:World):Calls Try.prog 58 #[.string s] w fun e w'=>e = .returned (.bool (aN s))∧Below w.heap.size w w':=(pn s w).mono fun e w' h=>⟨h.1,h.2▸Below.refl _ _⟩
theorem bo (s:ByteArray)(w:World):Calls Try.prog 72 #[.string s] w fun e w'=>e = .returned (.bool (aN s))∧Below w.heap.size w w':=(iM s w).mono fun e w' h=>⟨h.1,h.2▸Below.refl _ _⟩
theorem b5 {s:ByteArray}(h:(s.toList == [])=true):aN s=false:=by
 have h1:s.toList = []:=by simpa using h
 rw [Go.ByteArray.toList_eq] at h1
 refine io ?_
 intro h2
 have:s.data.toList.length=0:=by rw [h1];rfl
 have:s.size=0:=by simpa using this
 omega
end Go.Proofs.Ytnaoghknnenfoaa

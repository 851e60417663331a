/- How many operands a kind of terms has; types that are the zero value. -/
import Derived.Test.YtfahhonmiimmdaaGreatB3
import Derived.Laws.Strings
set_option linter.unusedSimpArgs false
set_option linter.unusedVariables false
set_option maxRecDepth 100000
set_option maxHeartbeats 16000000
namespace Go.Proofs.YtfahhonmiimmdaaGreat
open Go.RowKit
def aG (k:Int):Int:=if k=1∨k=2∨k=3∨k=4 then 0 else if k=5∨k=11∨k=12∨k=13∨k=14 then 1 else if k=6∨k=7∨k=8∨k=10 then 2 else if k=9 then 3 else -1
def noneB (k:Int)(n:Nat):Bool:=k==0&&(n:Int)==0
def Ty.noneB (t:Ty):Bool:=Go.Proofs.YtfahhonmiimmdaaGreat.noneB t.kind t.kids.length
theorem so  : (0:Int)=(0):=by
 rfl
theorem sp  : (0:Int)=(0):=by
 rfl
theorem sw  : (0:Int)=(0):=by
 rfl
theorem sx  : (0:Int)=(0):=by
 rfl
theorem sA  : (1:Int)=(1):=by
 rfl
theorem sB  : (2:Int)=(2):=by
 rfl
theorem sC  : (2:Int)=(2):=by
 rfl
theorem sD  : (2:Int)=(2):=by
 rfl
theorem sE  : (3:Int)=(3):=by
 rfl
theorem sF  : (2:Int)=(2):=by
 rfl
theorem oM  : (1:Int)=(1):=by
 rfl
theorem oN  : (1:Int)=(1):=by
 rfl
theorem oO  : (1:Int)=(1):=by
 rfl
theorem oP  : (1:Int)=(1):=by
 rfl
theorem ol (k:Int)(h0:(k==1)=true):(0:Int)=(aG k):=by
 simp only[beq_iff_eq,beq_eq_false_iff_ne] at *;unfold aG;(repeat' split)<;>omega
theorem om (k:Int)(h0:(k==1)=false)(h1:(k==2)=true):(0:Int)=(aG k):=by
 simp only[beq_iff_eq,beq_eq_false_iff_ne] at *;unfold aG;(repeat' split)<;>omega
theorem on (k:Int)(h0:(k==1)=false)(h1:(k==2)=false)(h2:(k==3)=true):(0:Int)=(aG k):=by
 simp only[beq_iff_eq,beq_eq_false_iff_ne] at *;unfold aG;(repeat' split)<;>omega
theorem oo (k:Int)(h0:(k==1)=false)(h1:(k==2)=false)(h2:(k==3)=false)(h3:(k==4)=true):(0:Int)=(aG k):=by
 simp only[beq_iff_eq,beq_eq_false_iff_ne] at *;unfold aG;(repeat' split)<;>omega
theorem oq (k:Int)(h0:(k==1)=false)(h1:(k==2)=false)(h2:(k==3)=false)(h3:(k==4)=false)(h4:(k==5)=true):(1:Int)=(aG k):=by
 simp only[beq_iff_eq,beq_eq_false_iff_ne] at *;unfold aG;(repeat' split)<;>omega
theorem ot (k:Int)(h0:(k==1)=false)(h1:(k==2)=false)(h2:(k==3)=false)(h3:(k==4)=false)(h4:(k==5)=false)(h5:(k==11)=true):(1:Int)=(aG k):=by
 simp only[beq_iff_eq,beq_eq_false_iff_ne] at *;unfold aG;(repeat' split)<;>omega
theorem ou (k:Int)(h0:(k==1)=false)(h1:(k==2)=false)(h2:(k==3)=false)(h3:(k==4)=false)(h4:(k==5)=false)(h5:(k==11)=false)(h6:(k==12)=true):(1:Int)=(aG k):=by
 simp only[beq_iff_eq,beq_eq_false_iff_ne] at *;unfold aG;(repeat' split)<;>omega
theorem ox (k:Int)(h0:(k==1)=false)(h1:(k==2)=false)(h2:(k==3)=false)(h3:(k==4)=false)(h4:(k==5)=false)(h5:(k==11)=false)(h6:(k==12)=false)(h7:(k==13)=true):(1:Int)=(aG k):=by
 simp only[beq_iff_eq,beq_eq_false_iff_ne] at *;unfold aG;(repeat' split)<;>omega
theorem oy (k:Int)(h0:(k==1)=false)(h1:(k==2)=false)(h2:(k==3)=false)(h3:(k==4)=false)(h4:(k==5)=false)(h5:(k==11)=false)(h6:(k==12)=false)(h7:(k==13)=false)(h8:(k==14)=true):(1:Int)=(aG k):=by
 simp only[beq_iff_eq,beq_eq_false_iff_ne] at *;unfold aG;(repeat' split)<;>omega
theorem oz (k:Int)(h0:(k==1)=false)(h1:(k==2)=false)(h2:(k==3)=false)(h3:(k==4)=false)(h4:(k==5)=false)(h5:(k==11)=false)(h6:(k==12)=false)(h7:(k==13)=false)(h8:(k==14)=false)(h9:(k==6)=true):(2:Int)=(aG k):=by
 simp only[beq_iff_eq,beq_eq_false_iff_ne] at *;unfold aG;(repeat' split)<;>omega
theorem oA (k:Int)(h0:(k==1)=false)(h1:(k==2)=false)(h2:(k==3)=false)(h3:(k==4)=false)(h4:(k==5)=false)(h5:(k==11)=false)(h6:(k==12)=false)(h7:(k==13)=false)(h8:(k==14)=false)(h9:(k==6)=false)(h10:(k==7)=true):(2:Int)=(aG k):=by
 simp only[beq_iff_eq,beq_eq_false_iff_ne] at *;unfold aG;(repeat' split)<;>omega
theorem oB (k:Int)(h0:(k==1)=false)(h1:(k==2)=false)(h2:(k==3)=false)(h3:(k==4)=false)(h4:(k==5)=false)(h5:(k==11)=false)(h6:(k==12)=false)(h7:(k==13)=false)(h8:(k==14)=false)(h9:(k==6)=false)(h10:(k==7)=false)(h11:(k==8)=true):(2:Int)=(aG k):=by
 simp only[beq_iff_eq,beq_eq_false_iff_ne] at *;unfold aG;(repeat' split)<;>omega
theorem oC (k:Int)(h0:(k==1)=false)(h1:(k==2)=false)(h2:(k==3)=false)(h3:(k==4)=false)(h4:(k==5)=false)(h5:(k==11)=false)(h6:(k==12)=false)(h7:(k==13)=false)(h8:(k==14)=false)(h9:(k==6)=false)(h10:(k==7)=false)(h11:(k==8)=false)(h12:(k==10)=true):(2:Int)=(aG k):=by
 simp only[beq_iff_eq,beq_eq_false_iff_ne] at *;unfold aG;(repeat' split)<;>omega
theorem oD (k:Int)(h0:(k==1)=false)(h1:(k==2)=false)(h2:(k==3)=false)(h3:(k==4)=false)(h4:(k==5)=false)(h5:(k==11)=false)(h6:(k==12)=false)(h7:(k==13)=false)(h8:(k==14)=false)(h9:(k==6)=false)(h10:(k==7)=false)(h11:(k==8)=false)(h12:(k==10)=false)(h13:(k==9)=true):(3:Int)=(aG k):=by
 simp only[beq_iff_eq,beq_eq_false_iff_ne] at *;unfold aG;(repeat' split)<;>omega
theorem oE (k:Int)(h0:(k==1)=false)(h1:(k==2)=false)(h2:(k==3)=false)(h3:(k==4)=false)(h4:(k==5)=false)(h5:(k==11)=false)(h6:(k==12)=false)(h7:(k==13)=false)(h8:(k==14)=false)(h9:(k==6)=false)(h10:(k==7)=false)(h11:(k==8)=false)(h12:(k==10)=false)(h13:(k==9)=false):(-1:Int)=(aG k):=by
 simp only[beq_iff_eq,beq_eq_false_iff_ne] at *;unfold aG;(repeat' split)<;>omega
theorem gd (k:Int)(n:Nat)(h0:(k==0)=true):((n:Int)==0:Bool)=(noneB k n):=by
 simp_all [noneB]
theorem ge (k:Int)(n:Nat)(h0:(k==0)=false):(false:Bool)=(noneB k n):=by
 simp_all [noneB]
theorem iy (k:Int)(n:Nat)(h0:(k==0)=true):((n:Int)==0:Bool)=(noneB k n):=by
 simp_all [noneB]
theorem iz (k:Int)(n:Nat)(h0:(k==0)=false):(false:Bool)=(noneB k n):=by
 simp_all [noneB]
theorem tU (w:World):Calls Tryz.prog 93 #[.int .i64 1] w fun e w'=>e = .returned (.int .i64 (0))∧Below w.heap.size w w':=by
 obtain⟨rr,hrr⟩ : ∃rr0:Int,(0)=rr0:=⟨_,rfl⟩
 rw[hrr];have HT:=zq hrr;clear hrr
 go_enter Tryz.func93,Tryz.ntmps93
 go_wp2_with fail
 refine(be 1 1 14 _).mono ?_;rintro e w1 ⟨rfl,hb1⟩;rw[show aC (1) (1) (14)=true from by decide];have hB:=(al (Below.refl _ _) hb1)
 have zw1:=hB.size
 go_wp2_with fail
 refine bodyPost_ret (v:=.int .i64 (0)) (by simp[results,Tryz.results93,go_sem,bne]) rfl ?_
 exact⟨bc ((so ).trans HT.out),(hB.alloc hB.size _)⟩
theorem tV (w:World):Calls Tryz.prog 93 #[.int .i64 2] w fun e w'=>e = .returned (.int .i64 (0))∧Below w.heap.size w w':=by
 obtain⟨rr,hrr⟩ : ∃rr0:Int,(0)=rr0:=⟨_,rfl⟩
 rw[hrr];have HT:=zq hrr;clear hrr
 go_enter Tryz.func93,Tryz.ntmps93
 go_wp2_with fail
 refine(be 2 1 14 _).mono ?_;rintro e w1 ⟨rfl,hb1⟩;rw[show aC (2) (1) (14)=true from by decide];have hB:=(al (Below.refl _ _) hb1)
 have zw1:=hB.size
 go_wp2_with fail
 refine bodyPost_ret (v:=.int .i64 (0)) (by simp[results,Tryz.results93,go_sem,bne]) rfl ?_
 exact⟨bc ((sp ).trans HT.out),(hB.alloc hB.size _)⟩
theorem tW (w:World):Calls Tryz.prog 93 #[.int .i64 3] w fun e w'=>e = .returned (.int .i64 (0))∧Below w.heap.size w w':=by
 obtain⟨rr,hrr⟩ : ∃rr0:Int,(0)=rr0:=⟨_,rfl⟩
 rw[hrr];have HT:=zq hrr;clear hrr
 go_enter Tryz.func93,Tryz.ntmps93
 go_wp2_with fail
 refine(be 3 1 14 _).mono ?_;rintro e w1 ⟨rfl,hb1⟩;rw[show aC (3) (1) (14)=true from by decide];have hB:=(al (Below.refl _ _) hb1)
 have zw1:=hB.size
 go_wp2_with fail
 refine bodyPost_ret (v:=.int .i64 (0)) (by simp[results,Tryz.results93,go_sem,bne]) rfl ?_
 exact⟨bc ((sw ).trans HT.out),(hB.alloc hB.size _)⟩
theorem tX (w:World):Calls Tryz.prog 93 #[.int .i64 4] w fun e w'=>e = .returned (.int .i64 (0))∧Below w.heap.size w w':=by
 obtain⟨rr,hrr⟩ : ∃rr0:Int,(0)=rr0:=⟨_,rfl⟩
 rw[hrr];have HT:=zq hrr;clear hrr
 go_enter Tryz.func93,Tryz.ntmps93
 go_wp2_with fail
 refine(be 4 1 14 _).mono ?_;rintro e w1 ⟨rfl,hb1⟩;rw[show aC (4) (1) (14)=true from by decide];have hB:=(al (Below.refl _ _) hb1)
 have zw1:=hB.size
 go_wp2_with fail
 refine bodyPost_ret (v:=.int .i64 (0)) (by simp[results,Tryz.results93,go_sem,bne]) rfl ?_
 exact⟨bc ((sx ).trans HT.out),(hB.alloc hB.size _)⟩
theorem tY (w:World):Calls Tryz.prog 93 #[.int .i64 5] w fun e w'=>e = .returned (.int .i64 (1))∧Below w.heap.size w w':=by
 obtain⟨rr,hrr⟩ : ∃rr0:Int,(1)=rr0:=⟨_,rfl⟩
 rw[hrr];have HT:=zq hrr;clear hrr
 go_enter Tryz.func93,Tryz.ntmps93
 go_wp2_with fail
 refine(be 5 1 14 _).mono ?_;rintro e w1 ⟨rfl,hb1⟩;rw[show aC (5) (1) (14)=true from by decide];have hB:=(al (Below.refl _ _) hb1)
 have zw1:=hB.size
 go_wp2_with fail
 refine bodyPost_ret (v:=.int .i64 (1)) (by simp[results,Tryz.results93,go_sem,bne]) rfl ?_
 exact⟨bc ((sA ).trans HT.out),(hB.alloc hB.size _)⟩
theorem tZ (w:World):Calls Tryz.prog 93 #[.int .i64 6] w fun e w'=>e = .returned (.int .i64 (2))∧Below w.heap.size w w':=by
 obtain⟨rr,hrr⟩ : ∃rr0:Int,(2)=rr0:=⟨_,rfl⟩
 rw[hrr];have HT:=zq hrr;clear hrr
 go_enter Tryz.func93,Tryz.ntmps93
 go_wp2_with fail
 refine(be 6 1 14 _).mono ?_;rintro e w1 ⟨rfl,hb1⟩;rw[show aC (6) (1) (14)=true from by decide];have hB:=(al (Below.refl _ _) hb1)
 have zw1:=hB.size
 go_wp2_with fail
 refine bodyPost_ret (v:=.int .i64 (2)) (by simp[results,Tryz.results93,go_sem,bne]) rfl ?_
 exact⟨bc ((sB ).trans HT.out),(hB.alloc hB.size _)⟩
theorem u9 (w:World):Calls Tryz.prog 93 #[.int .i64 7] w fun e w'=>e = .returned (.int .i64 (2))∧Below w.heap.size w w':=by
 obtain⟨rr,hrr⟩ : ∃rr0:Int,(2)=rr0:=⟨_,rfl⟩
 rw[hrr];have HT:=zq hrr;clear hrr
 go_enter Tryz.func93,Tryz.ntmps93
 go_wp2_with fail
 refine(be 7 1 14 _).mono ?_;rintro e w1 ⟨rfl,hb1⟩;rw[show aC (7) (1) (14)=true from by decide];have hB:=(al (Below.refl _ _) hb1)
 have zw1:=hB.size
 go_wp2_with fail
 refine bodyPost_ret (v:=.int .i64 (2)) (by simp[results,Tryz.results93,go_sem,bne]) rfl ?_
 exact⟨bc ((sC ).trans HT.out),(hB.alloc hB.size _)⟩
theorem ub (w:World):Calls Tryz.prog 93 #[.int .i64 8] w fun e w'=>e = .returned (.int .i64 (2))∧Below w.heap.size w w':=by
 obtain⟨rr,hrr⟩ : ∃rr0:Int,(2)=rr0:=⟨_,rfl⟩
 rw[hrr];have HT:=zq hrr;clear hrr
 go_enter Tryz.func93,Tryz.ntmps93
 go_wp2_with fail
 refine(be 8 1 14 _).mono ?_;rintro e w1 ⟨rfl,hb1⟩;rw[show aC (8) (1) (14)=true from by decide];have hB:=(al (Below.refl _ _) hb1)
 have zw1:=hB.size
 go_wp2_with fail
 refine bodyPost_ret (v:=.int .i64 (2)) (by simp[results,Tryz.results93,go_sem,bne]) rfl ?_
 exact⟨bc ((sD ).trans HT.out),(hB.alloc hB.size _)⟩
theorem uc (w:World):Calls Tryz.prog 93 #[.int .i64 9] w fun e w'=>e = .returned (.int .i64 (3))∧Below w.heap.size w w':=by
 obtain⟨rr,hrr⟩ : ∃rr0:Int,(3)=rr0:=⟨_,rfl⟩
 rw[hrr];have HT:=zq hrr;clear hrr
 go_enter Tryz.func93,Tryz.ntmps93
 go_wp2_with fail
 refine(be 9 1 14 _).mono ?_;rintro e w1 ⟨rfl,hb1⟩;rw[show aC (9) (1) (14)=true from by decide];have hB:=(al (Below.refl _ _) hb1)
 have zw1:=hB.size
 go_wp2_with fail
 refine bodyPost_ret (v:=.int .i64 (3)) (by simp[results,Tryz.results93,go_sem,bne]) rfl ?_
 exact⟨bc ((sE ).trans HT.out),(hB.alloc hB.size _)⟩
theorem tz (w:World):Calls Tryz.prog 93 #[.int .i64 10] w fun e w'=>e = .returned (.int .i64 (2))∧Below w.heap.size w w':=by
 obtain⟨rr,hrr⟩ : ∃rr0:Int,(2)=rr0:=⟨_,rfl⟩
 rw[hrr];have HT:=zq hrr;clear hrr
 go_enter Tryz.func93,Tryz.ntmps93
 go_wp2_with fail
 refine(be 10 1 14 _).mono ?_;rintro e w1 ⟨rfl,hb1⟩;rw[show aC (10) (1) (14)=true from by decide];have hB:=(al (Below.refl _ _) hb1)
 have zw1:=hB.size
 go_wp2_with fail
 refine bodyPost_ret (v:=.int .i64 (2)) (by simp[results,Tryz.results93,go_sem,bne]) rfl ?_
 exact⟨bc ((sF ).trans HT.out),(hB.alloc hB.size _)⟩
theorem tA (w:World):Calls Tryz.prog 93 #[.int .i64 11] w fun e w'=>e = .returned (.int .i64 (1))∧Below w.heap.size w w':=by
 obtain⟨rr,hrr⟩ : ∃rr0:Int,(1)=rr0:=⟨_,rfl⟩
 rw[hrr];have HT:=zq hrr;clear hrr
 go_enter Tryz.func93,Tryz.ntmps93
 go_wp2_with fail
 refine(be 11 1 14 _).mono ?_;rintro e w1 ⟨rfl,hb1⟩;rw[show aC (11) (1) (14)=true from by decide];have hB:=(al (Below.refl _ _) hb1)
 have zw1:=hB.size
 go_wp2_with fail
 refine bodyPost_ret (v:=.int .i64 (1)) (by simp[results,Tryz.results93,go_sem,bne]) rfl ?_
 exact⟨bc ((oM ).trans HT.out),(hB.alloc hB.size _)⟩
theorem tB (w:World):Calls Tryz.prog 93 #[.int .i64 12] w fun e w'=>e = .returned (.int .i64 (1))∧Below w.heap.size w w':=by
 obtain⟨rr,hrr⟩ : ∃rr0:Int,(1)=rr0:=⟨_,rfl⟩
 rw[hrr];have HT:=zq hrr;clear hrr
 go_enter Tryz.func93,Tryz.ntmps93
 go_wp2_with fail
 refine(be 12 1 14 _).mono ?_;rintro e w1 ⟨rfl,hb1⟩;rw[show aC (12) (1) (14)=true from by decide];have hB:=(al (Below.refl _ _) hb1)
 have zw1:=hB.size
 go_wp2_with fail
 refine bodyPost_ret (v:=.int .i64 (1)) (by simp[results,Tryz.results93,go_sem,bne]) rfl ?_
 exact⟨bc ((oN ).trans HT.out),(hB.alloc hB.size _)⟩
theorem tC (w:World):Calls Tryz.prog 93 #[.int .i64 13] w fun e w'=>e = .returned (.int .i64 (1))∧Below w.heap.size w w':=by
 obtain⟨rr,hrr⟩ : ∃rr0:Int,(1)=rr0:=⟨_,rfl⟩
 rw[hrr];have HT:=zq hrr;clear hrr
 go_enter Tryz.func93,Tryz.ntmps93
 go_wp2_with fail
 refine(be 13 1 14 _).mono ?_;rintro e w1 ⟨rfl,hb1⟩;rw[show aC (13) (1) (14)=true from by decide];have hB:=(al (Below.refl _ _) hb1)
 have zw1:=hB.size
 go_wp2_with fail
 refine bodyPost_ret (v:=.int .i64 (1)) (by simp[results,Tryz.results93,go_sem,bne]) rfl ?_
 exact⟨bc ((oO ).trans HT.out),(hB.alloc hB.size _)⟩
theorem tD (w:World):Calls Tryz.prog 93 #[.int .i64 14] w fun e w'=>e = .returned (.int .i64 (1))∧Below w.heap.size w w':=by
 obtain⟨rr,hrr⟩ : ∃rr0:Int,(1)=rr0:=⟨_,rfl⟩
 rw[hrr];have HT:=zq hrr;clear hrr
 go_enter Tryz.func93,Tryz.ntmps93
 go_wp2_with fail
 refine(be 14 1 14 _).mono ?_;rintro e w1 ⟨rfl,hb1⟩;rw[show aC (14) (1) (14)=true from by decide];have hB:=(al (Below.refl _ _) hb1)
 have zw1:=hB.size
 go_wp2_with fail
 refine bodyPost_ret (v:=.int .i64 (1)) (by simp[results,Tryz.results93,go_sem,bne]) rfl ?_
 exact⟨bc ((oP ).trans HT.out),(hB.alloc hB.size _)⟩
theorem cS (k:Int)(w:World):Calls Tryz.prog 93 #[.int .i64 k] w fun e w'=>e = .returned (.int .i64 (aG k))∧Below w.heap.size w w':=by
 by_cases h:k=1∨k=2∨k=3∨k=4∨k=5∨k=6∨k=7∨k=8∨k=9∨k=10∨k=11∨k=12∨k=13∨k=14
 ·rcases h with rfl | rfl | rfl | rfl | rfl | rfl | rfl | rfl | rfl | rfl | rfl | rfl | rfl | rfl
  ·exact tU w
  ·exact tV w
  ·exact tW w
  ·exact tX w
  ·exact tY w
  ·exact tZ w
  ·exact u9 w
  ·exact ub w
  ·exact uc w
  ·exact tz w
  ·exact tA w
  ·exact tB w
  ·exact tC w
  ·exact tD w
 ·have hw:aC k 1 14=false:=by unfold aC;simp;omega
  have hc:aG k = -1:=by unfold aG;rw[if_neg (by omega),if_neg (by omega),if_neg (by omega),if_neg (by omega)]
  have HW:=zq hw;have HC:=zq hc;clear hw hc h
  go_enter Tryz.func93,Tryz.ntmps93
  go_wp2_with fail
  refine(be k 1 14 _).mono ?_;rintro e w1 ⟨rfl,hb1⟩;rw[HW.out]
  go_wp2_with fail
  go_ret
  exact⟨bc HC.out.symm,hb1⟩
theorem cB (k:Int)(w:World):Calls Tryz.prog 76 #[.int .i64 k] w fun e w'=>e = .returned (.int .i64 (aG k))∧Below w.heap.size w w':=by
 obtain⟨rr,hrr⟩ : ∃rr0:Int,(aG k)=rr0:=⟨_,rfl⟩
 rw[hrr];have HT:=zq hrr;clear hrr
 go_enter Tryz.func76,Tryz.ntmps76
 rcases Bool.eq_false_or_eq_true (k==1) with q1 | q1
 ·(try rw[q1])
  have nq1:(k != 1)=false:=by simp only[bne,q1];rfl
  go_wp2_with fail
  refine bodyPost_ret (v:=.int .i64 (0)) (by simp[results,Tryz.results76,go_sem,bne]) rfl ?_
  exact⟨bc ((ol k q1).trans HT.out),(Below.refl _ _)⟩
 ·(try rw[q1])
  have nq1:(k != 1)=true:=by simp only[bne,q1];rfl
  rcases Bool.eq_false_or_eq_true (k==2) with q2 | q2
  ·(try rw[q2])
   have nq2:(k != 2)=false:=by simp only[bne,q2];rfl
   go_wp2_with fail
   refine bodyPost_ret (v:=.int .i64 (0)) (by simp[results,Tryz.results76,go_sem,bne]) rfl ?_
   exact⟨bc ((om k q1 q2).trans HT.out),(Below.refl _ _)⟩
  ·(try rw[q2])
   have nq2:(k != 2)=true:=by simp only[bne,q2];rfl
   rcases Bool.eq_false_or_eq_true (k==3) with q3 | q3
   ·(try rw[q3])
    have nq3:(k != 3)=false:=by simp only[bne,q3];rfl
    go_wp2_with fail
    refine bodyPost_ret (v:=.int .i64 (0)) (by simp[results,Tryz.results76,go_sem,bne]) rfl ?_
    exact⟨bc ((on k q1 q2 q3).trans HT.out),(Below.refl _ _)⟩
   ·(try rw[q3])
    have nq3:(k != 3)=true:=by simp only[bne,q3];rfl
    rcases Bool.eq_false_or_eq_true (k==4) with q4 | q4
    ·(try rw[q4])
     have nq4:(k != 4)=false:=by simp only[bne,q4];rfl
     go_wp2_with fail
     refine bodyPost_ret (v:=.int .i64 (0)) (by simp[results,Tryz.results76,go_sem,bne]) rfl ?_
     exact⟨bc ((oo k q1 q2 q3 q4).trans HT.out),(Below.refl _ _)⟩
    ·(try rw[q4])
     have nq4:(k != 4)=true:=by simp only[bne,q4];rfl
     rcases Bool.eq_false_or_eq_true (k==5) with q5 | q5
     ·(try rw[q5])
      have nq5:(k != 5)=false:=by simp only[bne,q5];rfl
      go_wp2_with fail
      refine bodyPost_ret (v:=.int .i64 (1)) (by simp[results,Tryz.results76,go_sem,bne]) rfl ?_
      exact⟨bc ((oq k q1 q2 q3 q4 q5).trans HT.out),(Below.refl _ _)⟩
     ·(try rw[q5])
      have nq5:(k != 5)=true:=by simp only[bne,q5];rfl
      rcases Bool.eq_false_or_eq_true (k==11) with q6 | q6
      ·(try rw[q6])
       have nq6:(k != 11)=false:=by simp only[bne,q6];rfl
       go_wp2_with fail
       refine bodyPost_ret (v:=.int .i64 (1)) (by simp[results,Tryz.results76,go_sem,bne]) rfl ?_
       exact⟨bc ((ot k q1 q2 q3 q4 q5 q6).trans HT.out),(Below.refl _ _)⟩
      ·(try rw[q6])
       have nq6:(k != 11)=true:=by simp only[bne,q6];rfl
       rcases Bool.eq_false_or_eq_true (k==12) with q7 | q7
       ·(try rw[q7])
        have nq7:(k != 12)=false:=by simp only[bne,q7];rfl
        go_wp2_with fail
        refine bodyPost_ret (v:=.int .i64 (1)) (by simp[results,Tryz.results76,go_sem,bne]) rfl ?_
        exact⟨bc ((ou k q1 q2 q3 q4 q5 q6 q7).trans HT.out),(Below.refl _ _)⟩
       ·(try rw[q7])
        have nq7:(k != 12)=true:=by simp only[bne,q7];rfl
        rcases Bool.eq_false_or_eq_true (k==13) with q8 | q8
        ·(try rw[q8])
         have nq8:(k != 13)=false:=by simp only[bne,q8];rfl
         go_wp2_with fail
         refine bodyPost_ret (v:=.int .i64 (1)) (by simp[results,Tryz.results76,go_sem,bne]) rfl ?_
         exact⟨bc ((ox k q1 q2 q3 q4 q5 q6 q7 q8).trans HT.out),(Below.refl _ _)⟩
        ·(try rw[q8])
         have nq8:(k != 13)=true:=by simp only[bne,q8];rfl
         rcases Bool.eq_false_or_eq_true (k==14) with q9 | q9
         ·(try rw[q9])
          have nq9:(k != 14)=false:=by simp only[bne,q9];rfl
          go_wp2_with fail
          refine bodyPost_ret (v:=.int .i64 (1)) (by simp[results,Tryz.results76,go_sem,bne]) rfl ?_
          exact⟨bc ((oy k q1 q2 q3 q4 q5 q6 q7 q8 q9).trans HT.out),(Below.refl _ _)⟩
         ·(try rw[q9])
          have nq9:(k != 14)=true:=by simp only[bne,q9];rfl
          rcases Bool.eq_false_or_eq_true (k==6) with q10 | q10
          ·(try rw[q10])
           have nq10:(k != 6)=false:=by simp only[bne,q10];rfl
           go_wp2_with fail
           refine bodyPost_ret (v:=.int .i64 (2)) (by simp[results,Tryz.results76,go_sem,bne]) rfl ?_
           exact⟨bc ((oz k q1 q2 q3 q4 q5 q6 q7 q8 q9 q10).trans HT.out),(Below.refl _ _)⟩
          ·(try rw[q10])
           have nq10:(k != 6)=true:=by simp only[bne,q10];rfl
           rcases Bool.eq_false_or_eq_true (k==7) with q11 | q11
           ·(try rw[q11])
            have nq11:(k != 7)=false:=by simp only[bne,q11];rfl
            go_wp2_with fail
            refine bodyPost_ret (v:=.int .i64 (2)) (by simp[results,Tryz.results76,go_sem,bne]) rfl ?_
            exact⟨bc ((oA k q1 q2 q3 q4 q5 q6 q7 q8 q9 q10 q11).trans HT.out),(Below.refl _ _)⟩
           ·(try rw[q11])
            have nq11:(k != 7)=true:=by simp only[bne,q11];rfl
            rcases Bool.eq_false_or_eq_true (k==8) with q12 | q12
            ·(try rw[q12])
             have nq12:(k != 8)=false:=by simp only[bne,q12];rfl
             go_wp2_with fail
             refine bodyPost_ret (v:=.int .i64 (2)) (by simp[results,Tryz.results76,go_sem,bne]) rfl ?_
             exact⟨bc ((oB k q1 q2 q3 q4 q5 q6 q7 q8 q9 q10 q11 q12).trans HT.out),(Below.refl _ _)⟩
            ·(try rw[q12])
             have nq12:(k != 8)=true:=by simp only[bne,q12];rfl
             rcases Bool.eq_false_or_eq_true (k==10) with q13 | q13
             ·(try rw[q13])
              have nq13:(k != 10)=false:=by simp only[bne,q13];rfl
              go_wp2_with fail
              refine bodyPost_ret (v:=.int .i64 (2)) (by simp[results,Tryz.results76,go_sem,bne]) rfl ?_
              exact⟨bc ((oC k q1 q2 q3 q4 q5 q6 q7 q8 q9 q10 q11 q12 q13).trans HT.out),(Below.refl _ _)⟩
             ·(try rw[q13])
              have nq13:(k != 10)=true:=by simp only[bne,q13];rfl
              rcases Bool.eq_false_or_eq_true (k==9) with q14 | q14
              ·(try rw[q14])
               have nq14:(k != 9)=false:=by simp only[bne,q14];rfl
               go_wp2_with fail
               refine bodyPost_ret (v:=.int .i64 (3)) (by simp[results,Tryz.results76,go_sem,bne]) rfl ?_
               exact⟨bc ((oD k q1 q2 q3 q4 q5 q6 q7 q8 q9 q10 q11 q12 q13 q14).trans HT.out),(Below.refl _ _)⟩
              ·(try rw[q14])
               have nq14:(k != 9)=true:=by simp only[bne,q14];rfl
               go_wp2_with fail
               refine bodyPost_ret (v:=.int .i64 (-1)) (by simp[results,Tryz.results76,go_sem,bne]) rfl ?_
               exact⟨bc ((oE k q1 q2 q3 q4 q5 q6 q7 q8 q9 q10 q11 q12 q13 q14).trans HT.out),(Below.refl _ _)⟩
theorem ij (k:Int)(a:Option Addr)(n q:Nat)(w:World):Calls Tryz.prog 96 #[.agg #[.int .i64 k,.slice a n q]] w fun e w'=>e = .returned (.bool (noneB k n))∧Below w.heap.size w w':=by
 obtain⟨rr,hrr⟩ : ∃rr0:Bool,(noneB k n)=rr0:=⟨_,rfl⟩
 rw[hrr];have HT:=zq hrr;clear hrr
 go_enter Tryz.func96,Tryz.ntmps96
 rcases Bool.eq_false_or_eq_true (k==0) with q1 | q1
 ·skip
  have nq1:(k != 0)=false:=by simp only[bne,q1];rfl
  go_wp2_with fail
  refine bodyPost_ret (v:=.bool ((n:Int)==0)) (by simp[results,Tryz.results96,go_sem,bne]) rfl ?_
  exact⟨ax ((gd k n q1).trans HT.out),aj⟩
 ·skip
  have nq1:(k != 0)=true:=by simp only[bne,q1];rfl
  go_wp2_with fail
  refine bodyPost_ret (v:=.bool (false)) (by simp[results,Tryz.results96,go_sem,bne]) rfl ?_
  exact⟨ax ((ge k n q1).trans HT.out),aj⟩
theorem l7 (k:Int)(a:Option Addr)(n q:Nat)(w:World):Calls Tryz.prog 106 #[.agg #[.int .i64 k,.slice a n q]] w fun e w'=>e = .returned (.bool (noneB k n))∧Below w.heap.size w w':=by
 obtain⟨rr,hrr⟩ : ∃rr0:Bool,(noneB k n)=rr0:=⟨_,rfl⟩
 rw[hrr];have HT:=zq hrr;clear hrr
 go_enter Tryz.func106,Tryz.ntmps106
 rcases Bool.eq_false_or_eq_true (k==0) with q1 | q1
 ·skip
  have nq1:(k != 0)=false:=by simp only[bne,q1];rfl
  go_wp2_with fail
  refine bodyPost_ret (v:=.bool ((n:Int)==0)) (by simp[results,Tryz.results106,go_sem,bne]) rfl ?_
  exact⟨ax ((iy k n q1).trans HT.out),aj⟩
 ·skip
  have nq1:(k != 0)=true:=by simp only[bne,q1];rfl
  go_wp2_with fail
  refine bodyPost_ret (v:=.bool (false)) (by simp[results,Tryz.results106,go_sem,bne]) rfl ?_
  exact⟨ax ((iz k n q1).trans HT.out),aj⟩
theorem jO (s:ByteArray)(w:World):Calls Tryz.prog 94 #[.string s] w fun e w'=>e = .returned (.bool (aO s))∧Below w.heap.size w w':=(t8 s w).mono fun e w' h=>⟨h.1,h.2▸Below.refl _ _⟩
theorem bF (s:ByteArray)(w:World):Calls Tryz.prog 105 #[.string s] w fun e w'=>e = .returned (.bool (aO s))∧Below w.heap.size w w':=(l6 s w).mono fun e w' h=>⟨h.1,h.2▸Below.refl _ _⟩
theorem b9 {s:ByteArray}(h:(s.toList == [])=true):aO s=false:=by
 have h1:s.toList = []:=by simpa using h
 rw[Go.ByteArray.toList_eq] at h1;refine jX ?_;intro h2;have:s.data.toList.length=0:=by rw[h1];rfl
 have:s.size=0:=by simpa using this
 omega
end Go.Proofs.YtfahhonmiimmdaaGreat

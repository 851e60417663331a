/- How many operands a kind of terms has; types that are the zero value. And what else its parts name. -/
import Derived.Test.YtfahhonmiimmdaaGreatB8
import Derived.Laws.Strings
set_option linter.unusedSimpArgs false
set_option linter.unusedVariables false
set_option maxRecDepth 100000
set_option maxHeartbeats 16000000
namespace Go.Proofs.YtfahhonmiimmdaaGreat
open Go.RowKit
def aD (k:Int):Int:=if k=1∨k=2∨k=3∨k=4 then 0 else if k=5∨k=11∨k=12∨k=13∨k=14 then 1 else if k=6∨k=7∨k=8∨k=10 then 2 else if k=9 then 3 else -1
def noneB (k:Int)(n:Nat):Bool:=k==0&&(n:Int)==0
def Ty.noneB (t:Ty):Bool:=Go.Proofs.YtfahhonmiimmdaaGreat.noneB t.kind t.kids.length
theorem tH  : (0:Int)=(0):=by
 rfl
theorem tI  : (0:Int)=(0):=by
 rfl
theorem tJ  : (0:Int)=(0):=by
 rfl
theorem tK  : (0:Int)=(0):=by
 rfl
theorem tL  : (1:Int)=(1):=by
 rfl
theorem tM  : (2:Int)=(2):=by
 rfl
theorem tN  : (2:Int)=(2):=by
 rfl
theorem tO  : (2:Int)=(2):=by
 rfl
theorem tP  : (3:Int)=(3):=by
 rfl
theorem tQ  : (2:Int)=(2):=by
 rfl
theorem pE  : (1:Int)=(1):=by
 rfl
theorem pF  : (1:Int)=(1):=by
 rfl
theorem pG  : (1:Int)=(1):=by
 rfl
theorem pH  : (1:Int)=(1):=by
 rfl
theorem pe (k:Int)(h0:(k==1)=true):(0:Int)=(aD k):=by
 simp only[beq_iff_eq,beq_eq_false_iff_ne] at *;unfold aD;(repeat' split)<;>omega
theorem pf (k:Int)(h0:(k==1)=false)(h1:(k==2)=true):(0:Int)=(aD k):=by
 simp only[beq_iff_eq,beq_eq_false_iff_ne] at *;unfold aD;(repeat' split)<;>omega
theorem pg (k:Int)(h0:(k==1)=false)(h1:(k==2)=false)(h2:(k==3)=true):(0:Int)=(aD k):=by
 simp only[beq_iff_eq,beq_eq_false_iff_ne] at *;unfold aD;(repeat' split)<;>omega
theorem ph (k:Int)(h0:(k==1)=false)(h1:(k==2)=false)(h2:(k==3)=false)(h3:(k==4)=true):(0:Int)=(aD k):=by
 simp only[beq_iff_eq,beq_eq_false_iff_ne] at *;unfold aD;(repeat' split)<;>omega
theorem pi (k:Int)(h0:(k==1)=false)(h1:(k==2)=false)(h2:(k==3)=false)(h3:(k==4)=false)(h4:(k==5)=true):(1:Int)=(aD k):=by
 simp only[beq_iff_eq,beq_eq_false_iff_ne] at *;unfold aD;(repeat' split)<;>omega
theorem pj (k:Int)(h0:(k==1)=false)(h1:(k==2)=false)(h2:(k==3)=false)(h3:(k==4)=false)(h4:(k==5)=false)(h5:(k==11)=true):(1:Int)=(aD k):=by
 simp only[beq_iff_eq,beq_eq_false_iff_ne] at *;unfold aD;(repeat' split)<;>omega
theorem pl (k:Int)(h0:(k==1)=false)(h1:(k==2)=false)(h2:(k==3)=false)(h3:(k==4)=false)(h4:(k==5)=false)(h5:(k==11)=false)(h6:(k==12)=true):(1:Int)=(aD k):=by
 simp only[beq_iff_eq,beq_eq_false_iff_ne] at *;unfold aD;(repeat' split)<;>omega
theorem pm (k:Int)(h0:(k==1)=false)(h1:(k==2)=false)(h2:(k==3)=false)(h3:(k==4)=false)(h4:(k==5)=false)(h5:(k==11)=false)(h6:(k==12)=false)(h7:(k==13)=true):(1:Int)=(aD k):=by
 simp only[beq_iff_eq,beq_eq_false_iff_ne] at *;unfold aD;(repeat' split)<;>omega
theorem pn (k:Int)(h0:(k==1)=false)(h1:(k==2)=false)(h2:(k==3)=false)(h3:(k==4)=false)(h4:(k==5)=false)(h5:(k==11)=false)(h6:(k==12)=false)(h7:(k==13)=false)(h8:(k==14)=true):(1:Int)=(aD k):=by
 simp only[beq_iff_eq,beq_eq_false_iff_ne] at *;unfold aD;(repeat' split)<;>omega
theorem po (k:Int)(h0:(k==1)=false)(h1:(k==2)=false)(h2:(k==3)=false)(h3:(k==4)=false)(h4:(k==5)=false)(h5:(k==11)=false)(h6:(k==12)=false)(h7:(k==13)=false)(h8:(k==14)=false)(h9:(k==6)=true):(2:Int)=(aD k):=by
 simp only[beq_iff_eq,beq_eq_false_iff_ne] at *;unfold aD;(repeat' split)<;>omega
theorem pp (k:Int)(h0:(k==1)=false)(h1:(k==2)=false)(h2:(k==3)=false)(h3:(k==4)=false)(h4:(k==5)=false)(h5:(k==11)=false)(h6:(k==12)=false)(h7:(k==13)=false)(h8:(k==14)=false)(h9:(k==6)=false)(h10:(k==7)=true):(2:Int)=(aD k):=by
 simp only[beq_iff_eq,beq_eq_false_iff_ne] at *;unfold aD;(repeat' split)<;>omega
theorem pq (k:Int)(h0:(k==1)=false)(h1:(k==2)=false)(h2:(k==3)=false)(h3:(k==4)=false)(h4:(k==5)=false)(h5:(k==11)=false)(h6:(k==12)=false)(h7:(k==13)=false)(h8:(k==14)=false)(h9:(k==6)=false)(h10:(k==7)=false)(h11:(k==8)=true):(2:Int)=(aD k):=by
 simp only[beq_iff_eq,beq_eq_false_iff_ne] at *;unfold aD;(repeat' split)<;>omega
theorem pt (k:Int)(h0:(k==1)=false)(h1:(k==2)=false)(h2:(k==3)=false)(h3:(k==4)=false)(h4:(k==5)=false)(h5:(k==11)=false)(h6:(k==12)=false)(h7:(k==13)=false)(h8:(k==14)=false)(h9:(k==6)=false)(h10:(k==7)=false)(h11:(k==8)=false)(h12:(k==10)=true):(2:Int)=(aD k):=by
 simp only[beq_iff_eq,beq_eq_false_iff_ne] at *;unfold aD;(repeat' split)<;>omega
theorem pu (k:Int)(h0:(k==1)=false)(h1:(k==2)=false)(h2:(k==3)=false)(h3:(k==4)=false)(h4:(k==5)=false)(h5:(k==11)=false)(h6:(k==12)=false)(h7:(k==13)=false)(h8:(k==14)=false)(h9:(k==6)=false)(h10:(k==7)=false)(h11:(k==8)=false)(h12:(k==10)=false)(h13:(k==9)=true):(3:Int)=(aD k):=by
 simp only[beq_iff_eq,beq_eq_false_iff_ne] at *;unfold aD;(repeat' split)<;>omega
theorem pw (k:Int)(h0:(k==1)=false)(h1:(k==2)=false)(h2:(k==3)=false)(h3:(k==4)=false)(h4:(k==5)=false)(h5:(k==11)=false)(h6:(k==12)=false)(h7:(k==13)=false)(h8:(k==14)=false)(h9:(k==6)=false)(h10:(k==7)=false)(h11:(k==8)=false)(h12:(k==10)=false)(h13:(k==9)=false):(-1:Int)=(aD k):=by
 simp only[beq_iff_eq,beq_eq_false_iff_ne] at *;unfold aD;(repeat' split)<;>omega
theorem gO (k:Int)(n:Nat)(h0:(k==0)=true):((n:Int)==0:Bool)=(noneB k n):=by
 simp_all [noneB]
theorem gP (k:Int)(n:Nat)(h0:(k==0)=false):(false:Bool)=(noneB k n):=by
 simp_all [noneB]
theorem jb (k:Int)(n:Nat)(h0:(k==0)=true):((n:Int)==0:Bool)=(noneB k n):=by
 simp_all [noneB]
theorem jc (k:Int)(n:Nat)(h0:(k==0)=false):(false:Bool)=(noneB k n):=by
 simp_all [noneB]
theorem va (w:World):Calls Tryz.prog 93 #[.int .i64 1] w fun e w'=>e = .returned (.int .i64 (0))∧Below w.heap.size w w':=by
 obtain⟨rr,hrr⟩ : ∃rr0:Int,(0)=rr0:=⟨_,rfl⟩
 rw[hrr];have HT:=zq hrr;clear hrr
 go_enter Tryz.func93,Tryz.ntmps93
 go_wp2_with fail
 refine(b7 1 1 14 _).mono ?_;rintro e w1 ⟨rfl,hb1⟩;rw[show ay (1) (1) (14)=true from by decide];have hB:=(aj (Below.refl _ _) hb1)
 have zw1:=hB.size
 go_wp2_with fail
 refine bodyPost_ret (v:=.int .i64 (0)) (by simp[results,Tryz.results93,go_sem,bne]) rfl ?_
 exact⟨aY ((tH ).trans HT.out),(hB.alloc hB.size _)⟩
theorem vb (w:World):Calls Tryz.prog 93 #[.int .i64 2] w fun e w'=>e = .returned (.int .i64 (0))∧Below w.heap.size w w':=by
 obtain⟨rr,hrr⟩ : ∃rr0:Int,(0)=rr0:=⟨_,rfl⟩
 rw[hrr];have HT:=zq hrr;clear hrr
 go_enter Tryz.func93,Tryz.ntmps93
 go_wp2_with fail
 refine(b7 2 1 14 _).mono ?_;rintro e w1 ⟨rfl,hb1⟩;rw[show ay (2) (1) (14)=true from by decide];have hB:=(aj (Below.refl _ _) hb1)
 have zw1:=hB.size
 go_wp2_with fail
 refine bodyPost_ret (v:=.int .i64 (0)) (by simp[results,Tryz.results93,go_sem,bne]) rfl ?_
 exact⟨aY ((tI ).trans HT.out),(hB.alloc hB.size _)⟩
theorem vc (w:World):Calls Tryz.prog 93 #[.int .i64 3] w fun e w'=>e = .returned (.int .i64 (0))∧Below w.heap.size w w':=by
 obtain⟨rr,hrr⟩ : ∃rr0:Int,(0)=rr0:=⟨_,rfl⟩
 rw[hrr];have HT:=zq hrr;clear hrr
 go_enter Tryz.func93,Tryz.ntmps93
 go_wp2_with fail
 refine(b7 3 1 14 _).mono ?_;rintro e w1 ⟨rfl,hb1⟩;rw[show ay (3) (1) (14)=true from by decide];have hB:=(aj (Below.refl _ _) hb1)
 have zw1:=hB.size
 go_wp2_with fail
 refine bodyPost_ret (v:=.int .i64 (0)) (by simp[results,Tryz.results93,go_sem,bne]) rfl ?_
 exact⟨aY ((tJ ).trans HT.out),(hB.alloc hB.size _)⟩
theorem ve (w:World):Calls Tryz.prog 93 #[.int .i64 4] w fun e w'=>e = .returned (.int .i64 (0))∧Below w.heap.size w w':=by
 obtain⟨rr,hrr⟩ : ∃rr0:Int,(0)=rr0:=⟨_,rfl⟩
 rw[hrr];have HT:=zq hrr;clear hrr
 go_enter Tryz.func93,Tryz.ntmps93
 go_wp2_with fail
 refine(b7 4 1 14 _).mono ?_;rintro e w1 ⟨rfl,hb1⟩;rw[show ay (4) (1) (14)=true from by decide];have hB:=(aj (Below.refl _ _) hb1)
 have zw1:=hB.size
 go_wp2_with fail
 refine bodyPost_ret (v:=.int .i64 (0)) (by simp[results,Tryz.results93,go_sem,bne]) rfl ?_
 exact⟨aY ((tK ).trans HT.out),(hB.alloc hB.size _)⟩
theorem vf (w:World):Calls Tryz.prog 93 #[.int .i64 5] w fun e w'=>e = .returned (.int .i64 (1))∧Below w.heap.size w w':=by
 obtain⟨rr,hrr⟩ : ∃rr0:Int,(1)=rr0:=⟨_,rfl⟩
 rw[hrr];have HT:=zq hrr;clear hrr
 go_enter Tryz.func93,Tryz.ntmps93
 go_wp2_with fail
 refine(b7 5 1 14 _).mono ?_;rintro e w1 ⟨rfl,hb1⟩;rw[show ay (5) (1) (14)=true from by decide];have hB:=(aj (Below.refl _ _) hb1)
 have zw1:=hB.size
 go_wp2_with fail
 refine bodyPost_ret (v:=.int .i64 (1)) (by simp[results,Tryz.results93,go_sem,bne]) rfl ?_
 exact⟨aY ((tL ).trans HT.out),(hB.alloc hB.size _)⟩
theorem vg (w:World):Calls Tryz.prog 93 #[.int .i64 6] w fun e w'=>e = .returned (.int .i64 (2))∧Below w.heap.size w w':=by
 obtain⟨rr,hrr⟩ : ∃rr0:Int,(2)=rr0:=⟨_,rfl⟩
 rw[hrr];have HT:=zq hrr;clear hrr
 go_enter Tryz.func93,Tryz.ntmps93
 go_wp2_with fail
 refine(b7 6 1 14 _).mono ?_;rintro e w1 ⟨rfl,hb1⟩;rw[show ay (6) (1) (14)=true from by decide];have hB:=(aj (Below.refl _ _) hb1)
 have zw1:=hB.size
 go_wp2_with fail
 refine bodyPost_ret (v:=.int .i64 (2)) (by simp[results,Tryz.results93,go_sem,bne]) rfl ?_
 exact⟨aY ((tM ).trans HT.out),(hB.alloc hB.size _)⟩
theorem vh (w:World):Calls Tryz.prog 93 #[.int .i64 7] w fun e w'=>e = .returned (.int .i64 (2))∧Below w.heap.size w w':=by
 obtain⟨rr,hrr⟩ : ∃rr0:Int,(2)=rr0:=⟨_,rfl⟩
 rw[hrr];have HT:=zq hrr;clear hrr
 go_enter Tryz.func93,Tryz.ntmps93
 go_wp2_with fail
 refine(b7 7 1 14 _).mono ?_;rintro e w1 ⟨rfl,hb1⟩;rw[show ay (7) (1) (14)=true from by decide];have hB:=(aj (Below.refl _ _) hb1)
 have zw1:=hB.size
 go_wp2_with fail
 refine bodyPost_ret (v:=.int .i64 (2)) (by simp[results,Tryz.results93,go_sem,bne]) rfl ?_
 exact⟨aY ((tN ).trans HT.out),(hB.alloc hB.size _)⟩
theorem vi (w:World):Calls Tryz.prog 93 #[.int .i64 8] w fun e w'=>e = .returned (.int .i64 (2))∧Below w.heap.size w w':=by
 obtain⟨rr,hrr⟩ : ∃rr0:Int,(2)=rr0:=⟨_,rfl⟩
 rw[hrr];have HT:=zq hrr;clear hrr
 go_enter Tryz.func93,Tryz.ntmps93
 go_wp2_with fail
 refine(b7 8 1 14 _).mono ?_;rintro e w1 ⟨rfl,hb1⟩;rw[show ay (8) (1) (14)=true from by decide];have hB:=(aj (Below.refl _ _) hb1)
 have zw1:=hB.size
 go_wp2_with fail
 refine bodyPost_ret (v:=.int .i64 (2)) (by simp[results,Tryz.results93,go_sem,bne]) rfl ?_
 exact⟨aY ((tO ).trans HT.out),(hB.alloc hB.size _)⟩
theorem vj (w:World):Calls Tryz.prog 93 #[.int .i64 9] w fun e w'=>e = .returned (.int .i64 (3))∧Below w.heap.size w w':=by
 obtain⟨rr,hrr⟩ : ∃rr0:Int,(3)=rr0:=⟨_,rfl⟩
 rw[hrr];have HT:=zq hrr;clear hrr
 go_enter Tryz.func93,Tryz.ntmps93
 go_wp2_with fail
 refine(b7 9 1 14 _).mono ?_;rintro e w1 ⟨rfl,hb1⟩;rw[show ay (9) (1) (14)=true from by decide];have hB:=(aj (Below.refl _ _) hb1)
 have zw1:=hB.size
 go_wp2_with fail
 refine bodyPost_ret (v:=.int .i64 (3)) (by simp[results,Tryz.results93,go_sem,bne]) rfl ?_
 exact⟨aY ((tP ).trans HT.out),(hB.alloc hB.size _)⟩
theorem uH (w:World):Calls Tryz.prog 93 #[.int .i64 10] w fun e w'=>e = .returned (.int .i64 (2))∧Below w.heap.size w w':=by
 obtain⟨rr,hrr⟩ : ∃rr0:Int,(2)=rr0:=⟨_,rfl⟩
 rw[hrr];have HT:=zq hrr;clear hrr
 go_enter Tryz.func93,Tryz.ntmps93
 go_wp2_with fail
 refine(b7 10 1 14 _).mono ?_;rintro e w1 ⟨rfl,hb1⟩;rw[show ay (10) (1) (14)=true from by decide];have hB:=(aj (Below.refl _ _) hb1)
 have zw1:=hB.size
 go_wp2_with fail
 refine bodyPost_ret (v:=.int .i64 (2)) (by simp[results,Tryz.results93,go_sem,bne]) rfl ?_
 exact⟨aY ((tQ ).trans HT.out),(hB.alloc hB.size _)⟩
theorem uI (w:World):Calls Tryz.prog 93 #[.int .i64 11] w fun e w'=>e = .returned (.int .i64 (1))∧Below w.heap.size w w':=by
 obtain⟨rr,hrr⟩ : ∃rr0:Int,(1)=rr0:=⟨_,rfl⟩
 rw[hrr];have HT:=zq hrr;clear hrr
 go_enter Tryz.func93,Tryz.ntmps93
 go_wp2_with fail
 refine(b7 11 1 14 _).mono ?_;rintro e w1 ⟨rfl,hb1⟩;rw[show ay (11) (1) (14)=true from by decide];have hB:=(aj (Below.refl _ _) hb1)
 have zw1:=hB.size
 go_wp2_with fail
 refine bodyPost_ret (v:=.int .i64 (1)) (by simp[results,Tryz.results93,go_sem,bne]) rfl ?_
 exact⟨aY ((pE ).trans HT.out),(hB.alloc hB.size _)⟩
theorem uJ (w:World):Calls Tryz.prog 93 #[.int .i64 12] w fun e w'=>e = .returned (.int .i64 (1))∧Below w.heap.size w w':=by
 obtain⟨rr,hrr⟩ : ∃rr0:Int,(1)=rr0:=⟨_,rfl⟩
 rw[hrr];have HT:=zq hrr;clear hrr
 go_enter Tryz.func93,Tryz.ntmps93
 go_wp2_with fail
 refine(b7 12 1 14 _).mono ?_;rintro e w1 ⟨rfl,hb1⟩;rw[show ay (12) (1) (14)=true from by decide];have hB:=(aj (Below.refl _ _) hb1)
 have zw1:=hB.size
 go_wp2_with fail
 refine bodyPost_ret (v:=.int .i64 (1)) (by simp[results,Tryz.results93,go_sem,bne]) rfl ?_
 exact⟨aY ((pF ).trans HT.out),(hB.alloc hB.size _)⟩
theorem uK (w:World):Calls Tryz.prog 93 #[.int .i64 13] w fun e w'=>e = .returned (.int .i64 (1))∧Below w.heap.size w w':=by
 obtain⟨rr,hrr⟩ : ∃rr0:Int,(1)=rr0:=⟨_,rfl⟩
 rw[hrr];have HT:=zq hrr;clear hrr
 go_enter Tryz.func93,Tryz.ntmps93
 go_wp2_with fail
 refine(b7 13 1 14 _).mono ?_;rintro e w1 ⟨rfl,hb1⟩;rw[show ay (13) (1) (14)=true from by decide];have hB:=(aj (Below.refl _ _) hb1)
 have zw1:=hB.size
 go_wp2_with fail
 refine bodyPost_ret (v:=.int .i64 (1)) (by simp[results,Tryz.results93,go_sem,bne]) rfl ?_
 exact⟨aY ((pG ).trans HT.out),(hB.alloc hB.size _)⟩
theorem uL (w:World):Calls Tryz.prog 93 #[.int .i64 14] w fun e w'=>e = .returned (.int .i64 (1))∧Below w.heap.size w w':=by
 obtain⟨rr,hrr⟩ : ∃rr0:Int,(1)=rr0:=⟨_,rfl⟩
 rw[hrr];have HT:=zq hrr;clear hrr
 go_enter Tryz.func93,Tryz.ntmps93
 go_wp2_with fail
 refine(b7 14 1 14 _).mono ?_;rintro e w1 ⟨rfl,hb1⟩;rw[show ay (14) (1) (14)=true from by decide];have hB:=(aj (Below.refl _ _) hb1)
 have zw1:=hB.size
 go_wp2_with fail
 refine bodyPost_ret (v:=.int .i64 (1)) (by simp[results,Tryz.results93,go_sem,bne]) rfl ?_
 exact⟨aY ((pH ).trans HT.out),(hB.alloc hB.size _)⟩
theorem cW (k:Int)(w:World):Calls Tryz.prog 93 #[.int .i64 k] w fun e w'=>e = .returned (.int .i64 (aD k))∧Below w.heap.size w w':=by
 by_cases h:k=1∨k=2∨k=3∨k=4∨k=5∨k=6∨k=7∨k=8∨k=9∨k=10∨k=11∨k=12∨k=13∨k=14
 ·rcases h with rfl | rfl | rfl | rfl | rfl | rfl | rfl | rfl | rfl | rfl | rfl | rfl | rfl | rfl
  ·exact va w
  ·exact vb w
  ·exact vc w
  ·exact ve w
  ·exact vf w
  ·exact vg w
  ·exact vh w
  ·exact vi w
  ·exact vj w
  ·exact uH w
  ·exact uI w
  ·exact uJ w
  ·exact uK w
  ·exact uL w
 ·have hw:ay k 1 14=false:=by unfold ay;simp;omega
  have hc:aD k = -1:=by unfold aD;rw[if_neg (by omega),if_neg (by omega),if_neg (by omega),if_neg (by omega)]
  have HW:=zq hw;have HC:=zq hc;clear hw hc h
  go_enter Tryz.func93,Tryz.ntmps93
  go_wp2_with fail
  refine(b7 k 1 14 _).mono ?_;rintro e w1 ⟨rfl,hb1⟩;rw[HW.out]
  go_wp2_with fail
  go_ret
  exact⟨aY HC.out.symm,hb1⟩
theorem cD (k:Int)(w:World):Calls Tryz.prog 76 #[.int .i64 k] w fun e w'=>e = .returned (.int .i64 (aD k))∧Below w.heap.size w w':=by
 obtain⟨rr,hrr⟩ : ∃rr0:Int,(aD k)=rr0:=⟨_,rfl⟩
 rw[hrr];have HT:=zq hrr;clear hrr
 go_enter Tryz.func76,Tryz.ntmps76
 rcases Bool.eq_false_or_eq_true (k==1) with q1 | q1
 ·(try rw[q1])
  have nq1:(k != 1)=false:=by simp only[bne,q1];rfl
  go_wp2_with fail
  refine bodyPost_ret (v:=.int .i64 (0)) (by simp[results,Tryz.results76,go_sem,bne]) rfl ?_
  exact⟨aY ((pe k q1).trans HT.out),(Below.refl _ _)⟩
 ·(try rw[q1])
  have nq1:(k != 1)=true:=by simp only[bne,q1];rfl
  rcases Bool.eq_false_or_eq_true (k==2) with q2 | q2
  ·(try rw[q2])
   have nq2:(k != 2)=false:=by simp only[bne,q2];rfl
   go_wp2_with fail
   refine bodyPost_ret (v:=.int .i64 (0)) (by simp[results,Tryz.results76,go_sem,bne]) rfl ?_
   exact⟨aY ((pf k q1 q2).trans HT.out),(Below.refl _ _)⟩
  ·(try rw[q2])
   have nq2:(k != 2)=true:=by simp only[bne,q2];rfl
   rcases Bool.eq_false_or_eq_true (k==3) with q3 | q3
   ·(try rw[q3])
    have nq3:(k != 3)=false:=by simp only[bne,q3];rfl
    go_wp2_with fail
    refine bodyPost_ret (v:=.int .i64 (0)) (by simp[results,Tryz.results76,go_sem,bne]) rfl ?_
    exact⟨aY ((pg k q1 q2 q3).trans HT.out),(Below.refl _ _)⟩
   ·(try rw[q3])
    have nq3:(k != 3)=true:=by simp only[bne,q3];rfl
    rcases Bool.eq_false_or_eq_true (k==4) with q4 | q4
    ·(try rw[q4])
     have nq4:(k != 4)=false:=by simp only[bne,q4];rfl
     go_wp2_with fail
     refine bodyPost_ret (v:=.int .i64 (0)) (by simp[results,Tryz.results76,go_sem,bne]) rfl ?_
     exact⟨aY ((ph k q1 q2 q3 q4).trans HT.out),(Below.refl _ _)⟩
    ·(try rw[q4])
     have nq4:(k != 4)=true:=by simp only[bne,q4];rfl
     rcases Bool.eq_false_or_eq_true (k==5) with q5 | q5
     ·(try rw[q5])
      have nq5:(k != 5)=false:=by simp only[bne,q5];rfl
      go_wp2_with fail
      refine bodyPost_ret (v:=.int .i64 (1)) (by simp[results,Tryz.results76,go_sem,bne]) rfl ?_
      exact⟨aY ((pi k q1 q2 q3 q4 q5).trans HT.out),(Below.refl _ _)⟩
     ·(try rw[q5])
      have nq5:(k != 5)=true:=by simp only[bne,q5];rfl
      rcases Bool.eq_false_or_eq_true (k==11) with q6 | q6
      ·(try rw[q6])
       have nq6:(k != 11)=false:=by simp only[bne,q6];rfl
       go_wp2_with fail
       refine bodyPost_ret (v:=.int .i64 (1)) (by simp[results,Tryz.results76,go_sem,bne]) rfl ?_
       exact⟨aY ((pj k q1 q2 q3 q4 q5 q6).trans HT.out),(Below.refl _ _)⟩
      ·(try rw[q6])
       have nq6:(k != 11)=true:=by simp only[bne,q6];rfl
       rcases Bool.eq_false_or_eq_true (k==12) with q7 | q7
       ·(try rw[q7])
        have nq7:(k != 12)=false:=by simp only[bne,q7];rfl
        go_wp2_with fail
        refine bodyPost_ret (v:=.int .i64 (1)) (by simp[results,Tryz.results76,go_sem,bne]) rfl ?_
        exact⟨aY ((pl k q1 q2 q3 q4 q5 q6 q7).trans HT.out),(Below.refl _ _)⟩
       ·(try rw[q7])
        have nq7:(k != 12)=true:=by simp only[bne,q7];rfl
        rcases Bool.eq_false_or_eq_true (k==13) with q8 | q8
        ·(try rw[q8])
         have nq8:(k != 13)=false:=by simp only[bne,q8];rfl
         go_wp2_with fail
         refine bodyPost_ret (v:=.int .i64 (1)) (by simp[results,Tryz.results76,go_sem,bne]) rfl ?_
         exact⟨aY ((pm k q1 q2 q3 q4 q5 q6 q7 q8).trans HT.out),(Below.refl _ _)⟩
        ·(try rw[q8])
         have nq8:(k != 13)=true:=by simp only[bne,q8];rfl
         rcases Bool.eq_false_or_eq_true (k==14) with q9 | q9
         ·(try rw[q9])
          have nq9:(k != 14)=false:=by simp only[bne,q9];rfl
          go_wp2_with fail
          refine bodyPost_ret (v:=.int .i64 (1)) (by simp[results,Tryz.results76,go_sem,bne]) rfl ?_
          exact⟨aY ((pn k q1 q2 q3 q4 q5 q6 q7 q8 q9).trans HT.out),(Below.refl _ _)⟩
         ·(try rw[q9])
          have nq9:(k != 14)=true:=by simp only[bne,q9];rfl
          rcases Bool.eq_false_or_eq_true (k==6) with q10 | q10
          ·(try rw[q10])
           have nq10:(k != 6)=false:=by simp only[bne,q10];rfl
           go_wp2_with fail
           refine bodyPost_ret (v:=.int .i64 (2)) (by simp[results,Tryz.results76,go_sem,bne]) rfl ?_
           exact⟨aY ((po k q1 q2 q3 q4 q5 q6 q7 q8 q9 q10).trans HT.out),(Below.refl _ _)⟩
          ·(try rw[q10])
           have nq10:(k != 6)=true:=by simp only[bne,q10];rfl
           rcases Bool.eq_false_or_eq_true (k==7) with q11 | q11
           ·(try rw[q11])
            have nq11:(k != 7)=false:=by simp only[bne,q11];rfl
            go_wp2_with fail
            refine bodyPost_ret (v:=.int .i64 (2)) (by simp[results,Tryz.results76,go_sem,bne]) rfl ?_
            exact⟨aY ((pp k q1 q2 q3 q4 q5 q6 q7 q8 q9 q10 q11).trans HT.out),(Below.refl _ _)⟩
           ·(try rw[q11])
            have nq11:(k != 7)=true:=by simp only[bne,q11];rfl
            rcases Bool.eq_false_or_eq_true (k==8) with q12 | q12
            ·(try rw[q12])
             have nq12:(k != 8)=false:=by simp only[bne,q12];rfl
             go_wp2_with fail
             refine bodyPost_ret (v:=.int .i64 (2)) (by simp[results,Tryz.results76,go_sem,bne]) rfl ?_
             exact⟨aY ((pq k q1 q2 q3 q4 q5 q6 q7 q8 q9 q10 q11 q12).trans HT.out),(Below.refl _ _)⟩
            ·(try rw[q12])
             have nq12:(k != 8)=true:=by simp only[bne,q12];rfl
             rcases Bool.eq_false_or_eq_true (k==10) with q13 | q13
             ·(try rw[q13])
              have nq13:(k != 10)=false:=by simp only[bne,q13];rfl
              go_wp2_with fail
              refine bodyPost_ret (v:=.int .i64 (2)) (by simp[results,Tryz.results76,go_sem,bne]) rfl ?_
              exact⟨aY ((pt k q1 q2 q3 q4 q5 q6 q7 q8 q9 q10 q11 q12 q13).trans HT.out),(Below.refl _ _)⟩
             ·(try rw[q13])
              have nq13:(k != 10)=true:=by simp only[bne,q13];rfl
              rcases Bool.eq_false_or_eq_true (k==9) with q14 | q14
              ·(try rw[q14])
               have nq14:(k != 9)=false:=by simp only[bne,q14];rfl
               go_wp2_with fail
               refine bodyPost_ret (v:=.int .i64 (3)) (by simp[results,Tryz.results76,go_sem,bne]) rfl ?_
               exact⟨aY ((pu k q1 q2 q3 q4 q5 q6 q7 q8 q9 q10 q11 q12 q13 q14).trans HT.out),(Below.refl _ _)⟩
              ·(try rw[q14])
               have nq14:(k != 9)=true:=by simp only[bne,q14];rfl
               go_wp2_with fail
               refine bodyPost_ret (v:=.int .i64 (-1)) (by simp[results,Tryz.results76,go_sem,bne]) rfl ?_
               exact⟨aY ((pw k q1 q2 q3 q4 q5 q6 q7 q8 q9 q10 q11 q12 q13 q14).trans HT.out),(Below.refl _ _)⟩
theorem iU (k:Int)(a:Option Addr)(n q:Nat)(w:World):Calls Tryz.prog 96 #[.agg #[.int .i64 k,.slice a n q]] w fun e w'=>e = .returned (.bool (noneB k n))∧Below w.heap.size w w':=by
 obtain⟨rr,hrr⟩ : ∃rr0:Bool,(noneB k n)=rr0:=⟨_,rfl⟩
 rw[hrr];have HT:=zq hrr;clear hrr
 go_enter Tryz.func96,Tryz.ntmps96
 rcases Bool.eq_false_or_eq_true (k==0) with q1 | q1
 ·skip
  have nq1:(k != 0)=false:=by simp only[bne,q1];rfl
  go_wp2_with fail
  refine bodyPost_ret (v:=.bool ((n:Int)==0)) (by simp[results,Tryz.results96,go_sem,bne]) rfl ?_
  exact⟨au ((gO k n q1).trans HT.out),ai⟩
 ·skip
  have nq1:(k != 0)=true:=by simp only[bne,q1];rfl
  go_wp2_with fail
  refine bodyPost_ret (v:=.bool (false)) (by simp[results,Tryz.results96,go_sem,bne]) rfl ?_
  exact⟨au ((gP k n q1).trans HT.out),ai⟩
theorem lS (k:Int)(a:Option Addr)(n q:Nat)(w:World):Calls Tryz.prog 106 #[.agg #[.int .i64 k,.slice a n q]] w fun e w'=>e = .returned (.bool (noneB k n))∧Below w.heap.size w w':=by
 obtain⟨rr,hrr⟩ : ∃rr0:Bool,(noneB k n)=rr0:=⟨_,rfl⟩
 rw[hrr];have HT:=zq hrr;clear hrr
 go_enter Tryz.func106,Tryz.ntmps106
 rcases Bool.eq_false_or_eq_true (k==0) with q1 | q1
 ·skip
  have nq1:(k != 0)=false:=by simp only[bne,q1];rfl
  go_wp2_with fail
  refine bodyPost_ret (v:=.bool ((n:Int)==0)) (by simp[results,Tryz.results106,go_sem,bne]) rfl ?_
  exact⟨au ((jb k n q1).trans HT.out),ai⟩
 ·skip
  have nq1:(k != 0)=true:=by simp only[bne,q1];rfl
  go_wp2_with fail
  refine bodyPost_ret (v:=.bool (false)) (by simp[results,Tryz.results106,go_sem,bne]) rfl ?_
  exact⟨au ((jc k n q1).trans HT.out),ai⟩
theorem kO (s:ByteArray)(w:World):Calls Tryz.prog 94 #[.string s] w fun e w'=>e = .returned (.bool (aJ s))∧Below w.heap.size w w':=(uw s w).mono fun e w' h=>⟨h.1,h.2▸Below.refl _ _⟩
theorem bA (s:ByteArray)(w:World):Calls Tryz.prog 105 #[.string s] w fun e w'=>e = .returned (.bool (aJ s))∧Below w.heap.size w w':=(lQ s w).mono fun e w' h=>⟨h.1,h.2▸Below.refl _ _⟩
theorem aX {s:ByteArray}(h:(s.toList == [])=true):aJ s=false:=by
 have h1:s.toList = []:=by simpa using h
 rw[Go.ByteArray.toList_eq] at h1;refine kV ?_;intro h2;have:s.data.toList.length=0:=by rw[h1];rfl
 have:s.size=0:=by simpa using this
 omega
mutual
theorem Ty.same_refl : ∀t:Ty,t.same t=true
 | .mk k ts=>by unfold Ty.same;rw[Ty.sames_refl ts];simp
theorem Ty.sames_refl : ∀ts:List Ty,Ty.sames ts ts=true
 | []=>by unfold Ty.sames;rfl
 | t :: ts=>by unfold Ty.sames;rw[Ty.same_refl t,Ty.sames_refl ts];rfl
end
theorem fP (F:Nat→Prop)(t:Ty) : ∀(y:Value) (w:World),ao F w t y→t.cnt≤1048576 →
  Calls Tryz.prog 22 #[y] w (eP t w):=by
 intro y w hy hcnt;have IH : ∀t'∈t.kids,∀(y:Value) (W:World),ao F W t' y→Calls Tryz.prog 22 #[y] W (eP t' W):=
  fun t' ht y W h=>fP F t' y W h (by have:=Ty.cnt_kid ht;omega)
 obtain⟨i0,hi,hz0,hz1,hz2⟩:=info_parts Tryz.infoTy;obtain⟨a,cap,rfl,h2,h3,hr⟩:=hy.open
 cases t with | mk k ts=>
 simp only[Ty.kind,Ty.kids] at *;unfold maxLen at h3;have IHH:=zq IH;have HCN:=zq (show ts.length≤1048576 by simp only[Ty.cnt] at hcnt;omega);clear IH hy hcnt;obtain⟨n,hn⟩ : ∃n,ts.length=n:=⟨_,rfl⟩
 rw[hn] at h2 hr HCN;rw[hn];have HN:=zq hn;clear hn;have Z0:=zq hz0;have Z1:=zq hz1;have Z2:=zq hz2;have HI:=zq hi;clear hz0 hz1 hz2 hi
 go_enter Tryz.func22,Tryz.ntmps22
 go_wp2_with fail
 go_loopw [12] (fun i wr=>∃j:Nat,j≤n∧i = .int .i64 j∧Below w.heap.size w wr∧w.heap.size+1+1<wr.heap.size∧(∃u,wr.cell? ⟨w.heap.size+1,0,none⟩=some u)∧(∃u,wr.cell? ⟨w.heap.size+1,1,none⟩=some u) ∧
     (∀o,wr.frozen? ⟨w.heap.size+1,o,none⟩=false)∧(∀o,wr.frozen? ⟨w.heap.size+1+1,o,none⟩=false)∧wr.cell? ⟨w.heap.size+1+1,0,none⟩=some (.int .i64 k) ∧
     ∃v,wr.cell? ⟨w.heap.size+1+1,1,none⟩=some v∧aL (w.heap.size+1+1+1) 25 2 wr v j (Ty.rows (ts.take j))) (fun i _=>n-(intOf i).toNat)
 case atStart=>exact⟨0,by omega,rfl,cB,by simp,⟨.int .i64 0,ah ai (bX 0)⟩,⟨.slice none 0 0,ah ai (bX 1)⟩,fun o=>cC ai (by simp) (fo o),fun o=>eQ o,cN 0,.slice none 0 0,cN 1,by simpa [Ty.rows] using aL.nil _ _ _ _⟩
 case round=>
  obtain⟨j,hj,rfl,hbw,hsz,⟨u0,hu0⟩,⟨u1,hu1⟩,hf1,hf2,hk0,v,hv,hacc⟩:=hrel
  by_cases hlt:j<n
  ·have hjt:j<ts.length:=by rw[HN.out];exact hlt
   obtain⟨b,off,k0,a0,m0,q0,rfl,l0,e0,e1,ht⟩:=hr.at hbw hjt;have HC:=zq (fun W (h:Below wr.heap.size wr W)=>IHH.out ts[j] (List.getElem_mem hjt) _ W (ht.below h));obtain⟨xs,fps,ho,hl,hs,hd,hfp⟩:=hacc;have HO:=zq ho;have HS:=zq hs;have HD:=zq hd;have HFP:=zq hfp;have HL:=zq hl;clear ho hs hd hfp hl;obtain⟨cv,qv,rfl⟩ : ∃c q,v = .slice c j q:=by
    rcases HO.out.2 with ⟨h,h0⟩ | ⟨g,cap,cur,h,_⟩
    ·exact⟨none,0,by rw[h,h0]⟩
    ·exact⟨_,cap,h⟩
   go_wp2_with fail
   have hB3:w.heap.size+1+1+1≤wr.heap.size:=by omega
   go_region_law (first
     | (go_simp;go_at_call 22;refine(HC.out _ (by first | exact ai | exact ai.drew)).mono ?_;rintro e w1 ⟨v1,rfl,hv1,hb1⟩;obtain⟨k1,c1,m1,q1,fp1,rfl,-,-,hs1,hd1,hx1⟩:=hv1.open;have hq1:w1.cell? ⟨w.heap.size+1+1,1,none⟩=some (.slice cv j qv):=ah (aj ai.drew hb1) hv;have hbz:=hb1.size;have hl1:w.heap.size+1+1<w1.heap.size:=World.block_lt_of_cell? _ _ hq1)
     | (refine step_append_lies _ (by rfl) (.tmp 17) (.tmp 20) 23 (by rfl) (w.heap.size+1+1+1) 25 i0 _ 2 32 Tryz.underlying23 HI.out Z0.out Z1.out Z2.out rfl (by omega) (.slice cv j qv) j xs (by rfl) (aP HO.out (aj (aj ai.drew hb1) ai))
         ⟨w1.heap.size,0,none⟩ 1 1 [.int .i64 k1,.slice c1 m1 q1] (by rfl) (by rfl) (World.news_of_block (cs:=#[.int .i64 k1,.slice c1 m1 q1]) (t:=25) (fr:=(0,0)) (heap_alloc_new w1 _)) (by simp[Value.oneCell'])
         (by omega) (by have:=HCN.out;unfold maxLen;omega) (by have:=HCN.out;omega) (by simp at hbz ⊢;omega) _ rfl ?_
        intro gg cap2 w2 hown2 hgrow hat hlt2;have hfar:=cr (aj (aj ai.drew hb1) ai) HO.out hgrow;have hq:w2.cell? ⟨w.heap.size+1+1,1,none⟩=some (.slice cv j qv):=(World.cell?_of_block (a:=⟨w.heap.size+1+1,1,none⟩) (hfar (w.heap.size+1+1) (by omega) (by omega))).trans hv;have hqf:w2.frozen? ⟨w.heap.size+1+1,1,none⟩=false:=(World.frozen?_of_block (a:=⟨w.heap.size+1+1,1,none⟩) (hfar (w.heap.size+1+1) (by omega) (by omega))).trans (hf2 _);have HFAR:=zq hfar;have hacc2:=aL.push HL.out HO.out HS.out HD.out HFP.out hB3 (aj (aj ai.drew hb1) ai) (by simp) (hs1.move _ _ _ fun b hb=>heap_alloc_old w1 _ (bf.lt _ _ _ hs1 b hb)) hd1 hx1 hown2 hgrow hat;have HACC:=zq hacc2;have hbel:=bj hbw (aj (aj ai.drew hb1) ai) HO.out (by omega) hgrow;have hsz2:wr.heap.size≤w2.heap.size:=Nat.le_trans (aj (aj ai.drew hb1) ai).size hgrow.size;clear hfar hacc2 hown2 hgrow hat hq1))
   all_goals
    go_wp2_with fail
    go_roundw
    case rel=>
     have c1:(w2.setCell ⟨w.heap.size+1+1,1,none⟩ (.slice (some ⟨gg,0,none⟩) (j+1) cap2)).heap[w.heap.size+1]?=wr.heap[w.heap.size+1]?:=
      (Below.heap_setCell w2 ⟨w.heap.size+1+1,1,none⟩ _ _ (by show w.heap.size+1≠w.heap.size+1+1;omega)).trans (HFAR.out (w.heap.size+1) (by omega) (by omega))
     have hk2:=(World.cell?_of_block (a:=⟨w.heap.size+1+1,0,none⟩) (HFAR.out (w.heap.size+1+1) (by omega) (by omega))).trans hk0;have hf4:=fun o=>(World.frozen?_of_block (a:=⟨w.heap.size+1+1,o,none⟩) (HFAR.out (w.heap.size+1+1) (by omega) (by omega))).trans (hf2 o);refine⟨j+1,by omega,by go_num,hbel.setCell (by show w.heap.size≤w.heap.size+1+1;omega) _,by simp[World.setCell];omega,⟨u0,(World.cell?_of_block (a:=⟨w.heap.size+1,0,none⟩) c1).trans hu0⟩,⟨u1,(World.cell?_of_block (a:=⟨w.heap.size+1,1,none⟩) c1).trans hu1⟩,
       fun o=>(World.frozen?_of_block (a:=⟨w.heap.size+1,o,none⟩) c1).trans (hf1 o),fun o=>(dK _ _ _ _).trans (hf4 o),cA hk2 (by simp),_,bE hq,?_⟩
     have h:=HACC.out.setCell (p:=⟨w.heap.size+1+1,1,none⟩) (by show w.heap.size+1+1<w.heap.size+1+1+1;omega) (.slice (some ⟨gg,0,none⟩) (j+1) cap2);rw[Ty.rows_eq] at h ⊢;rw[List.take_succ_eq_append_getElem hjt,List.map_append]
     exact h
    case measure=>simp[intOf];omega
  ·obtain⟨cv,qv,rfl⟩:=hacc.shape
   have f0:=hf1 0;have f1:=hf1 1
   go_wp2_with fail
   refine bodyPost_ret (v:=.agg #[.int .i64 k,.slice cv j qv]) (by simp[results,Tryz.results22,go_sem,hu0,hu1]) rfl ?_;rw[List.take_of_length_le (by rw[HN.out];omega)] at hacc;have hjn:j=n:=by omega
   refine⟨_,rfl,bh.mono (bg.ty ((hacc.tys.setCell (by show w.heap.size+1<w.heap.size+1+1+1;omega) _).setCell (by show w.heap.size+1<w.heap.size+1+1+1;omega) _)) (by omega),?_⟩
   exact(hbw.setCell (by show w.heap.size≤w.heap.size+1;omega) _).setCell (by show w.heap.size≤w.heap.size+1;omega) _
termination_by SizeOf.sizeOf t
decreasing_by exact Ty.kid_lt ht
def dN (w:World)(t:Tm)(y:Value)(fp:List Nat):Prop:=∃s1 s2 s f1 f2 f3,y = .agg #[.int .i64 t.kind,.string t.name,.int .i64 t.num,.int .i64 t.type.kind,s1,.int .i64 t.src.kind,s2,.int .i64 t.label,s]∧fp=f1++(f2++f3)∧t.name.size≤maxLen ∧
 aF w (.sl (Ty.rows t.type.kids)) s1 f1∧aF w (.sl (Ty.rows t.src.kids)) s2 f2∧aF w (.sl (Tm.rows t.kids)) s f3
def TmsOwn (w:World)(ts:List Tm)(y:Value)(fp:List Nat):Prop:=aF w (.sl (Tm.rows ts)) y fp
def ck (B:Nat)(w:World)(t:Tm)(y:Value):Prop:=∃fp,dN w t y fp∧fp.Nodup∧∀b∈fp,B≤b
def cP (B:Nat)(w:World)(ts:List Tm)(y:Value):Prop:=∃fp,TmsOwn w ts y fp∧fp.Nodup∧∀b∈fp,B≤b
theorem dN.below {w w':World}{t:Tm}{y:Value}{fp:List Nat}(h:dN w t y fp)(k:Below w.heap.size w w'):dN w' t y fp:=by
 obtain⟨s1,s2,s,f1,f2,f3,rfl,rfl,hn,h1,h2,h3⟩:=h
 exact⟨s1,s2,s,f1,f2,f3,rfl,rfl,hn,h1.move _ _ _ fun b hb=>k.block b (h1.lt _ _ _ b hb),h2.move _ _ _ fun b hb=>k.block b (h2.lt _ _ _ b hb),h3.move _ _ _ fun b hb=>k.block b (h3.lt _ _ _ b hb)⟩
theorem dN.rep {w:World}{t:Tm}{y:Value}{fp:List Nat}(h:dN w t y fp):ax (· ∈ fp) w t y:=by
 obtain⟨s1,s2,s,f1,f2,f3,rfl,rfl,hn,h1,h2,h3⟩:=h
 exact⟨s1,s2,s,rfl,hn,h1.rep _ _ _ (fun b hb=>by simp[hb]),h2.rep _ _ _ (fun b hb=>by simp[hb]),h3.rep _ _ _ (fun b hb=>by simp[hb])⟩
theorem ck.below {B:Nat}{w w':World}{t:Tm}{y:Value}(h:ck B w t y)(k:Below w.heap.size w w'):ck B w' t y:=
 let ⟨fp,h1,h2,h3⟩:=h;⟨fp,h1.below k,h2,h3⟩
theorem ck.rep {B:Nat}{w:World}{t:Tm}{y:Value}(h:ck B w t y):ax (B ≤ ·) w t y:=
 let ⟨fp,h1,_,h3⟩:=h;h1.rep.move (.weaken fun b hb _=>h3 b hb)
theorem cP.rep {B:Nat}{w:World}{ts:List Tm}{y:Value}(h:cP B w ts y):aN (B ≤ ·) w ts y:=
 let ⟨_,h1,_,h3⟩:=h;aF.rep _ _ _ (fun b hb=>h3 b hb) h1
theorem cP.below {B:Nat}{w w':World}{ts:List Tm}{y:Value}(h:cP B w ts y)(k:Below w.heap.size w w'):cP B w' ts y:=
 let ⟨fp,h1,h2,h3⟩:=h;⟨fp,aF.move _ _ _ (fun b hb=>k.block b (aF.lt _ _ _ h1 b hb)) h1,h2,h3⟩
theorem ck.shape {B:Nat}{w:World}{t:Tm}{y:Value}(h:ck B w t y) : ∃k nm u tk ta tn tq fk fa fn fq l c m q,y = .agg #[.int .i64 k,.string nm,.int .i64 u,.int .i64 tk,.slice ta tn tq,.int .i64 fk,.slice fa fn fq,.int .i64 l,.slice c m q]:=h.rep.shape
theorem ck.mono {B B':Nat}{w:World}{t:Tm}{y:Value}(h:ck B w t y)(hB:B'≤B):ck B' w t y:=
 let ⟨fp,h1,h2,h3⟩:=h;⟨fp,h1,h2,fun b hb=>Nat.le_trans hB (h3 b hb)⟩
theorem cP.mono {B B':Nat}{w:World}{t:List Tm}{y:Value}(h:cP B w t y)(hB:B'≤B):cP B' w t y:=
 let ⟨fp,h1,h2,h3⟩:=h;⟨fp,h1,h2,fun b hb=>Nat.le_trans hB (h3 b hb)⟩
theorem cP.setCell {B:Nat}{w:World}{ts:List Tm}{y:Value}(h:cP B w ts y){p:Addr}(hp:p.block<B)(v:Value):cP B (w.setCell p v) ts y:=by
 obtain⟨fp,h1,h2,h3⟩:=h
 exact⟨fp,aF.move _ _ _ (fun b hb=>Below.heap_setCell w p v b (by have:=h3 b hb;omega)) h1,h2,h3⟩
theorem ck.setCell {B:Nat}{w:World}{t:Tm}{y:Value}(h:ck B w t y){p:Addr}(hp:p.block<B)(v:Value):ck B (w.setCell p v) t y:=by
 obtain⟨fp,⟨s1,s2,s,f1,f2,f3,rfl,rfl,hn,h1,h2,h3⟩,hd,hx⟩:=h;have hk : ∀b∈f1++(f2++f3),(w.setCell p v).heap[b]?=w.heap[b]?:=fun b hb=>Below.heap_setCell w p v b (by have:=hx b hb;omega)
 exact⟨_,⟨s1,s2,s,f1,f2,f3,rfl,rfl,hn,aF.move _ _ _ (fun b hb=>hk b (by simp[hb])) h1,aF.move _ _ _ (fun b hb=>hk b (by simp[hb])) h2,aF.move _ _ _ (fun b hb=>hk b (by simp[hb])) h3⟩,hd,hx⟩
theorem ck.nil {B:Nat}{w:World}{k u l:Int}{nm:ByteArray}(hn:nm.size≤maxLen):ck B w (.mk k nm u (.mk 0 []) (.mk 0 []) l []) (.agg #[.int .i64 k,.string nm,.int .i64 u,.int .i64 0,.slice none 0 0,.int .i64 0,.slice none 0 0,.int .i64 l,.slice none 0 0]):=by
 have z:aF w (.sl []) (.slice none 0 0) []:=by unfold aF;exact⟨none,0,rfl,Nat.le_refl _,by unfold maxLen;omega,.inl ⟨rfl,rfl⟩⟩
 refine⟨[],⟨_,_,_,[],[],[],rfl,rfl,hn,?_,?_,?_⟩,by simp,by simp⟩
 ·simp only[Tm.type,Ty.kids,Ty.rows];exact z
 ·simp only[Tm.src,Ty.kids,Ty.rows];exact z
 ·simp only[Tm.kids,Tm.rows];exact z
theorem Tm.flatten_length (ts:List Tm):(Tm.rows ts).flatten.length=ts.length*9:=by
 induction ts with
 | nil=>unfold Tm.rows;rfl
 | cons t ts ih=>unfold Tm.rows;rw[List.flatten_cons,List.length_append,ih,t.row_length,List.length_cons];omega
theorem ck.open {B:Nat}{w:World}{t:Tm}{y:Value}(h:ck B w t y) : ∃k nm u tk ta tn tq fk fa fn fq l c m q fp,y = .agg #[.int .i64 k,.string nm,.int .i64 u,.int .i64 tk,.slice ta tn tq,.int .i64 fk,.slice fa fn fq,.int .i64 l,.slice c m q]∧bf w t.row [.int .i64 k,.string nm,.int .i64 u,.int .i64 tk,.slice ta tn tq,.int .i64 fk,.slice fa fn fq,.int .i64 l,.slice c m q] fp∧fp.Nodup∧∀b∈fp,B≤b:=by
 obtain⟨fp,⟨s1,s2,s,f1,f2,f3,rfl,rfl,hn,h1,h2,h3⟩,hd,hx⟩:=h;obtain⟨ta,tq,rfl,-⟩:=aH.rows (aF.rep _ _ _ (F:=fun _=>True) (fun _ _=>trivial) h1);obtain⟨fa,fq,rfl,-⟩:=aH.rows (aF.rep _ _ _ (F:=fun _=>True) (fun _ _=>trivial) h2);obtain⟨c,q,rfl,-⟩:=aH.rows (aF.rep _ _ _ (F:=fun _=>True) (fun _ _=>trivial) h3);refine⟨_,_,_,_,ta,_,tq,_,fa,_,fq,_,c,_,q,_,rfl,?_,hd,hx⟩
 cases t with | mk k nm u t f l ts=>
 simp only[Tm.kind,Tm.name,Tm.num,Tm.type,Tm.src,Tm.label,Tm.kids] at *;unfold Tm.row;have i1 : ∀n:Int,aF w (.int n) (.int .i64 n) []:=fun n=>by unfold aF;exact⟨rfl,rfl⟩
 have i2:aF w (.str nm) (.string nm) []:=by unfold aF;exact⟨rfl,hn,rfl⟩
 exact⟨_,_,[],_,rfl,rfl,i1 _,_,_,[],_,rfl,rfl,i2,_,_,[],_,rfl,rfl,i1 _,_,_,[],_,rfl,rfl,i1 _,_,_,f1,_,rfl,rfl,h1,_,_,[],_,rfl,rfl,i1 _,_,_,f2,_,rfl,rfl,h2,_,_,[],_,rfl,rfl,i1 _,_,_,f3,[],rfl,by simp,h3,rfl,rfl⟩
end Go.Proofs.YtfahhonmiimmdaaGreat

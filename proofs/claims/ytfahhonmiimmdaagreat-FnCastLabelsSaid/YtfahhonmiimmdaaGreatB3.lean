/- The check of a node of a term: kinds 1, 2, 5, 13, k. -/
import Derived.Test.YtfahhonmiimmdaaGreatB9
set_option linter.unusedSimpArgs false
set_option linter.unusedVariables false
set_option maxRecDepth 100000
set_option maxHeartbeats 16000000
namespace Go.Proofs.YtfahhonmiimmdaaGreat
open Go.RowKit
theorem kC (u l:Int)(nm:ByteArray)(tv n1 n2 cv:Bool)(h0:(aJ nm)=true)(h1:(n1)=true)(h2:(n2)=true)(h3:(l==0)=true)(h4:(nm.toList == [])=true→aJ nm=false)(h5:(u==0)=ay u 0 0):(u==0:Bool)=(ownB 1 u l nm tv n1 n2 cv):=by
 simp only[ay] at *;first | (simp_all [ownB,ay];done) | grind [ownB,ay]
theorem kD (u l:Int)(nm:ByteArray)(tv n1 n2 cv:Bool)(h0:(aJ nm)=true)(h1:(n1)=true)(h2:(n2)=true)(h3:(l==0)=false)(h4:(nm.toList == [])=true→aJ nm=false)(h5:(u==0)=ay u 0 0):(false:Bool)=(ownB 1 u l nm tv n1 n2 cv):=by
 simp only[ay] at *;first | (simp_all [ownB,ay];done) | grind [ownB,ay]
theorem kE (u l:Int)(nm:ByteArray)(tv n1 n2 cv:Bool)(h0:(aJ nm)=true)(h1:(n1)=true)(h2:(n2)=false)(h3:(nm.toList == [])=true→aJ nm=false)(h4:(u==0)=ay u 0 0):(false:Bool)=(ownB 1 u l nm tv n1 n2 cv):=by
 simp only[ay] at *;first | (simp_all [ownB,ay];done) | grind [ownB,ay]
theorem kF (u l:Int)(nm:ByteArray)(tv n1 n2 cv:Bool)(h0:(aJ nm)=true)(h1:(n1)=false)(h2:(nm.toList == [])=true→aJ nm=false)(h3:(u==0)=ay u 0 0):(false:Bool)=(ownB 1 u l nm tv n1 n2 cv):=by
 simp only[ay] at *;first | (simp_all [ownB,ay];done) | grind [ownB,ay]
theorem kG (u l:Int)(nm:ByteArray)(tv n1 n2 cv:Bool)(h0:(aJ nm)=false)(h1:(nm.toList == [])=true→aJ nm=false)(h2:(u==0)=ay u 0 0):(false:Bool)=(ownB 1 u l nm tv n1 n2 cv):=by
 simp only[ay] at *;first | (simp_all [ownB,ay];done) | grind [ownB,ay]
theorem kH (u l:Int)(nm:ByteArray)(tv n1 n2 cv:Bool)(h0:(aJ nm)=true)(h1:(nm.toList == [])=true→aJ nm=false)(h2:(u==0)=ay u 0 0):(false:Bool)=(ownB 2 u l nm tv n1 n2 cv):=by
 simp only[ay] at *;first | (simp_all [ownB,ay];done) | grind [ownB,ay]
theorem kI (u l:Int)(nm:ByteArray)(tv n1 n2 cv:Bool)(h0:(aJ nm)=false)(h1:(nm.toList == [])=true)(h2:(n1)=true)(h3:(n2)=true)(h4:(l==0)=true)(h5:(decide (u≥0))=true)(h6:(nm.toList == [])=true→aJ nm=false)(h7:(u==0)=ay u 0 0):(decide (u≤999):Bool)=(ownB 2 u l nm tv n1 n2 cv):=by
 simp only[ay] at *;first | (simp_all [ownB,ay];done) | grind [ownB,ay]
theorem kJ (u l:Int)(nm:ByteArray)(tv n1 n2 cv:Bool)(h0:(aJ nm)=false)(h1:(nm.toList == [])=true)(h2:(n1)=true)(h3:(n2)=true)(h4:(l==0)=true)(h5:(decide (u≥0))=false)(h6:(nm.toList == [])=true→aJ nm=false)(h7:(u==0)=ay u 0 0):(false:Bool)=(ownB 2 u l nm tv n1 n2 cv):=by
 simp only[ay] at *;first | (simp_all [ownB,ay];done) | grind [ownB,ay]
theorem kK (u l:Int)(nm:ByteArray)(tv n1 n2 cv:Bool)(h0:(aJ nm)=false)(h1:(nm.toList == [])=true)(h2:(n1)=true)(h3:(n2)=true)(h4:(l==0)=false)(h5:(nm.toList == [])=true→aJ nm=false)(h6:(u==0)=ay u 0 0):(false:Bool)=(ownB 2 u l nm tv n1 n2 cv):=by
 simp only[ay] at *;first | (simp_all [ownB,ay];done) | grind [ownB,ay]
theorem kL (u l:Int)(nm:ByteArray)(tv n1 n2 cv:Bool)(h0:(aJ nm)=false)(h1:(nm.toList == [])=true)(h2:(n1)=true)(h3:(n2)=false)(h4:(nm.toList == [])=true→aJ nm=false)(h5:(u==0)=ay u 0 0):(false:Bool)=(ownB 2 u l nm tv n1 n2 cv):=by
 simp only[ay] at *;first | (simp_all [ownB,ay];done) | grind [ownB,ay]
theorem jd (u l:Int)(nm:ByteArray)(tv n1 n2 cv:Bool)(h0:(aJ nm)=false)(h1:(nm.toList == [])=true)(h2:(n1)=false)(h3:(nm.toList == [])=true→aJ nm=false)(h4:(u==0)=ay u 0 0):(false:Bool)=(ownB 2 u l nm tv n1 n2 cv):=by
 simp only[ay] at *;first | (simp_all [ownB,ay];done) | grind [ownB,ay]
theorem je (u l:Int)(nm:ByteArray)(tv n1 n2 cv:Bool)(h0:(aJ nm)=false)(h1:(nm.toList == [])=false)(h2:(nm.toList == [])=true→aJ nm=false)(h3:(u==0)=ay u 0 0):(false:Bool)=(ownB 2 u l nm tv n1 n2 cv):=by
 simp only[ay] at *;first | (simp_all [ownB,ay];done) | grind [ownB,ay]
theorem jf (u l:Int)(nm:ByteArray)(tv n1 n2 cv:Bool)(h0:(aJ nm)=true)(h1:(tv)=true)(h2:(n2)=true)(h3:(l==0)=true)(h4:(nm.toList == [])=true→aJ nm=false)(h5:(u==0)=ay u 0 0):(u==0:Bool)=(ownB 5 u l nm tv n1 n2 cv):=by
 simp only[ay] at *;first | (simp_all [ownB,ay];done) | grind [ownB,ay]
theorem jg (u l:Int)(nm:ByteArray)(tv n1 n2 cv:Bool)(h0:(aJ nm)=true)(h1:(tv)=true)(h2:(n2)=true)(h3:(l==0)=false)(h4:(nm.toList == [])=true→aJ nm=false)(h5:(u==0)=ay u 0 0):(false:Bool)=(ownB 5 u l nm tv n1 n2 cv):=by
 simp only[ay] at *;first | (simp_all [ownB,ay];done) | grind [ownB,ay]
theorem jh (u l:Int)(nm:ByteArray)(tv n1 n2 cv:Bool)(h0:(aJ nm)=true)(h1:(tv)=true)(h2:(n2)=false)(h3:(nm.toList == [])=true→aJ nm=false)(h4:(u==0)=ay u 0 0):(false:Bool)=(ownB 5 u l nm tv n1 n2 cv):=by
 simp only[ay] at *;first | (simp_all [ownB,ay];done) | grind [ownB,ay]
theorem ji (u l:Int)(nm:ByteArray)(tv n1 n2 cv:Bool)(h0:(aJ nm)=true)(h1:(tv)=false)(h2:(nm.toList == [])=true→aJ nm=false)(h3:(u==0)=ay u 0 0):(false:Bool)=(ownB 5 u l nm tv n1 n2 cv):=by
 simp only[ay] at *;first | (simp_all [ownB,ay];done) | grind [ownB,ay]
theorem jl (u l:Int)(nm:ByteArray)(tv n1 n2 cv:Bool)(h0:(aJ nm)=false)(h1:(nm.toList == [])=true→aJ nm=false)(h2:(u==0)=ay u 0 0):(false:Bool)=(ownB 5 u l nm tv n1 n2 cv):=by
 simp only[ay] at *;first | (simp_all [ownB,ay];done) | grind [ownB,ay]
theorem iK (u l:Int)(nm:ByteArray)(tv n1 n2 cv:Bool)(h0:(aJ nm)=true)(h1:(nm.toList == [])=true→aJ nm=false)(h2:(u==0)=ay u 0 0):(false:Bool)=(ownB 13 u l nm tv n1 n2 cv):=by
 simp only[ay] at *;first | (simp_all [ownB,ay];done) | grind [ownB,ay]
theorem iL (u l:Int)(nm:ByteArray)(tv n1 n2 cv:Bool)(h0:(aJ nm)=false)(h1:(nm.toList == [])=true)(h2:(tv)=true)(h3:(n2)=true)(h4:(l==0)=true)(h5:(nm.toList == [])=true→aJ nm=false)(h6:(u==0)=ay u 0 0):(u==0:Bool)=(ownB 13 u l nm tv n1 n2 cv):=by
 simp only[ay] at *;first | (simp_all [ownB,ay];done) | grind [ownB,ay]
theorem iM (u l:Int)(nm:ByteArray)(tv n1 n2 cv:Bool)(h0:(aJ nm)=false)(h1:(nm.toList == [])=true)(h2:(tv)=true)(h3:(n2)=true)(h4:(l==0)=false)(h5:(nm.toList == [])=true→aJ nm=false)(h6:(u==0)=ay u 0 0):(false:Bool)=(ownB 13 u l nm tv n1 n2 cv):=by
 simp only[ay] at *;first | (simp_all [ownB,ay];done) | grind [ownB,ay]
theorem iN (u l:Int)(nm:ByteArray)(tv n1 n2 cv:Bool)(h0:(aJ nm)=false)(h1:(nm.toList == [])=true)(h2:(tv)=true)(h3:(n2)=false)(h4:(nm.toList == [])=true→aJ nm=false)(h5:(u==0)=ay u 0 0):(false:Bool)=(ownB 13 u l nm tv n1 n2 cv):=by
 simp only[ay] at *;first | (simp_all [ownB,ay];done) | grind [ownB,ay]
theorem iO (u l:Int)(nm:ByteArray)(tv n1 n2 cv:Bool)(h0:(aJ nm)=false)(h1:(nm.toList == [])=true)(h2:(tv)=false)(h3:(nm.toList == [])=true→aJ nm=false)(h4:(u==0)=ay u 0 0):(false:Bool)=(ownB 13 u l nm tv n1 n2 cv):=by
 simp only[ay] at *;first | (simp_all [ownB,ay];done) | grind [ownB,ay]
theorem iP (u l:Int)(nm:ByteArray)(tv n1 n2 cv:Bool)(h0:(aJ nm)=false)(h1:(nm.toList == [])=false)(h2:(nm.toList == [])=true→aJ nm=false)(h3:(u==0)=ay u 0 0):(false:Bool)=(ownB 13 u l nm tv n1 n2 cv):=by
 simp only[ay] at *;first | (simp_all [ownB,ay];done) | grind [ownB,ay]
theorem jm (k u l:Int)(nm:ByteArray)(tv n1 n2 cv:Bool)(h0:(k==1)=false)(h1:(k==5)=false)(h2:(k==13)=false)(h3:(k==14)=false)(h4:(k==2)=false)(h5:(aJ nm)=true)(h6:(nm.toList == [])=true→aJ nm=false)(h7:(u==0)=ay u 0 0):(false:Bool)=(ownB k u l nm tv n1 n2 cv):=by
 simp only[ay] at *;first | (simp_all [ownB,ay];done) | grind [ownB,ay]
theorem jn (k u l:Int)(nm:ByteArray)(tv n1 n2 cv:Bool)(h0:(k==1)=false)(h1:(k==5)=false)(h2:(k==13)=false)(h3:(k==14)=false)(h4:(k==2)=false)(h5:(aJ nm)=false)(h6:(nm.toList == [])=true)(h7:(n1)=true)(h8:(n2)=true)(h9:(l==0)=true)(h10:(nm.toList == [])=true→aJ nm=false)(h11:(u==0)=ay u 0 0):(u==0:Bool)=(ownB k u l nm tv n1 n2 cv):=by
 simp only[ay] at *;first | (simp_all [ownB,ay];done) | grind [ownB,ay]
theorem jo (k u l:Int)(nm:ByteArray)(tv n1 n2 cv:Bool)(h0:(k==1)=false)(h1:(k==5)=false)(h2:(k==13)=false)(h3:(k==14)=false)(h4:(k==2)=false)(h5:(aJ nm)=false)(h6:(nm.toList == [])=true)(h7:(n1)=true)(h8:(n2)=true)(h9:(l==0)=false)(h10:(nm.toList == [])=true→aJ nm=false)(h11:(u==0)=ay u 0 0):(false:Bool)=(ownB k u l nm tv n1 n2 cv):=by
 simp only[ay] at *;first | (simp_all [ownB,ay];done) | grind [ownB,ay]
theorem jp (k u l:Int)(nm:ByteArray)(tv n1 n2 cv:Bool)(h0:(k==1)=false)(h1:(k==5)=false)(h2:(k==13)=false)(h3:(k==14)=false)(h4:(k==2)=false)(h5:(aJ nm)=false)(h6:(nm.toList == [])=true)(h7:(n1)=true)(h8:(n2)=false)(h9:(nm.toList == [])=true→aJ nm=false)(h10:(u==0)=ay u 0 0):(false:Bool)=(ownB k u l nm tv n1 n2 cv):=by
 simp only[ay] at *;first | (simp_all [ownB,ay];done) | grind [ownB,ay]
theorem jq (k u l:Int)(nm:ByteArray)(tv n1 n2 cv:Bool)(h0:(k==1)=false)(h1:(k==5)=false)(h2:(k==13)=false)(h3:(k==14)=false)(h4:(k==2)=false)(h5:(aJ nm)=false)(h6:(nm.toList == [])=true)(h7:(n1)=false)(h8:(nm.toList == [])=true→aJ nm=false)(h9:(u==0)=ay u 0 0):(false:Bool)=(ownB k u l nm tv n1 n2 cv):=by
 simp only[ay] at *;first | (simp_all [ownB,ay];done) | grind [ownB,ay]
theorem jr (k u l:Int)(nm:ByteArray)(tv n1 n2 cv:Bool)(h0:(k==1)=false)(h1:(k==5)=false)(h2:(k==13)=false)(h3:(k==14)=false)(h4:(k==2)=false)(h5:(aJ nm)=false)(h6:(nm.toList == [])=false)(h7:(nm.toList == [])=true→aJ nm=false)(h8:(u==0)=ay u 0 0):(false:Bool)=(ownB k u l nm tv n1 n2 cv):=by
 simp only[ay] at *;first | (simp_all [ownB,ay];done) | grind [ownB,ay]
theorem tW (u tk fk l:Int)(nm:ByteArray)(ta fa c:Option Addr)(tn tq fn fq m q:Nat)(w:World)(tv n1 n2 cv:Bool)(H1:Hid (∀W,Below w.heap.size w W→Calls Tryz.prog 83 #[.agg #[.int .i64 tk,.slice ta tn tq]] W fun e W'=>e = .returned (.bool (tv))∧Below W.heap.size W W'))(H2:Hid (∀W,Below w.heap.size w W→Calls Tryz.prog 106 #[.agg #[.int .i64 tk,.slice ta tn tq]] W fun e W'=>e = .returned (.bool (n1))∧Below W.heap.size W W'))(H4:Hid (∀W,Below w.heap.size w W→Calls Tryz.prog 106 #[.agg #[.int .i64 fk,.slice fa fn fq]] W fun e W'=>e = .returned (.bool (n2))∧Below W.heap.size W W')) :
  Calls Tryz.prog 78 #[.agg #[.int .i64 1,.string nm,.int .i64 u,.int .i64 tk,.slice ta tn tq,.int .i64 fk,.slice fa fn fq,.int .i64 l,.slice c m q]] w fun e w'=>e = .returned (.bool (ownB 1 u l nm tv n1 n2 cv))∧Below w.heap.size w w':=by
 obtain⟨rr,hrr⟩ : ∃rr0:Bool,(ownB 1 u l nm tv n1 n2 cv)=rr0:=⟨_,rfl⟩
 rw[hrr];have HT:=zq hrr;clear hrr
 go_enter Tryz.func78,Tryz.ntmps78
 rcases Bool.eq_false_or_eq_true (aJ nm) with q1 | q1
 ·have Hq1:=zq q1
  clear q1
  go_wp2_with fail
  refine(bA nm _).mono ?_;rintro e w1 ⟨rfl,hb1⟩;rw[Hq1.out];have hB:=(aj ai hb1)
  have zw1:=hB.size;have c0_3:w1.cell? ⟨w.heap.size,3,none⟩=some (.int .i64 tk):=ah hb1 (ap (by simp) 3);have c0_4:w1.cell? ⟨w.heap.size,4,none⟩=some (.slice ta tn tq):=ah hb1 (ap (by simp) 4);have c0_0:w1.cell? ⟨w.heap.size,0,none⟩=some (.int .i64 1):=ah hb1 (ap (by simp) 0);have c0_5:w1.cell? ⟨w.heap.size,5,none⟩=some (.int .i64 fk):=ah hb1 (ap (by simp) 5);have c0_6:w1.cell? ⟨w.heap.size,6,none⟩=some (.slice fa fn fq):=ah hb1 (ap (by simp) 6);have c0_7:w1.cell? ⟨w.heap.size,7,none⟩=some (.int .i64 l):=ah hb1 (ap (by simp) 7);have c0_2:w1.cell? ⟨w.heap.size,2,none⟩=some (.int .i64 u):=ah hb1 (ap (by simp) 2);have d0_w1:=World.block_lt_of_cell? _ _ c0_3
  go_wp2_with fail
  refine(H2.out _ hB).mono ?_;rintro e w2 ⟨rfl,hb2⟩;replace hB:=(aj hB hb2)
  have zw2:=hB.size;replace c0_0:=ah hb2 c0_0;replace c0_5:=ah hb2 c0_5;replace c0_6:=ah hb2 c0_6;replace c0_7:=ah hb2 c0_7;replace c0_2:=ah hb2 c0_2;have d0_w2:=World.block_lt_of_cell? _ _ c0_0
  rcases Bool.eq_false_or_eq_true (n1) with q2 | q2
  ·(try rw[q2])
   have Hq2:=zq q2;clear q2
   rcases Bool.eq_false_or_eq_true (n2) with q3 | q3
   ·have Hq3:=zq q3
    clear q3
    go_wp2_with fail
    refine(H4.out _ hB).mono ?_;rintro e w3 ⟨rfl,hb3⟩;rw[Hq3.out];replace hB:=(aj hB hb3)
    have zw3:=hB.size;replace c0_7:=ah hb3 c0_7;replace c0_0:=ah hb3 c0_0;replace c0_2:=ah hb3 c0_2;have d0_w3:=World.block_lt_of_cell? _ _ c0_7
    rcases Bool.eq_false_or_eq_true (l==0) with q4 | q4
    ·(try rw[q4])
     have nq4:(l != 0)=false:=by simp only[bne,q4];rfl
     go_wp2_with fail
     refine bodyPost_ret (v:=.bool (u==0)) (by simp[results,Tryz.results78,go_sem,bne]) rfl ?_
     exact⟨au ((kC u l nm tv n1 n2 cv Hq1.out Hq2.out Hq3.out q4 aX (bB u)).trans HT.out),hB⟩
    ·(try rw[q4])
     have nq4:(l != 0)=true:=by simp only[bne,q4];rfl
     go_wp2_with fail
     refine bodyPost_ret (v:=.bool (false)) (by simp[results,Tryz.results78,go_sem,bne]) rfl ?_
     exact⟨au ((kD u l nm tv n1 n2 cv Hq1.out Hq2.out Hq3.out q4 aX (bB u)).trans HT.out),hB⟩
   ·have Hq3:=zq q3
    clear q3
    go_wp2_with fail
    refine(H4.out _ hB).mono ?_;rintro e w4 ⟨rfl,hb4⟩;rw[Hq3.out];replace hB:=(aj hB hb4)
    have zw4:=hB.size
    go_wp2_with fail
    refine bodyPost_ret (v:=.bool (false)) (by simp[results,Tryz.results78,go_sem,bne]) rfl ?_
    exact⟨au ((kE u l nm tv n1 n2 cv Hq1.out Hq2.out Hq3.out aX (bB u)).trans HT.out),hB⟩
  ·(try rw[q2])
   have Hq2:=zq q2;clear q2
   go_wp2_with fail
   refine bodyPost_ret (v:=.bool (false)) (by simp[results,Tryz.results78,go_sem,bne]) rfl ?_
   exact⟨au ((kF u l nm tv n1 n2 cv Hq1.out Hq2.out aX (bB u)).trans HT.out),hB⟩
 ·have Hq1:=zq q1
  clear q1
  go_wp2_with fail
  refine(bA nm _).mono ?_;rintro e w5 ⟨rfl,hb5⟩;rw[Hq1.out];have hB:=(aj ai hb5)
  have zw5:=hB.size
  go_wp2_with fail
  refine bodyPost_ret (v:=.bool (false)) (by simp[results,Tryz.results78,go_sem,bne]) rfl ?_
  exact⟨au ((kG u l nm tv n1 n2 cv Hq1.out aX (bB u)).trans HT.out),hB⟩
theorem tX (u tk fk l:Int)(nm:ByteArray)(ta fa c:Option Addr)(tn tq fn fq m q:Nat)(w:World)(tv n1 n2 cv:Bool)(H1:Hid (∀W,Below w.heap.size w W→Calls Tryz.prog 83 #[.agg #[.int .i64 tk,.slice ta tn tq]] W fun e W'=>e = .returned (.bool (tv))∧Below W.heap.size W W'))(H2:Hid (∀W,Below w.heap.size w W→Calls Tryz.prog 106 #[.agg #[.int .i64 tk,.slice ta tn tq]] W fun e W'=>e = .returned (.bool (n1))∧Below W.heap.size W W'))(H4:Hid (∀W,Below w.heap.size w W→Calls Tryz.prog 106 #[.agg #[.int .i64 fk,.slice fa fn fq]] W fun e W'=>e = .returned (.bool (n2))∧Below W.heap.size W W')) :
  Calls Tryz.prog 78 #[.agg #[.int .i64 2,.string nm,.int .i64 u,.int .i64 tk,.slice ta tn tq,.int .i64 fk,.slice fa fn fq,.int .i64 l,.slice c m q]] w fun e w'=>e = .returned (.bool (ownB 2 u l nm tv n1 n2 cv))∧Below w.heap.size w w':=by
 obtain⟨rr,hrr⟩ : ∃rr0:Bool,(ownB 2 u l nm tv n1 n2 cv)=rr0:=⟨_,rfl⟩
 rw[hrr];have HT:=zq hrr;clear hrr
 go_enter Tryz.func78,Tryz.ntmps78
 rcases Bool.eq_false_or_eq_true (aJ nm) with q1 | q1
 ·have Hq1:=zq q1
  clear q1
  go_wp2_with fail
  refine(bA nm _).mono ?_;rintro e w1 ⟨rfl,hb1⟩;rw[Hq1.out];have hB:=(aj ai hb1)
  have zw1:=hB.size
  go_wp2_with fail
  refine bodyPost_ret (v:=.bool (false)) (by simp[results,Tryz.results78,go_sem,bne]) rfl ?_
  exact⟨au ((kH u l nm tv n1 n2 cv Hq1.out aX (bB u)).trans HT.out),hB⟩
 ·have Hq1:=zq q1
  clear q1
  rcases Bool.eq_false_or_eq_true (nm.toList == []) with q2 | q2
  ·skip
   have nq2:(nm.toList != [])=false:=by simp only[bne,q2];rfl
   go_wp2_with fail
   refine(bA nm _).mono ?_;rintro e w2 ⟨rfl,hb2⟩;rw[Hq1.out];have hB:=(aj ai hb2)
   have zw2:=hB.size;have c0_1:w2.cell? ⟨w.heap.size,1,none⟩=some (.string nm):=ah hb2 (ap (by simp) 1);have c0_3:w2.cell? ⟨w.heap.size,3,none⟩=some (.int .i64 tk):=ah hb2 (ap (by simp) 3);have c0_4:w2.cell? ⟨w.heap.size,4,none⟩=some (.slice ta tn tq):=ah hb2 (ap (by simp) 4);have c0_0:w2.cell? ⟨w.heap.size,0,none⟩=some (.int .i64 2):=ah hb2 (ap (by simp) 0);have c0_5:w2.cell? ⟨w.heap.size,5,none⟩=some (.int .i64 fk):=ah hb2 (ap (by simp) 5);have c0_6:w2.cell? ⟨w.heap.size,6,none⟩=some (.slice fa fn fq):=ah hb2 (ap (by simp) 6);have c0_7:w2.cell? ⟨w.heap.size,7,none⟩=some (.int .i64 l):=ah hb2 (ap (by simp) 7);have c0_2:w2.cell? ⟨w.heap.size,2,none⟩=some (.int .i64 u):=ah hb2 (ap (by simp) 2);have d0_w2:=World.block_lt_of_cell? _ _ c0_1
   go_wp2_with fail
   refine(H2.out _ hB).mono ?_;rintro e w3 ⟨rfl,hb3⟩;replace hB:=(aj hB hb3)
   have zw3:=hB.size;replace c0_0:=ah hb3 c0_0;replace c0_5:=ah hb3 c0_5;replace c0_6:=ah hb3 c0_6;replace c0_7:=ah hb3 c0_7;replace c0_2:=ah hb3 c0_2;have d0_w3:=World.block_lt_of_cell? _ _ c0_0
   rcases Bool.eq_false_or_eq_true (n1) with q3 | q3
   ·(try rw[q3])
    have Hq3:=zq q3;clear q3
    rcases Bool.eq_false_or_eq_true (n2) with q4 | q4
    ·have Hq4:=zq q4
     clear q4
     go_wp2_with fail
     refine(H4.out _ hB).mono ?_;rintro e w4 ⟨rfl,hb4⟩;rw[Hq4.out];replace hB:=(aj hB hb4)
     have zw4:=hB.size;replace c0_7:=ah hb4 c0_7;replace c0_0:=ah hb4 c0_0;replace c0_2:=ah hb4 c0_2;have d0_w4:=World.block_lt_of_cell? _ _ c0_7
     rcases Bool.eq_false_or_eq_true (l==0) with q5 | q5
     ·(try rw[q5])
      have nq5:(l != 0)=false:=by simp only[bne,q5];rfl
      rcases Bool.eq_false_or_eq_true (decide (u≥0)) with q6 | q6
      ·skip
       go_wp2_with fail
       refine bodyPost_ret (v:=.bool (decide (u≤999))) (by simp[results,Tryz.results78,go_sem,bne]) rfl ?_
       exact⟨au ((kI u l nm tv n1 n2 cv Hq1.out q2 Hq3.out Hq4.out q5 q6 aX (bB u)).trans HT.out),hB⟩
      ·skip
       go_wp2_with fail
       refine bodyPost_ret (v:=.bool (false)) (by simp[results,Tryz.results78,go_sem,bne]) rfl ?_
       exact⟨au ((kJ u l nm tv n1 n2 cv Hq1.out q2 Hq3.out Hq4.out q5 q6 aX (bB u)).trans HT.out),hB⟩
     ·(try rw[q5])
      have nq5:(l != 0)=true:=by simp only[bne,q5];rfl
      go_wp2_with fail
      refine bodyPost_ret (v:=.bool (false)) (by simp[results,Tryz.results78,go_sem,bne]) rfl ?_
      exact⟨au ((kK u l nm tv n1 n2 cv Hq1.out q2 Hq3.out Hq4.out q5 aX (bB u)).trans HT.out),hB⟩
    ·have Hq4:=zq q4
     clear q4
     go_wp2_with fail
     refine(H4.out _ hB).mono ?_;rintro e w5 ⟨rfl,hb5⟩;rw[Hq4.out];replace hB:=(aj hB hb5)
     have zw5:=hB.size
     go_wp2_with fail
     refine bodyPost_ret (v:=.bool (false)) (by simp[results,Tryz.results78,go_sem,bne]) rfl ?_
     exact⟨au ((kL u l nm tv n1 n2 cv Hq1.out q2 Hq3.out Hq4.out aX (bB u)).trans HT.out),hB⟩
   ·(try rw[q3])
    have Hq3:=zq q3;clear q3
    go_wp2_with fail
    refine bodyPost_ret (v:=.bool (false)) (by simp[results,Tryz.results78,go_sem,bne]) rfl ?_
    exact⟨au ((jd u l nm tv n1 n2 cv Hq1.out q2 Hq3.out aX (bB u)).trans HT.out),hB⟩
  ·skip
   have nq2:(nm.toList != [])=true:=by simp only[bne,q2];rfl
   go_wp2_with fail
   refine(bA nm _).mono ?_;rintro e w6 ⟨rfl,hb6⟩;rw[Hq1.out];have hB:=(aj ai hb6)
   have zw6:=hB.size;have c0_1:w6.cell? ⟨w.heap.size,1,none⟩=some (.string nm):=ah hb6 (ap (by simp) 1);have d0_w6:=World.block_lt_of_cell? _ _ c0_1
   go_wp2_with fail
   refine bodyPost_ret (v:=.bool (false)) (by simp[results,Tryz.results78,go_sem,bne]) rfl ?_
   exact⟨au ((je u l nm tv n1 n2 cv Hq1.out q2 aX (bB u)).trans HT.out),hB⟩
theorem tY (u tk fk l:Int)(nm:ByteArray)(ta fa c:Option Addr)(tn tq fn fq m q:Nat)(w:World)(tv n1 n2 cv:Bool)(H1:Hid (∀W,Below w.heap.size w W→Calls Tryz.prog 83 #[.agg #[.int .i64 tk,.slice ta tn tq]] W fun e W'=>e = .returned (.bool (tv))∧Below W.heap.size W W'))(H2:Hid (∀W,Below w.heap.size w W→Calls Tryz.prog 106 #[.agg #[.int .i64 tk,.slice ta tn tq]] W fun e W'=>e = .returned (.bool (n1))∧Below W.heap.size W W'))(H4:Hid (∀W,Below w.heap.size w W→Calls Tryz.prog 106 #[.agg #[.int .i64 fk,.slice fa fn fq]] W fun e W'=>e = .returned (.bool (n2))∧Below W.heap.size W W')) :
  Calls Tryz.prog 78 #[.agg #[.int .i64 5,.string nm,.int .i64 u,.int .i64 tk,.slice ta tn tq,.int .i64 fk,.slice fa fn fq,.int .i64 l,.slice c m q]] w fun e w'=>e = .returned (.bool (ownB 5 u l nm tv n1 n2 cv))∧Below w.heap.size w w':=by
 obtain⟨rr,hrr⟩ : ∃rr0:Bool,(ownB 5 u l nm tv n1 n2 cv)=rr0:=⟨_,rfl⟩
 rw[hrr];have HT:=zq hrr;clear hrr
 go_enter Tryz.func78,Tryz.ntmps78
 rcases Bool.eq_false_or_eq_true (aJ nm) with q1 | q1
 ·have Hq1:=zq q1
  clear q1
  rcases Bool.eq_false_or_eq_true (tv) with q2 | q2
  ·have Hq2:=zq q2
   clear q2
   go_wp2_with fail
   refine(bA nm _).mono ?_;rintro e w1 ⟨rfl,hb1⟩;rw[Hq1.out];have hB:=(aj ai hb1)
   have zw1:=hB.size;have c0_3:w1.cell? ⟨w.heap.size,3,none⟩=some (.int .i64 tk):=ah hb1 (ap (by simp) 3);have c0_4:w1.cell? ⟨w.heap.size,4,none⟩=some (.slice ta tn tq):=ah hb1 (ap (by simp) 4);have c0_0:w1.cell? ⟨w.heap.size,0,none⟩=some (.int .i64 5):=ah hb1 (ap (by simp) 0);have c0_5:w1.cell? ⟨w.heap.size,5,none⟩=some (.int .i64 fk):=ah hb1 (ap (by simp) 5);have c0_6:w1.cell? ⟨w.heap.size,6,none⟩=some (.slice fa fn fq):=ah hb1 (ap (by simp) 6);have c0_7:w1.cell? ⟨w.heap.size,7,none⟩=some (.int .i64 l):=ah hb1 (ap (by simp) 7);have c0_2:w1.cell? ⟨w.heap.size,2,none⟩=some (.int .i64 u):=ah hb1 (ap (by simp) 2);have d0_w1:=World.block_lt_of_cell? _ _ c0_3
   go_wp2_with fail
   refine(H1.out _ hB).mono ?_;rintro e w2 ⟨rfl,hb2⟩;rw[Hq2.out];replace hB:=(aj hB hb2)
   have zw2:=hB.size;replace c0_0:=ah hb2 c0_0;replace c0_5:=ah hb2 c0_5;replace c0_6:=ah hb2 c0_6;replace c0_7:=ah hb2 c0_7;replace c0_2:=ah hb2 c0_2;have d0_w2:=World.block_lt_of_cell? _ _ c0_0
   rcases Bool.eq_false_or_eq_true (n2) with q3 | q3
   ·have Hq3:=zq q3
    clear q3
    go_wp2_with fail
    refine(H4.out _ hB).mono ?_;rintro e w3 ⟨rfl,hb3⟩;rw[Hq3.out];replace hB:=(aj hB hb3)
    have zw3:=hB.size;replace c0_7:=ah hb3 c0_7;replace c0_0:=ah hb3 c0_0;replace c0_2:=ah hb3 c0_2;have d0_w3:=World.block_lt_of_cell? _ _ c0_7
    rcases Bool.eq_false_or_eq_true (l==0) with q4 | q4
    ·(try rw[q4])
     have nq4:(l != 0)=false:=by simp only[bne,q4];rfl
     go_wp2_with fail
     refine bodyPost_ret (v:=.bool (u==0)) (by simp[results,Tryz.results78,go_sem,bne]) rfl ?_
     exact⟨au ((jf u l nm tv n1 n2 cv Hq1.out Hq2.out Hq3.out q4 aX (bB u)).trans HT.out),hB⟩
    ·(try rw[q4])
     have nq4:(l != 0)=true:=by simp only[bne,q4];rfl
     go_wp2_with fail
     refine bodyPost_ret (v:=.bool (false)) (by simp[results,Tryz.results78,go_sem,bne]) rfl ?_
     exact⟨au ((jg u l nm tv n1 n2 cv Hq1.out Hq2.out Hq3.out q4 aX (bB u)).trans HT.out),hB⟩
   ·have Hq3:=zq q3
    clear q3
    go_wp2_with fail
    refine(H4.out _ hB).mono ?_;rintro e w4 ⟨rfl,hb4⟩;rw[Hq3.out];replace hB:=(aj hB hb4)
    have zw4:=hB.size
    go_wp2_with fail
    refine bodyPost_ret (v:=.bool (false)) (by simp[results,Tryz.results78,go_sem,bne]) rfl ?_
    exact⟨au ((jh u l nm tv n1 n2 cv Hq1.out Hq2.out Hq3.out aX (bB u)).trans HT.out),hB⟩
  ·have Hq2:=zq q2
   clear q2
   go_wp2_with fail
   refine(bA nm _).mono ?_;rintro e w5 ⟨rfl,hb5⟩;rw[Hq1.out];have hB:=(aj ai hb5)
   have zw5:=hB.size;have c0_3:w5.cell? ⟨w.heap.size,3,none⟩=some (.int .i64 tk):=ah hb5 (ap (by simp) 3);have c0_4:w5.cell? ⟨w.heap.size,4,none⟩=some (.slice ta tn tq):=ah hb5 (ap (by simp) 4);have d0_w5:=World.block_lt_of_cell? _ _ c0_3
   go_wp2_with fail
   refine(H1.out _ hB).mono ?_;rintro e w6 ⟨rfl,hb6⟩;rw[Hq2.out];replace hB:=(aj hB hb6)
   have zw6:=hB.size
   go_wp2_with fail
   refine bodyPost_ret (v:=.bool (false)) (by simp[results,Tryz.results78,go_sem,bne]) rfl ?_
   exact⟨au ((ji u l nm tv n1 n2 cv Hq1.out Hq2.out aX (bB u)).trans HT.out),hB⟩
 ·have Hq1:=zq q1
  clear q1
  go_wp2_with fail
  refine(bA nm _).mono ?_;rintro e w7 ⟨rfl,hb7⟩;rw[Hq1.out];have hB:=(aj ai hb7)
  have zw7:=hB.size
  go_wp2_with fail
  refine bodyPost_ret (v:=.bool (false)) (by simp[results,Tryz.results78,go_sem,bne]) rfl ?_
  exact⟨au ((jl u l nm tv n1 n2 cv Hq1.out aX (bB u)).trans HT.out),hB⟩
theorem sN (u tk fk l:Int)(nm:ByteArray)(ta fa c:Option Addr)(tn tq fn fq m q:Nat)(w:World)(tv n1 n2 cv:Bool)(H1:Hid (∀W,Below w.heap.size w W→Calls Tryz.prog 83 #[.agg #[.int .i64 tk,.slice ta tn tq]] W fun e W'=>e = .returned (.bool (tv))∧Below W.heap.size W W'))(H2:Hid (∀W,Below w.heap.size w W→Calls Tryz.prog 106 #[.agg #[.int .i64 tk,.slice ta tn tq]] W fun e W'=>e = .returned (.bool (n1))∧Below W.heap.size W W'))(H4:Hid (∀W,Below w.heap.size w W→Calls Tryz.prog 106 #[.agg #[.int .i64 fk,.slice fa fn fq]] W fun e W'=>e = .returned (.bool (n2))∧Below W.heap.size W W')) :
  Calls Tryz.prog 78 #[.agg #[.int .i64 13,.string nm,.int .i64 u,.int .i64 tk,.slice ta tn tq,.int .i64 fk,.slice fa fn fq,.int .i64 l,.slice c m q]] w fun e w'=>e = .returned (.bool (ownB 13 u l nm tv n1 n2 cv))∧Below w.heap.size w w':=by
 obtain⟨rr,hrr⟩ : ∃rr0:Bool,(ownB 13 u l nm tv n1 n2 cv)=rr0:=⟨_,rfl⟩
 rw[hrr];have HT:=zq hrr;clear hrr
 go_enter Tryz.func78,Tryz.ntmps78
 rcases Bool.eq_false_or_eq_true (aJ nm) with q1 | q1
 ·have Hq1:=zq q1
  clear q1
  go_wp2_with fail
  refine(bA nm _).mono ?_;rintro e w1 ⟨rfl,hb1⟩;rw[Hq1.out];have hB:=(aj ai hb1)
  have zw1:=hB.size
  go_wp2_with fail
  refine bodyPost_ret (v:=.bool (false)) (by simp[results,Tryz.results78,go_sem,bne]) rfl ?_
  exact⟨au ((iK u l nm tv n1 n2 cv Hq1.out aX (bB u)).trans HT.out),hB⟩
 ·have Hq1:=zq q1
  clear q1
  rcases Bool.eq_false_or_eq_true (nm.toList == []) with q2 | q2
  ·skip
   have nq2:(nm.toList != [])=false:=by simp only[bne,q2];rfl
   rcases Bool.eq_false_or_eq_true (tv) with q3 | q3
   ·have Hq3:=zq q3
    clear q3
    go_wp2_with fail
    refine(bA nm _).mono ?_;rintro e w2 ⟨rfl,hb2⟩;rw[Hq1.out];have hB:=(aj ai hb2)
    have zw2:=hB.size;have c0_1:w2.cell? ⟨w.heap.size,1,none⟩=some (.string nm):=ah hb2 (ap (by simp) 1);have c0_3:w2.cell? ⟨w.heap.size,3,none⟩=some (.int .i64 tk):=ah hb2 (ap (by simp) 3);have c0_4:w2.cell? ⟨w.heap.size,4,none⟩=some (.slice ta tn tq):=ah hb2 (ap (by simp) 4);have c0_0:w2.cell? ⟨w.heap.size,0,none⟩=some (.int .i64 13):=ah hb2 (ap (by simp) 0);have c0_5:w2.cell? ⟨w.heap.size,5,none⟩=some (.int .i64 fk):=ah hb2 (ap (by simp) 5);have c0_6:w2.cell? ⟨w.heap.size,6,none⟩=some (.slice fa fn fq):=ah hb2 (ap (by simp) 6);have c0_7:w2.cell? ⟨w.heap.size,7,none⟩=some (.int .i64 l):=ah hb2 (ap (by simp) 7);have c0_2:w2.cell? ⟨w.heap.size,2,none⟩=some (.int .i64 u):=ah hb2 (ap (by simp) 2);have d0_w2:=World.block_lt_of_cell? _ _ c0_1
    go_wp2_with fail
    refine(H1.out _ hB).mono ?_;rintro e w3 ⟨rfl,hb3⟩;rw[Hq3.out];replace hB:=(aj hB hb3)
    have zw3:=hB.size;replace c0_0:=ah hb3 c0_0;replace c0_5:=ah hb3 c0_5;replace c0_6:=ah hb3 c0_6;replace c0_7:=ah hb3 c0_7;replace c0_2:=ah hb3 c0_2;have d0_w3:=World.block_lt_of_cell? _ _ c0_0
    rcases Bool.eq_false_or_eq_true (n2) with q4 | q4
    ·have Hq4:=zq q4
     clear q4
     go_wp2_with fail
     refine(H4.out _ hB).mono ?_;rintro e w4 ⟨rfl,hb4⟩;rw[Hq4.out];replace hB:=(aj hB hb4)
     have zw4:=hB.size;replace c0_7:=ah hb4 c0_7;replace c0_0:=ah hb4 c0_0;replace c0_2:=ah hb4 c0_2;have d0_w4:=World.block_lt_of_cell? _ _ c0_7
     rcases Bool.eq_false_or_eq_true (l==0) with q5 | q5
     ·(try rw[q5])
      have nq5:(l != 0)=false:=by simp only[bne,q5];rfl
      go_wp2_with fail
      refine bodyPost_ret (v:=.bool (u==0)) (by simp[results,Tryz.results78,go_sem,bne]) rfl ?_
      exact⟨au ((iL u l nm tv n1 n2 cv Hq1.out q2 Hq3.out Hq4.out q5 aX (bB u)).trans HT.out),hB⟩
     ·(try rw[q5])
      have nq5:(l != 0)=true:=by simp only[bne,q5];rfl
      go_wp2_with fail
      refine bodyPost_ret (v:=.bool (false)) (by simp[results,Tryz.results78,go_sem,bne]) rfl ?_
      exact⟨au ((iM u l nm tv n1 n2 cv Hq1.out q2 Hq3.out Hq4.out q5 aX (bB u)).trans HT.out),hB⟩
    ·have Hq4:=zq q4
     clear q4
     go_wp2_with fail
     refine(H4.out _ hB).mono ?_;rintro e w5 ⟨rfl,hb5⟩;rw[Hq4.out];replace hB:=(aj hB hb5)
     have zw5:=hB.size
     go_wp2_with fail
     refine bodyPost_ret (v:=.bool (false)) (by simp[results,Tryz.results78,go_sem,bne]) rfl ?_
     exact⟨au ((iN u l nm tv n1 n2 cv Hq1.out q2 Hq3.out Hq4.out aX (bB u)).trans HT.out),hB⟩
   ·have Hq3:=zq q3
    clear q3
    go_wp2_with fail
    refine(bA nm _).mono ?_;rintro e w6 ⟨rfl,hb6⟩;rw[Hq1.out];have hB:=(aj ai hb6)
    have zw6:=hB.size;have c0_1:w6.cell? ⟨w.heap.size,1,none⟩=some (.string nm):=ah hb6 (ap (by simp) 1);have c0_3:w6.cell? ⟨w.heap.size,3,none⟩=some (.int .i64 tk):=ah hb6 (ap (by simp) 3);have c0_4:w6.cell? ⟨w.heap.size,4,none⟩=some (.slice ta tn tq):=ah hb6 (ap (by simp) 4);have d0_w6:=World.block_lt_of_cell? _ _ c0_1
    go_wp2_with fail
    refine(H1.out _ hB).mono ?_;rintro e w7 ⟨rfl,hb7⟩;rw[Hq3.out];replace hB:=(aj hB hb7)
    have zw7:=hB.size
    go_wp2_with fail
    refine bodyPost_ret (v:=.bool (false)) (by simp[results,Tryz.results78,go_sem,bne]) rfl ?_
    exact⟨au ((iO u l nm tv n1 n2 cv Hq1.out q2 Hq3.out aX (bB u)).trans HT.out),hB⟩
  ·skip
   have nq2:(nm.toList != [])=true:=by simp only[bne,q2];rfl
   go_wp2_with fail
   refine(bA nm _).mono ?_;rintro e w8 ⟨rfl,hb8⟩;rw[Hq1.out];have hB:=(aj ai hb8)
   have zw8:=hB.size;have c0_1:w8.cell? ⟨w.heap.size,1,none⟩=some (.string nm):=ah hb8 (ap (by simp) 1);have d0_w8:=World.block_lt_of_cell? _ _ c0_1
   go_wp2_with fail
   refine bodyPost_ret (v:=.bool (false)) (by simp[results,Tryz.results78,go_sem,bne]) rfl ?_
   exact⟨au ((iP u l nm tv n1 n2 cv Hq1.out q2 aX (bB u)).trans HT.out),hB⟩
theorem tZ (k u tk fk l:Int)(nm:ByteArray)(ta fa c:Option Addr)(tn tq fn fq m q:Nat)(w:World)(tv n1 n2 cv:Bool)(z0:(k==1)=false)(z1:(k==5)=false)(z2:(k==13)=false)(z3:(k==14)=false)(z4:(k==2)=false)(H1:Hid (∀W,Below w.heap.size w W→Calls Tryz.prog 83 #[.agg #[.int .i64 tk,.slice ta tn tq]] W fun e W'=>e = .returned (.bool (tv))∧Below W.heap.size W W'))(H2:Hid (∀W,Below w.heap.size w W→Calls Tryz.prog 106 #[.agg #[.int .i64 tk,.slice ta tn tq]] W fun e W'=>e = .returned (.bool (n1))∧Below W.heap.size W W'))(H4:Hid (∀W,Below w.heap.size w W→Calls Tryz.prog 106 #[.agg #[.int .i64 fk,.slice fa fn fq]] W fun e W'=>e = .returned (.bool (n2))∧Below W.heap.size W W')) :
  Calls Tryz.prog 78 #[.agg #[.int .i64 k,.string nm,.int .i64 u,.int .i64 tk,.slice ta tn tq,.int .i64 fk,.slice fa fn fq,.int .i64 l,.slice c m q]] w fun e w'=>e = .returned (.bool (ownB k u l nm tv n1 n2 cv))∧Below w.heap.size w w':=by
 obtain⟨rr,hrr⟩ : ∃rr0:Bool,(ownB k u l nm tv n1 n2 cv)=rr0:=⟨_,rfl⟩
 rw[hrr];have HT:=zq hrr;clear hrr;have nz0:(k != 1)=true:=by simp only[bne,z0];rfl
 have nz1:(k != 5)=true:=by simp only[bne,z1];rfl
 have nz2:(k != 13)=true:=by simp only[bne,z2];rfl
 have nz3:(k != 14)=true:=by simp only[bne,z3];rfl
 have nz4:(k != 2)=true:=by simp only[bne,z4];rfl
 go_enter Tryz.func78,Tryz.ntmps78
 rcases Bool.eq_false_or_eq_true (aJ nm) with q1 | q1
 ·have Hq1:=zq q1
  clear q1
  go_wp2_with fail
  refine(bA nm _).mono ?_;rintro e w1 ⟨rfl,hb1⟩;rw[Hq1.out];have hB:=(aj ai hb1)
  have zw1:=hB.size
  go_wp2_with fail
  refine bodyPost_ret (v:=.bool (false)) (by simp[results,Tryz.results78,go_sem,bne]) rfl ?_
  exact⟨au ((jm k u l nm tv n1 n2 cv z0 z1 z2 z3 z4 Hq1.out aX (bB u)).trans HT.out),hB⟩
 ·have Hq1:=zq q1
  clear q1
  rcases Bool.eq_false_or_eq_true (nm.toList == []) with q2 | q2
  ·skip
   have nq2:(nm.toList != [])=false:=by simp only[bne,q2];rfl
   go_wp2_with fail
   refine(bA nm _).mono ?_;rintro e w2 ⟨rfl,hb2⟩;rw[Hq1.out];have hB:=(aj ai hb2)
   have zw2:=hB.size;have c0_1:w2.cell? ⟨w.heap.size,1,none⟩=some (.string nm):=ah hb2 (ap (by simp) 1);have c0_3:w2.cell? ⟨w.heap.size,3,none⟩=some (.int .i64 tk):=ah hb2 (ap (by simp) 3);have c0_4:w2.cell? ⟨w.heap.size,4,none⟩=some (.slice ta tn tq):=ah hb2 (ap (by simp) 4);have c0_0:w2.cell? ⟨w.heap.size,0,none⟩=some (.int .i64 k):=ah hb2 (ap (by simp) 0);have c0_5:w2.cell? ⟨w.heap.size,5,none⟩=some (.int .i64 fk):=ah hb2 (ap (by simp) 5);have c0_6:w2.cell? ⟨w.heap.size,6,none⟩=some (.slice fa fn fq):=ah hb2 (ap (by simp) 6);have c0_7:w2.cell? ⟨w.heap.size,7,none⟩=some (.int .i64 l):=ah hb2 (ap (by simp) 7);have c0_2:w2.cell? ⟨w.heap.size,2,none⟩=some (.int .i64 u):=ah hb2 (ap (by simp) 2);have d0_w2:=World.block_lt_of_cell? _ _ c0_1
   go_wp2_with fail
   refine(H2.out _ hB).mono ?_;rintro e w3 ⟨rfl,hb3⟩;replace hB:=(aj hB hb3)
   have zw3:=hB.size;replace c0_0:=ah hb3 c0_0;replace c0_5:=ah hb3 c0_5;replace c0_6:=ah hb3 c0_6;replace c0_7:=ah hb3 c0_7;replace c0_2:=ah hb3 c0_2;have d0_w3:=World.block_lt_of_cell? _ _ c0_0
   rcases Bool.eq_false_or_eq_true (n1) with q3 | q3
   ·(try rw[q3])
    have Hq3:=zq q3;clear q3
    rcases Bool.eq_false_or_eq_true (n2) with q4 | q4
    ·have Hq4:=zq q4
     clear q4
     go_wp2_with fail
     refine(H4.out _ hB).mono ?_;rintro e w4 ⟨rfl,hb4⟩;rw[Hq4.out];replace hB:=(aj hB hb4)
     have zw4:=hB.size;replace c0_7:=ah hb4 c0_7;replace c0_0:=ah hb4 c0_0;replace c0_2:=ah hb4 c0_2;have d0_w4:=World.block_lt_of_cell? _ _ c0_7
     rcases Bool.eq_false_or_eq_true (l==0) with q5 | q5
     ·(try rw[q5])
      have nq5:(l != 0)=false:=by simp only[bne,q5];rfl
      go_wp2_with fail
      refine bodyPost_ret (v:=.bool (u==0)) (by simp[results,Tryz.results78,go_sem,bne]) rfl ?_
      exact⟨au ((jn k u l nm tv n1 n2 cv z0 z1 z2 z3 z4 Hq1.out q2 Hq3.out Hq4.out q5 aX (bB u)).trans HT.out),hB⟩
     ·(try rw[q5])
      have nq5:(l != 0)=true:=by simp only[bne,q5];rfl
      go_wp2_with fail
      refine bodyPost_ret (v:=.bool (false)) (by simp[results,Tryz.results78,go_sem,bne]) rfl ?_
      exact⟨au ((jo k u l nm tv n1 n2 cv z0 z1 z2 z3 z4 Hq1.out q2 Hq3.out Hq4.out q5 aX (bB u)).trans HT.out),hB⟩
    ·have Hq4:=zq q4
     clear q4
     go_wp2_with fail
     refine(H4.out _ hB).mono ?_;rintro e w5 ⟨rfl,hb5⟩;rw[Hq4.out];replace hB:=(aj hB hb5)
     have zw5:=hB.size
     go_wp2_with fail
     refine bodyPost_ret (v:=.bool (false)) (by simp[results,Tryz.results78,go_sem,bne]) rfl ?_
     exact⟨au ((jp k u l nm tv n1 n2 cv z0 z1 z2 z3 z4 Hq1.out q2 Hq3.out Hq4.out aX (bB u)).trans HT.out),hB⟩
   ·(try rw[q3])
    have Hq3:=zq q3;clear q3
    go_wp2_with fail
    refine bodyPost_ret (v:=.bool (false)) (by simp[results,Tryz.results78,go_sem,bne]) rfl ?_
    exact⟨au ((jq k u l nm tv n1 n2 cv z0 z1 z2 z3 z4 Hq1.out q2 Hq3.out aX (bB u)).trans HT.out),hB⟩
  ·skip
   have nq2:(nm.toList != [])=true:=by simp only[bne,q2];rfl
   go_wp2_with fail
   refine(bA nm _).mono ?_;rintro e w6 ⟨rfl,hb6⟩;rw[Hq1.out];have hB:=(aj ai hb6)
   have zw6:=hB.size;have c0_1:w6.cell? ⟨w.heap.size,1,none⟩=some (.string nm):=ah hb6 (ap (by simp) 1);have d0_w6:=World.block_lt_of_cell? _ _ c0_1
   go_wp2_with fail
   refine bodyPost_ret (v:=.bool (false)) (by simp[results,Tryz.results78,go_sem,bne]) rfl ?_
   exact⟨au ((jr k u l nm tv n1 n2 cv z0 z1 z2 z3 z4 Hq1.out q2 aX (bB u)).trans HT.out),hB⟩
end Go.Proofs.YtfahhonmiimmdaaGreat

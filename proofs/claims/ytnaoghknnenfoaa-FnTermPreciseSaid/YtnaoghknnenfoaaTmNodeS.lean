/-
  The check of a node of a term: kinds 1, 2, 5, 13, k.
-/
import Derived.Test.YtnaoghknnenfoaaB1
set_option linter.unusedSimpArgs false
set_option linter.unusedVariables false
set_option maxRecDepth 100000
namespace Go.Proofs.Ytnaoghknnenfoaa
open Go.RowKit
theorem hI (u l:Int)(nm:ByteArray)(tv n1 n2 cv:Bool)(h0:(aN nm)=true)(h1:(n1)=true)(h2:(n2)=true)(h3:(l==0)=true)(h4:(nm.toList == [])=true→aN nm=false)(h5:(u==0)=aA u 0 0):(u==0:Bool)=(ownB 1 u l nm tv n1 n2 cv):=by
 simp only [aA] at *;first | (simp_all [ownB,aA];done) | grind [ownB,aA]
theorem gX (u l:Int)(nm:ByteArray)(tv n1 n2 cv:Bool)(h0:(aN nm)=true)(h1:(n1)=true)(h2:(n2)=true)(h3:(l==0)=false)(h4:(nm.toList == [])=true→aN nm=false)(h5:(u==0)=aA u 0 0):(false:Bool)=(ownB 1 u l nm tv n1 n2 cv):=by
 simp only [aA] at *;first | (simp_all [ownB,aA];done) | grind [ownB,aA]
theorem gT (u l:Int)(nm:ByteArray)(tv n1 n2 cv:Bool)(h0:(aN nm)=true)(h1:(n1)=true)(h2:(n2)=false)(h3:(nm.toList == [])=true→aN nm=false)(h4:(u==0)=aA u 0 0):(false:Bool)=(ownB 1 u l nm tv n1 n2 cv):=by
 simp only [aA] at *;first | (simp_all [ownB,aA];done) | grind [ownB,aA]
theorem gP (u l:Int)(nm:ByteArray)(tv n1 n2 cv:Bool)(h0:(aN nm)=true)(h1:(n1)=false)(h2:(nm.toList == [])=true→aN nm=false)(h3:(u==0)=aA u 0 0):(false:Bool)=(ownB 1 u l nm tv n1 n2 cv):=by
 simp only [aA] at *;first | (simp_all [ownB,aA];done) | grind [ownB,aA]
theorem gR (u l:Int)(nm:ByteArray)(tv n1 n2 cv:Bool)(h0:(aN nm)=false)(h1:(nm.toList == [])=true→aN nm=false)(h2:(u==0)=aA u 0 0):(false:Bool)=(ownB 1 u l nm tv n1 n2 cv):=by
 simp only [aA] at *;first | (simp_all [ownB,aA];done) | grind [ownB,aA]
theorem hG (u l:Int)(nm:ByteArray)(tv n1 n2 cv:Bool)(h0:(aN nm)=true)(h1:(nm.toList == [])=true→aN nm=false)(h2:(u==0)=aA u 0 0):(false:Bool)=(ownB 2 u l nm tv n1 n2 cv):=by
 simp only [aA] at *;first | (simp_all [ownB,aA];done) | grind [ownB,aA]
theorem gV (u l:Int)(nm:ByteArray)(tv n1 n2 cv:Bool)(h0:(aN nm)=false)(h1:(nm.toList == [])=true)(h2:(n1)=true)(h3:(n2)=true)(h4:(l==0)=true)(h5:(decide (u≥0))=true)(h6:(nm.toList == [])=true→aN nm=false)(h7:(u==0)=aA u 0 0):(decide (u≤999):Bool)=(ownB 2 u l nm tv n1 n2 cv):=by
 simp only [aA] at *;first | (simp_all [ownB,aA];done) | grind [ownB,aA]
theorem gS (u l:Int)(nm:ByteArray)(tv n1 n2 cv:Bool)(h0:(aN nm)=false)(h1:(nm.toList == [])=true)(h2:(n1)=true)(h3:(n2)=true)(h4:(l==0)=true)(h5:(decide (u≥0))=false)(h6:(nm.toList == [])=true→aN nm=false)(h7:(u==0)=aA u 0 0):(false:Bool)=(ownB 2 u l nm tv n1 n2 cv):=by
 simp only [aA] at *;first | (simp_all [ownB,aA];done) | grind [ownB,aA]
theorem gU (u l:Int)(nm:ByteArray)(tv n1 n2 cv:Bool)(h0:(aN nm)=false)(h1:(nm.toList == [])=true)(h2:(n1)=true)(h3:(n2)=true)(h4:(l==0)=false)(h5:(nm.toList == [])=true→aN nm=false)(h6:(u==0)=aA u 0 0):(false:Bool)=(ownB 2 u l nm tv n1 n2 cv):=by
 simp only [aA] at *;first | (simp_all [ownB,aA];done) | grind [ownB,aA]
theorem gQ (u l:Int)(nm:ByteArray)(tv n1 n2 cv:Bool)(h0:(aN nm)=false)(h1:(nm.toList == [])=true)(h2:(n1)=true)(h3:(n2)=false)(h4:(nm.toList == [])=true→aN nm=false)(h5:(u==0)=aA u 0 0):(false:Bool)=(ownB 2 u l nm tv n1 n2 cv):=by
 simp only [aA] at *;first | (simp_all [ownB,aA];done) | grind [ownB,aA]
theorem gc (u l:Int)(nm:ByteArray)(tv n1 n2 cv:Bool)(h0:(aN nm)=false)(h1:(nm.toList == [])=true)(h2:(n1)=false)(h3:(nm.toList == [])=true→aN nm=false)(h4:(u==0)=aA u 0 0):(false:Bool)=(ownB 2 u l nm tv n1 n2 cv):=by
 simp only [aA] at *;first | (simp_all [ownB,aA];done) | grind [ownB,aA]
theorem fv (u l:Int)(nm:ByteArray)(tv n1 n2 cv:Bool)(h0:(aN nm)=false)(h1:(nm.toList == [])=false)(h2:(nm.toList == [])=true→aN nm=false)(h3:(u==0)=aA u 0 0):(false:Bool)=(ownB 2 u l nm tv n1 n2 cv):=by
 simp only [aA] at *;first | (simp_all [ownB,aA];done) | grind [ownB,aA]
theorem g9 (u l:Int)(nm:ByteArray)(tv n1 n2 cv:Bool)(h0:(aN nm)=true)(h1:(tv)=true)(h2:(n2)=true)(h3:(l==0)=true)(h4:(nm.toList == [])=true→aN nm=false)(h5:(u==0)=aA u 0 0):(u==0:Bool)=(ownB 5 u l nm tv n1 n2 cv):=by
 simp only [aA] at *;first | (simp_all [ownB,aA];done) | grind [ownB,aA]
theorem fe (u l:Int)(nm:ByteArray)(tv n1 n2 cv:Bool)(h0:(aN nm)=true)(h1:(tv)=true)(h2:(n2)=true)(h3:(l==0)=false)(h4:(nm.toList == [])=true→aN nm=false)(h5:(u==0)=aA u 0 0):(false:Bool)=(ownB 5 u l nm tv n1 n2 cv):=by
 simp only [aA] at *;first | (simp_all [ownB,aA];done) | grind [ownB,aA]
theorem gd (u l:Int)(nm:ByteArray)(tv n1 n2 cv:Bool)(h0:(aN nm)=true)(h1:(tv)=true)(h2:(n2)=false)(h3:(nm.toList == [])=true→aN nm=false)(h4:(u==0)=aA u 0 0):(false:Bool)=(ownB 5 u l nm tv n1 n2 cv):=by
 simp only [aA] at *;first | (simp_all [ownB,aA];done) | grind [ownB,aA]
theorem ft (u l:Int)(nm:ByteArray)(tv n1 n2 cv:Bool)(h0:(aN nm)=true)(h1:(tv)=false)(h2:(nm.toList == [])=true→aN nm=false)(h3:(u==0)=aA u 0 0):(false:Bool)=(ownB 5 u l nm tv n1 n2 cv):=by
 simp only [aA] at *;first | (simp_all [ownB,aA];done) | grind [ownB,aA]
theorem fZ (u l:Int)(nm:ByteArray)(tv n1 n2 cv:Bool)(h0:(aN nm)=false)(h1:(nm.toList == [])=true→aN nm=false)(h2:(u==0)=aA u 0 0):(false:Bool)=(ownB 5 u l nm tv n1 n2 cv):=by
 simp only [aA] at *;first | (simp_all [ownB,aA];done) | grind [ownB,aA]
theorem eX (u l:Int)(nm:ByteArray)(tv n1 n2 cv:Bool)(h0:(aN nm)=true)(h1:(nm.toList == [])=true→aN nm=false)(h2:(u==0)=aA u 0 0):(false:Bool)=(ownB 13 u l nm tv n1 n2 cv):=by
 simp only [aA] at *;first | (simp_all [ownB,aA];done) | grind [ownB,aA]
theorem eT (u l:Int)(nm:ByteArray)(tv n1 n2 cv:Bool)(h0:(aN nm)=false)(h1:(nm.toList == [])=true)(h2:(tv)=true)(h3:(n2)=true)(h4:(l==0)=true)(h5:(nm.toList == [])=true→aN nm=false)(h6:(u==0)=aA u 0 0):(u==0:Bool)=(ownB 13 u l nm tv n1 n2 cv):=by
 simp only [aA] at *;first | (simp_all [ownB,aA];done) | grind [ownB,aA]
theorem eQ (u l:Int)(nm:ByteArray)(tv n1 n2 cv:Bool)(h0:(aN nm)=false)(h1:(nm.toList == [])=true)(h2:(tv)=true)(h3:(n2)=true)(h4:(l==0)=false)(h5:(nm.toList == [])=true→aN nm=false)(h6:(u==0)=aA u 0 0):(false:Bool)=(ownB 13 u l nm tv n1 n2 cv):=by
 simp only [aA] at *;first | (simp_all [ownB,aA];done) | grind [ownB,aA]
theorem eU (u l:Int)(nm:ByteArray)(tv n1 n2 cv:Bool)(h0:(aN nm)=false)(h1:(nm.toList == [])=true)(h2:(tv)=true)(h3:(n2)=false)(h4:(nm.toList == [])=true→aN nm=false)(h5:(u==0)=aA u 0 0):(false:Bool)=(ownB 13 u l nm tv n1 n2 cv):=by
 simp only [aA] at *;first | (simp_all [ownB,aA];done) | grind [ownB,aA]
theorem eA (u l:Int)(nm:ByteArray)(tv n1 n2 cv:Bool)(h0:(aN nm)=false)(h1:(nm.toList == [])=true)(h2:(tv)=false)(h3:(nm.toList == [])=true→aN nm=false)(h4:(u==0)=aA u 0 0):(false:Bool)=(ownB 13 u l nm tv n1 n2 cv):=by
 simp only [aA] at *;first | (simp_all [ownB,aA];done) | grind [ownB,aA]
theorem eF (u l:Int)(nm:ByteArray)(tv n1 n2 cv:Bool)(h0:(aN nm)=false)(h1:(nm.toList == [])=false)(h2:(nm.toList == [])=true→aN nm=false)(h3:(u==0)=aA u 0 0):(false:Bool)=(ownB 13 u l nm tv n1 n2 cv):=by
 simp only [aA] at *;first | (simp_all [ownB,aA];done) | grind [ownB,aA]
theorem fm (k u l:Int)(nm:ByteArray)(tv n1 n2 cv:Bool)(h0:(k==1)=false)(h1:(k==5)=false)(h2:(k==13)=false)(h3:(k==14)=false)(h4:(k==2)=false)(h5:(aN nm)=true)(h6:(nm.toList == [])=true→aN nm=false)(h7:(u==0)=aA u 0 0):(false:Bool)=(ownB k u l nm tv n1 n2 cv):=by
 simp only [aA] at *;first | (simp_all [ownB,aA];done) | grind [ownB,aA]
theorem gj (k u l:Int)(nm:ByteArray)(tv n1 n2 cv:Bool)(h0:(k==1)=false)(h1:(k==5)=false)(h2:(k==13)=false)(h3:(k==14)=false)(h4:(k==2)=false)(h5:(aN nm)=false)(h6:(nm.toList == [])=true)(h7:(n1)=true)(h8:(n2)=true)(h9:(l==0)=true)(h10:(nm.toList == [])=true→aN nm=false)(h11:(u==0)=aA u 0 0):(u==0:Bool)=(ownB k u l nm tv n1 n2 cv):=by
 simp only [aA] at *;first | (simp_all [ownB,aA];done) | grind [ownB,aA]
theorem fD (k u l:Int)(nm:ByteArray)(tv n1 n2 cv:Bool)(h0:(k==1)=false)(h1:(k==5)=false)(h2:(k==13)=false)(h3:(k==14)=false)(h4:(k==2)=false)(h5:(aN nm)=false)(h6:(nm.toList == [])=true)(h7:(n1)=true)(h8:(n2)=true)(h9:(l==0)=false)(h10:(nm.toList == [])=true→aN nm=false)(h11:(u==0)=aA u 0 0):(false:Bool)=(ownB k u l nm tv n1 n2 cv):=by
 simp only [aA] at *;first | (simp_all [ownB,aA];done) | grind [ownB,aA]
theorem fQ (k u l:Int)(nm:ByteArray)(tv n1 n2 cv:Bool)(h0:(k==1)=false)(h1:(k==5)=false)(h2:(k==13)=false)(h3:(k==14)=false)(h4:(k==2)=false)(h5:(aN nm)=false)(h6:(nm.toList == [])=true)(h7:(n1)=true)(h8:(n2)=false)(h9:(nm.toList == [])=true→aN nm=false)(h10:(u==0)=aA u 0 0):(false:Bool)=(ownB k u l nm tv n1 n2 cv):=by
 simp only [aA] at *;first | (simp_all [ownB,aA];done) | grind [ownB,aA]
theorem fx (k u l:Int)(nm:ByteArray)(tv n1 n2 cv:Bool)(h0:(k==1)=false)(h1:(k==5)=false)(h2:(k==13)=false)(h3:(k==14)=false)(h4:(k==2)=false)(h5:(aN nm)=false)(h6:(nm.toList == [])=true)(h7:(n1)=false)(h8:(nm.toList == [])=true→aN nm=false)(h9:(u==0)=aA u 0 0):(false:Bool)=(ownB k u l nm tv n1 n2 cv):=by
 simp only [aA] at *;first | (simp_all [ownB,aA];done) | grind [ownB,aA]
theorem fP (k u l:Int)(nm:ByteArray)(tv n1 n2 cv:Bool)(h0:(k==1)=false)(h1:(k==5)=false)(h2:(k==13)=false)(h3:(k==14)=false)(h4:(k==2)=false)(h5:(aN nm)=false)(h6:(nm.toList == [])=false)(h7:(nm.toList == [])=true→aN nm=false)(h8:(u==0)=aA u 0 0):(false:Bool)=(ownB k u l nm tv n1 n2 cv):=by
 simp only [aA] at *;first | (simp_all [ownB,aA];done) | grind [ownB,aA]
set_option maxHeartbeats 4000000 in
theorem oE (u tk fk l:Int)(nm:ByteArray)(ta fa c:Option Addr)(tn tq fn fq m q:Nat)(w:World)(tv n1 n2 cv:Bool)(H1:Hid (∀W,Below w.heap.size w W→Calls Try.prog 41 #[.agg #[.int .i64 tk,.slice ta tn tq]] W fun e W'=>e = .returned (.bool (tv))∧Below W.heap.size W W'))(H2:Hid (∀W,Below w.heap.size w W→Calls Try.prog 73 #[.agg #[.int .i64 tk,.slice ta tn tq]] W fun e W'=>e = .returned (.bool (n1))∧Below W.heap.size W W'))(H4:Hid (∀W,Below w.heap.size w W→Calls Try.prog 73 #[.agg #[.int .i64 fk,.slice fa fn fq]] W fun e W'=>e = .returned (.bool (n2))∧Below W.heap.size W W')) :
  Calls Try.prog 56 #[.agg #[.int .i64 1,.string nm,.int .i64 u,.int .i64 tk,.slice ta tn tq,.int .i64 fk,.slice fa fn fq,.int .i64 l,.slice c m q]] w fun e w'=>e = .returned (.bool (ownB 1 u l nm tv n1 n2 cv))∧Below w.heap.size w w':=by
 obtain⟨rr,hrr⟩ : ∃rr0:Bool,(ownB 1 u l nm tv n1 n2 cv)=rr0:=⟨_,rfl⟩
 rw [hrr]
 have HT:=Lib.hid hrr
 clear hrr
 go_enter Try.func56,Try.ntmps56
 rcases Bool.eq_false_or_eq_true (aN nm) with q1 | q1
 ·have Hq1:=Lib.hid q1
  clear q1
  go_wp2_with fail
  refine(bo nm _).mono ?_
  rintro e w1 ⟨rfl,hb1⟩
  rw [Hq1.out]
  have hB:=(ai ah hb1)
  have zw1:=hB.size
  have c0_3:w1.cell? ⟨w.heap.size,3,none⟩=some (.int .i64 tk):=a9 hb1 (aj (by simp) 3)
  have c0_4:w1.cell? ⟨w.heap.size,4,none⟩=some (.slice ta tn tq):=a9 hb1 (aj (by simp) 4)
  have c0_0:w1.cell? ⟨w.heap.size,0,none⟩=some (.int .i64 1):=a9 hb1 (aj (by simp) 0)
  have c0_5:w1.cell? ⟨w.heap.size,5,none⟩=some (.int .i64 fk):=a9 hb1 (aj (by simp) 5)
  have c0_6:w1.cell? ⟨w.heap.size,6,none⟩=some (.slice fa fn fq):=a9 hb1 (aj (by simp) 6)
  have c0_7:w1.cell? ⟨w.heap.size,7,none⟩=some (.int .i64 l):=a9 hb1 (aj (by simp) 7)
  have c0_2:w1.cell? ⟨w.heap.size,2,none⟩=some (.int .i64 u):=a9 hb1 (aj (by simp) 2)
  have d0_w1:=World.block_lt_of_cell? _ _ c0_3
  go_wp2_with fail
  refine(H2.out _ hB).mono ?_
  rintro e w2 ⟨rfl,hb2⟩
  replace hB:=(ai hB hb2)
  have zw2:=hB.size
  replace c0_0:w2.cell? ⟨w.heap.size,0,none⟩=some (.int .i64 1):=a9 hb2 (c0_0)
  replace c0_5:w2.cell? ⟨w.heap.size,5,none⟩=some (.int .i64 fk):=a9 hb2 (c0_5)
  replace c0_6:w2.cell? ⟨w.heap.size,6,none⟩=some (.slice fa fn fq):=a9 hb2 (c0_6)
  replace c0_7:w2.cell? ⟨w.heap.size,7,none⟩=some (.int .i64 l):=a9 hb2 (c0_7)
  replace c0_2:w2.cell? ⟨w.heap.size,2,none⟩=some (.int .i64 u):=a9 hb2 (c0_2)
  have d0_w2:=World.block_lt_of_cell? _ _ c0_0
  rcases Bool.eq_false_or_eq_true (n1) with q2 | q2
  ·(try rw [q2])
   have Hq2:=Lib.hid q2
   clear q2
   rcases Bool.eq_false_or_eq_true (n2) with q3 | q3
   ·have Hq3:=Lib.hid q3
    clear q3
    go_wp2_with fail
    refine(H4.out _ hB).mono ?_
    rintro e w3 ⟨rfl,hb3⟩
    rw [Hq3.out]
    replace hB:=(ai hB hb3)
    have zw3:=hB.size
    replace c0_7:w3.cell? ⟨w.heap.size,7,none⟩=some (.int .i64 l):=a9 hb3 (c0_7)
    replace c0_0:w3.cell? ⟨w.heap.size,0,none⟩=some (.int .i64 1):=a9 hb3 (c0_0)
    replace c0_2:w3.cell? ⟨w.heap.size,2,none⟩=some (.int .i64 u):=a9 hb3 (c0_2)
    have d0_w3:=World.block_lt_of_cell? _ _ c0_7
    rcases Bool.eq_false_or_eq_true (l==0) with q4 | q4
    ·(try rw [q4])
     have nq4:(l != 0)=false:=by simp only [bne,q4];rfl
     go_wp2_with fail
     refine bodyPost_ret (v:=.bool (u==0)) (by simp [results,Try.results56,go_sem,bne]) rfl ?_
     exact⟨au ((hI u l nm tv n1 n2 cv Hq1.out Hq2.out Hq3.out q4 b5 (bU u)).trans HT.out),hB⟩
    ·(try rw [q4])
     have nq4:(l != 0)=true:=by simp only [bne,q4];rfl
     go_wp2_with fail
     refine bodyPost_ret (v:=.bool (false)) (by simp [results,Try.results56,go_sem,bne]) rfl ?_
     exact⟨au ((gX u l nm tv n1 n2 cv Hq1.out Hq2.out Hq3.out q4 b5 (bU u)).trans HT.out),hB⟩
   ·have Hq3:=Lib.hid q3
    clear q3
    go_wp2_with fail
    refine(H4.out _ hB).mono ?_
    rintro e w4 ⟨rfl,hb4⟩
    rw [Hq3.out]
    replace hB:=(ai hB hb4)
    have zw4:=hB.size
    go_wp2_with fail
    refine bodyPost_ret (v:=.bool (false)) (by simp [results,Try.results56,go_sem,bne]) rfl ?_
    exact⟨au ((gT u l nm tv n1 n2 cv Hq1.out Hq2.out Hq3.out b5 (bU u)).trans HT.out),hB⟩
  ·(try rw [q2])
   have Hq2:=Lib.hid q2
   clear q2
   go_wp2_with fail
   refine bodyPost_ret (v:=.bool (false)) (by simp [results,Try.results56,go_sem,bne]) rfl ?_
   exact⟨au ((gP u l nm tv n1 n2 cv Hq1.out Hq2.out b5 (bU u)).trans HT.out),hB⟩
 ·have Hq1:=Lib.hid q1
  clear q1
  go_wp2_with fail
  refine(bo nm _).mono ?_
  rintro e w5 ⟨rfl,hb5⟩
  rw [Hq1.out]
  have hB:=(ai ah hb5)
  have zw5:=hB.size
  go_wp2_with fail
  refine bodyPost_ret (v:=.bool (false)) (by simp [results,Try.results56,go_sem,bne]) rfl ?_
  exact⟨au ((gR u l nm tv n1 n2 cv Hq1.out b5 (bU u)).trans HT.out),hB⟩
set_option maxHeartbeats 4000000 in
theorem oT (u tk fk l:Int)(nm:ByteArray)(ta fa c:Option Addr)(tn tq fn fq m q:Nat)(w:World)(tv n1 n2 cv:Bool)(H1:Hid (∀W,Below w.heap.size w W→Calls Try.prog 41 #[.agg #[.int .i64 tk,.slice ta tn tq]] W fun e W'=>e = .returned (.bool (tv))∧Below W.heap.size W W'))(H2:Hid (∀W,Below w.heap.size w W→Calls Try.prog 73 #[.agg #[.int .i64 tk,.slice ta tn tq]] W fun e W'=>e = .returned (.bool (n1))∧Below W.heap.size W W'))(H4:Hid (∀W,Below w.heap.size w W→Calls Try.prog 73 #[.agg #[.int .i64 fk,.slice fa fn fq]] W fun e W'=>e = .returned (.bool (n2))∧Below W.heap.size W W')) :
  Calls Try.prog 56 #[.agg #[.int .i64 2,.string nm,.int .i64 u,.int .i64 tk,.slice ta tn tq,.int .i64 fk,.slice fa fn fq,.int .i64 l,.slice c m q]] w fun e w'=>e = .returned (.bool (ownB 2 u l nm tv n1 n2 cv))∧Below w.heap.size w w':=by
 obtain⟨rr,hrr⟩ : ∃rr0:Bool,(ownB 2 u l nm tv n1 n2 cv)=rr0:=⟨_,rfl⟩
 rw [hrr]
 have HT:=Lib.hid hrr
 clear hrr
 go_enter Try.func56,Try.ntmps56
 rcases Bool.eq_false_or_eq_true (aN nm) with q1 | q1
 ·have Hq1:=Lib.hid q1
  clear q1
  go_wp2_with fail
  refine(bo nm _).mono ?_
  rintro e w1 ⟨rfl,hb1⟩
  rw [Hq1.out]
  have hB:=(ai ah hb1)
  have zw1:=hB.size
  go_wp2_with fail
  refine bodyPost_ret (v:=.bool (false)) (by simp [results,Try.results56,go_sem,bne]) rfl ?_
  exact⟨au ((hG u l nm tv n1 n2 cv Hq1.out b5 (bU u)).trans HT.out),hB⟩
 ·have Hq1:=Lib.hid q1
  clear q1
  rcases Bool.eq_false_or_eq_true (nm.toList == []) with q2 | q2
  ·skip
   have nq2:(nm.toList != [])=false:=by simp only [bne,q2];rfl
   go_wp2_with fail
   refine(bo nm _).mono ?_
   rintro e w2 ⟨rfl,hb2⟩
   rw [Hq1.out]
   have hB:=(ai ah hb2)
   have zw2:=hB.size
   have c0_1:w2.cell? ⟨w.heap.size,1,none⟩=some (.string nm):=a9 hb2 (aj (by simp) 1)
   have c0_3:w2.cell? ⟨w.heap.size,3,none⟩=some (.int .i64 tk):=a9 hb2 (aj (by simp) 3)
   have c0_4:w2.cell? ⟨w.heap.size,4,none⟩=some (.slice ta tn tq):=a9 hb2 (aj (by simp) 4)
   have c0_0:w2.cell? ⟨w.heap.size,0,none⟩=some (.int .i64 2):=a9 hb2 (aj (by simp) 0)
   have c0_5:w2.cell? ⟨w.heap.size,5,none⟩=some (.int .i64 fk):=a9 hb2 (aj (by simp) 5)
   have c0_6:w2.cell? ⟨w.heap.size,6,none⟩=some (.slice fa fn fq):=a9 hb2 (aj (by simp) 6)
   have c0_7:w2.cell? ⟨w.heap.size,7,none⟩=some (.int .i64 l):=a9 hb2 (aj (by simp) 7)
   have c0_2:w2.cell? ⟨w.heap.size,2,none⟩=some (.int .i64 u):=a9 hb2 (aj (by simp) 2)
   have d0_w2:=World.block_lt_of_cell? _ _ c0_1
   go_wp2_with fail
   refine(H2.out _ hB).mono ?_
   rintro e w3 ⟨rfl,hb3⟩
   replace hB:=(ai hB hb3)
   have zw3:=hB.size
   replace c0_0:w3.cell? ⟨w.heap.size,0,none⟩=some (.int .i64 2):=a9 hb3 (c0_0)
   replace c0_5:w3.cell? ⟨w.heap.size,5,none⟩=some (.int .i64 fk):=a9 hb3 (c0_5)
   replace c0_6:w3.cell? ⟨w.heap.size,6,none⟩=some (.slice fa fn fq):=a9 hb3 (c0_6)
   replace c0_7:w3.cell? ⟨w.heap.size,7,none⟩=some (.int .i64 l):=a9 hb3 (c0_7)
   replace c0_2:w3.cell? ⟨w.heap.size,2,none⟩=some (.int .i64 u):=a9 hb3 (c0_2)
   have d0_w3:=World.block_lt_of_cell? _ _ c0_0
   rcases Bool.eq_false_or_eq_true (n1) with q3 | q3
   ·(try rw [q3])
    have Hq3:=Lib.hid q3
    clear q3
    rcases Bool.eq_false_or_eq_true (n2) with q4 | q4
    ·have Hq4:=Lib.hid q4
     clear q4
     go_wp2_with fail
     refine(H4.out _ hB).mono ?_
     rintro e w4 ⟨rfl,hb4⟩
     rw [Hq4.out]
     replace hB:=(ai hB hb4)
     have zw4:=hB.size
     replace c0_7:w4.cell? ⟨w.heap.size,7,none⟩=some (.int .i64 l):=a9 hb4 (c0_7)
     replace c0_0:w4.cell? ⟨w.heap.size,0,none⟩=some (.int .i64 2):=a9 hb4 (c0_0)
     replace c0_2:w4.cell? ⟨w.heap.size,2,none⟩=some (.int .i64 u):=a9 hb4 (c0_2)
     have d0_w4:=World.block_lt_of_cell? _ _ c0_7
     rcases Bool.eq_false_or_eq_true (l==0) with q5 | q5
     ·(try rw [q5])
      have nq5:(l != 0)=false:=by simp only [bne,q5];rfl
      rcases Bool.eq_false_or_eq_true (decide (u≥0)) with q6 | q6
      ·skip
       go_wp2_with fail
       refine bodyPost_ret (v:=.bool (decide (u≤999))) (by simp [results,Try.results56,go_sem,bne]) rfl ?_
       exact⟨au ((gV u l nm tv n1 n2 cv Hq1.out q2 Hq3.out Hq4.out q5 q6 b5 (bU u)).trans HT.out),hB⟩
      ·skip
       go_wp2_with fail
       refine bodyPost_ret (v:=.bool (false)) (by simp [results,Try.results56,go_sem,bne]) rfl ?_
       exact⟨au ((gS u l nm tv n1 n2 cv Hq1.out q2 Hq3.out Hq4.out q5 q6 b5 (bU u)).trans HT.out),hB⟩
     ·(try rw [q5])
      have nq5:(l != 0)=true:=by simp only [bne,q5];rfl
      go_wp2_with fail
      refine bodyPost_ret (v:=.bool (false)) (by simp [results,Try.results56,go_sem,bne]) rfl ?_
      exact⟨au ((gU u l nm tv n1 n2 cv Hq1.out q2 Hq3.out Hq4.out q5 b5 (bU u)).trans HT.out),hB⟩
    ·have Hq4:=Lib.hid q4
     clear q4
     go_wp2_with fail
     refine(H4.out _ hB).mono ?_
     rintro e w5 ⟨rfl,hb5⟩
     rw [Hq4.out]
     replace hB:=(ai hB hb5)
     have zw5:=hB.size
     go_wp2_with fail
     refine bodyPost_ret (v:=.bool (false)) (by simp [results,Try.results56,go_sem,bne]) rfl ?_
     exact⟨au ((gQ u l nm tv n1 n2 cv Hq1.out q2 Hq3.out Hq4.out b5 (bU u)).trans HT.out),hB⟩
   ·(try rw [q3])
    have Hq3:=Lib.hid q3
    clear q3
    go_wp2_with fail
    refine bodyPost_ret (v:=.bool (false)) (by simp [results,Try.results56,go_sem,bne]) rfl ?_
    exact⟨au ((gc u l nm tv n1 n2 cv Hq1.out q2 Hq3.out b5 (bU u)).trans HT.out),hB⟩
  ·skip
   have nq2:(nm.toList != [])=true:=by simp only [bne,q2];rfl
   go_wp2_with fail
   refine(bo nm _).mono ?_
   rintro e w6 ⟨rfl,hb6⟩
   rw [Hq1.out]
   have hB:=(ai ah hb6)
   have zw6:=hB.size
   have c0_1:w6.cell? ⟨w.heap.size,1,none⟩=some (.string nm):=a9 hb6 (aj (by simp) 1)
   have d0_w6:=World.block_lt_of_cell? _ _ c0_1
   go_wp2_with fail
   refine bodyPost_ret (v:=.bool (false)) (by simp [results,Try.results56,go_sem,bne]) rfl ?_
   exact⟨au ((fv u l nm tv n1 n2 cv Hq1.out q2 b5 (bU u)).trans HT.out),hB⟩
set_option maxHeartbeats 4000000 in
theorem oA (u tk fk l:Int)(nm:ByteArray)(ta fa c:Option Addr)(tn tq fn fq m q:Nat)(w:World)(tv n1 n2 cv:Bool)(H1:Hid (∀W,Below w.heap.size w W→Calls Try.prog 41 #[.agg #[.int .i64 tk,.slice ta tn tq]] W fun e W'=>e = .returned (.bool (tv))∧Below W.heap.size W W'))(H2:Hid (∀W,Below w.heap.size w W→Calls Try.prog 73 #[.agg #[.int .i64 tk,.slice ta tn tq]] W fun e W'=>e = .returned (.bool (n1))∧Below W.heap.size W W'))(H4:Hid (∀W,Below w.heap.size w W→Calls Try.prog 73 #[.agg #[.int .i64 fk,.slice fa fn fq]] W fun e W'=>e = .returned (.bool (n2))∧Below W.heap.size W W')) :
  Calls Try.prog 56 #[.agg #[.int .i64 5,.string nm,.int .i64 u,.int .i64 tk,.slice ta tn tq,.int .i64 fk,.slice fa fn fq,.int .i64 l,.slice c m q]] w fun e w'=>e = .returned (.bool (ownB 5 u l nm tv n1 n2 cv))∧Below w.heap.size w w':=by
 obtain⟨rr,hrr⟩ : ∃rr0:Bool,(ownB 5 u l nm tv n1 n2 cv)=rr0:=⟨_,rfl⟩
 rw [hrr]
 have HT:=Lib.hid hrr
 clear hrr
 go_enter Try.func56,Try.ntmps56
 rcases Bool.eq_false_or_eq_true (aN nm) with q1 | q1
 ·have Hq1:=Lib.hid q1
  clear q1
  rcases Bool.eq_false_or_eq_true (tv) with q2 | q2
  ·have Hq2:=Lib.hid q2
   clear q2
   go_wp2_with fail
   refine(bo nm _).mono ?_
   rintro e w1 ⟨rfl,hb1⟩
   rw [Hq1.out]
   have hB:=(ai ah hb1)
   have zw1:=hB.size
   have c0_3:w1.cell? ⟨w.heap.size,3,none⟩=some (.int .i64 tk):=a9 hb1 (aj (by simp) 3)
   have c0_4:w1.cell? ⟨w.heap.size,4,none⟩=some (.slice ta tn tq):=a9 hb1 (aj (by simp) 4)
   have c0_0:w1.cell? ⟨w.heap.size,0,none⟩=some (.int .i64 5):=a9 hb1 (aj (by simp) 0)
   have c0_5:w1.cell? ⟨w.heap.size,5,none⟩=some (.int .i64 fk):=a9 hb1 (aj (by simp) 5)
   have c0_6:w1.cell? ⟨w.heap.size,6,none⟩=some (.slice fa fn fq):=a9 hb1 (aj (by simp) 6)
   have c0_7:w1.cell? ⟨w.heap.size,7,none⟩=some (.int .i64 l):=a9 hb1 (aj (by simp) 7)
   have c0_2:w1.cell? ⟨w.heap.size,2,none⟩=some (.int .i64 u):=a9 hb1 (aj (by simp) 2)
   have d0_w1:=World.block_lt_of_cell? _ _ c0_3
   go_wp2_with fail
   refine(H1.out _ hB).mono ?_
   rintro e w2 ⟨rfl,hb2⟩
   rw [Hq2.out]
   replace hB:=(ai hB hb2)
   have zw2:=hB.size
   replace c0_0:w2.cell? ⟨w.heap.size,0,none⟩=some (.int .i64 5):=a9 hb2 (c0_0)
   replace c0_5:w2.cell? ⟨w.heap.size,5,none⟩=some (.int .i64 fk):=a9 hb2 (c0_5)
   replace c0_6:w2.cell? ⟨w.heap.size,6,none⟩=some (.slice fa fn fq):=a9 hb2 (c0_6)
   replace c0_7:w2.cell? ⟨w.heap.size,7,none⟩=some (.int .i64 l):=a9 hb2 (c0_7)
   replace c0_2:w2.cell? ⟨w.heap.size,2,none⟩=some (.int .i64 u):=a9 hb2 (c0_2)
   have d0_w2:=World.block_lt_of_cell? _ _ c0_0
   rcases Bool.eq_false_or_eq_true (n2) with q3 | q3
   ·have Hq3:=Lib.hid q3
    clear q3
    go_wp2_with fail
    refine(H4.out _ hB).mono ?_
    rintro e w3 ⟨rfl,hb3⟩
    rw [Hq3.out]
    replace hB:=(ai hB hb3)
    have zw3:=hB.size
    replace c0_7:w3.cell? ⟨w.heap.size,7,none⟩=some (.int .i64 l):=a9 hb3 (c0_7)
    replace c0_0:w3.cell? ⟨w.heap.size,0,none⟩=some (.int .i64 5):=a9 hb3 (c0_0)
    replace c0_2:w3.cell? ⟨w.heap.size,2,none⟩=some (.int .i64 u):=a9 hb3 (c0_2)
    have d0_w3:=World.block_lt_of_cell? _ _ c0_7
    rcases Bool.eq_false_or_eq_true (l==0) with q4 | q4
    ·(try rw [q4])
     have nq4:(l != 0)=false:=by simp only [bne,q4];rfl
     go_wp2_with fail
     refine bodyPost_ret (v:=.bool (u==0)) (by simp [results,Try.results56,go_sem,bne]) rfl ?_
     exact⟨au ((g9 u l nm tv n1 n2 cv Hq1.out Hq2.out Hq3.out q4 b5 (bU u)).trans HT.out),hB⟩
    ·(try rw [q4])
     have nq4:(l != 0)=true:=by simp only [bne,q4];rfl
     go_wp2_with fail
     refine bodyPost_ret (v:=.bool (false)) (by simp [results,Try.results56,go_sem,bne]) rfl ?_
     exact⟨au ((fe u l nm tv n1 n2 cv Hq1.out Hq2.out Hq3.out q4 b5 (bU u)).trans HT.out),hB⟩
   ·have Hq3:=Lib.hid q3
    clear q3
    go_wp2_with fail
    refine(H4.out _ hB).mono ?_
    rintro e w4 ⟨rfl,hb4⟩
    rw [Hq3.out]
    replace hB:=(ai hB hb4)
    have zw4:=hB.size
    go_wp2_with fail
    refine bodyPost_ret (v:=.bool (false)) (by simp [results,Try.results56,go_sem,bne]) rfl ?_
    exact⟨au ((gd u l nm tv n1 n2 cv Hq1.out Hq2.out Hq3.out b5 (bU u)).trans HT.out),hB⟩
  ·have Hq2:=Lib.hid q2
   clear q2
   go_wp2_with fail
   refine(bo nm _).mono ?_
   rintro e w5 ⟨rfl,hb5⟩
   rw [Hq1.out]
   have hB:=(ai ah hb5)
   have zw5:=hB.size
   have c0_3:w5.cell? ⟨w.heap.size,3,none⟩=some (.int .i64 tk):=a9 hb5 (aj (by simp) 3)
   have c0_4:w5.cell? ⟨w.heap.size,4,none⟩=some (.slice ta tn tq):=a9 hb5 (aj (by simp) 4)
   have d0_w5:=World.block_lt_of_cell? _ _ c0_3
   go_wp2_with fail
   refine(H1.out _ hB).mono ?_
   rintro e w6 ⟨rfl,hb6⟩
   rw [Hq2.out]
   replace hB:=(ai hB hb6)
   have zw6:=hB.size
   go_wp2_with fail
   refine bodyPost_ret (v:=.bool (false)) (by simp [results,Try.results56,go_sem,bne]) rfl ?_
   exact⟨au ((ft u l nm tv n1 n2 cv Hq1.out Hq2.out b5 (bU u)).trans HT.out),hB⟩
 ·have Hq1:=Lib.hid q1
  clear q1
  go_wp2_with fail
  refine(bo nm _).mono ?_
  rintro e w7 ⟨rfl,hb7⟩
  rw [Hq1.out]
  have hB:=(ai ah hb7)
  have zw7:=hB.size
  go_wp2_with fail
  refine bodyPost_ret (v:=.bool (false)) (by simp [results,Try.results56,go_sem,bne]) rfl ?_
  exact⟨au ((fZ u l nm tv n1 n2 cv Hq1.out b5 (bU u)).trans HT.out),hB⟩
set_option maxHeartbeats 4000000 in
theorem nl (u tk fk l:Int)(nm:ByteArray)(ta fa c:Option Addr)(tn tq fn fq m q:Nat)(w:World)(tv n1 n2 cv:Bool)(H1:Hid (∀W,Below w.heap.size w W→Calls Try.prog 41 #[.agg #[.int .i64 tk,.slice ta tn tq]] W fun e W'=>e = .returned (.bool (tv))∧Below W.heap.size W W'))(H2:Hid (∀W,Below w.heap.size w W→Calls Try.prog 73 #[.agg #[.int .i64 tk,.slice ta tn tq]] W fun e W'=>e = .returned (.bool (n1))∧Below W.heap.size W W'))(H4:Hid (∀W,Below w.heap.size w W→Calls Try.prog 73 #[.agg #[.int .i64 fk,.slice fa fn fq]] W fun e W'=>e = .returned (.bool (n2))∧Below W.heap.size W W')) :
  Calls Try.prog 56 #[.agg #[.int .i64 13,.string nm,.int .i64 u,.int .i64 tk,.slice ta tn tq,.int .i64 fk,.slice fa fn fq,.int .i64 l,.slice c m q]] w fun e w'=>e = .returned (.bool (ownB 13 u l nm tv n1 n2 cv))∧Below w.heap.size w w':=by
 obtain⟨rr,hrr⟩ : ∃rr0:Bool,(ownB 13 u l nm tv n1 n2 cv)=rr0:=⟨_,rfl⟩
 rw [hrr]
 have HT:=Lib.hid hrr
 clear hrr
 go_enter Try.func56,Try.ntmps56
 rcases Bool.eq_false_or_eq_true (aN nm) with q1 | q1
 ·have Hq1:=Lib.hid q1
  clear q1
  go_wp2_with fail
  refine(bo nm _).mono ?_
  rintro e w1 ⟨rfl,hb1⟩
  rw [Hq1.out]
  have hB:=(ai ah hb1)
  have zw1:=hB.size
  go_wp2_with fail
  refine bodyPost_ret (v:=.bool (false)) (by simp [results,Try.results56,go_sem,bne]) rfl ?_
  exact⟨au ((eX u l nm tv n1 n2 cv Hq1.out b5 (bU u)).trans HT.out),hB⟩
 ·have Hq1:=Lib.hid q1
  clear q1
  rcases Bool.eq_false_or_eq_true (nm.toList == []) with q2 | q2
  ·skip
   have nq2:(nm.toList != [])=false:=by simp only [bne,q2];rfl
   rcases Bool.eq_false_or_eq_true (tv) with q3 | q3
   ·have Hq3:=Lib.hid q3
    clear q3
    go_wp2_with fail
    refine(bo nm _).mono ?_
    rintro e w2 ⟨rfl,hb2⟩
    rw [Hq1.out]
    have hB:=(ai ah hb2)
    have zw2:=hB.size
    have c0_1:w2.cell? ⟨w.heap.size,1,none⟩=some (.string nm):=a9 hb2 (aj (by simp) 1)
    have c0_3:w2.cell? ⟨w.heap.size,3,none⟩=some (.int .i64 tk):=a9 hb2 (aj (by simp) 3)
    have c0_4:w2.cell? ⟨w.heap.size,4,none⟩=some (.slice ta tn tq):=a9 hb2 (aj (by simp) 4)
    have c0_0:w2.cell? ⟨w.heap.size,0,none⟩=some (.int .i64 13):=a9 hb2 (aj (by simp) 0)
    have c0_5:w2.cell? ⟨w.heap.size,5,none⟩=some (.int .i64 fk):=a9 hb2 (aj (by simp) 5)
    have c0_6:w2.cell? ⟨w.heap.size,6,none⟩=some (.slice fa fn fq):=a9 hb2 (aj (by simp) 6)
    have c0_7:w2.cell? ⟨w.heap.size,7,none⟩=some (.int .i64 l):=a9 hb2 (aj (by simp) 7)
    have c0_2:w2.cell? ⟨w.heap.size,2,none⟩=some (.int .i64 u):=a9 hb2 (aj (by simp) 2)
    have d0_w2:=World.block_lt_of_cell? _ _ c0_1
    go_wp2_with fail
    refine(H1.out _ hB).mono ?_
    rintro e w3 ⟨rfl,hb3⟩
    rw [Hq3.out]
    replace hB:=(ai hB hb3)
    have zw3:=hB.size
    replace c0_0:w3.cell? ⟨w.heap.size,0,none⟩=some (.int .i64 13):=a9 hb3 (c0_0)
    replace c0_5:w3.cell? ⟨w.heap.size,5,none⟩=some (.int .i64 fk):=a9 hb3 (c0_5)
    replace c0_6:w3.cell? ⟨w.heap.size,6,none⟩=some (.slice fa fn fq):=a9 hb3 (c0_6)
    replace c0_7:w3.cell? ⟨w.heap.size,7,none⟩=some (.int .i64 l):=a9 hb3 (c0_7)
    replace c0_2:w3.cell? ⟨w.heap.size,2,none⟩=some (.int .i64 u):=a9 hb3 (c0_2)
    have d0_w3:=World.block_lt_of_cell? _ _ c0_0
    rcases Bool.eq_false_or_eq_true (n2) with q4 | q4
    ·have Hq4:=Lib.hid q4
     clear q4
     go_wp2_with fail
     refine(H4.out _ hB).mono ?_
     rintro e w4 ⟨rfl,hb4⟩
     rw [Hq4.out]
     replace hB:=(ai hB hb4)
     have zw4:=hB.size
     replace c0_7:w4.cell? ⟨w.heap.size,7,none⟩=some (.int .i64 l):=a9 hb4 (c0_7)
     replace c0_0:w4.cell? ⟨w.heap.size,0,none⟩=some (.int .i64 13):=a9 hb4 (c0_0)
     replace c0_2:w4.cell? ⟨w.heap.size,2,none⟩=some (.int .i64 u):=a9 hb4 (c0_2)
     have d0_w4:=World.block_lt_of_cell? _ _ c0_7
     rcases Bool.eq_false_or_eq_true (l==0) with q5 | q5
     ·(try rw [q5])
      have nq5:(l != 0)=false:=by simp only [bne,q5];rfl
      go_wp2_with fail
      refine bodyPost_ret (v:=.bool (u==0)) (by simp [results,Try.results56,go_sem,bne]) rfl ?_
      exact⟨au ((eT u l nm tv n1 n2 cv Hq1.out q2 Hq3.out Hq4.out q5 b5 (bU u)).trans HT.out),hB⟩
     ·(try rw [q5])
      have nq5:(l != 0)=true:=by simp only [bne,q5];rfl
      go_wp2_with fail
      refine bodyPost_ret (v:=.bool (false)) (by simp [results,Try.results56,go_sem,bne]) rfl ?_
      exact⟨au ((eQ u l nm tv n1 n2 cv Hq1.out q2 Hq3.out Hq4.out q5 b5 (bU u)).trans HT.out),hB⟩
    ·have Hq4:=Lib.hid q4
     clear q4
     go_wp2_with fail
     refine(H4.out _ hB).mono ?_
     rintro e w5 ⟨rfl,hb5⟩
     rw [Hq4.out]
     replace hB:=(ai hB hb5)
     have zw5:=hB.size
     go_wp2_with fail
     refine bodyPost_ret (v:=.bool (false)) (by simp [results,Try.results56,go_sem,bne]) rfl ?_
     exact⟨au ((eU u l nm tv n1 n2 cv Hq1.out q2 Hq3.out Hq4.out b5 (bU u)).trans HT.out),hB⟩
   ·have Hq3:=Lib.hid q3
    clear q3
    go_wp2_with fail
    refine(bo nm _).mono ?_
    rintro e w6 ⟨rfl,hb6⟩
    rw [Hq1.out]
    have hB:=(ai ah hb6)
    have zw6:=hB.size
    have c0_1:w6.cell? ⟨w.heap.size,1,none⟩=some (.string nm):=a9 hb6 (aj (by simp) 1)
    have c0_3:w6.cell? ⟨w.heap.size,3,none⟩=some (.int .i64 tk):=a9 hb6 (aj (by simp) 3)
    have c0_4:w6.cell? ⟨w.heap.size,4,none⟩=some (.slice ta tn tq):=a9 hb6 (aj (by simp) 4)
    have d0_w6:=World.block_lt_of_cell? _ _ c0_1
    go_wp2_with fail
    refine(H1.out _ hB).mono ?_
    rintro e w7 ⟨rfl,hb7⟩
    rw [Hq3.out]
    replace hB:=(ai hB hb7)
    have zw7:=hB.size
    go_wp2_with fail
    refine bodyPost_ret (v:=.bool (false)) (by simp [results,Try.results56,go_sem,bne]) rfl ?_
    exact⟨au ((eA u l nm tv n1 n2 cv Hq1.out q2 Hq3.out b5 (bU u)).trans HT.out),hB⟩
  ·skip
   have nq2:(nm.toList != [])=true:=by simp only [bne,q2];rfl
   go_wp2_with fail
   refine(bo nm _).mono ?_
   rintro e w8 ⟨rfl,hb8⟩
   rw [Hq1.out]
   have hB:=(ai ah hb8)
   have zw8:=hB.size
   have c0_1:w8.cell? ⟨w.heap.size,1,none⟩=some (.string nm):=a9 hb8 (aj (by simp) 1)
   have d0_w8:=World.block_lt_of_cell? _ _ c0_1
   go_wp2_with fail
   refine bodyPost_ret (v:=.bool (false)) (by simp [results,Try.results56,go_sem,bne]) rfl ?_
   exact⟨au ((eF u l nm tv n1 n2 cv Hq1.out q2 b5 (bU u)).trans HT.out),hB⟩
set_option maxHeartbeats 4000000 in
theorem oF (k u tk fk l:Int)(nm:ByteArray)(ta fa c:Option Addr)(tn tq fn fq m q:Nat)(w:World)(tv n1 n2 cv:Bool)(z0:(k==1)=false)(z1:(k==5)=false)(z2:(k==13)=false)(z3:(k==14)=false)(z4:(k==2)=false)(H1:Hid (∀W,Below w.heap.size w W→Calls Try.prog 41 #[.agg #[.int .i64 tk,.slice ta tn tq]] W fun e W'=>e = .returned (.bool (tv))∧Below W.heap.size W W'))(H2:Hid (∀W,Below w.heap.size w W→Calls Try.prog 73 #[.agg #[.int .i64 tk,.slice ta tn tq]] W fun e W'=>e = .returned (.bool (n1))∧Below W.heap.size W W'))(H4:Hid (∀W,Below w.heap.size w W→Calls Try.prog 73 #[.agg #[.int .i64 fk,.slice fa fn fq]] W fun e W'=>e = .returned (.bool (n2))∧Below W.heap.size W W')) :
  Calls Try.prog 56 #[.agg #[.int .i64 k,.string nm,.int .i64 u,.int .i64 tk,.slice ta tn tq,.int .i64 fk,.slice fa fn fq,.int .i64 l,.slice c m q]] w fun e w'=>e = .returned (.bool (ownB k u l nm tv n1 n2 cv))∧Below w.heap.size w w':=by
 obtain⟨rr,hrr⟩ : ∃rr0:Bool,(ownB k u l nm tv n1 n2 cv)=rr0:=⟨_,rfl⟩
 rw [hrr]
 have HT:=Lib.hid hrr
 clear hrr
 have nz0:(k != 1)=true:=by simp only [bne,z0];rfl
 have nz1:(k != 5)=true:=by simp only [bne,z1];rfl
 have nz2:(k != 13)=true:=by simp only [bne,z2];rfl
 have nz3:(k != 14)=true:=by simp only [bne,z3];rfl
 have nz4:(k != 2)=true:=by simp only [bne,z4];rfl
 go_enter Try.func56,Try.ntmps56
 rcases Bool.eq_false_or_eq_true (aN nm) with q1 | q1
 ·have Hq1:=Lib.hid q1
  clear q1
  go_wp2_with fail
  refine(bo nm _).mono ?_
  rintro e w1 ⟨rfl,hb1⟩
  rw [Hq1.out]
  have hB:=(ai ah hb1)
  have zw1:=hB.size
  go_wp2_with fail
  refine bodyPost_ret (v:=.bool (false)) (by simp [results,Try.results56,go_sem,bne]) rfl ?_
  exact⟨au ((fm k u l nm tv n1 n2 cv z0 z1 z2 z3 z4 Hq1.out b5 (bU u)).trans HT.out),hB⟩
 ·have Hq1:=Lib.hid q1
  clear q1
  rcases Bool.eq_false_or_eq_true (nm.toList == []) with q2 | q2
  ·skip
   have nq2:(nm.toList != [])=false:=by simp only [bne,q2];rfl
   go_wp2_with fail
   refine(bo nm _).mono ?_
   rintro e w2 ⟨rfl,hb2⟩
   rw [Hq1.out]
   have hB:=(ai ah hb2)
   have zw2:=hB.size
   have c0_1:w2.cell? ⟨w.heap.size,1,none⟩=some (.string nm):=a9 hb2 (aj (by simp) 1)
   have c0_3:w2.cell? ⟨w.heap.size,3,none⟩=some (.int .i64 tk):=a9 hb2 (aj (by simp) 3)
   have c0_4:w2.cell? ⟨w.heap.size,4,none⟩=some (.slice ta tn tq):=a9 hb2 (aj (by simp) 4)
   have c0_0:w2.cell? ⟨w.heap.size,0,none⟩=some (.int .i64 k):=a9 hb2 (aj (by simp) 0)
   have c0_5:w2.cell? ⟨w.heap.size,5,none⟩=some (.int .i64 fk):=a9 hb2 (aj (by simp) 5)
   have c0_6:w2.cell? ⟨w.heap.size,6,none⟩=some (.slice fa fn fq):=a9 hb2 (aj (by simp) 6)
   have c0_7:w2.cell? ⟨w.heap.size,7,none⟩=some (.int .i64 l):=a9 hb2 (aj (by simp) 7)
   have c0_2:w2.cell? ⟨w.heap.size,2,none⟩=some (.int .i64 u):=a9 hb2 (aj (by simp) 2)
   have d0_w2:=World.block_lt_of_cell? _ _ c0_1
   go_wp2_with fail
   refine(H2.out _ hB).mono ?_
   rintro e w3 ⟨rfl,hb3⟩
   replace hB:=(ai hB hb3)
   have zw3:=hB.size
   replace c0_0:w3.cell? ⟨w.heap.size,0,none⟩=some (.int .i64 k):=a9 hb3 (c0_0)
   replace c0_5:w3.cell? ⟨w.heap.size,5,none⟩=some (.int .i64 fk):=a9 hb3 (c0_5)
   replace c0_6:w3.cell? ⟨w.heap.size,6,none⟩=some (.slice fa fn fq):=a9 hb3 (c0_6)
   replace c0_7:w3.cell? ⟨w.heap.size,7,none⟩=some (.int .i64 l):=a9 hb3 (c0_7)
   replace c0_2:w3.cell? ⟨w.heap.size,2,none⟩=some (.int .i64 u):=a9 hb3 (c0_2)
   have d0_w3:=World.block_lt_of_cell? _ _ c0_0
   rcases Bool.eq_false_or_eq_true (n1) with q3 | q3
   ·(try rw [q3])
    have Hq3:=Lib.hid q3
    clear q3
    rcases Bool.eq_false_or_eq_true (n2) with q4 | q4
    ·have Hq4:=Lib.hid q4
     clear q4
     go_wp2_with fail
     refine(H4.out _ hB).mono ?_
     rintro e w4 ⟨rfl,hb4⟩
     rw [Hq4.out]
     replace hB:=(ai hB hb4)
     have zw4:=hB.size
     replace c0_7:w4.cell? ⟨w.heap.size,7,none⟩=some (.int .i64 l):=a9 hb4 (c0_7)
     replace c0_0:w4.cell? ⟨w.heap.size,0,none⟩=some (.int .i64 k):=a9 hb4 (c0_0)
     replace c0_2:w4.cell? ⟨w.heap.size,2,none⟩=some (.int .i64 u):=a9 hb4 (c0_2)
     have d0_w4:=World.block_lt_of_cell? _ _ c0_7
     rcases Bool.eq_false_or_eq_true (l==0) with q5 | q5
     ·(try rw [q5])
      have nq5:(l != 0)=false:=by simp only [bne,q5];rfl
      go_wp2_with fail
      refine bodyPost_ret (v:=.bool (u==0)) (by simp [results,Try.results56,go_sem,bne]) rfl ?_
      exact⟨au ((gj k u l nm tv n1 n2 cv z0 z1 z2 z3 z4 Hq1.out q2 Hq3.out Hq4.out q5 b5 (bU u)).trans HT.out),hB⟩
     ·(try rw [q5])
      have nq5:(l != 0)=true:=by simp only [bne,q5];rfl
      go_wp2_with fail
      refine bodyPost_ret (v:=.bool (false)) (by simp [results,Try.results56,go_sem,bne]) rfl ?_
      exact⟨au ((fD k u l nm tv n1 n2 cv z0 z1 z2 z3 z4 Hq1.out q2 Hq3.out Hq4.out q5 b5 (bU u)).trans HT.out),hB⟩
    ·have Hq4:=Lib.hid q4
     clear q4
     go_wp2_with fail
     refine(H4.out _ hB).mono ?_
     rintro e w5 ⟨rfl,hb5⟩
     rw [Hq4.out]
     replace hB:=(ai hB hb5)
     have zw5:=hB.size
     go_wp2_with fail
     refine bodyPost_ret (v:=.bool (false)) (by simp [results,Try.results56,go_sem,bne]) rfl ?_
     exact⟨au ((fQ k u l nm tv n1 n2 cv z0 z1 z2 z3 z4 Hq1.out q2 Hq3.out Hq4.out b5 (bU u)).trans HT.out),hB⟩
   ·(try rw [q3])
    have Hq3:=Lib.hid q3
    clear q3
    go_wp2_with fail
    refine bodyPost_ret (v:=.bool (false)) (by simp [results,Try.results56,go_sem,bne]) rfl ?_
    exact⟨au ((fx k u l nm tv n1 n2 cv z0 z1 z2 z3 z4 Hq1.out q2 Hq3.out b5 (bU u)).trans HT.out),hB⟩
  ·skip
   have nq2:(nm.toList != [])=true:=by simp only [bne,q2];rfl
   go_wp2_with fail
   refine(bo nm _).mono ?_
   rintro e w6 ⟨rfl,hb6⟩
   rw [Hq1.out]
   have hB:=(ai ah hb6)
   have zw6:=hB.size
   have c0_1:w6.cell? ⟨w.heap.size,1,none⟩=some (.string nm):=a9 hb6 (aj (by simp) 1)
   have d0_w6:=World.block_lt_of_cell? _ _ c0_1
   go_wp2_with fail
   refine bodyPost_ret (v:=.bool (false)) (by simp [results,Try.results56,go_sem,bne]) rfl ?_
   exact⟨au ((fP k u l nm tv n1 n2 cv z0 z1 z2 z3 z4 Hq1.out q2 b5 (bU u)).trans HT.out),hB⟩
end Go.Proofs.Ytnaoghknnenfoaa

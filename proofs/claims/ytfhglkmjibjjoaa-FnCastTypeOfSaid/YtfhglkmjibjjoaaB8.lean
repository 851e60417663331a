/- The check of a node of a term: kinds 1, 2, 5, 13, k. -/
import Derived.Test.YtfhglkmjibjjoaaB7
set_option linter.unusedSimpArgs false
set_option linter.unusedVariables false
set_option maxRecDepth 100000
set_option maxHeartbeats 16000000
namespace Go.Proofs.Ytfhglkmjibjjoaa
open Go.RowKit
theorem hI (u l:Int)(nm:ByteArray)(tv n1 n2 cv:Bool)(h0:(aI nm)=true)(h1:(n1)=true)(h2:(n2)=true)(h3:(l==0)=true)(h4:(nm.toList == [])=true->aI nm=false)(h5:(u==0)=aC u 0 0):(u==0:Bool)=(ownB 1 u l nm tv n1 n2 cv):=by
 simp only[aC] at *;first | (simp_all [ownB,aC];done) | grind [ownB,aC]
theorem hJ (u l:Int)(nm:ByteArray)(tv n1 n2 cv:Bool)(h0:(aI nm)=true)(h1:(n1)=true)(h2:(n2)=true)(h3:(l==0)=false)(h4:(nm.toList == [])=true->aI nm=false)(h5:(u==0)=aC u 0 0):(false:Bool)=(ownB 1 u l nm tv n1 n2 cv):=by
 simp only[aC] at *;first | (simp_all [ownB,aC];done) | grind [ownB,aC]
theorem i3 (u l:Int)(nm:ByteArray)(tv n1 n2 cv:Bool)(h0:(aI nm)=true)(h1:(n1)=true)(h2:(n2)=false)(h3:(nm.toList == [])=true->aI nm=false)(h4:(u==0)=aC u 0 0):(false:Bool)=(ownB 1 u l nm tv n1 n2 cv):=by
 simp only[aC] at *;first | (simp_all [ownB,aC];done) | grind [ownB,aC]
theorem i4 (u l:Int)(nm:ByteArray)(tv n1 n2 cv:Bool)(h0:(aI nm)=true)(h1:(n1)=false)(h2:(nm.toList == [])=true->aI nm=false)(h3:(u==0)=aC u 0 0):(false:Bool)=(ownB 1 u l nm tv n1 n2 cv):=by
 simp only[aC] at *;first | (simp_all [ownB,aC];done) | grind [ownB,aC]
theorem i5 (u l:Int)(nm:ByteArray)(tv n1 n2 cv:Bool)(h0:(aI nm)=false)(h1:(nm.toList == [])=true->aI nm=false)(h2:(u==0)=aC u 0 0):(false:Bool)=(ownB 1 u l nm tv n1 n2 cv):=by
 simp only[aC] at *;first | (simp_all [ownB,aC];done) | grind [ownB,aC]
theorem i6 (u l:Int)(nm:ByteArray)(tv n1 n2 cv:Bool)(h0:(aI nm)=true)(h1:(nm.toList == [])=true->aI nm=false)(h2:(u==0)=aC u 0 0):(false:Bool)=(ownB 2 u l nm tv n1 n2 cv):=by
 simp only[aC] at *;first | (simp_all [ownB,aC];done) | grind [ownB,aC]
theorem i7 (u l:Int)(nm:ByteArray)(tv n1 n2 cv:Bool)(h0:(aI nm)=false)(h1:(nm.toList == [])=true)(h2:(n1)=true)(h3:(n2)=true)(h4:(l==0)=true)(h5:(decide (u≥0))=true)(h6:(nm.toList == [])=true->aI nm=false)(h7:(u==0)=aC u 0 0):(decide (u<=999):Bool)=(ownB 2 u l nm tv n1 n2 cv):=by
 simp only[aC] at *;first | (simp_all [ownB,aC];done) | grind [ownB,aC]
theorem i8 (u l:Int)(nm:ByteArray)(tv n1 n2 cv:Bool)(h0:(aI nm)=false)(h1:(nm.toList == [])=true)(h2:(n1)=true)(h3:(n2)=true)(h4:(l==0)=true)(h5:(decide (u≥0))=false)(h6:(nm.toList == [])=true->aI nm=false)(h7:(u==0)=aC u 0 0):(false:Bool)=(ownB 2 u l nm tv n1 n2 cv):=by
 simp only[aC] at *;first | (simp_all [ownB,aC];done) | grind [ownB,aC]
theorem i9 (u l:Int)(nm:ByteArray)(tv n1 n2 cv:Bool)(h0:(aI nm)=false)(h1:(nm.toList == [])=true)(h2:(n1)=true)(h3:(n2)=true)(h4:(l==0)=false)(h5:(nm.toList == [])=true->aI nm=false)(h6:(u==0)=aC u 0 0):(false:Bool)=(ownB 2 u l nm tv n1 n2 cv):=by
 simp only[aC] at *;first | (simp_all [ownB,aC];done) | grind [ownB,aC]
theorem ia (u l:Int)(nm:ByteArray)(tv n1 n2 cv:Bool)(h0:(aI nm)=false)(h1:(nm.toList == [])=true)(h2:(n1)=true)(h3:(n2)=false)(h4:(nm.toList == [])=true->aI nm=false)(h5:(u==0)=aC u 0 0):(false:Bool)=(ownB 2 u l nm tv n1 n2 cv):=by
 simp only[aC] at *;first | (simp_all [ownB,aC];done) | grind [ownB,aC]
theorem gr (u l:Int)(nm:ByteArray)(tv n1 n2 cv:Bool)(h0:(aI nm)=false)(h1:(nm.toList == [])=true)(h2:(n1)=false)(h3:(nm.toList == [])=true->aI nm=false)(h4:(u==0)=aC u 0 0):(false:Bool)=(ownB 2 u l nm tv n1 n2 cv):=by
 simp only[aC] at *;first | (simp_all [ownB,aC];done) | grind [ownB,aC]
theorem gu (u l:Int)(nm:ByteArray)(tv n1 n2 cv:Bool)(h0:(aI nm)=false)(h1:(nm.toList == [])=false)(h2:(nm.toList == [])=true->aI nm=false)(h3:(u==0)=aC u 0 0):(false:Bool)=(ownB 2 u l nm tv n1 n2 cv):=by
 simp only[aC] at *;first | (simp_all [ownB,aC];done) | grind [ownB,aC]
theorem gv (u l:Int)(nm:ByteArray)(tv n1 n2 cv:Bool)(h0:(aI nm)=true)(h1:(tv)=true)(h2:(n2)=true)(h3:(l==0)=true)(h4:(nm.toList == [])=true->aI nm=false)(h5:(u==0)=aC u 0 0):(u==0:Bool)=(ownB 5 u l nm tv n1 n2 cv):=by
 simp only[aC] at *;first | (simp_all [ownB,aC];done) | grind [ownB,aC]
theorem gw (u l:Int)(nm:ByteArray)(tv n1 n2 cv:Bool)(h0:(aI nm)=true)(h1:(tv)=true)(h2:(n2)=true)(h3:(l==0)=false)(h4:(nm.toList == [])=true->aI nm=false)(h5:(u==0)=aC u 0 0):(false:Bool)=(ownB 5 u l nm tv n1 n2 cv):=by
 simp only[aC] at *;first | (simp_all [ownB,aC];done) | grind [ownB,aC]
theorem gx (u l:Int)(nm:ByteArray)(tv n1 n2 cv:Bool)(h0:(aI nm)=true)(h1:(tv)=true)(h2:(n2)=false)(h3:(nm.toList == [])=true->aI nm=false)(h4:(u==0)=aC u 0 0):(false:Bool)=(ownB 5 u l nm tv n1 n2 cv):=by
 simp only[aC] at *;first | (simp_all [ownB,aC];done) | grind [ownB,aC]
theorem gy (u l:Int)(nm:ByteArray)(tv n1 n2 cv:Bool)(h0:(aI nm)=true)(h1:(tv)=false)(h2:(nm.toList == [])=true->aI nm=false)(h3:(u==0)=aC u 0 0):(false:Bool)=(ownB 5 u l nm tv n1 n2 cv):=by
 simp only[aC] at *;first | (simp_all [ownB,aC];done) | grind [ownB,aC]
theorem gz (u l:Int)(nm:ByteArray)(tv n1 n2 cv:Bool)(h0:(aI nm)=false)(h1:(nm.toList == [])=true->aI nm=false)(h2:(u==0)=aC u 0 0):(false:Bool)=(ownB 5 u l nm tv n1 n2 cv):=by
 simp only[aC] at *;first | (simp_all [ownB,aC];done) | grind [ownB,aC]
theorem fs (u l:Int)(nm:ByteArray)(tv n1 n2 cv:Bool)(h0:(aI nm)=true)(h1:(nm.toList == [])=true->aI nm=false)(h2:(u==0)=aC u 0 0):(false:Bool)=(ownB 13 u l nm tv n1 n2 cv):=by
 simp only[aC] at *;first | (simp_all [ownB,aC];done) | grind [ownB,aC]
theorem ft (u l:Int)(nm:ByteArray)(tv n1 n2 cv:Bool)(h0:(aI nm)=false)(h1:(nm.toList == [])=true)(h2:(tv)=true)(h3:(n2)=true)(h4:(l==0)=true)(h5:(nm.toList == [])=true->aI nm=false)(h6:(u==0)=aC u 0 0):(u==0:Bool)=(ownB 13 u l nm tv n1 n2 cv):=by
 simp only[aC] at *;first | (simp_all [ownB,aC];done) | grind [ownB,aC]
theorem fu (u l:Int)(nm:ByteArray)(tv n1 n2 cv:Bool)(h0:(aI nm)=false)(h1:(nm.toList == [])=true)(h2:(tv)=true)(h3:(n2)=true)(h4:(l==0)=false)(h5:(nm.toList == [])=true->aI nm=false)(h6:(u==0)=aC u 0 0):(false:Bool)=(ownB 13 u l nm tv n1 n2 cv):=by
 simp only[aC] at *;first | (simp_all [ownB,aC];done) | grind [ownB,aC]
theorem fw (u l:Int)(nm:ByteArray)(tv n1 n2 cv:Bool)(h0:(aI nm)=false)(h1:(nm.toList == [])=true)(h2:(tv)=true)(h3:(n2)=false)(h4:(nm.toList == [])=true->aI nm=false)(h5:(u==0)=aC u 0 0):(false:Bool)=(ownB 13 u l nm tv n1 n2 cv):=by
 simp only[aC] at *;first | (simp_all [ownB,aC];done) | grind [ownB,aC]
theorem fx (u l:Int)(nm:ByteArray)(tv n1 n2 cv:Bool)(h0:(aI nm)=false)(h1:(nm.toList == [])=true)(h2:(tv)=false)(h3:(nm.toList == [])=true->aI nm=false)(h4:(u==0)=aC u 0 0):(false:Bool)=(ownB 13 u l nm tv n1 n2 cv):=by
 simp only[aC] at *;first | (simp_all [ownB,aC];done) | grind [ownB,aC]
theorem fy (u l:Int)(nm:ByteArray)(tv n1 n2 cv:Bool)(h0:(aI nm)=false)(h1:(nm.toList == [])=false)(h2:(nm.toList == [])=true->aI nm=false)(h3:(u==0)=aC u 0 0):(false:Bool)=(ownB 13 u l nm tv n1 n2 cv):=by
 simp only[aC] at *;first | (simp_all [ownB,aC];done) | grind [ownB,aC]
theorem gA (k u l:Int)(nm:ByteArray)(tv n1 n2 cv:Bool)(h0:(k==1)=false)(h1:(k==5)=false)(h2:(k==13)=false)(h3:(k==14)=false)(h4:(k==2)=false)(h5:(aI nm)=true)(h6:(nm.toList == [])=true->aI nm=false)(h7:(u==0)=aC u 0 0):(false:Bool)=(ownB k u l nm tv n1 n2 cv):=by
 simp only[aC] at *;first | (simp_all [ownB,aC];done) | grind [ownB,aC]
theorem gB (k u l:Int)(nm:ByteArray)(tv n1 n2 cv:Bool)(h0:(k==1)=false)(h1:(k==5)=false)(h2:(k==13)=false)(h3:(k==14)=false)(h4:(k==2)=false)(h5:(aI nm)=false)(h6:(nm.toList == [])=true)(h7:(n1)=true)(h8:(n2)=true)(h9:(l==0)=true)(h10:(nm.toList == [])=true->aI nm=false)(h11:(u==0)=aC u 0 0):(u==0:Bool)=(ownB k u l nm tv n1 n2 cv):=by
 simp only[aC] at *;first | (simp_all [ownB,aC];done) | grind [ownB,aC]
theorem gC (k u l:Int)(nm:ByteArray)(tv n1 n2 cv:Bool)(h0:(k==1)=false)(h1:(k==5)=false)(h2:(k==13)=false)(h3:(k==14)=false)(h4:(k==2)=false)(h5:(aI nm)=false)(h6:(nm.toList == [])=true)(h7:(n1)=true)(h8:(n2)=true)(h9:(l==0)=false)(h10:(nm.toList == [])=true->aI nm=false)(h11:(u==0)=aC u 0 0):(false:Bool)=(ownB k u l nm tv n1 n2 cv):=by
 simp only[aC] at *;first | (simp_all [ownB,aC];done) | grind [ownB,aC]
theorem gD (k u l:Int)(nm:ByteArray)(tv n1 n2 cv:Bool)(h0:(k==1)=false)(h1:(k==5)=false)(h2:(k==13)=false)(h3:(k==14)=false)(h4:(k==2)=false)(h5:(aI nm)=false)(h6:(nm.toList == [])=true)(h7:(n1)=true)(h8:(n2)=false)(h9:(nm.toList == [])=true->aI nm=false)(h10:(u==0)=aC u 0 0):(false:Bool)=(ownB k u l nm tv n1 n2 cv):=by
 simp only[aC] at *;first | (simp_all [ownB,aC];done) | grind [ownB,aC]
theorem gE (k u l:Int)(nm:ByteArray)(tv n1 n2 cv:Bool)(h0:(k==1)=false)(h1:(k==5)=false)(h2:(k==13)=false)(h3:(k==14)=false)(h4:(k==2)=false)(h5:(aI nm)=false)(h6:(nm.toList == [])=true)(h7:(n1)=false)(h8:(nm.toList == [])=true->aI nm=false)(h9:(u==0)=aC u 0 0):(false:Bool)=(ownB k u l nm tv n1 n2 cv):=by
 simp only[aC] at *;first | (simp_all [ownB,aC];done) | grind [ownB,aC]
theorem gF (k u l:Int)(nm:ByteArray)(tv n1 n2 cv:Bool)(h0:(k==1)=false)(h1:(k==5)=false)(h2:(k==13)=false)(h3:(k==14)=false)(h4:(k==2)=false)(h5:(aI nm)=false)(h6:(nm.toList == [])=false)(h7:(nm.toList == [])=true->aI nm=false)(h8:(u==0)=aC u 0 0):(false:Bool)=(ownB k u l nm tv n1 n2 cv):=by
 simp only[aC] at *;first | (simp_all [ownB,aC];done) | grind [ownB,aC]
theorem ns (u tk fk l:Int)(nm:ByteArray)(ta fa c:Option Addr)(tn tq fn fq m q:Nat)(w:World)(tv n1 n2 cv:Bool)(H1:Hid (∀W,Below w.heap.size w W->Calls Try.prog 61 #[.agg #[.int .i64 tk,.slice ta tn tq]] W fun e W'=>e = .returned (.bool (tv))∧Below W.heap.size W W'))(H2:Hid (∀W,Below w.heap.size w W->Calls Try.prog 79 #[.agg #[.int .i64 tk,.slice ta tn tq]] W fun e W'=>e = .returned (.bool (n1))∧Below W.heap.size W W'))(H4:Hid (∀W,Below w.heap.size w W->Calls Try.prog 79 #[.agg #[.int .i64 fk,.slice fa fn fq]] W fun e W'=>e = .returned (.bool (n2))∧Below W.heap.size W W')) :
  Calls Try.prog 56 #[.agg (nv 1 nm u tk ta tn tq fk fa fn fq l c m q)] w fun e w'=>e = .returned (.bool (ownB 1 u l nm tv n1 n2 cv))∧Below w.heap.size w w':=by
 obtain⟨rr,hrr⟩ : ∃rr0:Bool,(ownB 1 u l nm tv n1 n2 cv)=rr0:=⟨_,rfl⟩
 rw[hrr];have HT:=zq hrr;clear hrr
 go_enter Try.func56,Try.ntmps56
 rcases Bool.eq_false_or_eq_true (aI nm) with q1 | q1
 ·have Hq1:=zq q1
  clear q1
  go_wp2_with fail
  refine(bM nm _).mono ?_;rintro e w1 ⟨rfl,hb1⟩;rw[Hq1.out];have hB:=(al ag hb1)
  have zw1:=hB.size;have c0_3:w1.cell? ⟨w.heap.size,3,none⟩=some (.int .i64 tk):=af hb1 (ao (by simp) 3);have c0_4:w1.cell? ⟨w.heap.size,4,none⟩=some (.slice ta tn tq):=af hb1 (ao (by simp) 4);have c0_0:w1.cell? ⟨w.heap.size,0,none⟩=some (.int .i64 1):=af hb1 (ao (by simp) 0);have c0_5:w1.cell? ⟨w.heap.size,5,none⟩=some (.int .i64 fk):=af hb1 (ao (by simp) 5);have c0_6:w1.cell? ⟨w.heap.size,6,none⟩=some (.slice fa fn fq):=af hb1 (ao (by simp) 6);have c0_7:w1.cell? ⟨w.heap.size,7,none⟩=some (.int .i64 l):=af hb1 (ao (by simp) 7);have c0_2:w1.cell? ⟨w.heap.size,2,none⟩=some (.int .i64 u):=af hb1 (ao (by simp) 2);have d0_w1:=World.block_lt_of_cell? _ _ c0_3
  go_wp2_with fail
  refine(H2.out _ hB).mono ?_;rintro e w2 ⟨rfl,hb2⟩;replace hB:=(al hB hb2)
  have zw2:=hB.size;replace c0_0:=af hb2 c0_0;replace c0_5:=af hb2 c0_5;replace c0_6:=af hb2 c0_6;replace c0_7:=af hb2 c0_7;replace c0_2:=af hb2 c0_2;have d0_w2:=World.block_lt_of_cell? _ _ c0_0
  rcases Bool.eq_false_or_eq_true (n1) with q2 | q2
  ·(try rw[q2])
   have Hq2:=zq q2;clear q2
   rcases Bool.eq_false_or_eq_true (n2) with q3 | q3
   ·have Hq3:=zq q3
    clear q3
    go_wp2_with fail
    refine(H4.out _ hB).mono ?_;rintro e w3 ⟨rfl,hb3⟩;rw[Hq3.out];replace hB:=(al hB hb3)
    have zw3:=hB.size;replace c0_7:=af hb3 c0_7;replace c0_0:=af hb3 c0_0;replace c0_2:=af hb3 c0_2;have d0_w3:=World.block_lt_of_cell? _ _ c0_7
    rcases Bool.eq_false_or_eq_true (l==0) with q4 | q4
    ·(try rw[q4])
     have nq4:(l != 0)=false:=by simp only[bne,q4];rfl
     go_wp2_with fail
     refine bq (.bool (u==0)) (by simp[results,Try.results56,go_sem,bne]) ?_
     exact⟨au ((hI u l nm tv n1 n2 cv Hq1.out Hq2.out Hq3.out q4 bf (bN u)).trans HT.out),hB⟩
    ·(try rw[q4])
     have nq4:(l != 0)=true:=by simp only[bne,q4];rfl
     go_wp2_with fail
     refine bq (.bool (false)) (by simp[results,Try.results56,go_sem,bne]) ?_
     exact⟨au ((hJ u l nm tv n1 n2 cv Hq1.out Hq2.out Hq3.out q4 bf (bN u)).trans HT.out),hB⟩
   ·have Hq3:=zq q3
    clear q3
    go_wp2_with fail
    refine(H4.out _ hB).mono ?_;rintro e w4 ⟨rfl,hb4⟩;rw[Hq3.out];replace hB:=(al hB hb4)
    have zw4:=hB.size
    go_wp2_with fail
    refine bq (.bool (false)) (by simp[results,Try.results56,go_sem,bne]) ?_
    exact⟨au ((i3 u l nm tv n1 n2 cv Hq1.out Hq2.out Hq3.out bf (bN u)).trans HT.out),hB⟩
  ·(try rw[q2])
   have Hq2:=zq q2;clear q2
   go_wp2_with fail
   refine bq (.bool (false)) (by simp[results,Try.results56,go_sem,bne]) ?_
   exact⟨au ((i4 u l nm tv n1 n2 cv Hq1.out Hq2.out bf (bN u)).trans HT.out),hB⟩
 ·have Hq1:=zq q1
  clear q1
  go_wp2_with fail
  refine(bM nm _).mono ?_;rintro e w5 ⟨rfl,hb5⟩;rw[Hq1.out];have hB:=(al ag hb5)
  have zw5:=hB.size
  go_wp2_with fail
  refine bq (.bool (false)) (by simp[results,Try.results56,go_sem,bne]) ?_
  exact⟨au ((i5 u l nm tv n1 n2 cv Hq1.out bf (bN u)).trans HT.out),hB⟩
theorem nu (u tk fk l:Int)(nm:ByteArray)(ta fa c:Option Addr)(tn tq fn fq m q:Nat)(w:World)(tv n1 n2 cv:Bool)(H1:Hid (∀W,Below w.heap.size w W->Calls Try.prog 61 #[.agg #[.int .i64 tk,.slice ta tn tq]] W fun e W'=>e = .returned (.bool (tv))∧Below W.heap.size W W'))(H2:Hid (∀W,Below w.heap.size w W->Calls Try.prog 79 #[.agg #[.int .i64 tk,.slice ta tn tq]] W fun e W'=>e = .returned (.bool (n1))∧Below W.heap.size W W'))(H4:Hid (∀W,Below w.heap.size w W->Calls Try.prog 79 #[.agg #[.int .i64 fk,.slice fa fn fq]] W fun e W'=>e = .returned (.bool (n2))∧Below W.heap.size W W')) :
  Calls Try.prog 56 #[.agg (nv 2 nm u tk ta tn tq fk fa fn fq l c m q)] w fun e w'=>e = .returned (.bool (ownB 2 u l nm tv n1 n2 cv))∧Below w.heap.size w w':=by
 obtain⟨rr,hrr⟩ : ∃rr0:Bool,(ownB 2 u l nm tv n1 n2 cv)=rr0:=⟨_,rfl⟩
 rw[hrr];have HT:=zq hrr;clear hrr
 go_enter Try.func56,Try.ntmps56
 rcases Bool.eq_false_or_eq_true (aI nm) with q1 | q1
 ·have Hq1:=zq q1
  clear q1
  go_wp2_with fail
  refine(bM nm _).mono ?_;rintro e w1 ⟨rfl,hb1⟩;rw[Hq1.out];have hB:=(al ag hb1)
  have zw1:=hB.size
  go_wp2_with fail
  refine bq (.bool (false)) (by simp[results,Try.results56,go_sem,bne]) ?_
  exact⟨au ((i6 u l nm tv n1 n2 cv Hq1.out bf (bN u)).trans HT.out),hB⟩
 ·have Hq1:=zq q1
  clear q1
  rcases Bool.eq_false_or_eq_true (nm.toList == []) with q2 | q2
  ·skip
   have nq2:(nm.toList != [])=false:=by simp only[bne,q2];rfl
   go_wp2_with fail
   refine(bM nm _).mono ?_;rintro e w2 ⟨rfl,hb2⟩;rw[Hq1.out];have hB:=(al ag hb2)
   have zw2:=hB.size;have c0_1:w2.cell? ⟨w.heap.size,1,none⟩=some (.string nm):=af hb2 (ao (by simp) 1);have c0_3:w2.cell? ⟨w.heap.size,3,none⟩=some (.int .i64 tk):=af hb2 (ao (by simp) 3);have c0_4:w2.cell? ⟨w.heap.size,4,none⟩=some (.slice ta tn tq):=af hb2 (ao (by simp) 4);have c0_0:w2.cell? ⟨w.heap.size,0,none⟩=some (.int .i64 2):=af hb2 (ao (by simp) 0);have c0_5:w2.cell? ⟨w.heap.size,5,none⟩=some (.int .i64 fk):=af hb2 (ao (by simp) 5);have c0_6:w2.cell? ⟨w.heap.size,6,none⟩=some (.slice fa fn fq):=af hb2 (ao (by simp) 6);have c0_7:w2.cell? ⟨w.heap.size,7,none⟩=some (.int .i64 l):=af hb2 (ao (by simp) 7);have c0_2:w2.cell? ⟨w.heap.size,2,none⟩=some (.int .i64 u):=af hb2 (ao (by simp) 2);have d0_w2:=World.block_lt_of_cell? _ _ c0_1
   go_wp2_with fail
   refine(H2.out _ hB).mono ?_;rintro e w3 ⟨rfl,hb3⟩;replace hB:=(al hB hb3)
   have zw3:=hB.size;replace c0_0:=af hb3 c0_0;replace c0_5:=af hb3 c0_5;replace c0_6:=af hb3 c0_6;replace c0_7:=af hb3 c0_7;replace c0_2:=af hb3 c0_2;have d0_w3:=World.block_lt_of_cell? _ _ c0_0
   rcases Bool.eq_false_or_eq_true (n1) with q3 | q3
   ·(try rw[q3])
    have Hq3:=zq q3;clear q3
    rcases Bool.eq_false_or_eq_true (n2) with q4 | q4
    ·have Hq4:=zq q4
     clear q4
     go_wp2_with fail
     refine(H4.out _ hB).mono ?_;rintro e w4 ⟨rfl,hb4⟩;rw[Hq4.out];replace hB:=(al hB hb4)
     have zw4:=hB.size;replace c0_7:=af hb4 c0_7;replace c0_0:=af hb4 c0_0;replace c0_2:=af hb4 c0_2;have d0_w4:=World.block_lt_of_cell? _ _ c0_7
     rcases Bool.eq_false_or_eq_true (l==0) with q5 | q5
     ·(try rw[q5])
      have nq5:(l != 0)=false:=by simp only[bne,q5];rfl
      rcases Bool.eq_false_or_eq_true (decide (u≥0)) with q6 | q6
      ·skip
       go_wp2_with fail
       refine bq (.bool (decide (u<=999))) (by simp[results,Try.results56,go_sem,bne]) ?_
       exact⟨au ((i7 u l nm tv n1 n2 cv Hq1.out q2 Hq3.out Hq4.out q5 q6 bf (bN u)).trans HT.out),hB⟩
      ·skip
       go_wp2_with fail
       refine bq (.bool (false)) (by simp[results,Try.results56,go_sem,bne]) ?_
       exact⟨au ((i8 u l nm tv n1 n2 cv Hq1.out q2 Hq3.out Hq4.out q5 q6 bf (bN u)).trans HT.out),hB⟩
     ·(try rw[q5])
      have nq5:(l != 0)=true:=by simp only[bne,q5];rfl
      go_wp2_with fail
      refine bq (.bool (false)) (by simp[results,Try.results56,go_sem,bne]) ?_
      exact⟨au ((i9 u l nm tv n1 n2 cv Hq1.out q2 Hq3.out Hq4.out q5 bf (bN u)).trans HT.out),hB⟩
    ·have Hq4:=zq q4
     clear q4
     go_wp2_with fail
     refine(H4.out _ hB).mono ?_;rintro e w5 ⟨rfl,hb5⟩;rw[Hq4.out];replace hB:=(al hB hb5)
     have zw5:=hB.size
     go_wp2_with fail
     refine bq (.bool (false)) (by simp[results,Try.results56,go_sem,bne]) ?_
     exact⟨au ((ia u l nm tv n1 n2 cv Hq1.out q2 Hq3.out Hq4.out bf (bN u)).trans HT.out),hB⟩
   ·(try rw[q3])
    have Hq3:=zq q3;clear q3
    go_wp2_with fail
    refine bq (.bool (false)) (by simp[results,Try.results56,go_sem,bne]) ?_
    exact⟨au ((gr u l nm tv n1 n2 cv Hq1.out q2 Hq3.out bf (bN u)).trans HT.out),hB⟩
  ·skip
   have nq2:(nm.toList != [])=true:=by simp only[bne,q2];rfl
   go_wp2_with fail
   refine(bM nm _).mono ?_;rintro e w6 ⟨rfl,hb6⟩;rw[Hq1.out];have hB:=(al ag hb6)
   have zw6:=hB.size;have c0_1:w6.cell? ⟨w.heap.size,1,none⟩=some (.string nm):=af hb6 (ao (by simp) 1);have d0_w6:=World.block_lt_of_cell? _ _ c0_1
   go_wp2_with fail
   refine bq (.bool (false)) (by simp[results,Try.results56,go_sem,bne]) ?_
   exact⟨au ((gu u l nm tv n1 n2 cv Hq1.out q2 bf (bN u)).trans HT.out),hB⟩
theorem nw (u tk fk l:Int)(nm:ByteArray)(ta fa c:Option Addr)(tn tq fn fq m q:Nat)(w:World)(tv n1 n2 cv:Bool)(H1:Hid (∀W,Below w.heap.size w W->Calls Try.prog 61 #[.agg #[.int .i64 tk,.slice ta tn tq]] W fun e W'=>e = .returned (.bool (tv))∧Below W.heap.size W W'))(H2:Hid (∀W,Below w.heap.size w W->Calls Try.prog 79 #[.agg #[.int .i64 tk,.slice ta tn tq]] W fun e W'=>e = .returned (.bool (n1))∧Below W.heap.size W W'))(H4:Hid (∀W,Below w.heap.size w W->Calls Try.prog 79 #[.agg #[.int .i64 fk,.slice fa fn fq]] W fun e W'=>e = .returned (.bool (n2))∧Below W.heap.size W W')) :
  Calls Try.prog 56 #[.agg (nv 5 nm u tk ta tn tq fk fa fn fq l c m q)] w fun e w'=>e = .returned (.bool (ownB 5 u l nm tv n1 n2 cv))∧Below w.heap.size w w':=by
 obtain⟨rr,hrr⟩ : ∃rr0:Bool,(ownB 5 u l nm tv n1 n2 cv)=rr0:=⟨_,rfl⟩
 rw[hrr];have HT:=zq hrr;clear hrr
 go_enter Try.func56,Try.ntmps56
 rcases Bool.eq_false_or_eq_true (aI nm) with q1 | q1
 ·have Hq1:=zq q1
  clear q1
  rcases Bool.eq_false_or_eq_true (tv) with q2 | q2
  ·have Hq2:=zq q2
   clear q2
   go_wp2_with fail
   refine(bM nm _).mono ?_;rintro e w1 ⟨rfl,hb1⟩;rw[Hq1.out];have hB:=(al ag hb1)
   have zw1:=hB.size;have c0_3:w1.cell? ⟨w.heap.size,3,none⟩=some (.int .i64 tk):=af hb1 (ao (by simp) 3);have c0_4:w1.cell? ⟨w.heap.size,4,none⟩=some (.slice ta tn tq):=af hb1 (ao (by simp) 4);have c0_0:w1.cell? ⟨w.heap.size,0,none⟩=some (.int .i64 5):=af hb1 (ao (by simp) 0);have c0_5:w1.cell? ⟨w.heap.size,5,none⟩=some (.int .i64 fk):=af hb1 (ao (by simp) 5);have c0_6:w1.cell? ⟨w.heap.size,6,none⟩=some (.slice fa fn fq):=af hb1 (ao (by simp) 6);have c0_7:w1.cell? ⟨w.heap.size,7,none⟩=some (.int .i64 l):=af hb1 (ao (by simp) 7);have c0_2:w1.cell? ⟨w.heap.size,2,none⟩=some (.int .i64 u):=af hb1 (ao (by simp) 2);have d0_w1:=World.block_lt_of_cell? _ _ c0_3
   go_wp2_with fail
   refine(H1.out _ hB).mono ?_;rintro e w2 ⟨rfl,hb2⟩;rw[Hq2.out];replace hB:=(al hB hb2)
   have zw2:=hB.size;replace c0_0:=af hb2 c0_0;replace c0_5:=af hb2 c0_5;replace c0_6:=af hb2 c0_6;replace c0_7:=af hb2 c0_7;replace c0_2:=af hb2 c0_2;have d0_w2:=World.block_lt_of_cell? _ _ c0_0
   rcases Bool.eq_false_or_eq_true (n2) with q3 | q3
   ·have Hq3:=zq q3
    clear q3
    go_wp2_with fail
    refine(H4.out _ hB).mono ?_;rintro e w3 ⟨rfl,hb3⟩;rw[Hq3.out];replace hB:=(al hB hb3)
    have zw3:=hB.size;replace c0_7:=af hb3 c0_7;replace c0_0:=af hb3 c0_0;replace c0_2:=af hb3 c0_2;have d0_w3:=World.block_lt_of_cell? _ _ c0_7
    rcases Bool.eq_false_or_eq_true (l==0) with q4 | q4
    ·(try rw[q4])
     have nq4:(l != 0)=false:=by simp only[bne,q4];rfl
     go_wp2_with fail
     refine bq (.bool (u==0)) (by simp[results,Try.results56,go_sem,bne]) ?_
     exact⟨au ((gv u l nm tv n1 n2 cv Hq1.out Hq2.out Hq3.out q4 bf (bN u)).trans HT.out),hB⟩
    ·(try rw[q4])
     have nq4:(l != 0)=true:=by simp only[bne,q4];rfl
     go_wp2_with fail
     refine bq (.bool (false)) (by simp[results,Try.results56,go_sem,bne]) ?_
     exact⟨au ((gw u l nm tv n1 n2 cv Hq1.out Hq2.out Hq3.out q4 bf (bN u)).trans HT.out),hB⟩
   ·have Hq3:=zq q3
    clear q3
    go_wp2_with fail
    refine(H4.out _ hB).mono ?_;rintro e w4 ⟨rfl,hb4⟩;rw[Hq3.out];replace hB:=(al hB hb4)
    have zw4:=hB.size
    go_wp2_with fail
    refine bq (.bool (false)) (by simp[results,Try.results56,go_sem,bne]) ?_
    exact⟨au ((gx u l nm tv n1 n2 cv Hq1.out Hq2.out Hq3.out bf (bN u)).trans HT.out),hB⟩
  ·have Hq2:=zq q2
   clear q2
   go_wp2_with fail
   refine(bM nm _).mono ?_;rintro e w5 ⟨rfl,hb5⟩;rw[Hq1.out];have hB:=(al ag hb5)
   have zw5:=hB.size;have c0_3:w5.cell? ⟨w.heap.size,3,none⟩=some (.int .i64 tk):=af hb5 (ao (by simp) 3);have c0_4:w5.cell? ⟨w.heap.size,4,none⟩=some (.slice ta tn tq):=af hb5 (ao (by simp) 4);have d0_w5:=World.block_lt_of_cell? _ _ c0_3
   go_wp2_with fail
   refine(H1.out _ hB).mono ?_;rintro e w6 ⟨rfl,hb6⟩;rw[Hq2.out];replace hB:=(al hB hb6)
   have zw6:=hB.size
   go_wp2_with fail
   refine bq (.bool (false)) (by simp[results,Try.results56,go_sem,bne]) ?_
   exact⟨au ((gy u l nm tv n1 n2 cv Hq1.out Hq2.out bf (bN u)).trans HT.out),hB⟩
 ·have Hq1:=zq q1
  clear q1
  go_wp2_with fail
  refine(bM nm _).mono ?_;rintro e w7 ⟨rfl,hb7⟩;rw[Hq1.out];have hB:=(al ag hb7)
  have zw7:=hB.size
  go_wp2_with fail
  refine bq (.bool (false)) (by simp[results,Try.results56,go_sem,bne]) ?_
  exact⟨au ((gz u l nm tv n1 n2 cv Hq1.out bf (bN u)).trans HT.out),hB⟩
theorem mi (u tk fk l:Int)(nm:ByteArray)(ta fa c:Option Addr)(tn tq fn fq m q:Nat)(w:World)(tv n1 n2 cv:Bool)(H1:Hid (∀W,Below w.heap.size w W->Calls Try.prog 61 #[.agg #[.int .i64 tk,.slice ta tn tq]] W fun e W'=>e = .returned (.bool (tv))∧Below W.heap.size W W'))(H2:Hid (∀W,Below w.heap.size w W->Calls Try.prog 79 #[.agg #[.int .i64 tk,.slice ta tn tq]] W fun e W'=>e = .returned (.bool (n1))∧Below W.heap.size W W'))(H4:Hid (∀W,Below w.heap.size w W->Calls Try.prog 79 #[.agg #[.int .i64 fk,.slice fa fn fq]] W fun e W'=>e = .returned (.bool (n2))∧Below W.heap.size W W')) :
  Calls Try.prog 56 #[.agg (nv 13 nm u tk ta tn tq fk fa fn fq l c m q)] w fun e w'=>e = .returned (.bool (ownB 13 u l nm tv n1 n2 cv))∧Below w.heap.size w w':=by
 obtain⟨rr,hrr⟩ : ∃rr0:Bool,(ownB 13 u l nm tv n1 n2 cv)=rr0:=⟨_,rfl⟩
 rw[hrr];have HT:=zq hrr;clear hrr
 go_enter Try.func56,Try.ntmps56
 rcases Bool.eq_false_or_eq_true (aI nm) with q1 | q1
 ·have Hq1:=zq q1
  clear q1
  go_wp2_with fail
  refine(bM nm _).mono ?_;rintro e w1 ⟨rfl,hb1⟩;rw[Hq1.out];have hB:=(al ag hb1)
  have zw1:=hB.size
  go_wp2_with fail
  refine bq (.bool (false)) (by simp[results,Try.results56,go_sem,bne]) ?_
  exact⟨au ((fs u l nm tv n1 n2 cv Hq1.out bf (bN u)).trans HT.out),hB⟩
 ·have Hq1:=zq q1
  clear q1
  rcases Bool.eq_false_or_eq_true (nm.toList == []) with q2 | q2
  ·skip
   have nq2:(nm.toList != [])=false:=by simp only[bne,q2];rfl
   rcases Bool.eq_false_or_eq_true (tv) with q3 | q3
   ·have Hq3:=zq q3
    clear q3
    go_wp2_with fail
    refine(bM nm _).mono ?_;rintro e w2 ⟨rfl,hb2⟩;rw[Hq1.out];have hB:=(al ag hb2)
    have zw2:=hB.size;have c0_1:w2.cell? ⟨w.heap.size,1,none⟩=some (.string nm):=af hb2 (ao (by simp) 1);have c0_3:w2.cell? ⟨w.heap.size,3,none⟩=some (.int .i64 tk):=af hb2 (ao (by simp) 3);have c0_4:w2.cell? ⟨w.heap.size,4,none⟩=some (.slice ta tn tq):=af hb2 (ao (by simp) 4);have c0_0:w2.cell? ⟨w.heap.size,0,none⟩=some (.int .i64 13):=af hb2 (ao (by simp) 0);have c0_5:w2.cell? ⟨w.heap.size,5,none⟩=some (.int .i64 fk):=af hb2 (ao (by simp) 5);have c0_6:w2.cell? ⟨w.heap.size,6,none⟩=some (.slice fa fn fq):=af hb2 (ao (by simp) 6);have c0_7:w2.cell? ⟨w.heap.size,7,none⟩=some (.int .i64 l):=af hb2 (ao (by simp) 7);have c0_2:w2.cell? ⟨w.heap.size,2,none⟩=some (.int .i64 u):=af hb2 (ao (by simp) 2);have d0_w2:=World.block_lt_of_cell? _ _ c0_1
    go_wp2_with fail
    refine(H1.out _ hB).mono ?_;rintro e w3 ⟨rfl,hb3⟩;rw[Hq3.out];replace hB:=(al hB hb3)
    have zw3:=hB.size;replace c0_0:=af hb3 c0_0;replace c0_5:=af hb3 c0_5;replace c0_6:=af hb3 c0_6;replace c0_7:=af hb3 c0_7;replace c0_2:=af hb3 c0_2;have d0_w3:=World.block_lt_of_cell? _ _ c0_0
    rcases Bool.eq_false_or_eq_true (n2) with q4 | q4
    ·have Hq4:=zq q4
     clear q4
     go_wp2_with fail
     refine(H4.out _ hB).mono ?_;rintro e w4 ⟨rfl,hb4⟩;rw[Hq4.out];replace hB:=(al hB hb4)
     have zw4:=hB.size;replace c0_7:=af hb4 c0_7;replace c0_0:=af hb4 c0_0;replace c0_2:=af hb4 c0_2;have d0_w4:=World.block_lt_of_cell? _ _ c0_7
     rcases Bool.eq_false_or_eq_true (l==0) with q5 | q5
     ·(try rw[q5])
      have nq5:(l != 0)=false:=by simp only[bne,q5];rfl
      go_wp2_with fail
      refine bq (.bool (u==0)) (by simp[results,Try.results56,go_sem,bne]) ?_
      exact⟨au ((ft u l nm tv n1 n2 cv Hq1.out q2 Hq3.out Hq4.out q5 bf (bN u)).trans HT.out),hB⟩
     ·(try rw[q5])
      have nq5:(l != 0)=true:=by simp only[bne,q5];rfl
      go_wp2_with fail
      refine bq (.bool (false)) (by simp[results,Try.results56,go_sem,bne]) ?_
      exact⟨au ((fu u l nm tv n1 n2 cv Hq1.out q2 Hq3.out Hq4.out q5 bf (bN u)).trans HT.out),hB⟩
    ·have Hq4:=zq q4
     clear q4
     go_wp2_with fail
     refine(H4.out _ hB).mono ?_;rintro e w5 ⟨rfl,hb5⟩;rw[Hq4.out];replace hB:=(al hB hb5)
     have zw5:=hB.size
     go_wp2_with fail
     refine bq (.bool (false)) (by simp[results,Try.results56,go_sem,bne]) ?_
     exact⟨au ((fw u l nm tv n1 n2 cv Hq1.out q2 Hq3.out Hq4.out bf (bN u)).trans HT.out),hB⟩
   ·have Hq3:=zq q3
    clear q3
    go_wp2_with fail
    refine(bM nm _).mono ?_;rintro e w6 ⟨rfl,hb6⟩;rw[Hq1.out];have hB:=(al ag hb6)
    have zw6:=hB.size;have c0_1:w6.cell? ⟨w.heap.size,1,none⟩=some (.string nm):=af hb6 (ao (by simp) 1);have c0_3:w6.cell? ⟨w.heap.size,3,none⟩=some (.int .i64 tk):=af hb6 (ao (by simp) 3);have c0_4:w6.cell? ⟨w.heap.size,4,none⟩=some (.slice ta tn tq):=af hb6 (ao (by simp) 4);have d0_w6:=World.block_lt_of_cell? _ _ c0_1
    go_wp2_with fail
    refine(H1.out _ hB).mono ?_;rintro e w7 ⟨rfl,hb7⟩;rw[Hq3.out];replace hB:=(al hB hb7)
    have zw7:=hB.size
    go_wp2_with fail
    refine bq (.bool (false)) (by simp[results,Try.results56,go_sem,bne]) ?_
    exact⟨au ((fx u l nm tv n1 n2 cv Hq1.out q2 Hq3.out bf (bN u)).trans HT.out),hB⟩
  ·skip
   have nq2:(nm.toList != [])=true:=by simp only[bne,q2];rfl
   go_wp2_with fail
   refine(bM nm _).mono ?_;rintro e w8 ⟨rfl,hb8⟩;rw[Hq1.out];have hB:=(al ag hb8)
   have zw8:=hB.size;have c0_1:w8.cell? ⟨w.heap.size,1,none⟩=some (.string nm):=af hb8 (ao (by simp) 1);have d0_w8:=World.block_lt_of_cell? _ _ c0_1
   go_wp2_with fail
   refine bq (.bool (false)) (by simp[results,Try.results56,go_sem,bne]) ?_
   exact⟨au ((fy u l nm tv n1 n2 cv Hq1.out q2 bf (bN u)).trans HT.out),hB⟩
theorem ny (k u tk fk l:Int)(nm:ByteArray)(ta fa c:Option Addr)(tn tq fn fq m q:Nat)(w:World)(tv n1 n2 cv:Bool)(z0:(k==1)=false)(z1:(k==5)=false)(z2:(k==13)=false)(z3:(k==14)=false)(z4:(k==2)=false)(H1:Hid (∀W,Below w.heap.size w W->Calls Try.prog 61 #[.agg #[.int .i64 tk,.slice ta tn tq]] W fun e W'=>e = .returned (.bool (tv))∧Below W.heap.size W W'))(H2:Hid (∀W,Below w.heap.size w W->Calls Try.prog 79 #[.agg #[.int .i64 tk,.slice ta tn tq]] W fun e W'=>e = .returned (.bool (n1))∧Below W.heap.size W W'))(H4:Hid (∀W,Below w.heap.size w W->Calls Try.prog 79 #[.agg #[.int .i64 fk,.slice fa fn fq]] W fun e W'=>e = .returned (.bool (n2))∧Below W.heap.size W W')) :
  Calls Try.prog 56 #[.agg (nv k nm u tk ta tn tq fk fa fn fq l c m q)] w fun e w'=>e = .returned (.bool (ownB k u l nm tv n1 n2 cv))∧Below w.heap.size w w':=by
 obtain⟨rr,hrr⟩ : ∃rr0:Bool,(ownB k u l nm tv n1 n2 cv)=rr0:=⟨_,rfl⟩
 rw[hrr];have HT:=zq hrr;clear hrr;have nz0:(k != 1)=true:=by simp only[bne,z0];rfl
 have nz1:(k != 5)=true:=by simp only[bne,z1];rfl
 have nz2:(k != 13)=true:=by simp only[bne,z2];rfl
 have nz3:(k != 14)=true:=by simp only[bne,z3];rfl
 have nz4:(k != 2)=true:=by simp only[bne,z4];rfl
 go_enter Try.func56,Try.ntmps56
 rcases Bool.eq_false_or_eq_true (aI nm) with q1 | q1
 ·have Hq1:=zq q1
  clear q1
  go_wp2_with fail
  refine(bM nm _).mono ?_;rintro e w1 ⟨rfl,hb1⟩;rw[Hq1.out];have hB:=(al ag hb1)
  have zw1:=hB.size
  go_wp2_with fail
  refine bq (.bool (false)) (by simp[results,Try.results56,go_sem,bne]) ?_
  exact⟨au ((gA k u l nm tv n1 n2 cv z0 z1 z2 z3 z4 Hq1.out bf (bN u)).trans HT.out),hB⟩
 ·have Hq1:=zq q1
  clear q1
  rcases Bool.eq_false_or_eq_true (nm.toList == []) with q2 | q2
  ·skip
   have nq2:(nm.toList != [])=false:=by simp only[bne,q2];rfl
   go_wp2_with fail
   refine(bM nm _).mono ?_;rintro e w2 ⟨rfl,hb2⟩;rw[Hq1.out];have hB:=(al ag hb2)
   have zw2:=hB.size;have c0_1:w2.cell? ⟨w.heap.size,1,none⟩=some (.string nm):=af hb2 (ao (by simp) 1);have c0_3:w2.cell? ⟨w.heap.size,3,none⟩=some (.int .i64 tk):=af hb2 (ao (by simp) 3);have c0_4:w2.cell? ⟨w.heap.size,4,none⟩=some (.slice ta tn tq):=af hb2 (ao (by simp) 4);have c0_0:w2.cell? ⟨w.heap.size,0,none⟩=some (.int .i64 k):=af hb2 (ao (by simp) 0);have c0_5:w2.cell? ⟨w.heap.size,5,none⟩=some (.int .i64 fk):=af hb2 (ao (by simp) 5);have c0_6:w2.cell? ⟨w.heap.size,6,none⟩=some (.slice fa fn fq):=af hb2 (ao (by simp) 6);have c0_7:w2.cell? ⟨w.heap.size,7,none⟩=some (.int .i64 l):=af hb2 (ao (by simp) 7);have c0_2:w2.cell? ⟨w.heap.size,2,none⟩=some (.int .i64 u):=af hb2 (ao (by simp) 2);have d0_w2:=World.block_lt_of_cell? _ _ c0_1
   go_wp2_with fail
   refine(H2.out _ hB).mono ?_;rintro e w3 ⟨rfl,hb3⟩;replace hB:=(al hB hb3)
   have zw3:=hB.size;replace c0_0:=af hb3 c0_0;replace c0_5:=af hb3 c0_5;replace c0_6:=af hb3 c0_6;replace c0_7:=af hb3 c0_7;replace c0_2:=af hb3 c0_2;have d0_w3:=World.block_lt_of_cell? _ _ c0_0
   rcases Bool.eq_false_or_eq_true (n1) with q3 | q3
   ·(try rw[q3])
    have Hq3:=zq q3;clear q3
    rcases Bool.eq_false_or_eq_true (n2) with q4 | q4
    ·have Hq4:=zq q4
     clear q4
     go_wp2_with fail
     refine(H4.out _ hB).mono ?_;rintro e w4 ⟨rfl,hb4⟩;rw[Hq4.out];replace hB:=(al hB hb4)
     have zw4:=hB.size;replace c0_7:=af hb4 c0_7;replace c0_0:=af hb4 c0_0;replace c0_2:=af hb4 c0_2;have d0_w4:=World.block_lt_of_cell? _ _ c0_7
     rcases Bool.eq_false_or_eq_true (l==0) with q5 | q5
     ·(try rw[q5])
      have nq5:(l != 0)=false:=by simp only[bne,q5];rfl
      go_wp2_with fail
      refine bq (.bool (u==0)) (by simp[results,Try.results56,go_sem,bne]) ?_
      exact⟨au ((gB k u l nm tv n1 n2 cv z0 z1 z2 z3 z4 Hq1.out q2 Hq3.out Hq4.out q5 bf (bN u)).trans HT.out),hB⟩
     ·(try rw[q5])
      have nq5:(l != 0)=true:=by simp only[bne,q5];rfl
      go_wp2_with fail
      refine bq (.bool (false)) (by simp[results,Try.results56,go_sem,bne]) ?_
      exact⟨au ((gC k u l nm tv n1 n2 cv z0 z1 z2 z3 z4 Hq1.out q2 Hq3.out Hq4.out q5 bf (bN u)).trans HT.out),hB⟩
    ·have Hq4:=zq q4
     clear q4
     go_wp2_with fail
     refine(H4.out _ hB).mono ?_;rintro e w5 ⟨rfl,hb5⟩;rw[Hq4.out];replace hB:=(al hB hb5)
     have zw5:=hB.size
     go_wp2_with fail
     refine bq (.bool (false)) (by simp[results,Try.results56,go_sem,bne]) ?_
     exact⟨au ((gD k u l nm tv n1 n2 cv z0 z1 z2 z3 z4 Hq1.out q2 Hq3.out Hq4.out bf (bN u)).trans HT.out),hB⟩
   ·(try rw[q3])
    have Hq3:=zq q3;clear q3
    go_wp2_with fail
    refine bq (.bool (false)) (by simp[results,Try.results56,go_sem,bne]) ?_
    exact⟨au ((gE k u l nm tv n1 n2 cv z0 z1 z2 z3 z4 Hq1.out q2 Hq3.out bf (bN u)).trans HT.out),hB⟩
  ·skip
   have nq2:(nm.toList != [])=true:=by simp only[bne,q2];rfl
   go_wp2_with fail
   refine(bM nm _).mono ?_;rintro e w6 ⟨rfl,hb6⟩;rw[Hq1.out];have hB:=(al ag hb6)
   have zw6:=hB.size;have c0_1:w6.cell? ⟨w.heap.size,1,none⟩=some (.string nm):=af hb6 (ao (by simp) 1);have d0_w6:=World.block_lt_of_cell? _ _ c0_1
   go_wp2_with fail
   refine bq (.bool (false)) (by simp[results,Try.results56,go_sem,bne]) ?_
   exact⟨au ((gF k u l nm tv n1 n2 cv z0 z1 z2 z3 z4 Hq1.out q2 bf (bN u)).trans HT.out),hB⟩
end Go.Proofs.Ytfhglkmjibjjoaa

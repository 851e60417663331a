/- The check of a node of a term: kinds 1, 2, 5. And what else its parts name. -/
import Derived.Test.YtfahhonmiimmdaaGreatB9
set_option linter.unusedSimpArgs false
set_option linter.unusedVariables false
set_option maxRecDepth 100000
set_option maxHeartbeats 16000000
namespace Go.Proofs.YtfahhonmiimmdaaGreat
open Go.RowKit
theorem iX (u l:Int)(nm:ByteArray)(m:Nat)(tv n1 n2 cv:Bool)(h0:((aD 1)==(m:Int))=true)(h1:(aJ nm)=true)(h2:(ay u 0 0)=true)(h3:(n1)=true)(h4:(n2)=true)(h5:(l==0)=true):(true:Bool)=(nodeB 1 u l nm m tv n1 n2 cv):=by
 first | (simp_all [nodeB,ownB];done) | grind [nodeB,ownB,ay]
theorem iY (u l:Int)(nm:ByteArray)(m:Nat)(tv n1 n2 cv:Bool)(h0:((aD 1)==(m:Int))=true)(h1:(aJ nm)=true)(h2:(ay u 0 0)=true)(h3:(n1)=true)(h4:(n2)=true)(h5:(l==0)=false):(false:Bool)=(nodeB 1 u l nm m tv n1 n2 cv):=by
 first | (simp_all [nodeB,ownB];done) | grind [nodeB,ownB,ay]
theorem iZ (u l:Int)(nm:ByteArray)(m:Nat)(tv n1 n2 cv:Bool)(h0:((aD 1)==(m:Int))=true)(h1:(aJ nm)=true)(h2:(ay u 0 0)=true)(h3:(n1)=true)(h4:(n2)=false):(false:Bool)=(nodeB 1 u l nm m tv n1 n2 cv):=by
 first | (simp_all [nodeB,ownB];done) | grind [nodeB,ownB,ay]
theorem j4 (u l:Int)(nm:ByteArray)(m:Nat)(tv n1 n2 cv:Bool)(h0:((aD 1)==(m:Int))=true)(h1:(aJ nm)=true)(h2:(ay u 0 0)=true)(h3:(n1)=false):(false:Bool)=(nodeB 1 u l nm m tv n1 n2 cv):=by
 first | (simp_all [nodeB,ownB];done) | grind [nodeB,ownB,ay]
theorem j5 (u l:Int)(nm:ByteArray)(m:Nat)(tv n1 n2 cv:Bool)(h0:((aD 1)==(m:Int))=true)(h1:(aJ nm)=true)(h2:(ay u 0 0)=false):(false:Bool)=(nodeB 1 u l nm m tv n1 n2 cv):=by
 first | (simp_all [nodeB,ownB];done) | grind [nodeB,ownB,ay]
theorem j6 (u l:Int)(nm:ByteArray)(m:Nat)(tv n1 n2 cv:Bool)(h0:((aD 1)==(m:Int))=true)(h1:(aJ nm)=false):(false:Bool)=(nodeB 1 u l nm m tv n1 n2 cv):=by
 first | (simp_all [nodeB,ownB];done) | grind [nodeB,ownB,ay]
theorem j7 (u l:Int)(nm:ByteArray)(m:Nat)(tv n1 n2 cv:Bool)(h0:((aD 1)==(m:Int))=false):(false:Bool)=(nodeB 1 u l nm m tv n1 n2 cv):=by
 first | (simp_all [nodeB,ownB];done) | grind [nodeB,ownB,ay]
theorem j8 (u l:Int)(nm:ByteArray)(m:Nat)(tv n1 n2 cv:Bool)(h0:((aD 2)==(m:Int))=true)(h1:(nm.toList == [])=true)(h2:(ay u 0 999)=true)(h3:(n1)=true)(h4:(n2)=true)(h5:(l==0)=true):(true:Bool)=(nodeB 2 u l nm m tv n1 n2 cv):=by
 first | (simp_all [nodeB,ownB];done) | grind [nodeB,ownB,ay]
theorem j9 (u l:Int)(nm:ByteArray)(m:Nat)(tv n1 n2 cv:Bool)(h0:((aD 2)==(m:Int))=true)(h1:(nm.toList == [])=true)(h2:(ay u 0 999)=true)(h3:(n1)=true)(h4:(n2)=true)(h5:(l==0)=false):(false:Bool)=(nodeB 2 u l nm m tv n1 n2 cv):=by
 first | (simp_all [nodeB,ownB];done) | grind [nodeB,ownB,ay]
theorem ja (u l:Int)(nm:ByteArray)(m:Nat)(tv n1 n2 cv:Bool)(h0:((aD 2)==(m:Int))=true)(h1:(nm.toList == [])=true)(h2:(ay u 0 999)=true)(h3:(n1)=true)(h4:(n2)=false):(false:Bool)=(nodeB 2 u l nm m tv n1 n2 cv):=by
 first | (simp_all [nodeB,ownB];done) | grind [nodeB,ownB,ay]
theorem ir (u l:Int)(nm:ByteArray)(m:Nat)(tv n1 n2 cv:Bool)(h0:((aD 2)==(m:Int))=true)(h1:(nm.toList == [])=true)(h2:(ay u 0 999)=true)(h3:(n1)=false):(false:Bool)=(nodeB 2 u l nm m tv n1 n2 cv):=by
 first | (simp_all [nodeB,ownB];done) | grind [nodeB,ownB,ay]
theorem it (u l:Int)(nm:ByteArray)(m:Nat)(tv n1 n2 cv:Bool)(h0:((aD 2)==(m:Int))=true)(h1:(nm.toList == [])=true)(h2:(ay u 0 999)=false):(false:Bool)=(nodeB 2 u l nm m tv n1 n2 cv):=by
 first | (simp_all [nodeB,ownB];done) | grind [nodeB,ownB,ay]
theorem iu (u l:Int)(nm:ByteArray)(m:Nat)(tv n1 n2 cv:Bool)(h0:((aD 2)==(m:Int))=true)(h1:(nm.toList == [])=false):(false:Bool)=(nodeB 2 u l nm m tv n1 n2 cv):=by
 first | (simp_all [nodeB,ownB];done) | grind [nodeB,ownB,ay]
theorem iv (u l:Int)(nm:ByteArray)(m:Nat)(tv n1 n2 cv:Bool)(h0:((aD 2)==(m:Int))=false):(false:Bool)=(nodeB 2 u l nm m tv n1 n2 cv):=by
 first | (simp_all [nodeB,ownB];done) | grind [nodeB,ownB,ay]
theorem iw (u l:Int)(nm:ByteArray)(m:Nat)(tv n1 n2 cv:Bool)(h0:((aD 5)==(m:Int))=true)(h1:(aJ nm)=true)(h2:(ay u 0 0)=true)(h3:(tv)=true)(h4:(n2)=true)(h5:(l==0)=true):(true:Bool)=(nodeB 5 u l nm m tv n1 n2 cv):=by
 first | (simp_all [nodeB,ownB];done) | grind [nodeB,ownB,ay]
theorem ix (u l:Int)(nm:ByteArray)(m:Nat)(tv n1 n2 cv:Bool)(h0:((aD 5)==(m:Int))=true)(h1:(aJ nm)=true)(h2:(ay u 0 0)=true)(h3:(tv)=true)(h4:(n2)=true)(h5:(l==0)=false):(false:Bool)=(nodeB 5 u l nm m tv n1 n2 cv):=by
 first | (simp_all [nodeB,ownB];done) | grind [nodeB,ownB,ay]
theorem iy (u l:Int)(nm:ByteArray)(m:Nat)(tv n1 n2 cv:Bool)(h0:((aD 5)==(m:Int))=true)(h1:(aJ nm)=true)(h2:(ay u 0 0)=true)(h3:(tv)=true)(h4:(n2)=false):(false:Bool)=(nodeB 5 u l nm m tv n1 n2 cv):=by
 first | (simp_all [nodeB,ownB];done) | grind [nodeB,ownB,ay]
theorem iz (u l:Int)(nm:ByteArray)(m:Nat)(tv n1 n2 cv:Bool)(h0:((aD 5)==(m:Int))=true)(h1:(aJ nm)=true)(h2:(ay u 0 0)=true)(h3:(tv)=false):(false:Bool)=(nodeB 5 u l nm m tv n1 n2 cv):=by
 first | (simp_all [nodeB,ownB];done) | grind [nodeB,ownB,ay]
theorem iA (u l:Int)(nm:ByteArray)(m:Nat)(tv n1 n2 cv:Bool)(h0:((aD 5)==(m:Int))=true)(h1:(aJ nm)=true)(h2:(ay u 0 0)=false):(false:Bool)=(nodeB 5 u l nm m tv n1 n2 cv):=by
 first | (simp_all [nodeB,ownB];done) | grind [nodeB,ownB,ay]
theorem iB (u l:Int)(nm:ByteArray)(m:Nat)(tv n1 n2 cv:Bool)(h0:((aD 5)==(m:Int))=true)(h1:(aJ nm)=false):(false:Bool)=(nodeB 5 u l nm m tv n1 n2 cv):=by
 first | (simp_all [nodeB,ownB];done) | grind [nodeB,ownB,ay]
theorem iC (u l:Int)(nm:ByteArray)(m:Nat)(tv n1 n2 cv:Bool)(h0:((aD 5)==(m:Int))=false):(false:Bool)=(nodeB 5 u l nm m tv n1 n2 cv):=by
 first | (simp_all [nodeB,ownB];done) | grind [nodeB,ownB,ay]
theorem oY (u tk fk l:Int)(nm:ByteArray)(ta fa c:Option Addr)(tn tq fn fq m q:Nat)(w:World)(tv n1 n2 cv:Bool)(H1:Hid (∀W,Below w.heap.size w W→Calls Tryz.prog 23 #[.agg #[.int .i64 tk,.slice ta tn tq]] W fun e W'=>e = .returned (.bool (tv))∧Below W.heap.size W W'))(H2:Hid (∀W,Below w.heap.size w W→Calls Tryz.prog 96 #[.agg #[.int .i64 tk,.slice ta tn tq]] W fun e W'=>e = .returned (.bool (n1))∧Below W.heap.size W W'))(H4:Hid (∀W,Below w.heap.size w W→Calls Tryz.prog 96 #[.agg #[.int .i64 fk,.slice fa fn fq]] W fun e W'=>e = .returned (.bool (n2))∧Below W.heap.size W W'))(H3:Hid (∀W,Below w.heap.size w W→Calls Tryz.prog 10 #[.agg #[.int .i64 fk,.slice fa fn fq],.agg #[.int .i64 tk,.slice ta tn tq]] W fun e W'=>e = .returned (.bool (cv))∧Below W.heap.size W W')) :
  Calls Tryz.prog 64 #[.agg #[.int .i64 1,.string nm,.int .i64 u,.int .i64 tk,.slice ta tn tq,.int .i64 fk,.slice fa fn fq,.int .i64 l,.slice c m q]] w fun e w'=>e = .returned (.bool (nodeB 1 u l nm m tv n1 n2 cv))∧Below w.heap.size w w':=by
 obtain⟨rr,hrr⟩ : ∃rr0:Bool,(nodeB 1 u l nm m tv n1 n2 cv)=rr0:=⟨_,rfl⟩
 rw[hrr];have HT:=zq hrr;clear hrr
 go_enter Tryz.func64,Tryz.ntmps64
 go_wp2_with fail
 have s0_:(World.alloc w (Obj.cells #[.int .i64 1,.string nm,.int .i64 u,.int .i64 tk,.slice ta tn tq,.int .i64 fk,.slice fa fn fq,.int .i64 l,.slice c m q] 28)).cell? ⟨w.heap.size,0,none⟩=some (.int .i64 1):=ap (by simp) 0;have s1_:(World.alloc w (Obj.cells #[.int .i64 1,.string nm,.int .i64 u,.int .i64 tk,.slice ta tn tq,.int .i64 fk,.slice fa fn fq,.int .i64 l,.slice c m q] 28)).cell? ⟨w.heap.size,8,none⟩=some (.slice c m q):=ap (by simp) 8;have hS0:=zq (show(World.drew (World.alloc w (Obj.cells #[.int .i64 1,.string nm,.int .i64 u,.int .i64 tk,.slice ta tn tq,.int .i64 fk,.slice fa fn fq,.int .i64 l,.slice c m q] 28))).cell? ⟨w.heap.size,0,none⟩=some (.int .i64 1)∧(World.drew (World.alloc w (Obj.cells #[.int .i64 1,.string nm,.int .i64 u,.int .i64 tk,.slice ta tn tq,.int .i64 fk,.slice fa fn fq,.int .i64 l,.slice c m q] 28))).cell? ⟨w.heap.size,8,none⟩=some (.slice c m q) from⟨av (s0_),av (s1_)⟩);have hSb:=zq (show ∀X Y:World,Below X.heap.size X Y→(X.cell? ⟨w.heap.size,0,none⟩=some (.int .i64 1)∧X.cell? ⟨w.heap.size,8,none⟩=some (.slice c m q))→(Y.cell? ⟨w.heap.size,0,none⟩=some (.int .i64 1)∧Y.cell? ⟨w.heap.size,8,none⟩=some (.slice c m q)) from fun X Y h s=>⟨ah h s.1,ah h s.2⟩)
 go_region_held3 (fun w'=>w'.cell? ⟨w.heap.size,0,none⟩=some (.int .i64 1)∧w'.cell? ⟨w.heap.size,8,none⟩=some (.slice c m q))
  (repeat (first | with_reducible refine hSb.out _ _ hb1 ?_ | with_reducible exact hS0.out))
  (first | (go_at_call 93;((with_reducible refine(cW 1 _).mono ?_);rintro e w1 ⟨rfl,hb1⟩)))
 clear s0_ s1_;have hB:=(aj ai.drew hb1)
 have zw1:=hB.size;have c0_0:w1.cell? ⟨w.heap.size,0,none⟩=some (.int .i64 1):=ah hb1 (av (ap (by simp) 0));have c0_1:w1.cell? ⟨w.heap.size,1,none⟩=some (.string nm):=ah hb1 (av (ap (by simp) 1));have c0_2:w1.cell? ⟨w.heap.size,2,none⟩=some (.int .i64 u):=ah hb1 (av (ap (by simp) 2));have c0_3:w1.cell? ⟨w.heap.size,3,none⟩=some (.int .i64 tk):=ah hb1 (av (ap (by simp) 3));have c0_4:w1.cell? ⟨w.heap.size,4,none⟩=some (.slice ta tn tq):=ah hb1 (av (ap (by simp) 4));have c0_5:w1.cell? ⟨w.heap.size,5,none⟩=some (.int .i64 fk):=ah hb1 (av (ap (by simp) 5));have c0_6:w1.cell? ⟨w.heap.size,6,none⟩=some (.slice fa fn fq):=ah hb1 (av (ap (by simp) 6));have c0_7:w1.cell? ⟨w.heap.size,7,none⟩=some (.int .i64 l):=ah hb1 (av (ap (by simp) 7));have d0_w1:=World.block_lt_of_cell? _ _ c0_0
 rcases Bool.eq_false_or_eq_true ((aD 1)==(m:Int)) with q1 | q1
 ·(try rw[q1])
  go_wp2_with fail
  refine(kO nm _).mono ?_;rintro e w2 ⟨rfl,hb2⟩;replace hB:=(aj hB hb2)
  have zw2:=hB.size;replace c0_2:=ah hb2 c0_2;replace c0_3:=ah hb2 c0_3;replace c0_4:=ah hb2 c0_4;replace c0_5:=ah hb2 c0_5;replace c0_6:=ah hb2 c0_6;replace c0_7:=ah hb2 c0_7;have d0_w2:=World.block_lt_of_cell? _ _ c0_2
  rcases Bool.eq_false_or_eq_true (aJ nm) with q2 | q2
  ·(try rw[q2])
   have Hq2:=zq q2;clear q2
   go_wp2_with fail
   refine(b7 u 0 0 _).mono ?_;rintro e w3 ⟨rfl,hb3⟩;replace hB:=(aj hB hb3)
   have zw3:=hB.size;replace c0_3:=ah hb3 c0_3;replace c0_4:=ah hb3 c0_4;replace c0_5:=ah hb3 c0_5;replace c0_6:=ah hb3 c0_6;replace c0_7:=ah hb3 c0_7;have d0_w3:=World.block_lt_of_cell? _ _ c0_3
   rcases Bool.eq_false_or_eq_true (ay u 0 0) with q3 | q3
   ·(try rw[q3])
    have Hq3:=zq q3;clear q3
    go_wp2_with fail
    refine(H2.out _ hB).mono ?_;rintro e w4 ⟨rfl,hb4⟩;replace hB:=(aj hB hb4)
    have zw4:=hB.size;replace c0_5:=ah hb4 c0_5;replace c0_6:=ah hb4 c0_6;replace c0_7:=ah hb4 c0_7;have d0_w4:=World.block_lt_of_cell? _ _ c0_5
    rcases Bool.eq_false_or_eq_true (n1) with q4 | q4
    ·(try rw[q4])
     have Hq4:=zq q4;clear q4
     rcases Bool.eq_false_or_eq_true (n2) with q5 | q5
     ·have Hq5:=zq q5
      clear q5
      go_wp2_with fail
      refine(H4.out _ hB).mono ?_;rintro e w5 ⟨rfl,hb5⟩;rw[Hq5.out];replace hB:=(aj hB hb5)
      have zw5:=hB.size;replace c0_7:=ah hb5 c0_7;have d0_w5:=World.block_lt_of_cell? _ _ c0_7
      rcases Bool.eq_false_or_eq_true (l==0) with q6 | q6
      ·(try rw[q6])
       have nq6:(l != 0)=false:=by simp only[bne,q6];rfl
       go_wp2_with fail
       refine bodyPost_ret (v:=.bool (true)) (by simp[results,Tryz.results64,go_sem,bne]) rfl ?_
       exact⟨au ((iX u l nm m tv n1 n2 cv q1 Hq2.out Hq3.out Hq4.out Hq5.out q6).trans HT.out),hB⟩
      ·(try rw[q6])
       have nq6:(l != 0)=true:=by simp only[bne,q6];rfl
       go_wp2_with fail
       refine bodyPost_ret (v:=.bool (false)) (by simp[results,Tryz.results64,go_sem,bne]) rfl ?_
       exact⟨au ((iY u l nm m tv n1 n2 cv q1 Hq2.out Hq3.out Hq4.out Hq5.out q6).trans HT.out),hB⟩
     ·have Hq5:=zq q5
      clear q5
      go_wp2_with fail
      refine(H4.out _ hB).mono ?_;rintro e w6 ⟨rfl,hb6⟩;rw[Hq5.out];replace hB:=(aj hB hb6)
      have zw6:=hB.size
      go_wp2_with fail
      refine bodyPost_ret (v:=.bool (false)) (by simp[results,Tryz.results64,go_sem,bne]) rfl ?_
      exact⟨au ((iZ u l nm m tv n1 n2 cv q1 Hq2.out Hq3.out Hq4.out Hq5.out).trans HT.out),hB⟩
    ·(try rw[q4])
     have Hq4:=zq q4;clear q4
     go_wp2_with fail
     refine bodyPost_ret (v:=.bool (false)) (by simp[results,Tryz.results64,go_sem,bne]) rfl ?_
     exact⟨au ((j4 u l nm m tv n1 n2 cv q1 Hq2.out Hq3.out Hq4.out).trans HT.out),hB⟩
   ·(try rw[q3])
    have Hq3:=zq q3;clear q3
    go_wp2_with fail
    refine bodyPost_ret (v:=.bool (false)) (by simp[results,Tryz.results64,go_sem,bne]) rfl ?_
    exact⟨au ((j5 u l nm m tv n1 n2 cv q1 Hq2.out Hq3.out).trans HT.out),hB⟩
  ·(try rw[q2])
   have Hq2:=zq q2;clear q2
   go_wp2_with fail
   refine bodyPost_ret (v:=.bool (false)) (by simp[results,Tryz.results64,go_sem,bne]) rfl ?_
   exact⟨au ((j6 u l nm m tv n1 n2 cv q1 Hq2.out).trans HT.out),hB⟩
 ·(try rw[q1])
  go_wp2_with fail
  refine bodyPost_ret (v:=.bool (false)) (by simp[results,Tryz.results64,go_sem,bne]) rfl ?_
  exact⟨au ((j7 u l nm m tv n1 n2 cv q1).trans HT.out),hB⟩
theorem oZ (u tk fk l:Int)(nm:ByteArray)(ta fa c:Option Addr)(tn tq fn fq m q:Nat)(w:World)(tv n1 n2 cv:Bool)(H1:Hid (∀W,Below w.heap.size w W→Calls Tryz.prog 23 #[.agg #[.int .i64 tk,.slice ta tn tq]] W fun e W'=>e = .returned (.bool (tv))∧Below W.heap.size W W'))(H2:Hid (∀W,Below w.heap.size w W→Calls Tryz.prog 96 #[.agg #[.int .i64 tk,.slice ta tn tq]] W fun e W'=>e = .returned (.bool (n1))∧Below W.heap.size W W'))(H4:Hid (∀W,Below w.heap.size w W→Calls Tryz.prog 96 #[.agg #[.int .i64 fk,.slice fa fn fq]] W fun e W'=>e = .returned (.bool (n2))∧Below W.heap.size W W'))(H3:Hid (∀W,Below w.heap.size w W→Calls Tryz.prog 10 #[.agg #[.int .i64 fk,.slice fa fn fq],.agg #[.int .i64 tk,.slice ta tn tq]] W fun e W'=>e = .returned (.bool (cv))∧Below W.heap.size W W')) :
  Calls Tryz.prog 64 #[.agg #[.int .i64 2,.string nm,.int .i64 u,.int .i64 tk,.slice ta tn tq,.int .i64 fk,.slice fa fn fq,.int .i64 l,.slice c m q]] w fun e w'=>e = .returned (.bool (nodeB 2 u l nm m tv n1 n2 cv))∧Below w.heap.size w w':=by
 obtain⟨rr,hrr⟩ : ∃rr0:Bool,(nodeB 2 u l nm m tv n1 n2 cv)=rr0:=⟨_,rfl⟩
 rw[hrr];have HT:=zq hrr;clear hrr
 go_enter Tryz.func64,Tryz.ntmps64
 go_wp2_with fail
 have s0_:(World.alloc w (Obj.cells #[.int .i64 2,.string nm,.int .i64 u,.int .i64 tk,.slice ta tn tq,.int .i64 fk,.slice fa fn fq,.int .i64 l,.slice c m q] 28)).cell? ⟨w.heap.size,0,none⟩=some (.int .i64 2):=ap (by simp) 0;have s1_:(World.alloc w (Obj.cells #[.int .i64 2,.string nm,.int .i64 u,.int .i64 tk,.slice ta tn tq,.int .i64 fk,.slice fa fn fq,.int .i64 l,.slice c m q] 28)).cell? ⟨w.heap.size,8,none⟩=some (.slice c m q):=ap (by simp) 8;have hS0:=zq (show(World.drew (World.alloc w (Obj.cells #[.int .i64 2,.string nm,.int .i64 u,.int .i64 tk,.slice ta tn tq,.int .i64 fk,.slice fa fn fq,.int .i64 l,.slice c m q] 28))).cell? ⟨w.heap.size,0,none⟩=some (.int .i64 2)∧(World.drew (World.alloc w (Obj.cells #[.int .i64 2,.string nm,.int .i64 u,.int .i64 tk,.slice ta tn tq,.int .i64 fk,.slice fa fn fq,.int .i64 l,.slice c m q] 28))).cell? ⟨w.heap.size,8,none⟩=some (.slice c m q) from⟨av (s0_),av (s1_)⟩);have hSb:=zq (show ∀X Y:World,Below X.heap.size X Y→(X.cell? ⟨w.heap.size,0,none⟩=some (.int .i64 2)∧X.cell? ⟨w.heap.size,8,none⟩=some (.slice c m q))→(Y.cell? ⟨w.heap.size,0,none⟩=some (.int .i64 2)∧Y.cell? ⟨w.heap.size,8,none⟩=some (.slice c m q)) from fun X Y h s=>⟨ah h s.1,ah h s.2⟩)
 go_region_held3 (fun w'=>w'.cell? ⟨w.heap.size,0,none⟩=some (.int .i64 2)∧w'.cell? ⟨w.heap.size,8,none⟩=some (.slice c m q))
  (repeat (first | with_reducible refine hSb.out _ _ hb1 ?_ | with_reducible exact hS0.out))
  (first | (go_at_call 93;((with_reducible refine(cW 2 _).mono ?_);rintro e w1 ⟨rfl,hb1⟩)))
 clear s0_ s1_;have hB:=(aj ai.drew hb1)
 have zw1:=hB.size;have c0_0:w1.cell? ⟨w.heap.size,0,none⟩=some (.int .i64 2):=ah hb1 (av (ap (by simp) 0));have c0_1:w1.cell? ⟨w.heap.size,1,none⟩=some (.string nm):=ah hb1 (av (ap (by simp) 1));have c0_2:w1.cell? ⟨w.heap.size,2,none⟩=some (.int .i64 u):=ah hb1 (av (ap (by simp) 2));have c0_3:w1.cell? ⟨w.heap.size,3,none⟩=some (.int .i64 tk):=ah hb1 (av (ap (by simp) 3));have c0_4:w1.cell? ⟨w.heap.size,4,none⟩=some (.slice ta tn tq):=ah hb1 (av (ap (by simp) 4));have c0_5:w1.cell? ⟨w.heap.size,5,none⟩=some (.int .i64 fk):=ah hb1 (av (ap (by simp) 5));have c0_6:w1.cell? ⟨w.heap.size,6,none⟩=some (.slice fa fn fq):=ah hb1 (av (ap (by simp) 6));have c0_7:w1.cell? ⟨w.heap.size,7,none⟩=some (.int .i64 l):=ah hb1 (av (ap (by simp) 7));have d0_w1:=World.block_lt_of_cell? _ _ c0_0
 rcases Bool.eq_false_or_eq_true ((aD 2)==(m:Int)) with q1 | q1
 ·(try rw[q1])
  rcases Bool.eq_false_or_eq_true (nm.toList == []) with q2 | q2
  ·(try rw[q2])
   have nq2:(nm.toList != [])=false:=by simp only[bne,q2];rfl
   go_wp2_with fail
   refine(b7 u 0 999 _).mono ?_;rintro e w2 ⟨rfl,hb2⟩;replace hB:=(aj hB hb2)
   have zw2:=hB.size;replace c0_3:=ah hb2 c0_3;replace c0_4:=ah hb2 c0_4;replace c0_5:=ah hb2 c0_5;replace c0_6:=ah hb2 c0_6;replace c0_7:=ah hb2 c0_7;have d0_w2:=World.block_lt_of_cell? _ _ c0_3
   rcases Bool.eq_false_or_eq_true (ay u 0 999) with q3 | q3
   ·(try rw[q3])
    have Hq3:=zq q3;clear q3
    go_wp2_with fail
    refine(H2.out _ hB).mono ?_;rintro e w3 ⟨rfl,hb3⟩;replace hB:=(aj hB hb3)
    have zw3:=hB.size;replace c0_5:=ah hb3 c0_5;replace c0_6:=ah hb3 c0_6;replace c0_7:=ah hb3 c0_7;have d0_w3:=World.block_lt_of_cell? _ _ c0_5
    rcases Bool.eq_false_or_eq_true (n1) with q4 | q4
    ·(try rw[q4])
     have Hq4:=zq q4;clear q4
     rcases Bool.eq_false_or_eq_true (n2) with q5 | q5
     ·have Hq5:=zq q5
      clear q5
      go_wp2_with fail
      refine(H4.out _ hB).mono ?_;rintro e w4 ⟨rfl,hb4⟩;rw[Hq5.out];replace hB:=(aj hB hb4)
      have zw4:=hB.size;replace c0_7:=ah hb4 c0_7;have d0_w4:=World.block_lt_of_cell? _ _ c0_7
      rcases Bool.eq_false_or_eq_true (l==0) with q6 | q6
      ·(try rw[q6])
       have nq6:(l != 0)=false:=by simp only[bne,q6];rfl
       go_wp2_with fail
       refine bodyPost_ret (v:=.bool (true)) (by simp[results,Tryz.results64,go_sem,bne]) rfl ?_
       exact⟨au ((j8 u l nm m tv n1 n2 cv q1 q2 Hq3.out Hq4.out Hq5.out q6).trans HT.out),hB⟩
      ·(try rw[q6])
       have nq6:(l != 0)=true:=by simp only[bne,q6];rfl
       go_wp2_with fail
       refine bodyPost_ret (v:=.bool (false)) (by simp[results,Tryz.results64,go_sem,bne]) rfl ?_
       exact⟨au ((j9 u l nm m tv n1 n2 cv q1 q2 Hq3.out Hq4.out Hq5.out q6).trans HT.out),hB⟩
     ·have Hq5:=zq q5
      clear q5
      go_wp2_with fail
      refine(H4.out _ hB).mono ?_;rintro e w5 ⟨rfl,hb5⟩;rw[Hq5.out];replace hB:=(aj hB hb5)
      have zw5:=hB.size
      go_wp2_with fail
      refine bodyPost_ret (v:=.bool (false)) (by simp[results,Tryz.results64,go_sem,bne]) rfl ?_
      exact⟨au ((ja u l nm m tv n1 n2 cv q1 q2 Hq3.out Hq4.out Hq5.out).trans HT.out),hB⟩
    ·(try rw[q4])
     have Hq4:=zq q4;clear q4
     go_wp2_with fail
     refine bodyPost_ret (v:=.bool (false)) (by simp[results,Tryz.results64,go_sem,bne]) rfl ?_
     exact⟨au ((ir u l nm m tv n1 n2 cv q1 q2 Hq3.out Hq4.out).trans HT.out),hB⟩
   ·(try rw[q3])
    have Hq3:=zq q3;clear q3
    go_wp2_with fail
    refine bodyPost_ret (v:=.bool (false)) (by simp[results,Tryz.results64,go_sem,bne]) rfl ?_
    exact⟨au ((it u l nm m tv n1 n2 cv q1 q2 Hq3.out).trans HT.out),hB⟩
  ·(try rw[q2])
   have nq2:(nm.toList != [])=true:=by simp only[bne,q2];rfl
   go_wp2_with fail
   refine bodyPost_ret (v:=.bool (false)) (by simp[results,Tryz.results64,go_sem,bne]) rfl ?_
   exact⟨au ((iu u l nm m tv n1 n2 cv q1 q2).trans HT.out),hB⟩
 ·(try rw[q1])
  go_wp2_with fail
  refine bodyPost_ret (v:=.bool (false)) (by simp[results,Tryz.results64,go_sem,bne]) rfl ?_
  exact⟨au ((iv u l nm m tv n1 n2 cv q1).trans HT.out),hB⟩
theorem p7 (u tk fk l:Int)(nm:ByteArray)(ta fa c:Option Addr)(tn tq fn fq m q:Nat)(w:World)(tv n1 n2 cv:Bool)(H1:Hid (∀W,Below w.heap.size w W→Calls Tryz.prog 23 #[.agg #[.int .i64 tk,.slice ta tn tq]] W fun e W'=>e = .returned (.bool (tv))∧Below W.heap.size W W'))(H2:Hid (∀W,Below w.heap.size w W→Calls Tryz.prog 96 #[.agg #[.int .i64 tk,.slice ta tn tq]] W fun e W'=>e = .returned (.bool (n1))∧Below W.heap.size W W'))(H4:Hid (∀W,Below w.heap.size w W→Calls Tryz.prog 96 #[.agg #[.int .i64 fk,.slice fa fn fq]] W fun e W'=>e = .returned (.bool (n2))∧Below W.heap.size W W'))(H3:Hid (∀W,Below w.heap.size w W→Calls Tryz.prog 10 #[.agg #[.int .i64 fk,.slice fa fn fq],.agg #[.int .i64 tk,.slice ta tn tq]] W fun e W'=>e = .returned (.bool (cv))∧Below W.heap.size W W')) :
  Calls Tryz.prog 64 #[.agg #[.int .i64 5,.string nm,.int .i64 u,.int .i64 tk,.slice ta tn tq,.int .i64 fk,.slice fa fn fq,.int .i64 l,.slice c m q]] w fun e w'=>e = .returned (.bool (nodeB 5 u l nm m tv n1 n2 cv))∧Below w.heap.size w w':=by
 obtain⟨rr,hrr⟩ : ∃rr0:Bool,(nodeB 5 u l nm m tv n1 n2 cv)=rr0:=⟨_,rfl⟩
 rw[hrr];have HT:=zq hrr;clear hrr
 go_enter Tryz.func64,Tryz.ntmps64
 go_wp2_with fail
 have s0_:(World.alloc w (Obj.cells #[.int .i64 5,.string nm,.int .i64 u,.int .i64 tk,.slice ta tn tq,.int .i64 fk,.slice fa fn fq,.int .i64 l,.slice c m q] 28)).cell? ⟨w.heap.size,0,none⟩=some (.int .i64 5):=ap (by simp) 0;have s1_:(World.alloc w (Obj.cells #[.int .i64 5,.string nm,.int .i64 u,.int .i64 tk,.slice ta tn tq,.int .i64 fk,.slice fa fn fq,.int .i64 l,.slice c m q] 28)).cell? ⟨w.heap.size,8,none⟩=some (.slice c m q):=ap (by simp) 8;have hS0:=zq (show(World.drew (World.alloc w (Obj.cells #[.int .i64 5,.string nm,.int .i64 u,.int .i64 tk,.slice ta tn tq,.int .i64 fk,.slice fa fn fq,.int .i64 l,.slice c m q] 28))).cell? ⟨w.heap.size,0,none⟩=some (.int .i64 5)∧(World.drew (World.alloc w (Obj.cells #[.int .i64 5,.string nm,.int .i64 u,.int .i64 tk,.slice ta tn tq,.int .i64 fk,.slice fa fn fq,.int .i64 l,.slice c m q] 28))).cell? ⟨w.heap.size,8,none⟩=some (.slice c m q) from⟨av (s0_),av (s1_)⟩);have hSb:=zq (show ∀X Y:World,Below X.heap.size X Y→(X.cell? ⟨w.heap.size,0,none⟩=some (.int .i64 5)∧X.cell? ⟨w.heap.size,8,none⟩=some (.slice c m q))→(Y.cell? ⟨w.heap.size,0,none⟩=some (.int .i64 5)∧Y.cell? ⟨w.heap.size,8,none⟩=some (.slice c m q)) from fun X Y h s=>⟨ah h s.1,ah h s.2⟩)
 go_region_held3 (fun w'=>w'.cell? ⟨w.heap.size,0,none⟩=some (.int .i64 5)∧w'.cell? ⟨w.heap.size,8,none⟩=some (.slice c m q))
  (repeat (first | with_reducible refine hSb.out _ _ hb1 ?_ | with_reducible exact hS0.out))
  (first | (go_at_call 93;((with_reducible refine(cW 5 _).mono ?_);rintro e w1 ⟨rfl,hb1⟩)))
 clear s0_ s1_;have hB:=(aj ai.drew hb1)
 have zw1:=hB.size;have c0_0:w1.cell? ⟨w.heap.size,0,none⟩=some (.int .i64 5):=ah hb1 (av (ap (by simp) 0));have c0_1:w1.cell? ⟨w.heap.size,1,none⟩=some (.string nm):=ah hb1 (av (ap (by simp) 1));have c0_2:w1.cell? ⟨w.heap.size,2,none⟩=some (.int .i64 u):=ah hb1 (av (ap (by simp) 2));have c0_3:w1.cell? ⟨w.heap.size,3,none⟩=some (.int .i64 tk):=ah hb1 (av (ap (by simp) 3));have c0_4:w1.cell? ⟨w.heap.size,4,none⟩=some (.slice ta tn tq):=ah hb1 (av (ap (by simp) 4));have c0_5:w1.cell? ⟨w.heap.size,5,none⟩=some (.int .i64 fk):=ah hb1 (av (ap (by simp) 5));have c0_6:w1.cell? ⟨w.heap.size,6,none⟩=some (.slice fa fn fq):=ah hb1 (av (ap (by simp) 6));have c0_7:w1.cell? ⟨w.heap.size,7,none⟩=some (.int .i64 l):=ah hb1 (av (ap (by simp) 7));have d0_w1:=World.block_lt_of_cell? _ _ c0_0
 rcases Bool.eq_false_or_eq_true ((aD 5)==(m:Int)) with q1 | q1
 ·(try rw[q1])
  go_wp2_with fail
  refine(kO nm _).mono ?_;rintro e w2 ⟨rfl,hb2⟩;replace hB:=(aj hB hb2)
  have zw2:=hB.size;replace c0_2:=ah hb2 c0_2;replace c0_3:=ah hb2 c0_3;replace c0_4:=ah hb2 c0_4;replace c0_5:=ah hb2 c0_5;replace c0_6:=ah hb2 c0_6;replace c0_7:=ah hb2 c0_7;have d0_w2:=World.block_lt_of_cell? _ _ c0_2
  rcases Bool.eq_false_or_eq_true (aJ nm) with q2 | q2
  ·(try rw[q2])
   have Hq2:=zq q2;clear q2
   go_wp2_with fail
   refine(b7 u 0 0 _).mono ?_;rintro e w3 ⟨rfl,hb3⟩;replace hB:=(aj hB hb3)
   have zw3:=hB.size;replace c0_3:=ah hb3 c0_3;replace c0_4:=ah hb3 c0_4;replace c0_5:=ah hb3 c0_5;replace c0_6:=ah hb3 c0_6;replace c0_7:=ah hb3 c0_7;have d0_w3:=World.block_lt_of_cell? _ _ c0_3
   rcases Bool.eq_false_or_eq_true (ay u 0 0) with q3 | q3
   ·(try rw[q3])
    have Hq3:=zq q3;clear q3
    go_wp2_with fail
    refine(H1.out _ hB).mono ?_;rintro e w4 ⟨rfl,hb4⟩;replace hB:=(aj hB hb4)
    have zw4:=hB.size;replace c0_5:=ah hb4 c0_5;replace c0_6:=ah hb4 c0_6;replace c0_7:=ah hb4 c0_7;have d0_w4:=World.block_lt_of_cell? _ _ c0_5
    rcases Bool.eq_false_or_eq_true (tv) with q4 | q4
    ·(try rw[q4])
     have Hq4:=zq q4;clear q4
     rcases Bool.eq_false_or_eq_true (n2) with q5 | q5
     ·have Hq5:=zq q5
      clear q5
      go_wp2_with fail
      refine(H4.out _ hB).mono ?_;rintro e w5 ⟨rfl,hb5⟩;rw[Hq5.out];replace hB:=(aj hB hb5)
      have zw5:=hB.size;replace c0_7:=ah hb5 c0_7;have d0_w5:=World.block_lt_of_cell? _ _ c0_7
      rcases Bool.eq_false_or_eq_true (l==0) with q6 | q6
      ·(try rw[q6])
       have nq6:(l != 0)=false:=by simp only[bne,q6];rfl
       go_wp2_with fail
       refine bodyPost_ret (v:=.bool (true)) (by simp[results,Tryz.results64,go_sem,bne]) rfl ?_
       exact⟨au ((iw u l nm m tv n1 n2 cv q1 Hq2.out Hq3.out Hq4.out Hq5.out q6).trans HT.out),hB⟩
      ·(try rw[q6])
       have nq6:(l != 0)=true:=by simp only[bne,q6];rfl
       go_wp2_with fail
       refine bodyPost_ret (v:=.bool (false)) (by simp[results,Tryz.results64,go_sem,bne]) rfl ?_
       exact⟨au ((ix u l nm m tv n1 n2 cv q1 Hq2.out Hq3.out Hq4.out Hq5.out q6).trans HT.out),hB⟩
     ·have Hq5:=zq q5
      clear q5
      go_wp2_with fail
      refine(H4.out _ hB).mono ?_;rintro e w6 ⟨rfl,hb6⟩;rw[Hq5.out];replace hB:=(aj hB hb6)
      have zw6:=hB.size
      go_wp2_with fail
      refine bodyPost_ret (v:=.bool (false)) (by simp[results,Tryz.results64,go_sem,bne]) rfl ?_
      exact⟨au ((iy u l nm m tv n1 n2 cv q1 Hq2.out Hq3.out Hq4.out Hq5.out).trans HT.out),hB⟩
    ·(try rw[q4])
     have Hq4:=zq q4;clear q4
     go_wp2_with fail
     refine bodyPost_ret (v:=.bool (false)) (by simp[results,Tryz.results64,go_sem,bne]) rfl ?_
     exact⟨au ((iz u l nm m tv n1 n2 cv q1 Hq2.out Hq3.out Hq4.out).trans HT.out),hB⟩
   ·(try rw[q3])
    have Hq3:=zq q3;clear q3
    go_wp2_with fail
    refine bodyPost_ret (v:=.bool (false)) (by simp[results,Tryz.results64,go_sem,bne]) rfl ?_
    exact⟨au ((iA u l nm m tv n1 n2 cv q1 Hq2.out Hq3.out).trans HT.out),hB⟩
  ·(try rw[q2])
   have Hq2:=zq q2;clear q2
   go_wp2_with fail
   refine bodyPost_ret (v:=.bool (false)) (by simp[results,Tryz.results64,go_sem,bne]) rfl ?_
   exact⟨au ((iB u l nm m tv n1 n2 cv q1 Hq2.out).trans HT.out),hB⟩
 ·(try rw[q1])
  go_wp2_with fail
  refine bodyPost_ret (v:=.bool (false)) (by simp[results,Tryz.results64,go_sem,bne]) rfl ?_
  exact⟨au ((iC u l nm m tv n1 n2 cv q1).trans HT.out),hB⟩
theorem ie (u l:Int)(nm:ByteArray)(m:Nat)(tv n1 n2 cv:Bool)(h0:((aD 13)==(m:Int))=true)(h1:(nm.toList == [])=true)(h2:(ay u 0 0)=true)(h3:(tv)=true)(h4:(n2)=true)(h5:(l==0)=true):(true:Bool)=(nodeB 13 u l nm m tv n1 n2 cv):=by
 first | (simp_all [nodeB,ownB];done) | grind [nodeB,ownB,ay]
theorem ig (u l:Int)(nm:ByteArray)(m:Nat)(tv n1 n2 cv:Bool)(h0:((aD 13)==(m:Int))=true)(h1:(nm.toList == [])=true)(h2:(ay u 0 0)=true)(h3:(tv)=true)(h4:(n2)=true)(h5:(l==0)=false):(false:Bool)=(nodeB 13 u l nm m tv n1 n2 cv):=by
 first | (simp_all [nodeB,ownB];done) | grind [nodeB,ownB,ay]
theorem ii (u l:Int)(nm:ByteArray)(m:Nat)(tv n1 n2 cv:Bool)(h0:((aD 13)==(m:Int))=true)(h1:(nm.toList == [])=true)(h2:(ay u 0 0)=true)(h3:(tv)=true)(h4:(n2)=false):(false:Bool)=(nodeB 13 u l nm m tv n1 n2 cv):=by
 first | (simp_all [nodeB,ownB];done) | grind [nodeB,ownB,ay]
theorem ij (u l:Int)(nm:ByteArray)(m:Nat)(tv n1 n2 cv:Bool)(h0:((aD 13)==(m:Int))=true)(h1:(nm.toList == [])=true)(h2:(ay u 0 0)=true)(h3:(tv)=false):(false:Bool)=(nodeB 13 u l nm m tv n1 n2 cv):=by
 first | (simp_all [nodeB,ownB];done) | grind [nodeB,ownB,ay]
theorem ik (u l:Int)(nm:ByteArray)(m:Nat)(tv n1 n2 cv:Bool)(h0:((aD 13)==(m:Int))=true)(h1:(nm.toList == [])=true)(h2:(ay u 0 0)=false):(false:Bool)=(nodeB 13 u l nm m tv n1 n2 cv):=by
 first | (simp_all [nodeB,ownB];done) | grind [nodeB,ownB,ay]
theorem il (u l:Int)(nm:ByteArray)(m:Nat)(tv n1 n2 cv:Bool)(h0:((aD 13)==(m:Int))=true)(h1:(nm.toList == [])=false):(false:Bool)=(nodeB 13 u l nm m tv n1 n2 cv):=by
 first | (simp_all [nodeB,ownB];done) | grind [nodeB,ownB,ay]
theorem im (u l:Int)(nm:ByteArray)(m:Nat)(tv n1 n2 cv:Bool)(h0:((aD 13)==(m:Int))=false):(false:Bool)=(nodeB 13 u l nm m tv n1 n2 cv):=by
 first | (simp_all [nodeB,ownB];done) | grind [nodeB,ownB,ay]
theorem io (u l:Int)(nm:ByteArray)(m:Nat)(tv n1 n2 cv:Bool)(h0:((aD 14)==(m:Int))=true)(h1:(nm.toList == [])=true)(h2:(ay u 0 0)=true)(h3:(tv)=true)(h4:(cv)=true)(h5:(ce l)=true):(true:Bool)=(nodeB 14 u l nm m tv n1 n2 cv):=by
 first | (simp_all [nodeB,ownB];done) | grind [nodeB,ownB,ay]
theorem ip (u l:Int)(nm:ByteArray)(m:Nat)(tv n1 n2 cv:Bool)(h0:((aD 14)==(m:Int))=true)(h1:(nm.toList == [])=true)(h2:(ay u 0 0)=true)(h3:(tv)=true)(h4:(cv)=true)(h5:(ce l)=false):(false:Bool)=(nodeB 14 u l nm m tv n1 n2 cv):=by
 first | (simp_all [nodeB,ownB];done) | grind [nodeB,ownB,ay]
theorem iq (u l:Int)(nm:ByteArray)(m:Nat)(tv n1 n2 cv:Bool)(h0:((aD 14)==(m:Int))=true)(h1:(nm.toList == [])=true)(h2:(ay u 0 0)=true)(h3:(tv)=true)(h4:(cv)=false):(false:Bool)=(nodeB 14 u l nm m tv n1 n2 cv):=by
 first | (simp_all [nodeB,ownB];done) | grind [nodeB,ownB,ay]
theorem gQ (u l:Int)(nm:ByteArray)(m:Nat)(tv n1 n2 cv:Bool)(h0:((aD 14)==(m:Int))=true)(h1:(nm.toList == [])=true)(h2:(ay u 0 0)=true)(h3:(tv)=false):(false:Bool)=(nodeB 14 u l nm m tv n1 n2 cv):=by
 first | (simp_all [nodeB,ownB];done) | grind [nodeB,ownB,ay]
theorem gR (u l:Int)(nm:ByteArray)(m:Nat)(tv n1 n2 cv:Bool)(h0:((aD 14)==(m:Int))=true)(h1:(nm.toList == [])=true)(h2:(ay u 0 0)=false):(false:Bool)=(nodeB 14 u l nm m tv n1 n2 cv):=by
 first | (simp_all [nodeB,ownB];done) | grind [nodeB,ownB,ay]
theorem gS (u l:Int)(nm:ByteArray)(m:Nat)(tv n1 n2 cv:Bool)(h0:((aD 14)==(m:Int))=true)(h1:(nm.toList == [])=false):(false:Bool)=(nodeB 14 u l nm m tv n1 n2 cv):=by
 first | (simp_all [nodeB,ownB];done) | grind [nodeB,ownB,ay]
theorem gT (u l:Int)(nm:ByteArray)(m:Nat)(tv n1 n2 cv:Bool)(h0:((aD 14)==(m:Int))=false):(false:Bool)=(nodeB 14 u l nm m tv n1 n2 cv):=by
 first | (simp_all [nodeB,ownB];done) | grind [nodeB,ownB,ay]
theorem iD (k u l:Int)(nm:ByteArray)(m:Nat)(tv n1 n2 cv:Bool)(h0:(k==1)=false)(h1:(k==5)=false)(h2:(k==13)=false)(h3:(k==14)=false)(h4:(k==2)=false)(h5:((aD k)==(m:Int))=true)(h6:(nm.toList == [])=true)(h7:(ay u 0 0)=true)(h8:(n1)=true)(h9:(n2)=true)(h10:(l==0)=true):(true:Bool)=(nodeB k u l nm m tv n1 n2 cv):=by
 first | (simp_all [nodeB,ownB];done) | grind [nodeB,ownB,ay]
theorem iE (k u l:Int)(nm:ByteArray)(m:Nat)(tv n1 n2 cv:Bool)(h0:(k==1)=false)(h1:(k==5)=false)(h2:(k==13)=false)(h3:(k==14)=false)(h4:(k==2)=false)(h5:((aD k)==(m:Int))=true)(h6:(nm.toList == [])=true)(h7:(ay u 0 0)=true)(h8:(n1)=true)(h9:(n2)=true)(h10:(l==0)=false):(false:Bool)=(nodeB k u l nm m tv n1 n2 cv):=by
 first | (simp_all [nodeB,ownB];done) | grind [nodeB,ownB,ay]
theorem iF (k u l:Int)(nm:ByteArray)(m:Nat)(tv n1 n2 cv:Bool)(h0:(k==1)=false)(h1:(k==5)=false)(h2:(k==13)=false)(h3:(k==14)=false)(h4:(k==2)=false)(h5:((aD k)==(m:Int))=true)(h6:(nm.toList == [])=true)(h7:(ay u 0 0)=true)(h8:(n1)=true)(h9:(n2)=false):(false:Bool)=(nodeB k u l nm m tv n1 n2 cv):=by
 first | (simp_all [nodeB,ownB];done) | grind [nodeB,ownB,ay]
theorem iG (k u l:Int)(nm:ByteArray)(m:Nat)(tv n1 n2 cv:Bool)(h0:(k==1)=false)(h1:(k==5)=false)(h2:(k==13)=false)(h3:(k==14)=false)(h4:(k==2)=false)(h5:((aD k)==(m:Int))=true)(h6:(nm.toList == [])=true)(h7:(ay u 0 0)=true)(h8:(n1)=false):(false:Bool)=(nodeB k u l nm m tv n1 n2 cv):=by
 first | (simp_all [nodeB,ownB];done) | grind [nodeB,ownB,ay]
theorem iH (k u l:Int)(nm:ByteArray)(m:Nat)(tv n1 n2 cv:Bool)(h0:(k==1)=false)(h1:(k==5)=false)(h2:(k==13)=false)(h3:(k==14)=false)(h4:(k==2)=false)(h5:((aD k)==(m:Int))=true)(h6:(nm.toList == [])=true)(h7:(ay u 0 0)=false):(false:Bool)=(nodeB k u l nm m tv n1 n2 cv):=by
 first | (simp_all [nodeB,ownB];done) | grind [nodeB,ownB,ay]
theorem iI (k u l:Int)(nm:ByteArray)(m:Nat)(tv n1 n2 cv:Bool)(h0:(k==1)=false)(h1:(k==5)=false)(h2:(k==13)=false)(h3:(k==14)=false)(h4:(k==2)=false)(h5:((aD k)==(m:Int))=true)(h6:(nm.toList == [])=false):(false:Bool)=(nodeB k u l nm m tv n1 n2 cv):=by
 first | (simp_all [nodeB,ownB];done) | grind [nodeB,ownB,ay]
theorem iJ (k u l:Int)(nm:ByteArray)(m:Nat)(tv n1 n2 cv:Bool)(h0:(k==1)=false)(h1:(k==5)=false)(h2:(k==13)=false)(h3:(k==14)=false)(h4:(k==2)=false)(h5:((aD k)==(m:Int))=false):(false:Bool)=(nodeB k u l nm m tv n1 n2 cv):=by
 first | (simp_all [nodeB,ownB];done) | grind [nodeB,ownB,ay]
theorem om (u tk fk l:Int)(nm:ByteArray)(ta fa c:Option Addr)(tn tq fn fq m q:Nat)(w:World)(tv n1 n2 cv:Bool)(H1:Hid (∀W,Below w.heap.size w W→Calls Tryz.prog 23 #[.agg #[.int .i64 tk,.slice ta tn tq]] W fun e W'=>e = .returned (.bool (tv))∧Below W.heap.size W W'))(H2:Hid (∀W,Below w.heap.size w W→Calls Tryz.prog 96 #[.agg #[.int .i64 tk,.slice ta tn tq]] W fun e W'=>e = .returned (.bool (n1))∧Below W.heap.size W W'))(H4:Hid (∀W,Below w.heap.size w W→Calls Tryz.prog 96 #[.agg #[.int .i64 fk,.slice fa fn fq]] W fun e W'=>e = .returned (.bool (n2))∧Below W.heap.size W W'))(H3:Hid (∀W,Below w.heap.size w W→Calls Tryz.prog 10 #[.agg #[.int .i64 fk,.slice fa fn fq],.agg #[.int .i64 tk,.slice ta tn tq]] W fun e W'=>e = .returned (.bool (cv))∧Below W.heap.size W W')) :
  Calls Tryz.prog 64 #[.agg #[.int .i64 13,.string nm,.int .i64 u,.int .i64 tk,.slice ta tn tq,.int .i64 fk,.slice fa fn fq,.int .i64 l,.slice c m q]] w fun e w'=>e = .returned (.bool (nodeB 13 u l nm m tv n1 n2 cv))∧Below w.heap.size w w':=by
 obtain⟨rr,hrr⟩ : ∃rr0:Bool,(nodeB 13 u l nm m tv n1 n2 cv)=rr0:=⟨_,rfl⟩
 rw[hrr];have HT:=zq hrr;clear hrr
 go_enter Tryz.func64,Tryz.ntmps64
 go_wp2_with fail
 have s0_:(World.alloc w (Obj.cells #[.int .i64 13,.string nm,.int .i64 u,.int .i64 tk,.slice ta tn tq,.int .i64 fk,.slice fa fn fq,.int .i64 l,.slice c m q] 28)).cell? ⟨w.heap.size,0,none⟩=some (.int .i64 13):=ap (by simp) 0;have s1_:(World.alloc w (Obj.cells #[.int .i64 13,.string nm,.int .i64 u,.int .i64 tk,.slice ta tn tq,.int .i64 fk,.slice fa fn fq,.int .i64 l,.slice c m q] 28)).cell? ⟨w.heap.size,8,none⟩=some (.slice c m q):=ap (by simp) 8;have hS0:=zq (show(World.drew (World.alloc w (Obj.cells #[.int .i64 13,.string nm,.int .i64 u,.int .i64 tk,.slice ta tn tq,.int .i64 fk,.slice fa fn fq,.int .i64 l,.slice c m q] 28))).cell? ⟨w.heap.size,0,none⟩=some (.int .i64 13)∧(World.drew (World.alloc w (Obj.cells #[.int .i64 13,.string nm,.int .i64 u,.int .i64 tk,.slice ta tn tq,.int .i64 fk,.slice fa fn fq,.int .i64 l,.slice c m q] 28))).cell? ⟨w.heap.size,8,none⟩=some (.slice c m q) from⟨av (s0_),av (s1_)⟩);have hSb:=zq (show ∀X Y:World,Below X.heap.size X Y→(X.cell? ⟨w.heap.size,0,none⟩=some (.int .i64 13)∧X.cell? ⟨w.heap.size,8,none⟩=some (.slice c m q))→(Y.cell? ⟨w.heap.size,0,none⟩=some (.int .i64 13)∧Y.cell? ⟨w.heap.size,8,none⟩=some (.slice c m q)) from fun X Y h s=>⟨ah h s.1,ah h s.2⟩)
 go_region_held3 (fun w'=>w'.cell? ⟨w.heap.size,0,none⟩=some (.int .i64 13)∧w'.cell? ⟨w.heap.size,8,none⟩=some (.slice c m q))
  (repeat (first | with_reducible refine hSb.out _ _ hb1 ?_ | with_reducible exact hS0.out))
  (first | (go_at_call 93;((with_reducible refine(cW 13 _).mono ?_);rintro e w1 ⟨rfl,hb1⟩)))
 clear s0_ s1_;have hB:=(aj ai.drew hb1)
 have zw1:=hB.size;have c0_0:w1.cell? ⟨w.heap.size,0,none⟩=some (.int .i64 13):=ah hb1 (av (ap (by simp) 0));have c0_1:w1.cell? ⟨w.heap.size,1,none⟩=some (.string nm):=ah hb1 (av (ap (by simp) 1));have c0_2:w1.cell? ⟨w.heap.size,2,none⟩=some (.int .i64 u):=ah hb1 (av (ap (by simp) 2));have c0_3:w1.cell? ⟨w.heap.size,3,none⟩=some (.int .i64 tk):=ah hb1 (av (ap (by simp) 3));have c0_4:w1.cell? ⟨w.heap.size,4,none⟩=some (.slice ta tn tq):=ah hb1 (av (ap (by simp) 4));have c0_5:w1.cell? ⟨w.heap.size,5,none⟩=some (.int .i64 fk):=ah hb1 (av (ap (by simp) 5));have c0_6:w1.cell? ⟨w.heap.size,6,none⟩=some (.slice fa fn fq):=ah hb1 (av (ap (by simp) 6));have c0_7:w1.cell? ⟨w.heap.size,7,none⟩=some (.int .i64 l):=ah hb1 (av (ap (by simp) 7));have d0_w1:=World.block_lt_of_cell? _ _ c0_0
 rcases Bool.eq_false_or_eq_true ((aD 13)==(m:Int)) with q1 | q1
 ·(try rw[q1])
  rcases Bool.eq_false_or_eq_true (nm.toList == []) with q2 | q2
  ·(try rw[q2])
   have nq2:(nm.toList != [])=false:=by simp only[bne,q2];rfl
   go_wp2_with fail
   refine(b7 u 0 0 _).mono ?_;rintro e w2 ⟨rfl,hb2⟩;replace hB:=(aj hB hb2)
   have zw2:=hB.size;replace c0_3:=ah hb2 c0_3;replace c0_4:=ah hb2 c0_4;replace c0_5:=ah hb2 c0_5;replace c0_6:=ah hb2 c0_6;replace c0_7:=ah hb2 c0_7;have d0_w2:=World.block_lt_of_cell? _ _ c0_3
   rcases Bool.eq_false_or_eq_true (ay u 0 0) with q3 | q3
   ·(try rw[q3])
    have Hq3:=zq q3;clear q3
    go_wp2_with fail
    refine(H1.out _ hB).mono ?_;rintro e w3 ⟨rfl,hb3⟩;replace hB:=(aj hB hb3)
    have zw3:=hB.size;replace c0_5:=ah hb3 c0_5;replace c0_6:=ah hb3 c0_6;replace c0_7:=ah hb3 c0_7;have d0_w3:=World.block_lt_of_cell? _ _ c0_5
    rcases Bool.eq_false_or_eq_true (tv) with q4 | q4
    ·(try rw[q4])
     have Hq4:=zq q4;clear q4
     rcases Bool.eq_false_or_eq_true (n2) with q5 | q5
     ·have Hq5:=zq q5
      clear q5
      go_wp2_with fail
      refine(H4.out _ hB).mono ?_;rintro e w4 ⟨rfl,hb4⟩;rw[Hq5.out];replace hB:=(aj hB hb4)
      have zw4:=hB.size;replace c0_7:=ah hb4 c0_7;have d0_w4:=World.block_lt_of_cell? _ _ c0_7
      rcases Bool.eq_false_or_eq_true (l==0) with q6 | q6
      ·(try rw[q6])
       have nq6:(l != 0)=false:=by simp only[bne,q6];rfl
       go_wp2_with fail
       refine bodyPost_ret (v:=.bool (true)) (by simp[results,Tryz.results64,go_sem,bne]) rfl ?_
       exact⟨au ((ie u l nm m tv n1 n2 cv q1 q2 Hq3.out Hq4.out Hq5.out q6).trans HT.out),hB⟩
      ·(try rw[q6])
       have nq6:(l != 0)=true:=by simp only[bne,q6];rfl
       go_wp2_with fail
       refine bodyPost_ret (v:=.bool (false)) (by simp[results,Tryz.results64,go_sem,bne]) rfl ?_
       exact⟨au ((ig u l nm m tv n1 n2 cv q1 q2 Hq3.out Hq4.out Hq5.out q6).trans HT.out),hB⟩
     ·have Hq5:=zq q5
      clear q5
      go_wp2_with fail
      refine(H4.out _ hB).mono ?_;rintro e w5 ⟨rfl,hb5⟩;rw[Hq5.out];replace hB:=(aj hB hb5)
      have zw5:=hB.size
      go_wp2_with fail
      refine bodyPost_ret (v:=.bool (false)) (by simp[results,Tryz.results64,go_sem,bne]) rfl ?_
      exact⟨au ((ii u l nm m tv n1 n2 cv q1 q2 Hq3.out Hq4.out Hq5.out).trans HT.out),hB⟩
    ·(try rw[q4])
     have Hq4:=zq q4;clear q4
     go_wp2_with fail
     refine bodyPost_ret (v:=.bool (false)) (by simp[results,Tryz.results64,go_sem,bne]) rfl ?_
     exact⟨au ((ij u l nm m tv n1 n2 cv q1 q2 Hq3.out Hq4.out).trans HT.out),hB⟩
   ·(try rw[q3])
    have Hq3:=zq q3;clear q3
    go_wp2_with fail
    refine bodyPost_ret (v:=.bool (false)) (by simp[results,Tryz.results64,go_sem,bne]) rfl ?_
    exact⟨au ((ik u l nm m tv n1 n2 cv q1 q2 Hq3.out).trans HT.out),hB⟩
  ·(try rw[q2])
   have nq2:(nm.toList != [])=true:=by simp only[bne,q2];rfl
   go_wp2_with fail
   refine bodyPost_ret (v:=.bool (false)) (by simp[results,Tryz.results64,go_sem,bne]) rfl ?_
   exact⟨au ((il u l nm m tv n1 n2 cv q1 q2).trans HT.out),hB⟩
 ·(try rw[q1])
  go_wp2_with fail
  refine bodyPost_ret (v:=.bool (false)) (by simp[results,Tryz.results64,go_sem,bne]) rfl ?_
  exact⟨au ((im u l nm m tv n1 n2 cv q1).trans HT.out),hB⟩
theorem on (u tk fk l:Int)(nm:ByteArray)(ta fa c:Option Addr)(tn tq fn fq m q:Nat)(w:World)(tv n1 n2 cv:Bool)(H1:Hid (∀W,Below w.heap.size w W→Calls Tryz.prog 23 #[.agg #[.int .i64 tk,.slice ta tn tq]] W fun e W'=>e = .returned (.bool (tv))∧Below W.heap.size W W'))(H2:Hid (∀W,Below w.heap.size w W→Calls Tryz.prog 96 #[.agg #[.int .i64 tk,.slice ta tn tq]] W fun e W'=>e = .returned (.bool (n1))∧Below W.heap.size W W'))(H4:Hid (∀W,Below w.heap.size w W→Calls Tryz.prog 96 #[.agg #[.int .i64 fk,.slice fa fn fq]] W fun e W'=>e = .returned (.bool (n2))∧Below W.heap.size W W'))(H3:Hid (∀W,Below w.heap.size w W→Calls Tryz.prog 10 #[.agg #[.int .i64 fk,.slice fa fn fq],.agg #[.int .i64 tk,.slice ta tn tq]] W fun e W'=>e = .returned (.bool (cv))∧Below W.heap.size W W')) :
  Calls Tryz.prog 64 #[.agg #[.int .i64 14,.string nm,.int .i64 u,.int .i64 tk,.slice ta tn tq,.int .i64 fk,.slice fa fn fq,.int .i64 l,.slice c m q]] w fun e w'=>e = .returned (.bool (nodeB 14 u l nm m tv n1 n2 cv))∧Below w.heap.size w w':=by
 obtain⟨rr,hrr⟩ : ∃rr0:Bool,(nodeB 14 u l nm m tv n1 n2 cv)=rr0:=⟨_,rfl⟩
 rw[hrr];have HT:=zq hrr;clear hrr
 go_enter Tryz.func64,Tryz.ntmps64
 go_wp2_with fail
 have s0_:(World.alloc w (Obj.cells #[.int .i64 14,.string nm,.int .i64 u,.int .i64 tk,.slice ta tn tq,.int .i64 fk,.slice fa fn fq,.int .i64 l,.slice c m q] 28)).cell? ⟨w.heap.size,0,none⟩=some (.int .i64 14):=ap (by simp) 0;have s1_:(World.alloc w (Obj.cells #[.int .i64 14,.string nm,.int .i64 u,.int .i64 tk,.slice ta tn tq,.int .i64 fk,.slice fa fn fq,.int .i64 l,.slice c m q] 28)).cell? ⟨w.heap.size,8,none⟩=some (.slice c m q):=ap (by simp) 8;have hS0:=zq (show(World.drew (World.alloc w (Obj.cells #[.int .i64 14,.string nm,.int .i64 u,.int .i64 tk,.slice ta tn tq,.int .i64 fk,.slice fa fn fq,.int .i64 l,.slice c m q] 28))).cell? ⟨w.heap.size,0,none⟩=some (.int .i64 14)∧(World.drew (World.alloc w (Obj.cells #[.int .i64 14,.string nm,.int .i64 u,.int .i64 tk,.slice ta tn tq,.int .i64 fk,.slice fa fn fq,.int .i64 l,.slice c m q] 28))).cell? ⟨w.heap.size,8,none⟩=some (.slice c m q) from⟨av (s0_),av (s1_)⟩);have hSb:=zq (show ∀X Y:World,Below X.heap.size X Y→(X.cell? ⟨w.heap.size,0,none⟩=some (.int .i64 14)∧X.cell? ⟨w.heap.size,8,none⟩=some (.slice c m q))→(Y.cell? ⟨w.heap.size,0,none⟩=some (.int .i64 14)∧Y.cell? ⟨w.heap.size,8,none⟩=some (.slice c m q)) from fun X Y h s=>⟨ah h s.1,ah h s.2⟩)
 go_region_held3 (fun w'=>w'.cell? ⟨w.heap.size,0,none⟩=some (.int .i64 14)∧w'.cell? ⟨w.heap.size,8,none⟩=some (.slice c m q))
  (repeat (first | with_reducible refine hSb.out _ _ hb1 ?_ | with_reducible exact hS0.out))
  (first | (go_at_call 93;((with_reducible refine(cW 14 _).mono ?_);rintro e w1 ⟨rfl,hb1⟩)))
 clear s0_ s1_;have hB:=(aj ai.drew hb1)
 have zw1:=hB.size;have c0_0:w1.cell? ⟨w.heap.size,0,none⟩=some (.int .i64 14):=ah hb1 (av (ap (by simp) 0));have c0_1:w1.cell? ⟨w.heap.size,1,none⟩=some (.string nm):=ah hb1 (av (ap (by simp) 1));have c0_2:w1.cell? ⟨w.heap.size,2,none⟩=some (.int .i64 u):=ah hb1 (av (ap (by simp) 2));have c0_3:w1.cell? ⟨w.heap.size,3,none⟩=some (.int .i64 tk):=ah hb1 (av (ap (by simp) 3));have c0_4:w1.cell? ⟨w.heap.size,4,none⟩=some (.slice ta tn tq):=ah hb1 (av (ap (by simp) 4));have c0_5:w1.cell? ⟨w.heap.size,5,none⟩=some (.int .i64 fk):=ah hb1 (av (ap (by simp) 5));have c0_6:w1.cell? ⟨w.heap.size,6,none⟩=some (.slice fa fn fq):=ah hb1 (av (ap (by simp) 6));have c0_7:w1.cell? ⟨w.heap.size,7,none⟩=some (.int .i64 l):=ah hb1 (av (ap (by simp) 7));have d0_w1:=World.block_lt_of_cell? _ _ c0_0
 rcases Bool.eq_false_or_eq_true ((aD 14)==(m:Int)) with q1 | q1
 ·(try rw[q1])
  rcases Bool.eq_false_or_eq_true (nm.toList == []) with q2 | q2
  ·(try rw[q2])
   have nq2:(nm.toList != [])=false:=by simp only[bne,q2];rfl
   go_wp2_with fail
   refine(b7 u 0 0 _).mono ?_;rintro e w2 ⟨rfl,hb2⟩;replace hB:=(aj hB hb2)
   have zw2:=hB.size;replace c0_3:=ah hb2 c0_3;replace c0_4:=ah hb2 c0_4;replace c0_5:=ah hb2 c0_5;replace c0_6:=ah hb2 c0_6;replace c0_7:=ah hb2 c0_7;have d0_w2:=World.block_lt_of_cell? _ _ c0_3
   rcases Bool.eq_false_or_eq_true (ay u 0 0) with q3 | q3
   ·(try rw[q3])
    have Hq3:=zq q3;clear q3
    go_wp2_with fail
    refine(H1.out _ hB).mono ?_;rintro e w3 ⟨rfl,hb3⟩;replace hB:=(aj hB hb3)
    have zw3:=hB.size;replace c0_5:=ah hb3 c0_5;replace c0_6:=ah hb3 c0_6;replace c0_3:=ah hb3 c0_3;replace c0_4:=ah hb3 c0_4;replace c0_7:=ah hb3 c0_7;have d0_w3:=World.block_lt_of_cell? _ _ c0_5
    rcases Bool.eq_false_or_eq_true (tv) with q4 | q4
    ·(try rw[q4])
     have Hq4:=zq q4;clear q4
     rcases Bool.eq_false_or_eq_true (cv) with q5 | q5
     ·have Hq5:=zq q5
      clear q5
      go_wp2_with fail
      refine(H3.out _ hB).mono ?_;rintro e w4 ⟨rfl,hb4⟩;rw[Hq5.out];replace hB:=(aj hB hb4)
      have zw4:=hB.size;replace c0_7:=ah hb4 c0_7;have d0_w4:=World.block_lt_of_cell? _ _ c0_7
      go_wp2_with fail
      refine(tm l _).mono ?_;rintro e w5 ⟨rfl,hb5⟩;replace hB:=(aj hB hb5)
      have zw5:=hB.size
      rcases Bool.eq_false_or_eq_true (ce l) with q6 | q6
      ·(try rw[q6])
       have Hq6:=zq q6;clear q6
       go_wp2_with fail
       refine bodyPost_ret (v:=.bool (true)) (by simp[results,Tryz.results64,go_sem,bne]) rfl ?_
       exact⟨au ((io u l nm m tv n1 n2 cv q1 q2 Hq3.out Hq4.out Hq5.out Hq6.out).trans HT.out),hB⟩
      ·(try rw[q6])
       have Hq6:=zq q6;clear q6
       go_wp2_with fail
       refine bodyPost_ret (v:=.bool (false)) (by simp[results,Tryz.results64,go_sem,bne]) rfl ?_
       exact⟨au ((ip u l nm m tv n1 n2 cv q1 q2 Hq3.out Hq4.out Hq5.out Hq6.out).trans HT.out),hB⟩
     ·have Hq5:=zq q5
      clear q5
      go_wp2_with fail
      refine(H3.out _ hB).mono ?_;rintro e w6 ⟨rfl,hb6⟩;rw[Hq5.out];replace hB:=(aj hB hb6)
      have zw6:=hB.size
      go_wp2_with fail
      refine bodyPost_ret (v:=.bool (false)) (by simp[results,Tryz.results64,go_sem,bne]) rfl ?_
      exact⟨au ((iq u l nm m tv n1 n2 cv q1 q2 Hq3.out Hq4.out Hq5.out).trans HT.out),hB⟩
    ·(try rw[q4])
     have Hq4:=zq q4;clear q4
     go_wp2_with fail
     refine bodyPost_ret (v:=.bool (false)) (by simp[results,Tryz.results64,go_sem,bne]) rfl ?_
     exact⟨au ((gQ u l nm m tv n1 n2 cv q1 q2 Hq3.out Hq4.out).trans HT.out),hB⟩
   ·(try rw[q3])
    have Hq3:=zq q3;clear q3
    go_wp2_with fail
    refine bodyPost_ret (v:=.bool (false)) (by simp[results,Tryz.results64,go_sem,bne]) rfl ?_
    exact⟨au ((gR u l nm m tv n1 n2 cv q1 q2 Hq3.out).trans HT.out),hB⟩
  ·(try rw[q2])
   have nq2:(nm.toList != [])=true:=by simp only[bne,q2];rfl
   go_wp2_with fail
   refine bodyPost_ret (v:=.bool (false)) (by simp[results,Tryz.results64,go_sem,bne]) rfl ?_
   exact⟨au ((gS u l nm m tv n1 n2 cv q1 q2).trans HT.out),hB⟩
 ·(try rw[q1])
  go_wp2_with fail
  refine bodyPost_ret (v:=.bool (false)) (by simp[results,Tryz.results64,go_sem,bne]) rfl ?_
  exact⟨au ((gT u l nm m tv n1 n2 cv q1).trans HT.out),hB⟩
theorem p9 (k u tk fk l:Int)(nm:ByteArray)(ta fa c:Option Addr)(tn tq fn fq m q:Nat)(w:World)(tv n1 n2 cv:Bool)(z0:(k==1)=false)(z1:(k==5)=false)(z2:(k==13)=false)(z3:(k==14)=false)(z4:(k==2)=false)(H1:Hid (∀W,Below w.heap.size w W→Calls Tryz.prog 23 #[.agg #[.int .i64 tk,.slice ta tn tq]] W fun e W'=>e = .returned (.bool (tv))∧Below W.heap.size W W'))(H2:Hid (∀W,Below w.heap.size w W→Calls Tryz.prog 96 #[.agg #[.int .i64 tk,.slice ta tn tq]] W fun e W'=>e = .returned (.bool (n1))∧Below W.heap.size W W'))(H4:Hid (∀W,Below w.heap.size w W→Calls Tryz.prog 96 #[.agg #[.int .i64 fk,.slice fa fn fq]] W fun e W'=>e = .returned (.bool (n2))∧Below W.heap.size W W'))(H3:Hid (∀W,Below w.heap.size w W→Calls Tryz.prog 10 #[.agg #[.int .i64 fk,.slice fa fn fq],.agg #[.int .i64 tk,.slice ta tn tq]] W fun e W'=>e = .returned (.bool (cv))∧Below W.heap.size W W')) :
  Calls Tryz.prog 64 #[.agg #[.int .i64 k,.string nm,.int .i64 u,.int .i64 tk,.slice ta tn tq,.int .i64 fk,.slice fa fn fq,.int .i64 l,.slice c m q]] w fun e w'=>e = .returned (.bool (nodeB k u l nm m tv n1 n2 cv))∧Below w.heap.size w w':=by
 obtain⟨rr,hrr⟩ : ∃rr0:Bool,(nodeB k u l nm m tv n1 n2 cv)=rr0:=⟨_,rfl⟩
 rw[hrr];have HT:=zq hrr;clear hrr;have nz0:(k != 1)=true:=by simp only[bne,z0];rfl
 have nz1:(k != 5)=true:=by simp only[bne,z1];rfl
 have nz2:(k != 13)=true:=by simp only[bne,z2];rfl
 have nz3:(k != 14)=true:=by simp only[bne,z3];rfl
 have nz4:(k != 2)=true:=by simp only[bne,z4];rfl
 go_enter Tryz.func64,Tryz.ntmps64
 go_wp2_with fail
 have s0_:(World.alloc w (Obj.cells #[.int .i64 k,.string nm,.int .i64 u,.int .i64 tk,.slice ta tn tq,.int .i64 fk,.slice fa fn fq,.int .i64 l,.slice c m q] 28)).cell? ⟨w.heap.size,0,none⟩=some (.int .i64 k):=ap (by simp) 0;have s1_:(World.alloc w (Obj.cells #[.int .i64 k,.string nm,.int .i64 u,.int .i64 tk,.slice ta tn tq,.int .i64 fk,.slice fa fn fq,.int .i64 l,.slice c m q] 28)).cell? ⟨w.heap.size,8,none⟩=some (.slice c m q):=ap (by simp) 8;have hS0:=zq (show(World.drew (World.alloc w (Obj.cells #[.int .i64 k,.string nm,.int .i64 u,.int .i64 tk,.slice ta tn tq,.int .i64 fk,.slice fa fn fq,.int .i64 l,.slice c m q] 28))).cell? ⟨w.heap.size,0,none⟩=some (.int .i64 k)∧(World.drew (World.alloc w (Obj.cells #[.int .i64 k,.string nm,.int .i64 u,.int .i64 tk,.slice ta tn tq,.int .i64 fk,.slice fa fn fq,.int .i64 l,.slice c m q] 28))).cell? ⟨w.heap.size,8,none⟩=some (.slice c m q) from⟨av (s0_),av (s1_)⟩);have hSb:=zq (show ∀X Y:World,Below X.heap.size X Y→(X.cell? ⟨w.heap.size,0,none⟩=some (.int .i64 k)∧X.cell? ⟨w.heap.size,8,none⟩=some (.slice c m q))→(Y.cell? ⟨w.heap.size,0,none⟩=some (.int .i64 k)∧Y.cell? ⟨w.heap.size,8,none⟩=some (.slice c m q)) from fun X Y h s=>⟨ah h s.1,ah h s.2⟩)
 go_region_held3 (fun w'=>w'.cell? ⟨w.heap.size,0,none⟩=some (.int .i64 k)∧w'.cell? ⟨w.heap.size,8,none⟩=some (.slice c m q))
  (repeat (first | with_reducible refine hSb.out _ _ hb1 ?_ | with_reducible exact hS0.out))
  (first | (go_at_call 93;((with_reducible refine(cW k _).mono ?_);rintro e w1 ⟨rfl,hb1⟩)))
 clear s0_ s1_;have hB:=(aj ai.drew hb1)
 have zw1:=hB.size;have c0_0:w1.cell? ⟨w.heap.size,0,none⟩=some (.int .i64 k):=ah hb1 (av (ap (by simp) 0));have c0_1:w1.cell? ⟨w.heap.size,1,none⟩=some (.string nm):=ah hb1 (av (ap (by simp) 1));have c0_2:w1.cell? ⟨w.heap.size,2,none⟩=some (.int .i64 u):=ah hb1 (av (ap (by simp) 2));have c0_3:w1.cell? ⟨w.heap.size,3,none⟩=some (.int .i64 tk):=ah hb1 (av (ap (by simp) 3));have c0_4:w1.cell? ⟨w.heap.size,4,none⟩=some (.slice ta tn tq):=ah hb1 (av (ap (by simp) 4));have c0_5:w1.cell? ⟨w.heap.size,5,none⟩=some (.int .i64 fk):=ah hb1 (av (ap (by simp) 5));have c0_6:w1.cell? ⟨w.heap.size,6,none⟩=some (.slice fa fn fq):=ah hb1 (av (ap (by simp) 6));have c0_7:w1.cell? ⟨w.heap.size,7,none⟩=some (.int .i64 l):=ah hb1 (av (ap (by simp) 7));have d0_w1:=World.block_lt_of_cell? _ _ c0_0
 rcases Bool.eq_false_or_eq_true ((aD k)==(m:Int)) with q1 | q1
 ·(try rw[q1])
  rcases Bool.eq_false_or_eq_true (nm.toList == []) with q2 | q2
  ·(try rw[q2])
   have nq2:(nm.toList != [])=false:=by simp only[bne,q2];rfl
   go_wp2_with fail
   refine(b7 u 0 0 _).mono ?_;rintro e w2 ⟨rfl,hb2⟩;replace hB:=(aj hB hb2)
   have zw2:=hB.size;replace c0_3:=ah hb2 c0_3;replace c0_4:=ah hb2 c0_4;replace c0_5:=ah hb2 c0_5;replace c0_6:=ah hb2 c0_6;replace c0_7:=ah hb2 c0_7;have d0_w2:=World.block_lt_of_cell? _ _ c0_3
   rcases Bool.eq_false_or_eq_true (ay u 0 0) with q3 | q3
   ·(try rw[q3])
    have Hq3:=zq q3;clear q3
    go_wp2_with fail
    refine(H2.out _ hB).mono ?_;rintro e w3 ⟨rfl,hb3⟩;replace hB:=(aj hB hb3)
    have zw3:=hB.size;replace c0_5:=ah hb3 c0_5;replace c0_6:=ah hb3 c0_6;replace c0_7:=ah hb3 c0_7;have d0_w3:=World.block_lt_of_cell? _ _ c0_5
    rcases Bool.eq_false_or_eq_true (n1) with q4 | q4
    ·(try rw[q4])
     have Hq4:=zq q4;clear q4
     rcases Bool.eq_false_or_eq_true (n2) with q5 | q5
     ·have Hq5:=zq q5
      clear q5
      go_wp2_with fail
      refine(H4.out _ hB).mono ?_;rintro e w4 ⟨rfl,hb4⟩;rw[Hq5.out];replace hB:=(aj hB hb4)
      have zw4:=hB.size;replace c0_7:=ah hb4 c0_7;have d0_w4:=World.block_lt_of_cell? _ _ c0_7
      rcases Bool.eq_false_or_eq_true (l==0) with q6 | q6
      ·(try rw[q6])
       have nq6:(l != 0)=false:=by simp only[bne,q6];rfl
       go_wp2_with fail
       refine bodyPost_ret (v:=.bool (true)) (by simp[results,Tryz.results64,go_sem,bne]) rfl ?_
       exact⟨au ((iD k u l nm m tv n1 n2 cv z0 z1 z2 z3 z4 q1 q2 Hq3.out Hq4.out Hq5.out q6).trans HT.out),hB⟩
      ·(try rw[q6])
       have nq6:(l != 0)=true:=by simp only[bne,q6];rfl
       go_wp2_with fail
       refine bodyPost_ret (v:=.bool (false)) (by simp[results,Tryz.results64,go_sem,bne]) rfl ?_
       exact⟨au ((iE k u l nm m tv n1 n2 cv z0 z1 z2 z3 z4 q1 q2 Hq3.out Hq4.out Hq5.out q6).trans HT.out),hB⟩
     ·have Hq5:=zq q5
      clear q5
      go_wp2_with fail
      refine(H4.out _ hB).mono ?_;rintro e w5 ⟨rfl,hb5⟩;rw[Hq5.out];replace hB:=(aj hB hb5)
      have zw5:=hB.size
      go_wp2_with fail
      refine bodyPost_ret (v:=.bool (false)) (by simp[results,Tryz.results64,go_sem,bne]) rfl ?_
      exact⟨au ((iF k u l nm m tv n1 n2 cv z0 z1 z2 z3 z4 q1 q2 Hq3.out Hq4.out Hq5.out).trans HT.out),hB⟩
    ·(try rw[q4])
     have Hq4:=zq q4;clear q4
     go_wp2_with fail
     refine bodyPost_ret (v:=.bool (false)) (by simp[results,Tryz.results64,go_sem,bne]) rfl ?_
     exact⟨au ((iG k u l nm m tv n1 n2 cv z0 z1 z2 z3 z4 q1 q2 Hq3.out Hq4.out).trans HT.out),hB⟩
   ·(try rw[q3])
    have Hq3:=zq q3;clear q3
    go_wp2_with fail
    refine bodyPost_ret (v:=.bool (false)) (by simp[results,Tryz.results64,go_sem,bne]) rfl ?_
    exact⟨au ((iH k u l nm m tv n1 n2 cv z0 z1 z2 z3 z4 q1 q2 Hq3.out).trans HT.out),hB⟩
  ·(try rw[q2])
   have nq2:(nm.toList != [])=true:=by simp only[bne,q2];rfl
   go_wp2_with fail
   refine bodyPost_ret (v:=.bool (false)) (by simp[results,Tryz.results64,go_sem,bne]) rfl ?_
   exact⟨au ((iI k u l nm m tv n1 n2 cv z0 z1 z2 z3 z4 q1 q2).trans HT.out),hB⟩
 ·(try rw[q1])
  go_wp2_with fail
  refine bodyPost_ret (v:=.bool (false)) (by simp[results,Tryz.results64,go_sem,bne]) rfl ?_
  exact⟨au ((iJ k u l nm m tv n1 n2 cv z0 z1 z2 z3 z4 q1).trans HT.out),hB⟩
end Go.Proofs.YtfahhonmiimmdaaGreat

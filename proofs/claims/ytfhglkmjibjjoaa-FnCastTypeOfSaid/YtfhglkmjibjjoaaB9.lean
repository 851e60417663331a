/- The check of a node of a term: kinds 1, 2, 5. And what else its parts name. -/
import Derived.Test.YtfhglkmjibjjoaaB7
set_option linter.unusedSimpArgs false
set_option linter.unusedVariables false
set_option maxRecDepth 100000
set_option maxHeartbeats 16000000
namespace Go.Proofs.Ytfhglkmjibjjoaa
open Go.RowKit
theorem gb (u l:Int)(nm:ByteArray)(m:Nat)(tv n1 n2 cv:Bool)(h0:((aD 1)==(m:Int))=true)(h1:(aI nm)=true)(h2:(aC u 0 0)=true)(h3:(n1)=true)(h4:(n2)=true)(h5:(l==0)=true):(true:Bool)=(nodeB 1 u l nm m tv n1 n2 cv):=by
 first | (simp_all [nodeB,ownB];done) | grind [nodeB,ownB,aC]
theorem gc (u l:Int)(nm:ByteArray)(m:Nat)(tv n1 n2 cv:Bool)(h0:((aD 1)==(m:Int))=true)(h1:(aI nm)=true)(h2:(aC u 0 0)=true)(h3:(n1)=true)(h4:(n2)=true)(h5:(l==0)=false):(false:Bool)=(nodeB 1 u l nm m tv n1 n2 cv):=by
 first | (simp_all [nodeB,ownB];done) | grind [nodeB,ownB,aC]
theorem gd (u l:Int)(nm:ByteArray)(m:Nat)(tv n1 n2 cv:Bool)(h0:((aD 1)==(m:Int))=true)(h1:(aI nm)=true)(h2:(aC u 0 0)=true)(h3:(n1)=true)(h4:(n2)=false):(false:Bool)=(nodeB 1 u l nm m tv n1 n2 cv):=by
 first | (simp_all [nodeB,ownB];done) | grind [nodeB,ownB,aC]
theorem ge (u l:Int)(nm:ByteArray)(m:Nat)(tv n1 n2 cv:Bool)(h0:((aD 1)==(m:Int))=true)(h1:(aI nm)=true)(h2:(aC u 0 0)=true)(h3:(n1)=false):(false:Bool)=(nodeB 1 u l nm m tv n1 n2 cv):=by
 first | (simp_all [nodeB,ownB];done) | grind [nodeB,ownB,aC]
theorem gf (u l:Int)(nm:ByteArray)(m:Nat)(tv n1 n2 cv:Bool)(h0:((aD 1)==(m:Int))=true)(h1:(aI nm)=true)(h2:(aC u 0 0)=false):(false:Bool)=(nodeB 1 u l nm m tv n1 n2 cv):=by
 first | (simp_all [nodeB,ownB];done) | grind [nodeB,ownB,aC]
theorem gh (u l:Int)(nm:ByteArray)(m:Nat)(tv n1 n2 cv:Bool)(h0:((aD 1)==(m:Int))=true)(h1:(aI nm)=false):(false:Bool)=(nodeB 1 u l nm m tv n1 n2 cv):=by
 first | (simp_all [nodeB,ownB];done) | grind [nodeB,ownB,aC]
theorem gi (u l:Int)(nm:ByteArray)(m:Nat)(tv n1 n2 cv:Bool)(h0:((aD 1)==(m:Int))=false):(false:Bool)=(nodeB 1 u l nm m tv n1 n2 cv):=by
 first | (simp_all [nodeB,ownB];done) | grind [nodeB,ownB,aC]
theorem gj (u l:Int)(nm:ByteArray)(m:Nat)(tv n1 n2 cv:Bool)(h0:((aD 2)==(m:Int))=true)(h1:(nm.toList == [])=true)(h2:(aC u 0 999)=true)(h3:(n1)=true)(h4:(n2)=true)(h5:(l==0)=true):(true:Bool)=(nodeB 2 u l nm m tv n1 n2 cv):=by
 first | (simp_all [nodeB,ownB];done) | grind [nodeB,ownB,aC]
theorem gk (u l:Int)(nm:ByteArray)(m:Nat)(tv n1 n2 cv:Bool)(h0:((aD 2)==(m:Int))=true)(h1:(nm.toList == [])=true)(h2:(aC u 0 999)=true)(h3:(n1)=true)(h4:(n2)=true)(h5:(l==0)=false):(false:Bool)=(nodeB 2 u l nm m tv n1 n2 cv):=by
 first | (simp_all [nodeB,ownB];done) | grind [nodeB,ownB,aC]
theorem gl (u l:Int)(nm:ByteArray)(m:Nat)(tv n1 n2 cv:Bool)(h0:((aD 2)==(m:Int))=true)(h1:(nm.toList == [])=true)(h2:(aC u 0 999)=true)(h3:(n1)=true)(h4:(n2)=false):(false:Bool)=(nodeB 2 u l nm m tv n1 n2 cv):=by
 first | (simp_all [nodeB,ownB];done) | grind [nodeB,ownB,aC]
theorem eU (u l:Int)(nm:ByteArray)(m:Nat)(tv n1 n2 cv:Bool)(h0:((aD 2)==(m:Int))=true)(h1:(nm.toList == [])=true)(h2:(aC u 0 999)=true)(h3:(n1)=false):(false:Bool)=(nodeB 2 u l nm m tv n1 n2 cv):=by
 first | (simp_all [nodeB,ownB];done) | grind [nodeB,ownB,aC]
theorem eV (u l:Int)(nm:ByteArray)(m:Nat)(tv n1 n2 cv:Bool)(h0:((aD 2)==(m:Int))=true)(h1:(nm.toList == [])=true)(h2:(aC u 0 999)=false):(false:Bool)=(nodeB 2 u l nm m tv n1 n2 cv):=by
 first | (simp_all [nodeB,ownB];done) | grind [nodeB,ownB,aC]
theorem eW (u l:Int)(nm:ByteArray)(m:Nat)(tv n1 n2 cv:Bool)(h0:((aD 2)==(m:Int))=true)(h1:(nm.toList == [])=false):(false:Bool)=(nodeB 2 u l nm m tv n1 n2 cv):=by
 first | (simp_all [nodeB,ownB];done) | grind [nodeB,ownB,aC]
theorem eX (u l:Int)(nm:ByteArray)(m:Nat)(tv n1 n2 cv:Bool)(h0:((aD 2)==(m:Int))=false):(false:Bool)=(nodeB 2 u l nm m tv n1 n2 cv):=by
 first | (simp_all [nodeB,ownB];done) | grind [nodeB,ownB,aC]
theorem eY (u l:Int)(nm:ByteArray)(m:Nat)(tv n1 n2 cv:Bool)(h0:((aD 5)==(m:Int))=true)(h1:(aI nm)=true)(h2:(aC u 0 0)=true)(h3:(tv)=true)(h4:(n2)=true)(h5:(l==0)=true):(true:Bool)=(nodeB 5 u l nm m tv n1 n2 cv):=by
 first | (simp_all [nodeB,ownB];done) | grind [nodeB,ownB,aC]
theorem eZ (u l:Int)(nm:ByteArray)(m:Nat)(tv n1 n2 cv:Bool)(h0:((aD 5)==(m:Int))=true)(h1:(aI nm)=true)(h2:(aC u 0 0)=true)(h3:(tv)=true)(h4:(n2)=true)(h5:(l==0)=false):(false:Bool)=(nodeB 5 u l nm m tv n1 n2 cv):=by
 first | (simp_all [nodeB,ownB];done) | grind [nodeB,ownB,aC]
theorem f9 (u l:Int)(nm:ByteArray)(m:Nat)(tv n1 n2 cv:Bool)(h0:((aD 5)==(m:Int))=true)(h1:(aI nm)=true)(h2:(aC u 0 0)=true)(h3:(tv)=true)(h4:(n2)=false):(false:Bool)=(nodeB 5 u l nm m tv n1 n2 cv):=by
 first | (simp_all [nodeB,ownB];done) | grind [nodeB,ownB,aC]
theorem fb (u l:Int)(nm:ByteArray)(m:Nat)(tv n1 n2 cv:Bool)(h0:((aD 5)==(m:Int))=true)(h1:(aI nm)=true)(h2:(aC u 0 0)=true)(h3:(tv)=false):(false:Bool)=(nodeB 5 u l nm m tv n1 n2 cv):=by
 first | (simp_all [nodeB,ownB];done) | grind [nodeB,ownB,aC]
theorem fc (u l:Int)(nm:ByteArray)(m:Nat)(tv n1 n2 cv:Bool)(h0:((aD 5)==(m:Int))=true)(h1:(aI nm)=true)(h2:(aC u 0 0)=false):(false:Bool)=(nodeB 5 u l nm m tv n1 n2 cv):=by
 first | (simp_all [nodeB,ownB];done) | grind [nodeB,ownB,aC]
theorem fd (u l:Int)(nm:ByteArray)(m:Nat)(tv n1 n2 cv:Bool)(h0:((aD 5)==(m:Int))=true)(h1:(aI nm)=false):(false:Bool)=(nodeB 5 u l nm m tv n1 n2 cv):=by
 first | (simp_all [nodeB,ownB];done) | grind [nodeB,ownB,aC]
theorem fe (u l:Int)(nm:ByteArray)(m:Nat)(tv n1 n2 cv:Bool)(h0:((aD 5)==(m:Int))=false):(false:Bool)=(nodeB 5 u l nm m tv n1 n2 cv):=by
 first | (simp_all [nodeB,ownB];done) | grind [nodeB,ownB,aC]
theorem lg (u tk fk l:Int)(nm:ByteArray)(ta fa c:Option Addr)(tn tq fn fq m q:Nat)(w:World)(tv n1 n2 cv:Bool)(H1:Hid (∀W,Below w.heap.size w W->Calls Try.prog 20 #[.agg #[.int .i64 tk,.slice ta tn tq]] W fun e W'=>e = .returned (.bool (tv))∧Below W.heap.size W W'))(H2:Hid (∀W,Below w.heap.size w W->Calls Try.prog 66 #[.agg #[.int .i64 tk,.slice ta tn tq]] W fun e W'=>e = .returned (.bool (n1))∧Below W.heap.size W W'))(H4:Hid (∀W,Below w.heap.size w W->Calls Try.prog 66 #[.agg #[.int .i64 fk,.slice fa fn fq]] W fun e W'=>e = .returned (.bool (n2))∧Below W.heap.size W W'))(H3:Hid (∀W,Below w.heap.size w W->Calls Try.prog 10 #[.agg #[.int .i64 fk,.slice fa fn fq],.agg #[.int .i64 tk,.slice ta tn tq]] W fun e W'=>e = .returned (.bool (cv))∧Below W.heap.size W W')) :
  Calls Try.prog 35 #[.agg (nv 1 nm u tk ta tn tq fk fa fn fq l c m q)] w fun e w'=>e = .returned (.bool (nodeB 1 u l nm m tv n1 n2 cv))∧Below w.heap.size w w':=by
 obtain⟨rr,hrr⟩ : ∃rr0:Bool,(nodeB 1 u l nm m tv n1 n2 cv)=rr0:=⟨_,rfl⟩
 rw[hrr];have HT:=zq hrr;clear hrr
 go_enter Try.func35,Try.ntmps35
 go_wp2_with fail
 have s0_:(World.alloc w (Obj.cells (nv 1 nm u tk ta tn tq fk fa fn fq l c m q) 28)).cell? ⟨w.heap.size,0,none⟩=some (.int .i64 1):=ao (by simp) 0;have s1_:(World.alloc w (Obj.cells (nv 1 nm u tk ta tn tq fk fa fn fq l c m q) 28)).cell? ⟨w.heap.size,8,none⟩=some (.slice c m q):=ao (by simp) 8;have hS0:=zq (show(World.drew (World.alloc w (Obj.cells (nv 1 nm u tk ta tn tq fk fa fn fq l c m q) 28))).cell? ⟨w.heap.size,0,none⟩=some (.int .i64 1)∧(World.drew (World.alloc w (Obj.cells (nv 1 nm u tk ta tn tq fk fa fn fq l c m q) 28))).cell? ⟨w.heap.size,8,none⟩=some (.slice c m q) from⟨ap (s0_),ap (s1_)⟩);have hSb:=zq (show ∀X Y:World,Below X.heap.size X Y->(X.cell? ⟨w.heap.size,0,none⟩=some (.int .i64 1)∧X.cell? ⟨w.heap.size,8,none⟩=some (.slice c m q))->(Y.cell? ⟨w.heap.size,0,none⟩=some (.int .i64 1)∧Y.cell? ⟨w.heap.size,8,none⟩=some (.slice c m q)) from fun X Y h s=>⟨af h s.1,af h s.2⟩)
 go_region_held3 (fun w'=>w'.cell? ⟨w.heap.size,0,none⟩=some (.int .i64 1)∧w'.cell? ⟨w.heap.size,8,none⟩=some (.slice c m q))
  (repeat (first | with_reducible refine hSb.out _ _ hb1 ?_ | with_reducible exact hS0.out))
  (first | (go_at_call 63;((with_reducible refine(cU 1 _).mono ?_);rintro e w1 ⟨rfl,hb1⟩)))
 clear s0_ s1_;have hB:=(al ag.drew hb1)
 have zw1:=hB.size;have c0_0:w1.cell? ⟨w.heap.size,0,none⟩=some (.int .i64 1):=af hb1 (ap (ao (by simp) 0));have c0_1:w1.cell? ⟨w.heap.size,1,none⟩=some (.string nm):=af hb1 (ap (ao (by simp) 1));have c0_2:w1.cell? ⟨w.heap.size,2,none⟩=some (.int .i64 u):=af hb1 (ap (ao (by simp) 2));have c0_3:w1.cell? ⟨w.heap.size,3,none⟩=some (.int .i64 tk):=af hb1 (ap (ao (by simp) 3));have c0_4:w1.cell? ⟨w.heap.size,4,none⟩=some (.slice ta tn tq):=af hb1 (ap (ao (by simp) 4));have c0_5:w1.cell? ⟨w.heap.size,5,none⟩=some (.int .i64 fk):=af hb1 (ap (ao (by simp) 5));have c0_6:w1.cell? ⟨w.heap.size,6,none⟩=some (.slice fa fn fq):=af hb1 (ap (ao (by simp) 6));have c0_7:w1.cell? ⟨w.heap.size,7,none⟩=some (.int .i64 l):=af hb1 (ap (ao (by simp) 7));have d0_w1:=World.block_lt_of_cell? _ _ c0_0
 rcases Bool.eq_false_or_eq_true ((aD 1)==(m:Int)) with q1 | q1
 ·(try rw[q1])
  go_wp2_with fail
  refine(ie nm _).mono ?_;rintro e w2 ⟨rfl,hb2⟩;replace hB:=(al hB hb2)
  have zw2:=hB.size;replace c0_2:=af hb2 c0_2;replace c0_3:=af hb2 c0_3;replace c0_4:=af hb2 c0_4;replace c0_5:=af hb2 c0_5;replace c0_6:=af hb2 c0_6;replace c0_7:=af hb2 c0_7;have d0_w2:=World.block_lt_of_cell? _ _ c0_2
  rcases Bool.eq_false_or_eq_true (aI nm) with q2 | q2
  ·(try rw[q2])
   have Hq2:=zq q2;clear q2
   go_wp2_with fail
   refine(bo u 0 0 _).mono ?_;rintro e w3 ⟨rfl,hb3⟩;replace hB:=(al hB hb3)
   have zw3:=hB.size;replace c0_3:=af hb3 c0_3;replace c0_4:=af hb3 c0_4;replace c0_5:=af hb3 c0_5;replace c0_6:=af hb3 c0_6;replace c0_7:=af hb3 c0_7;have d0_w3:=World.block_lt_of_cell? _ _ c0_3
   rcases Bool.eq_false_or_eq_true (aC u 0 0) with q3 | q3
   ·(try rw[q3])
    have Hq3:=zq q3;clear q3
    go_wp2_with fail
    refine(H2.out _ hB).mono ?_;rintro e w4 ⟨rfl,hb4⟩;replace hB:=(al hB hb4)
    have zw4:=hB.size;replace c0_5:=af hb4 c0_5;replace c0_6:=af hb4 c0_6;replace c0_7:=af hb4 c0_7;have d0_w4:=World.block_lt_of_cell? _ _ c0_5
    rcases Bool.eq_false_or_eq_true (n1) with q4 | q4
    ·(try rw[q4])
     have Hq4:=zq q4;clear q4
     rcases Bool.eq_false_or_eq_true (n2) with q5 | q5
     ·have Hq5:=zq q5
      clear q5
      go_wp2_with fail
      refine(H4.out _ hB).mono ?_;rintro e w5 ⟨rfl,hb5⟩;rw[Hq5.out];replace hB:=(al hB hb5)
      have zw5:=hB.size;replace c0_7:=af hb5 c0_7;have d0_w5:=World.block_lt_of_cell? _ _ c0_7
      rcases Bool.eq_false_or_eq_true (l==0) with q6 | q6
      ·(try rw[q6])
       have nq6:(l != 0)=false:=by simp only[bne,q6];rfl
       go_wp2_with fail
       refine bq (.bool (true)) (by simp[results,Try.results35,go_sem,bne]) ?_
       exact⟨au ((gb u l nm m tv n1 n2 cv q1 Hq2.out Hq3.out Hq4.out Hq5.out q6).trans HT.out),hB⟩
      ·(try rw[q6])
       have nq6:(l != 0)=true:=by simp only[bne,q6];rfl
       go_wp2_with fail
       refine bq (.bool (false)) (by simp[results,Try.results35,go_sem,bne]) ?_
       exact⟨au ((gc u l nm m tv n1 n2 cv q1 Hq2.out Hq3.out Hq4.out Hq5.out q6).trans HT.out),hB⟩
     ·have Hq5:=zq q5
      clear q5
      go_wp2_with fail
      refine(H4.out _ hB).mono ?_;rintro e w6 ⟨rfl,hb6⟩;rw[Hq5.out];replace hB:=(al hB hb6)
      have zw6:=hB.size
      go_wp2_with fail
      refine bq (.bool (false)) (by simp[results,Try.results35,go_sem,bne]) ?_
      exact⟨au ((gd u l nm m tv n1 n2 cv q1 Hq2.out Hq3.out Hq4.out Hq5.out).trans HT.out),hB⟩
    ·(try rw[q4])
     have Hq4:=zq q4;clear q4
     go_wp2_with fail
     refine bq (.bool (false)) (by simp[results,Try.results35,go_sem,bne]) ?_
     exact⟨au ((ge u l nm m tv n1 n2 cv q1 Hq2.out Hq3.out Hq4.out).trans HT.out),hB⟩
   ·(try rw[q3])
    have Hq3:=zq q3;clear q3
    go_wp2_with fail
    refine bq (.bool (false)) (by simp[results,Try.results35,go_sem,bne]) ?_
    exact⟨au ((gf u l nm m tv n1 n2 cv q1 Hq2.out Hq3.out).trans HT.out),hB⟩
  ·(try rw[q2])
   have Hq2:=zq q2;clear q2
   go_wp2_with fail
   refine bq (.bool (false)) (by simp[results,Try.results35,go_sem,bne]) ?_
   exact⟨au ((gh u l nm m tv n1 n2 cv q1 Hq2.out).trans HT.out),hB⟩
 ·(try rw[q1])
  go_wp2_with fail
  refine bq (.bool (false)) (by simp[results,Try.results35,go_sem,bne]) ?_
  exact⟨au ((gi u l nm m tv n1 n2 cv q1).trans HT.out),hB⟩
theorem lh (u tk fk l:Int)(nm:ByteArray)(ta fa c:Option Addr)(tn tq fn fq m q:Nat)(w:World)(tv n1 n2 cv:Bool)(H1:Hid (∀W,Below w.heap.size w W->Calls Try.prog 20 #[.agg #[.int .i64 tk,.slice ta tn tq]] W fun e W'=>e = .returned (.bool (tv))∧Below W.heap.size W W'))(H2:Hid (∀W,Below w.heap.size w W->Calls Try.prog 66 #[.agg #[.int .i64 tk,.slice ta tn tq]] W fun e W'=>e = .returned (.bool (n1))∧Below W.heap.size W W'))(H4:Hid (∀W,Below w.heap.size w W->Calls Try.prog 66 #[.agg #[.int .i64 fk,.slice fa fn fq]] W fun e W'=>e = .returned (.bool (n2))∧Below W.heap.size W W'))(H3:Hid (∀W,Below w.heap.size w W->Calls Try.prog 10 #[.agg #[.int .i64 fk,.slice fa fn fq],.agg #[.int .i64 tk,.slice ta tn tq]] W fun e W'=>e = .returned (.bool (cv))∧Below W.heap.size W W')) :
  Calls Try.prog 35 #[.agg (nv 2 nm u tk ta tn tq fk fa fn fq l c m q)] w fun e w'=>e = .returned (.bool (nodeB 2 u l nm m tv n1 n2 cv))∧Below w.heap.size w w':=by
 obtain⟨rr,hrr⟩ : ∃rr0:Bool,(nodeB 2 u l nm m tv n1 n2 cv)=rr0:=⟨_,rfl⟩
 rw[hrr];have HT:=zq hrr;clear hrr
 go_enter Try.func35,Try.ntmps35
 go_wp2_with fail
 have s0_:(World.alloc w (Obj.cells (nv 2 nm u tk ta tn tq fk fa fn fq l c m q) 28)).cell? ⟨w.heap.size,0,none⟩=some (.int .i64 2):=ao (by simp) 0;have s1_:(World.alloc w (Obj.cells (nv 2 nm u tk ta tn tq fk fa fn fq l c m q) 28)).cell? ⟨w.heap.size,8,none⟩=some (.slice c m q):=ao (by simp) 8;have hS0:=zq (show(World.drew (World.alloc w (Obj.cells (nv 2 nm u tk ta tn tq fk fa fn fq l c m q) 28))).cell? ⟨w.heap.size,0,none⟩=some (.int .i64 2)∧(World.drew (World.alloc w (Obj.cells (nv 2 nm u tk ta tn tq fk fa fn fq l c m q) 28))).cell? ⟨w.heap.size,8,none⟩=some (.slice c m q) from⟨ap (s0_),ap (s1_)⟩);have hSb:=zq (show ∀X Y:World,Below X.heap.size X Y->(X.cell? ⟨w.heap.size,0,none⟩=some (.int .i64 2)∧X.cell? ⟨w.heap.size,8,none⟩=some (.slice c m q))->(Y.cell? ⟨w.heap.size,0,none⟩=some (.int .i64 2)∧Y.cell? ⟨w.heap.size,8,none⟩=some (.slice c m q)) from fun X Y h s=>⟨af h s.1,af h s.2⟩)
 go_region_held3 (fun w'=>w'.cell? ⟨w.heap.size,0,none⟩=some (.int .i64 2)∧w'.cell? ⟨w.heap.size,8,none⟩=some (.slice c m q))
  (repeat (first | with_reducible refine hSb.out _ _ hb1 ?_ | with_reducible exact hS0.out))
  (first | (go_at_call 63;((with_reducible refine(cU 2 _).mono ?_);rintro e w1 ⟨rfl,hb1⟩)))
 clear s0_ s1_;have hB:=(al ag.drew hb1)
 have zw1:=hB.size;have c0_0:w1.cell? ⟨w.heap.size,0,none⟩=some (.int .i64 2):=af hb1 (ap (ao (by simp) 0));have c0_1:w1.cell? ⟨w.heap.size,1,none⟩=some (.string nm):=af hb1 (ap (ao (by simp) 1));have c0_2:w1.cell? ⟨w.heap.size,2,none⟩=some (.int .i64 u):=af hb1 (ap (ao (by simp) 2));have c0_3:w1.cell? ⟨w.heap.size,3,none⟩=some (.int .i64 tk):=af hb1 (ap (ao (by simp) 3));have c0_4:w1.cell? ⟨w.heap.size,4,none⟩=some (.slice ta tn tq):=af hb1 (ap (ao (by simp) 4));have c0_5:w1.cell? ⟨w.heap.size,5,none⟩=some (.int .i64 fk):=af hb1 (ap (ao (by simp) 5));have c0_6:w1.cell? ⟨w.heap.size,6,none⟩=some (.slice fa fn fq):=af hb1 (ap (ao (by simp) 6));have c0_7:w1.cell? ⟨w.heap.size,7,none⟩=some (.int .i64 l):=af hb1 (ap (ao (by simp) 7));have d0_w1:=World.block_lt_of_cell? _ _ c0_0
 rcases Bool.eq_false_or_eq_true ((aD 2)==(m:Int)) with q1 | q1
 ·(try rw[q1])
  rcases Bool.eq_false_or_eq_true (nm.toList == []) with q2 | q2
  ·(try rw[q2])
   have nq2:(nm.toList != [])=false:=by simp only[bne,q2];rfl
   go_wp2_with fail
   refine(bo u 0 999 _).mono ?_;rintro e w2 ⟨rfl,hb2⟩;replace hB:=(al hB hb2)
   have zw2:=hB.size;replace c0_3:=af hb2 c0_3;replace c0_4:=af hb2 c0_4;replace c0_5:=af hb2 c0_5;replace c0_6:=af hb2 c0_6;replace c0_7:=af hb2 c0_7;have d0_w2:=World.block_lt_of_cell? _ _ c0_3
   rcases Bool.eq_false_or_eq_true (aC u 0 999) with q3 | q3
   ·(try rw[q3])
    have Hq3:=zq q3;clear q3
    go_wp2_with fail
    refine(H2.out _ hB).mono ?_;rintro e w3 ⟨rfl,hb3⟩;replace hB:=(al hB hb3)
    have zw3:=hB.size;replace c0_5:=af hb3 c0_5;replace c0_6:=af hb3 c0_6;replace c0_7:=af hb3 c0_7;have d0_w3:=World.block_lt_of_cell? _ _ c0_5
    rcases Bool.eq_false_or_eq_true (n1) with q4 | q4
    ·(try rw[q4])
     have Hq4:=zq q4;clear q4
     rcases Bool.eq_false_or_eq_true (n2) with q5 | q5
     ·have Hq5:=zq q5
      clear q5
      go_wp2_with fail
      refine(H4.out _ hB).mono ?_;rintro e w4 ⟨rfl,hb4⟩;rw[Hq5.out];replace hB:=(al hB hb4)
      have zw4:=hB.size;replace c0_7:=af hb4 c0_7;have d0_w4:=World.block_lt_of_cell? _ _ c0_7
      rcases Bool.eq_false_or_eq_true (l==0) with q6 | q6
      ·(try rw[q6])
       have nq6:(l != 0)=false:=by simp only[bne,q6];rfl
       go_wp2_with fail
       refine bq (.bool (true)) (by simp[results,Try.results35,go_sem,bne]) ?_
       exact⟨au ((gj u l nm m tv n1 n2 cv q1 q2 Hq3.out Hq4.out Hq5.out q6).trans HT.out),hB⟩
      ·(try rw[q6])
       have nq6:(l != 0)=true:=by simp only[bne,q6];rfl
       go_wp2_with fail
       refine bq (.bool (false)) (by simp[results,Try.results35,go_sem,bne]) ?_
       exact⟨au ((gk u l nm m tv n1 n2 cv q1 q2 Hq3.out Hq4.out Hq5.out q6).trans HT.out),hB⟩
     ·have Hq5:=zq q5
      clear q5
      go_wp2_with fail
      refine(H4.out _ hB).mono ?_;rintro e w5 ⟨rfl,hb5⟩;rw[Hq5.out];replace hB:=(al hB hb5)
      have zw5:=hB.size
      go_wp2_with fail
      refine bq (.bool (false)) (by simp[results,Try.results35,go_sem,bne]) ?_
      exact⟨au ((gl u l nm m tv n1 n2 cv q1 q2 Hq3.out Hq4.out Hq5.out).trans HT.out),hB⟩
    ·(try rw[q4])
     have Hq4:=zq q4;clear q4
     go_wp2_with fail
     refine bq (.bool (false)) (by simp[results,Try.results35,go_sem,bne]) ?_
     exact⟨au ((eU u l nm m tv n1 n2 cv q1 q2 Hq3.out Hq4.out).trans HT.out),hB⟩
   ·(try rw[q3])
    have Hq3:=zq q3;clear q3
    go_wp2_with fail
    refine bq (.bool (false)) (by simp[results,Try.results35,go_sem,bne]) ?_
    exact⟨au ((eV u l nm m tv n1 n2 cv q1 q2 Hq3.out).trans HT.out),hB⟩
  ·(try rw[q2])
   have nq2:(nm.toList != [])=true:=by simp only[bne,q2];rfl
   go_wp2_with fail
   refine bq (.bool (false)) (by simp[results,Try.results35,go_sem,bne]) ?_
   exact⟨au ((eW u l nm m tv n1 n2 cv q1 q2).trans HT.out),hB⟩
 ·(try rw[q1])
  go_wp2_with fail
  refine bq (.bool (false)) (by simp[results,Try.results35,go_sem,bne]) ?_
  exact⟨au ((eX u l nm m tv n1 n2 cv q1).trans HT.out),hB⟩
theorem li (u tk fk l:Int)(nm:ByteArray)(ta fa c:Option Addr)(tn tq fn fq m q:Nat)(w:World)(tv n1 n2 cv:Bool)(H1:Hid (∀W,Below w.heap.size w W->Calls Try.prog 20 #[.agg #[.int .i64 tk,.slice ta tn tq]] W fun e W'=>e = .returned (.bool (tv))∧Below W.heap.size W W'))(H2:Hid (∀W,Below w.heap.size w W->Calls Try.prog 66 #[.agg #[.int .i64 tk,.slice ta tn tq]] W fun e W'=>e = .returned (.bool (n1))∧Below W.heap.size W W'))(H4:Hid (∀W,Below w.heap.size w W->Calls Try.prog 66 #[.agg #[.int .i64 fk,.slice fa fn fq]] W fun e W'=>e = .returned (.bool (n2))∧Below W.heap.size W W'))(H3:Hid (∀W,Below w.heap.size w W->Calls Try.prog 10 #[.agg #[.int .i64 fk,.slice fa fn fq],.agg #[.int .i64 tk,.slice ta tn tq]] W fun e W'=>e = .returned (.bool (cv))∧Below W.heap.size W W')) :
  Calls Try.prog 35 #[.agg (nv 5 nm u tk ta tn tq fk fa fn fq l c m q)] w fun e w'=>e = .returned (.bool (nodeB 5 u l nm m tv n1 n2 cv))∧Below w.heap.size w w':=by
 obtain⟨rr,hrr⟩ : ∃rr0:Bool,(nodeB 5 u l nm m tv n1 n2 cv)=rr0:=⟨_,rfl⟩
 rw[hrr];have HT:=zq hrr;clear hrr
 go_enter Try.func35,Try.ntmps35
 go_wp2_with fail
 have s0_:(World.alloc w (Obj.cells (nv 5 nm u tk ta tn tq fk fa fn fq l c m q) 28)).cell? ⟨w.heap.size,0,none⟩=some (.int .i64 5):=ao (by simp) 0;have s1_:(World.alloc w (Obj.cells (nv 5 nm u tk ta tn tq fk fa fn fq l c m q) 28)).cell? ⟨w.heap.size,8,none⟩=some (.slice c m q):=ao (by simp) 8;have hS0:=zq (show(World.drew (World.alloc w (Obj.cells (nv 5 nm u tk ta tn tq fk fa fn fq l c m q) 28))).cell? ⟨w.heap.size,0,none⟩=some (.int .i64 5)∧(World.drew (World.alloc w (Obj.cells (nv 5 nm u tk ta tn tq fk fa fn fq l c m q) 28))).cell? ⟨w.heap.size,8,none⟩=some (.slice c m q) from⟨ap (s0_),ap (s1_)⟩);have hSb:=zq (show ∀X Y:World,Below X.heap.size X Y->(X.cell? ⟨w.heap.size,0,none⟩=some (.int .i64 5)∧X.cell? ⟨w.heap.size,8,none⟩=some (.slice c m q))->(Y.cell? ⟨w.heap.size,0,none⟩=some (.int .i64 5)∧Y.cell? ⟨w.heap.size,8,none⟩=some (.slice c m q)) from fun X Y h s=>⟨af h s.1,af h s.2⟩)
 go_region_held3 (fun w'=>w'.cell? ⟨w.heap.size,0,none⟩=some (.int .i64 5)∧w'.cell? ⟨w.heap.size,8,none⟩=some (.slice c m q))
  (repeat (first | with_reducible refine hSb.out _ _ hb1 ?_ | with_reducible exact hS0.out))
  (first | (go_at_call 63;((with_reducible refine(cU 5 _).mono ?_);rintro e w1 ⟨rfl,hb1⟩)))
 clear s0_ s1_;have hB:=(al ag.drew hb1)
 have zw1:=hB.size;have c0_0:w1.cell? ⟨w.heap.size,0,none⟩=some (.int .i64 5):=af hb1 (ap (ao (by simp) 0));have c0_1:w1.cell? ⟨w.heap.size,1,none⟩=some (.string nm):=af hb1 (ap (ao (by simp) 1));have c0_2:w1.cell? ⟨w.heap.size,2,none⟩=some (.int .i64 u):=af hb1 (ap (ao (by simp) 2));have c0_3:w1.cell? ⟨w.heap.size,3,none⟩=some (.int .i64 tk):=af hb1 (ap (ao (by simp) 3));have c0_4:w1.cell? ⟨w.heap.size,4,none⟩=some (.slice ta tn tq):=af hb1 (ap (ao (by simp) 4));have c0_5:w1.cell? ⟨w.heap.size,5,none⟩=some (.int .i64 fk):=af hb1 (ap (ao (by simp) 5));have c0_6:w1.cell? ⟨w.heap.size,6,none⟩=some (.slice fa fn fq):=af hb1 (ap (ao (by simp) 6));have c0_7:w1.cell? ⟨w.heap.size,7,none⟩=some (.int .i64 l):=af hb1 (ap (ao (by simp) 7));have d0_w1:=World.block_lt_of_cell? _ _ c0_0
 rcases Bool.eq_false_or_eq_true ((aD 5)==(m:Int)) with q1 | q1
 ·(try rw[q1])
  go_wp2_with fail
  refine(ie nm _).mono ?_;rintro e w2 ⟨rfl,hb2⟩;replace hB:=(al hB hb2)
  have zw2:=hB.size;replace c0_2:=af hb2 c0_2;replace c0_3:=af hb2 c0_3;replace c0_4:=af hb2 c0_4;replace c0_5:=af hb2 c0_5;replace c0_6:=af hb2 c0_6;replace c0_7:=af hb2 c0_7;have d0_w2:=World.block_lt_of_cell? _ _ c0_2
  rcases Bool.eq_false_or_eq_true (aI nm) with q2 | q2
  ·(try rw[q2])
   have Hq2:=zq q2;clear q2
   go_wp2_with fail
   refine(bo u 0 0 _).mono ?_;rintro e w3 ⟨rfl,hb3⟩;replace hB:=(al hB hb3)
   have zw3:=hB.size;replace c0_3:=af hb3 c0_3;replace c0_4:=af hb3 c0_4;replace c0_5:=af hb3 c0_5;replace c0_6:=af hb3 c0_6;replace c0_7:=af hb3 c0_7;have d0_w3:=World.block_lt_of_cell? _ _ c0_3
   rcases Bool.eq_false_or_eq_true (aC u 0 0) with q3 | q3
   ·(try rw[q3])
    have Hq3:=zq q3;clear q3
    go_wp2_with fail
    refine(H1.out _ hB).mono ?_;rintro e w4 ⟨rfl,hb4⟩;replace hB:=(al hB hb4)
    have zw4:=hB.size;replace c0_5:=af hb4 c0_5;replace c0_6:=af hb4 c0_6;replace c0_7:=af hb4 c0_7;have d0_w4:=World.block_lt_of_cell? _ _ c0_5
    rcases Bool.eq_false_or_eq_true (tv) with q4 | q4
    ·(try rw[q4])
     have Hq4:=zq q4;clear q4
     rcases Bool.eq_false_or_eq_true (n2) with q5 | q5
     ·have Hq5:=zq q5
      clear q5
      go_wp2_with fail
      refine(H4.out _ hB).mono ?_;rintro e w5 ⟨rfl,hb5⟩;rw[Hq5.out];replace hB:=(al hB hb5)
      have zw5:=hB.size;replace c0_7:=af hb5 c0_7;have d0_w5:=World.block_lt_of_cell? _ _ c0_7
      rcases Bool.eq_false_or_eq_true (l==0) with q6 | q6
      ·(try rw[q6])
       have nq6:(l != 0)=false:=by simp only[bne,q6];rfl
       go_wp2_with fail
       refine bq (.bool (true)) (by simp[results,Try.results35,go_sem,bne]) ?_
       exact⟨au ((eY u l nm m tv n1 n2 cv q1 Hq2.out Hq3.out Hq4.out Hq5.out q6).trans HT.out),hB⟩
      ·(try rw[q6])
       have nq6:(l != 0)=true:=by simp only[bne,q6];rfl
       go_wp2_with fail
       refine bq (.bool (false)) (by simp[results,Try.results35,go_sem,bne]) ?_
       exact⟨au ((eZ u l nm m tv n1 n2 cv q1 Hq2.out Hq3.out Hq4.out Hq5.out q6).trans HT.out),hB⟩
     ·have Hq5:=zq q5
      clear q5
      go_wp2_with fail
      refine(H4.out _ hB).mono ?_;rintro e w6 ⟨rfl,hb6⟩;rw[Hq5.out];replace hB:=(al hB hb6)
      have zw6:=hB.size
      go_wp2_with fail
      refine bq (.bool (false)) (by simp[results,Try.results35,go_sem,bne]) ?_
      exact⟨au ((f9 u l nm m tv n1 n2 cv q1 Hq2.out Hq3.out Hq4.out Hq5.out).trans HT.out),hB⟩
    ·(try rw[q4])
     have Hq4:=zq q4;clear q4
     go_wp2_with fail
     refine bq (.bool (false)) (by simp[results,Try.results35,go_sem,bne]) ?_
     exact⟨au ((fb u l nm m tv n1 n2 cv q1 Hq2.out Hq3.out Hq4.out).trans HT.out),hB⟩
   ·(try rw[q3])
    have Hq3:=zq q3;clear q3
    go_wp2_with fail
    refine bq (.bool (false)) (by simp[results,Try.results35,go_sem,bne]) ?_
    exact⟨au ((fc u l nm m tv n1 n2 cv q1 Hq2.out Hq3.out).trans HT.out),hB⟩
  ·(try rw[q2])
   have Hq2:=zq q2;clear q2
   go_wp2_with fail
   refine bq (.bool (false)) (by simp[results,Try.results35,go_sem,bne]) ?_
   exact⟨au ((fd u l nm m tv n1 n2 cv q1 Hq2.out).trans HT.out),hB⟩
 ·(try rw[q1])
  go_wp2_with fail
  refine bq (.bool (false)) (by simp[results,Try.results35,go_sem,bne]) ?_
  exact⟨au ((fe u l nm m tv n1 n2 cv q1).trans HT.out),hB⟩
theorem eK (u l:Int)(nm:ByteArray)(m:Nat)(tv n1 n2 cv:Bool)(h0:((aD 13)==(m:Int))=true)(h1:(nm.toList == [])=true)(h2:(aC u 0 0)=true)(h3:(tv)=true)(h4:(n2)=true)(h5:(l==0)=true):(true:Bool)=(nodeB 13 u l nm m tv n1 n2 cv):=by
 first | (simp_all [nodeB,ownB];done) | grind [nodeB,ownB,aC]
theorem eL (u l:Int)(nm:ByteArray)(m:Nat)(tv n1 n2 cv:Bool)(h0:((aD 13)==(m:Int))=true)(h1:(nm.toList == [])=true)(h2:(aC u 0 0)=true)(h3:(tv)=true)(h4:(n2)=true)(h5:(l==0)=false):(false:Bool)=(nodeB 13 u l nm m tv n1 n2 cv):=by
 first | (simp_all [nodeB,ownB];done) | grind [nodeB,ownB,aC]
theorem eM (u l:Int)(nm:ByteArray)(m:Nat)(tv n1 n2 cv:Bool)(h0:((aD 13)==(m:Int))=true)(h1:(nm.toList == [])=true)(h2:(aC u 0 0)=true)(h3:(tv)=true)(h4:(n2)=false):(false:Bool)=(nodeB 13 u l nm m tv n1 n2 cv):=by
 first | (simp_all [nodeB,ownB];done) | grind [nodeB,ownB,aC]
theorem eN (u l:Int)(nm:ByteArray)(m:Nat)(tv n1 n2 cv:Bool)(h0:((aD 13)==(m:Int))=true)(h1:(nm.toList == [])=true)(h2:(aC u 0 0)=true)(h3:(tv)=false):(false:Bool)=(nodeB 13 u l nm m tv n1 n2 cv):=by
 first | (simp_all [nodeB,ownB];done) | grind [nodeB,ownB,aC]
theorem eO (u l:Int)(nm:ByteArray)(m:Nat)(tv n1 n2 cv:Bool)(h0:((aD 13)==(m:Int))=true)(h1:(nm.toList == [])=true)(h2:(aC u 0 0)=false):(false:Bool)=(nodeB 13 u l nm m tv n1 n2 cv):=by
 first | (simp_all [nodeB,ownB];done) | grind [nodeB,ownB,aC]
theorem eP (u l:Int)(nm:ByteArray)(m:Nat)(tv n1 n2 cv:Bool)(h0:((aD 13)==(m:Int))=true)(h1:(nm.toList == [])=false):(false:Bool)=(nodeB 13 u l nm m tv n1 n2 cv):=by
 first | (simp_all [nodeB,ownB];done) | grind [nodeB,ownB,aC]
theorem eQ (u l:Int)(nm:ByteArray)(m:Nat)(tv n1 n2 cv:Bool)(h0:((aD 13)==(m:Int))=false):(false:Bool)=(nodeB 13 u l nm m tv n1 n2 cv):=by
 first | (simp_all [nodeB,ownB];done) | grind [nodeB,ownB,aC]
theorem eR (u l:Int)(nm:ByteArray)(m:Nat)(tv n1 n2 cv:Bool)(h0:((aD 14)==(m:Int))=true)(h1:(nm.toList == [])=true)(h2:(aC u 0 0)=true)(h3:(tv)=true)(h4:(cv)=true)(h5:(cp l)=true):(true:Bool)=(nodeB 14 u l nm m tv n1 n2 cv):=by
 first | (simp_all [nodeB,ownB];done) | grind [nodeB,ownB,aC]
theorem eS (u l:Int)(nm:ByteArray)(m:Nat)(tv n1 n2 cv:Bool)(h0:((aD 14)==(m:Int))=true)(h1:(nm.toList == [])=true)(h2:(aC u 0 0)=true)(h3:(tv)=true)(h4:(cv)=true)(h5:(cp l)=false):(false:Bool)=(nodeB 14 u l nm m tv n1 n2 cv):=by
 first | (simp_all [nodeB,ownB];done) | grind [nodeB,ownB,aC]
theorem eT (u l:Int)(nm:ByteArray)(m:Nat)(tv n1 n2 cv:Bool)(h0:((aD 14)==(m:Int))=true)(h1:(nm.toList == [])=true)(h2:(aC u 0 0)=true)(h3:(tv)=true)(h4:(cv)=false):(false:Bool)=(nodeB 14 u l nm m tv n1 n2 cv):=by
 first | (simp_all [nodeB,ownB];done) | grind [nodeB,ownB,aC]
theorem eu (u l:Int)(nm:ByteArray)(m:Nat)(tv n1 n2 cv:Bool)(h0:((aD 14)==(m:Int))=true)(h1:(nm.toList == [])=true)(h2:(aC u 0 0)=true)(h3:(tv)=false):(false:Bool)=(nodeB 14 u l nm m tv n1 n2 cv):=by
 first | (simp_all [nodeB,ownB];done) | grind [nodeB,ownB,aC]
theorem ew (u l:Int)(nm:ByteArray)(m:Nat)(tv n1 n2 cv:Bool)(h0:((aD 14)==(m:Int))=true)(h1:(nm.toList == [])=true)(h2:(aC u 0 0)=false):(false:Bool)=(nodeB 14 u l nm m tv n1 n2 cv):=by
 first | (simp_all [nodeB,ownB];done) | grind [nodeB,ownB,aC]
theorem ex (u l:Int)(nm:ByteArray)(m:Nat)(tv n1 n2 cv:Bool)(h0:((aD 14)==(m:Int))=true)(h1:(nm.toList == [])=false):(false:Bool)=(nodeB 14 u l nm m tv n1 n2 cv):=by
 first | (simp_all [nodeB,ownB];done) | grind [nodeB,ownB,aC]
theorem ey (u l:Int)(nm:ByteArray)(m:Nat)(tv n1 n2 cv:Bool)(h0:((aD 14)==(m:Int))=false):(false:Bool)=(nodeB 14 u l nm m tv n1 n2 cv):=by
 first | (simp_all [nodeB,ownB];done) | grind [nodeB,ownB,aC]
theorem fg (k u l:Int)(nm:ByteArray)(m:Nat)(tv n1 n2 cv:Bool)(h0:(k==1)=false)(h1:(k==5)=false)(h2:(k==13)=false)(h3:(k==14)=false)(h4:(k==2)=false)(h5:((aD k)==(m:Int))=true)(h6:(nm.toList == [])=true)(h7:(aC u 0 0)=true)(h8:(n1)=true)(h9:(n2)=true)(h10:(l==0)=true):(true:Bool)=(nodeB k u l nm m tv n1 n2 cv):=by
 first | (simp_all [nodeB,ownB];done) | grind [nodeB,ownB,aC]
theorem fh (k u l:Int)(nm:ByteArray)(m:Nat)(tv n1 n2 cv:Bool)(h0:(k==1)=false)(h1:(k==5)=false)(h2:(k==13)=false)(h3:(k==14)=false)(h4:(k==2)=false)(h5:((aD k)==(m:Int))=true)(h6:(nm.toList == [])=true)(h7:(aC u 0 0)=true)(h8:(n1)=true)(h9:(n2)=true)(h10:(l==0)=false):(false:Bool)=(nodeB k u l nm m tv n1 n2 cv):=by
 first | (simp_all [nodeB,ownB];done) | grind [nodeB,ownB,aC]
theorem fi (k u l:Int)(nm:ByteArray)(m:Nat)(tv n1 n2 cv:Bool)(h0:(k==1)=false)(h1:(k==5)=false)(h2:(k==13)=false)(h3:(k==14)=false)(h4:(k==2)=false)(h5:((aD k)==(m:Int))=true)(h6:(nm.toList == [])=true)(h7:(aC u 0 0)=true)(h8:(n1)=true)(h9:(n2)=false):(false:Bool)=(nodeB k u l nm m tv n1 n2 cv):=by
 first | (simp_all [nodeB,ownB];done) | grind [nodeB,ownB,aC]
theorem fj (k u l:Int)(nm:ByteArray)(m:Nat)(tv n1 n2 cv:Bool)(h0:(k==1)=false)(h1:(k==5)=false)(h2:(k==13)=false)(h3:(k==14)=false)(h4:(k==2)=false)(h5:((aD k)==(m:Int))=true)(h6:(nm.toList == [])=true)(h7:(aC u 0 0)=true)(h8:(n1)=false):(false:Bool)=(nodeB k u l nm m tv n1 n2 cv):=by
 first | (simp_all [nodeB,ownB];done) | grind [nodeB,ownB,aC]
theorem fl (k u l:Int)(nm:ByteArray)(m:Nat)(tv n1 n2 cv:Bool)(h0:(k==1)=false)(h1:(k==5)=false)(h2:(k==13)=false)(h3:(k==14)=false)(h4:(k==2)=false)(h5:((aD k)==(m:Int))=true)(h6:(nm.toList == [])=true)(h7:(aC u 0 0)=false):(false:Bool)=(nodeB k u l nm m tv n1 n2 cv):=by
 first | (simp_all [nodeB,ownB];done) | grind [nodeB,ownB,aC]
theorem fm (k u l:Int)(nm:ByteArray)(m:Nat)(tv n1 n2 cv:Bool)(h0:(k==1)=false)(h1:(k==5)=false)(h2:(k==13)=false)(h3:(k==14)=false)(h4:(k==2)=false)(h5:((aD k)==(m:Int))=true)(h6:(nm.toList == [])=false):(false:Bool)=(nodeB k u l nm m tv n1 n2 cv):=by
 first | (simp_all [nodeB,ownB];done) | grind [nodeB,ownB,aC]
theorem fo (k u l:Int)(nm:ByteArray)(m:Nat)(tv n1 n2 cv:Bool)(h0:(k==1)=false)(h1:(k==5)=false)(h2:(k==13)=false)(h3:(k==14)=false)(h4:(k==2)=false)(h5:((aD k)==(m:Int))=false):(false:Bool)=(nodeB k u l nm m tv n1 n2 cv):=by
 first | (simp_all [nodeB,ownB];done) | grind [nodeB,ownB,aC]
theorem kB (u tk fk l:Int)(nm:ByteArray)(ta fa c:Option Addr)(tn tq fn fq m q:Nat)(w:World)(tv n1 n2 cv:Bool)(H1:Hid (∀W,Below w.heap.size w W->Calls Try.prog 20 #[.agg #[.int .i64 tk,.slice ta tn tq]] W fun e W'=>e = .returned (.bool (tv))∧Below W.heap.size W W'))(H2:Hid (∀W,Below w.heap.size w W->Calls Try.prog 66 #[.agg #[.int .i64 tk,.slice ta tn tq]] W fun e W'=>e = .returned (.bool (n1))∧Below W.heap.size W W'))(H4:Hid (∀W,Below w.heap.size w W->Calls Try.prog 66 #[.agg #[.int .i64 fk,.slice fa fn fq]] W fun e W'=>e = .returned (.bool (n2))∧Below W.heap.size W W'))(H3:Hid (∀W,Below w.heap.size w W->Calls Try.prog 10 #[.agg #[.int .i64 fk,.slice fa fn fq],.agg #[.int .i64 tk,.slice ta tn tq]] W fun e W'=>e = .returned (.bool (cv))∧Below W.heap.size W W')) :
  Calls Try.prog 35 #[.agg (nv 13 nm u tk ta tn tq fk fa fn fq l c m q)] w fun e w'=>e = .returned (.bool (nodeB 13 u l nm m tv n1 n2 cv))∧Below w.heap.size w w':=by
 obtain⟨rr,hrr⟩ : ∃rr0:Bool,(nodeB 13 u l nm m tv n1 n2 cv)=rr0:=⟨_,rfl⟩
 rw[hrr];have HT:=zq hrr;clear hrr
 go_enter Try.func35,Try.ntmps35
 go_wp2_with fail
 have s0_:(World.alloc w (Obj.cells (nv 13 nm u tk ta tn tq fk fa fn fq l c m q) 28)).cell? ⟨w.heap.size,0,none⟩=some (.int .i64 13):=ao (by simp) 0;have s1_:(World.alloc w (Obj.cells (nv 13 nm u tk ta tn tq fk fa fn fq l c m q) 28)).cell? ⟨w.heap.size,8,none⟩=some (.slice c m q):=ao (by simp) 8;have hS0:=zq (show(World.drew (World.alloc w (Obj.cells (nv 13 nm u tk ta tn tq fk fa fn fq l c m q) 28))).cell? ⟨w.heap.size,0,none⟩=some (.int .i64 13)∧(World.drew (World.alloc w (Obj.cells (nv 13 nm u tk ta tn tq fk fa fn fq l c m q) 28))).cell? ⟨w.heap.size,8,none⟩=some (.slice c m q) from⟨ap (s0_),ap (s1_)⟩);have hSb:=zq (show ∀X Y:World,Below X.heap.size X Y->(X.cell? ⟨w.heap.size,0,none⟩=some (.int .i64 13)∧X.cell? ⟨w.heap.size,8,none⟩=some (.slice c m q))->(Y.cell? ⟨w.heap.size,0,none⟩=some (.int .i64 13)∧Y.cell? ⟨w.heap.size,8,none⟩=some (.slice c m q)) from fun X Y h s=>⟨af h s.1,af h s.2⟩)
 go_region_held3 (fun w'=>w'.cell? ⟨w.heap.size,0,none⟩=some (.int .i64 13)∧w'.cell? ⟨w.heap.size,8,none⟩=some (.slice c m q))
  (repeat (first | with_reducible refine hSb.out _ _ hb1 ?_ | with_reducible exact hS0.out))
  (first | (go_at_call 63;((with_reducible refine(cU 13 _).mono ?_);rintro e w1 ⟨rfl,hb1⟩)))
 clear s0_ s1_;have hB:=(al ag.drew hb1)
 have zw1:=hB.size;have c0_0:w1.cell? ⟨w.heap.size,0,none⟩=some (.int .i64 13):=af hb1 (ap (ao (by simp) 0));have c0_1:w1.cell? ⟨w.heap.size,1,none⟩=some (.string nm):=af hb1 (ap (ao (by simp) 1));have c0_2:w1.cell? ⟨w.heap.size,2,none⟩=some (.int .i64 u):=af hb1 (ap (ao (by simp) 2));have c0_3:w1.cell? ⟨w.heap.size,3,none⟩=some (.int .i64 tk):=af hb1 (ap (ao (by simp) 3));have c0_4:w1.cell? ⟨w.heap.size,4,none⟩=some (.slice ta tn tq):=af hb1 (ap (ao (by simp) 4));have c0_5:w1.cell? ⟨w.heap.size,5,none⟩=some (.int .i64 fk):=af hb1 (ap (ao (by simp) 5));have c0_6:w1.cell? ⟨w.heap.size,6,none⟩=some (.slice fa fn fq):=af hb1 (ap (ao (by simp) 6));have c0_7:w1.cell? ⟨w.heap.size,7,none⟩=some (.int .i64 l):=af hb1 (ap (ao (by simp) 7));have d0_w1:=World.block_lt_of_cell? _ _ c0_0
 rcases Bool.eq_false_or_eq_true ((aD 13)==(m:Int)) with q1 | q1
 ·(try rw[q1])
  rcases Bool.eq_false_or_eq_true (nm.toList == []) with q2 | q2
  ·(try rw[q2])
   have nq2:(nm.toList != [])=false:=by simp only[bne,q2];rfl
   go_wp2_with fail
   refine(bo u 0 0 _).mono ?_;rintro e w2 ⟨rfl,hb2⟩;replace hB:=(al hB hb2)
   have zw2:=hB.size;replace c0_3:=af hb2 c0_3;replace c0_4:=af hb2 c0_4;replace c0_5:=af hb2 c0_5;replace c0_6:=af hb2 c0_6;replace c0_7:=af hb2 c0_7;have d0_w2:=World.block_lt_of_cell? _ _ c0_3
   rcases Bool.eq_false_or_eq_true (aC u 0 0) with q3 | q3
   ·(try rw[q3])
    have Hq3:=zq q3;clear q3
    go_wp2_with fail
    refine(H1.out _ hB).mono ?_;rintro e w3 ⟨rfl,hb3⟩;replace hB:=(al hB hb3)
    have zw3:=hB.size;replace c0_5:=af hb3 c0_5;replace c0_6:=af hb3 c0_6;replace c0_7:=af hb3 c0_7;have d0_w3:=World.block_lt_of_cell? _ _ c0_5
    rcases Bool.eq_false_or_eq_true (tv) with q4 | q4
    ·(try rw[q4])
     have Hq4:=zq q4;clear q4
     rcases Bool.eq_false_or_eq_true (n2) with q5 | q5
     ·have Hq5:=zq q5
      clear q5
      go_wp2_with fail
      refine(H4.out _ hB).mono ?_;rintro e w4 ⟨rfl,hb4⟩;rw[Hq5.out];replace hB:=(al hB hb4)
      have zw4:=hB.size;replace c0_7:=af hb4 c0_7;have d0_w4:=World.block_lt_of_cell? _ _ c0_7
      rcases Bool.eq_false_or_eq_true (l==0) with q6 | q6
      ·(try rw[q6])
       have nq6:(l != 0)=false:=by simp only[bne,q6];rfl
       go_wp2_with fail
       refine bq (.bool (true)) (by simp[results,Try.results35,go_sem,bne]) ?_
       exact⟨au ((eK u l nm m tv n1 n2 cv q1 q2 Hq3.out Hq4.out Hq5.out q6).trans HT.out),hB⟩
      ·(try rw[q6])
       have nq6:(l != 0)=true:=by simp only[bne,q6];rfl
       go_wp2_with fail
       refine bq (.bool (false)) (by simp[results,Try.results35,go_sem,bne]) ?_
       exact⟨au ((eL u l nm m tv n1 n2 cv q1 q2 Hq3.out Hq4.out Hq5.out q6).trans HT.out),hB⟩
     ·have Hq5:=zq q5
      clear q5
      go_wp2_with fail
      refine(H4.out _ hB).mono ?_;rintro e w5 ⟨rfl,hb5⟩;rw[Hq5.out];replace hB:=(al hB hb5)
      have zw5:=hB.size
      go_wp2_with fail
      refine bq (.bool (false)) (by simp[results,Try.results35,go_sem,bne]) ?_
      exact⟨au ((eM u l nm m tv n1 n2 cv q1 q2 Hq3.out Hq4.out Hq5.out).trans HT.out),hB⟩
    ·(try rw[q4])
     have Hq4:=zq q4;clear q4
     go_wp2_with fail
     refine bq (.bool (false)) (by simp[results,Try.results35,go_sem,bne]) ?_
     exact⟨au ((eN u l nm m tv n1 n2 cv q1 q2 Hq3.out Hq4.out).trans HT.out),hB⟩
   ·(try rw[q3])
    have Hq3:=zq q3;clear q3
    go_wp2_with fail
    refine bq (.bool (false)) (by simp[results,Try.results35,go_sem,bne]) ?_
    exact⟨au ((eO u l nm m tv n1 n2 cv q1 q2 Hq3.out).trans HT.out),hB⟩
  ·(try rw[q2])
   have nq2:(nm.toList != [])=true:=by simp only[bne,q2];rfl
   go_wp2_with fail
   refine bq (.bool (false)) (by simp[results,Try.results35,go_sem,bne]) ?_
   exact⟨au ((eP u l nm m tv n1 n2 cv q1 q2).trans HT.out),hB⟩
 ·(try rw[q1])
  go_wp2_with fail
  refine bq (.bool (false)) (by simp[results,Try.results35,go_sem,bne]) ?_
  exact⟨au ((eQ u l nm m tv n1 n2 cv q1).trans HT.out),hB⟩
theorem kC (u tk fk l:Int)(nm:ByteArray)(ta fa c:Option Addr)(tn tq fn fq m q:Nat)(w:World)(tv n1 n2 cv:Bool)(H1:Hid (∀W,Below w.heap.size w W->Calls Try.prog 20 #[.agg #[.int .i64 tk,.slice ta tn tq]] W fun e W'=>e = .returned (.bool (tv))∧Below W.heap.size W W'))(H2:Hid (∀W,Below w.heap.size w W->Calls Try.prog 66 #[.agg #[.int .i64 tk,.slice ta tn tq]] W fun e W'=>e = .returned (.bool (n1))∧Below W.heap.size W W'))(H4:Hid (∀W,Below w.heap.size w W->Calls Try.prog 66 #[.agg #[.int .i64 fk,.slice fa fn fq]] W fun e W'=>e = .returned (.bool (n2))∧Below W.heap.size W W'))(H3:Hid (∀W,Below w.heap.size w W->Calls Try.prog 10 #[.agg #[.int .i64 fk,.slice fa fn fq],.agg #[.int .i64 tk,.slice ta tn tq]] W fun e W'=>e = .returned (.bool (cv))∧Below W.heap.size W W')) :
  Calls Try.prog 35 #[.agg (nv 14 nm u tk ta tn tq fk fa fn fq l c m q)] w fun e w'=>e = .returned (.bool (nodeB 14 u l nm m tv n1 n2 cv))∧Below w.heap.size w w':=by
 obtain⟨rr,hrr⟩ : ∃rr0:Bool,(nodeB 14 u l nm m tv n1 n2 cv)=rr0:=⟨_,rfl⟩
 rw[hrr];have HT:=zq hrr;clear hrr
 go_enter Try.func35,Try.ntmps35
 go_wp2_with fail
 have s0_:(World.alloc w (Obj.cells (nv 14 nm u tk ta tn tq fk fa fn fq l c m q) 28)).cell? ⟨w.heap.size,0,none⟩=some (.int .i64 14):=ao (by simp) 0;have s1_:(World.alloc w (Obj.cells (nv 14 nm u tk ta tn tq fk fa fn fq l c m q) 28)).cell? ⟨w.heap.size,8,none⟩=some (.slice c m q):=ao (by simp) 8;have hS0:=zq (show(World.drew (World.alloc w (Obj.cells (nv 14 nm u tk ta tn tq fk fa fn fq l c m q) 28))).cell? ⟨w.heap.size,0,none⟩=some (.int .i64 14)∧(World.drew (World.alloc w (Obj.cells (nv 14 nm u tk ta tn tq fk fa fn fq l c m q) 28))).cell? ⟨w.heap.size,8,none⟩=some (.slice c m q) from⟨ap (s0_),ap (s1_)⟩);have hSb:=zq (show ∀X Y:World,Below X.heap.size X Y->(X.cell? ⟨w.heap.size,0,none⟩=some (.int .i64 14)∧X.cell? ⟨w.heap.size,8,none⟩=some (.slice c m q))->(Y.cell? ⟨w.heap.size,0,none⟩=some (.int .i64 14)∧Y.cell? ⟨w.heap.size,8,none⟩=some (.slice c m q)) from fun X Y h s=>⟨af h s.1,af h s.2⟩)
 go_region_held3 (fun w'=>w'.cell? ⟨w.heap.size,0,none⟩=some (.int .i64 14)∧w'.cell? ⟨w.heap.size,8,none⟩=some (.slice c m q))
  (repeat (first | with_reducible refine hSb.out _ _ hb1 ?_ | with_reducible exact hS0.out))
  (first | (go_at_call 63;((with_reducible refine(cU 14 _).mono ?_);rintro e w1 ⟨rfl,hb1⟩)))
 clear s0_ s1_;have hB:=(al ag.drew hb1)
 have zw1:=hB.size;have c0_0:w1.cell? ⟨w.heap.size,0,none⟩=some (.int .i64 14):=af hb1 (ap (ao (by simp) 0));have c0_1:w1.cell? ⟨w.heap.size,1,none⟩=some (.string nm):=af hb1 (ap (ao (by simp) 1));have c0_2:w1.cell? ⟨w.heap.size,2,none⟩=some (.int .i64 u):=af hb1 (ap (ao (by simp) 2));have c0_3:w1.cell? ⟨w.heap.size,3,none⟩=some (.int .i64 tk):=af hb1 (ap (ao (by simp) 3));have c0_4:w1.cell? ⟨w.heap.size,4,none⟩=some (.slice ta tn tq):=af hb1 (ap (ao (by simp) 4));have c0_5:w1.cell? ⟨w.heap.size,5,none⟩=some (.int .i64 fk):=af hb1 (ap (ao (by simp) 5));have c0_6:w1.cell? ⟨w.heap.size,6,none⟩=some (.slice fa fn fq):=af hb1 (ap (ao (by simp) 6));have c0_7:w1.cell? ⟨w.heap.size,7,none⟩=some (.int .i64 l):=af hb1 (ap (ao (by simp) 7));have d0_w1:=World.block_lt_of_cell? _ _ c0_0
 rcases Bool.eq_false_or_eq_true ((aD 14)==(m:Int)) with q1 | q1
 ·(try rw[q1])
  rcases Bool.eq_false_or_eq_true (nm.toList == []) with q2 | q2
  ·(try rw[q2])
   have nq2:(nm.toList != [])=false:=by simp only[bne,q2];rfl
   go_wp2_with fail
   refine(bo u 0 0 _).mono ?_;rintro e w2 ⟨rfl,hb2⟩;replace hB:=(al hB hb2)
   have zw2:=hB.size;replace c0_3:=af hb2 c0_3;replace c0_4:=af hb2 c0_4;replace c0_5:=af hb2 c0_5;replace c0_6:=af hb2 c0_6;replace c0_7:=af hb2 c0_7;have d0_w2:=World.block_lt_of_cell? _ _ c0_3
   rcases Bool.eq_false_or_eq_true (aC u 0 0) with q3 | q3
   ·(try rw[q3])
    have Hq3:=zq q3;clear q3
    go_wp2_with fail
    refine(H1.out _ hB).mono ?_;rintro e w3 ⟨rfl,hb3⟩;replace hB:=(al hB hb3)
    have zw3:=hB.size;replace c0_5:=af hb3 c0_5;replace c0_6:=af hb3 c0_6;replace c0_3:=af hb3 c0_3;replace c0_4:=af hb3 c0_4;replace c0_7:=af hb3 c0_7;have d0_w3:=World.block_lt_of_cell? _ _ c0_5
    rcases Bool.eq_false_or_eq_true (tv) with q4 | q4
    ·(try rw[q4])
     have Hq4:=zq q4;clear q4
     rcases Bool.eq_false_or_eq_true (cv) with q5 | q5
     ·have Hq5:=zq q5
      clear q5
      go_wp2_with fail
      refine(H3.out _ hB).mono ?_;rintro e w4 ⟨rfl,hb4⟩;rw[Hq5.out];replace hB:=(al hB hb4)
      have zw4:=hB.size;replace c0_7:=af hb4 c0_7;have d0_w4:=World.block_lt_of_cell? _ _ c0_7
      go_wp2_with fail
      refine(mK l _).mono ?_;rintro e w5 ⟨rfl,hb5⟩;replace hB:=(al hB hb5)
      have zw5:=hB.size
      rcases Bool.eq_false_or_eq_true (cp l) with q6 | q6
      ·(try rw[q6])
       have Hq6:=zq q6;clear q6
       go_wp2_with fail
       refine bq (.bool (true)) (by simp[results,Try.results35,go_sem,bne]) ?_
       exact⟨au ((eR u l nm m tv n1 n2 cv q1 q2 Hq3.out Hq4.out Hq5.out Hq6.out).trans HT.out),hB⟩
      ·(try rw[q6])
       have Hq6:=zq q6;clear q6
       go_wp2_with fail
       refine bq (.bool (false)) (by simp[results,Try.results35,go_sem,bne]) ?_
       exact⟨au ((eS u l nm m tv n1 n2 cv q1 q2 Hq3.out Hq4.out Hq5.out Hq6.out).trans HT.out),hB⟩
     ·have Hq5:=zq q5
      clear q5
      go_wp2_with fail
      refine(H3.out _ hB).mono ?_;rintro e w6 ⟨rfl,hb6⟩;rw[Hq5.out];replace hB:=(al hB hb6)
      have zw6:=hB.size
      go_wp2_with fail
      refine bq (.bool (false)) (by simp[results,Try.results35,go_sem,bne]) ?_
      exact⟨au ((eT u l nm m tv n1 n2 cv q1 q2 Hq3.out Hq4.out Hq5.out).trans HT.out),hB⟩
    ·(try rw[q4])
     have Hq4:=zq q4;clear q4
     go_wp2_with fail
     refine bq (.bool (false)) (by simp[results,Try.results35,go_sem,bne]) ?_
     exact⟨au ((eu u l nm m tv n1 n2 cv q1 q2 Hq3.out Hq4.out).trans HT.out),hB⟩
   ·(try rw[q3])
    have Hq3:=zq q3;clear q3
    go_wp2_with fail
    refine bq (.bool (false)) (by simp[results,Try.results35,go_sem,bne]) ?_
    exact⟨au ((ew u l nm m tv n1 n2 cv q1 q2 Hq3.out).trans HT.out),hB⟩
  ·(try rw[q2])
   have nq2:(nm.toList != [])=true:=by simp only[bne,q2];rfl
   go_wp2_with fail
   refine bq (.bool (false)) (by simp[results,Try.results35,go_sem,bne]) ?_
   exact⟨au ((ex u l nm m tv n1 n2 cv q1 q2).trans HT.out),hB⟩
 ·(try rw[q1])
  go_wp2_with fail
  refine bq (.bool (false)) (by simp[results,Try.results35,go_sem,bne]) ?_
  exact⟨au ((ey u l nm m tv n1 n2 cv q1).trans HT.out),hB⟩
theorem lk (k u tk fk l:Int)(nm:ByteArray)(ta fa c:Option Addr)(tn tq fn fq m q:Nat)(w:World)(tv n1 n2 cv:Bool)(z0:(k==1)=false)(z1:(k==5)=false)(z2:(k==13)=false)(z3:(k==14)=false)(z4:(k==2)=false)(H1:Hid (∀W,Below w.heap.size w W->Calls Try.prog 20 #[.agg #[.int .i64 tk,.slice ta tn tq]] W fun e W'=>e = .returned (.bool (tv))∧Below W.heap.size W W'))(H2:Hid (∀W,Below w.heap.size w W->Calls Try.prog 66 #[.agg #[.int .i64 tk,.slice ta tn tq]] W fun e W'=>e = .returned (.bool (n1))∧Below W.heap.size W W'))(H4:Hid (∀W,Below w.heap.size w W->Calls Try.prog 66 #[.agg #[.int .i64 fk,.slice fa fn fq]] W fun e W'=>e = .returned (.bool (n2))∧Below W.heap.size W W'))(H3:Hid (∀W,Below w.heap.size w W->Calls Try.prog 10 #[.agg #[.int .i64 fk,.slice fa fn fq],.agg #[.int .i64 tk,.slice ta tn tq]] W fun e W'=>e = .returned (.bool (cv))∧Below W.heap.size W W')) :
  Calls Try.prog 35 #[.agg (nv k nm u tk ta tn tq fk fa fn fq l c m q)] w fun e w'=>e = .returned (.bool (nodeB k u l nm m tv n1 n2 cv))∧Below w.heap.size w w':=by
 obtain⟨rr,hrr⟩ : ∃rr0:Bool,(nodeB k u l nm m tv n1 n2 cv)=rr0:=⟨_,rfl⟩
 rw[hrr];have HT:=zq hrr;clear hrr;have nz0:(k != 1)=true:=by simp only[bne,z0];rfl
 have nz1:(k != 5)=true:=by simp only[bne,z1];rfl
 have nz2:(k != 13)=true:=by simp only[bne,z2];rfl
 have nz3:(k != 14)=true:=by simp only[bne,z3];rfl
 have nz4:(k != 2)=true:=by simp only[bne,z4];rfl
 go_enter Try.func35,Try.ntmps35
 go_wp2_with fail
 have s0_:(World.alloc w (Obj.cells (nv k nm u tk ta tn tq fk fa fn fq l c m q) 28)).cell? ⟨w.heap.size,0,none⟩=some (.int .i64 k):=ao (by simp) 0;have s1_:(World.alloc w (Obj.cells (nv k nm u tk ta tn tq fk fa fn fq l c m q) 28)).cell? ⟨w.heap.size,8,none⟩=some (.slice c m q):=ao (by simp) 8;have hS0:=zq (show(World.drew (World.alloc w (Obj.cells (nv k nm u tk ta tn tq fk fa fn fq l c m q) 28))).cell? ⟨w.heap.size,0,none⟩=some (.int .i64 k)∧(World.drew (World.alloc w (Obj.cells (nv k nm u tk ta tn tq fk fa fn fq l c m q) 28))).cell? ⟨w.heap.size,8,none⟩=some (.slice c m q) from⟨ap (s0_),ap (s1_)⟩);have hSb:=zq (show ∀X Y:World,Below X.heap.size X Y->(X.cell? ⟨w.heap.size,0,none⟩=some (.int .i64 k)∧X.cell? ⟨w.heap.size,8,none⟩=some (.slice c m q))->(Y.cell? ⟨w.heap.size,0,none⟩=some (.int .i64 k)∧Y.cell? ⟨w.heap.size,8,none⟩=some (.slice c m q)) from fun X Y h s=>⟨af h s.1,af h s.2⟩)
 go_region_held3 (fun w'=>w'.cell? ⟨w.heap.size,0,none⟩=some (.int .i64 k)∧w'.cell? ⟨w.heap.size,8,none⟩=some (.slice c m q))
  (repeat (first | with_reducible refine hSb.out _ _ hb1 ?_ | with_reducible exact hS0.out))
  (first | (go_at_call 63;((with_reducible refine(cU k _).mono ?_);rintro e w1 ⟨rfl,hb1⟩)))
 clear s0_ s1_;have hB:=(al ag.drew hb1)
 have zw1:=hB.size;have c0_0:w1.cell? ⟨w.heap.size,0,none⟩=some (.int .i64 k):=af hb1 (ap (ao (by simp) 0));have c0_1:w1.cell? ⟨w.heap.size,1,none⟩=some (.string nm):=af hb1 (ap (ao (by simp) 1));have c0_2:w1.cell? ⟨w.heap.size,2,none⟩=some (.int .i64 u):=af hb1 (ap (ao (by simp) 2));have c0_3:w1.cell? ⟨w.heap.size,3,none⟩=some (.int .i64 tk):=af hb1 (ap (ao (by simp) 3));have c0_4:w1.cell? ⟨w.heap.size,4,none⟩=some (.slice ta tn tq):=af hb1 (ap (ao (by simp) 4));have c0_5:w1.cell? ⟨w.heap.size,5,none⟩=some (.int .i64 fk):=af hb1 (ap (ao (by simp) 5));have c0_6:w1.cell? ⟨w.heap.size,6,none⟩=some (.slice fa fn fq):=af hb1 (ap (ao (by simp) 6));have c0_7:w1.cell? ⟨w.heap.size,7,none⟩=some (.int .i64 l):=af hb1 (ap (ao (by simp) 7));have d0_w1:=World.block_lt_of_cell? _ _ c0_0
 rcases Bool.eq_false_or_eq_true ((aD k)==(m:Int)) with q1 | q1
 ·(try rw[q1])
  rcases Bool.eq_false_or_eq_true (nm.toList == []) with q2 | q2
  ·(try rw[q2])
   have nq2:(nm.toList != [])=false:=by simp only[bne,q2];rfl
   go_wp2_with fail
   refine(bo u 0 0 _).mono ?_;rintro e w2 ⟨rfl,hb2⟩;replace hB:=(al hB hb2)
   have zw2:=hB.size;replace c0_3:=af hb2 c0_3;replace c0_4:=af hb2 c0_4;replace c0_5:=af hb2 c0_5;replace c0_6:=af hb2 c0_6;replace c0_7:=af hb2 c0_7;have d0_w2:=World.block_lt_of_cell? _ _ c0_3
   rcases Bool.eq_false_or_eq_true (aC u 0 0) with q3 | q3
   ·(try rw[q3])
    have Hq3:=zq q3;clear q3
    go_wp2_with fail
    refine(H2.out _ hB).mono ?_;rintro e w3 ⟨rfl,hb3⟩;replace hB:=(al hB hb3)
    have zw3:=hB.size;replace c0_5:=af hb3 c0_5;replace c0_6:=af hb3 c0_6;replace c0_7:=af hb3 c0_7;have d0_w3:=World.block_lt_of_cell? _ _ c0_5
    rcases Bool.eq_false_or_eq_true (n1) with q4 | q4
    ·(try rw[q4])
     have Hq4:=zq q4;clear q4
     rcases Bool.eq_false_or_eq_true (n2) with q5 | q5
     ·have Hq5:=zq q5
      clear q5
      go_wp2_with fail
      refine(H4.out _ hB).mono ?_;rintro e w4 ⟨rfl,hb4⟩;rw[Hq5.out];replace hB:=(al hB hb4)
      have zw4:=hB.size;replace c0_7:=af hb4 c0_7;have d0_w4:=World.block_lt_of_cell? _ _ c0_7
      rcases Bool.eq_false_or_eq_true (l==0) with q6 | q6
      ·(try rw[q6])
       have nq6:(l != 0)=false:=by simp only[bne,q6];rfl
       go_wp2_with fail
       refine bq (.bool (true)) (by simp[results,Try.results35,go_sem,bne]) ?_
       exact⟨au ((fg k u l nm m tv n1 n2 cv z0 z1 z2 z3 z4 q1 q2 Hq3.out Hq4.out Hq5.out q6).trans HT.out),hB⟩
      ·(try rw[q6])
       have nq6:(l != 0)=true:=by simp only[bne,q6];rfl
       go_wp2_with fail
       refine bq (.bool (false)) (by simp[results,Try.results35,go_sem,bne]) ?_
       exact⟨au ((fh k u l nm m tv n1 n2 cv z0 z1 z2 z3 z4 q1 q2 Hq3.out Hq4.out Hq5.out q6).trans HT.out),hB⟩
     ·have Hq5:=zq q5
      clear q5
      go_wp2_with fail
      refine(H4.out _ hB).mono ?_;rintro e w5 ⟨rfl,hb5⟩;rw[Hq5.out];replace hB:=(al hB hb5)
      have zw5:=hB.size
      go_wp2_with fail
      refine bq (.bool (false)) (by simp[results,Try.results35,go_sem,bne]) ?_
      exact⟨au ((fi k u l nm m tv n1 n2 cv z0 z1 z2 z3 z4 q1 q2 Hq3.out Hq4.out Hq5.out).trans HT.out),hB⟩
    ·(try rw[q4])
     have Hq4:=zq q4;clear q4
     go_wp2_with fail
     refine bq (.bool (false)) (by simp[results,Try.results35,go_sem,bne]) ?_
     exact⟨au ((fj k u l nm m tv n1 n2 cv z0 z1 z2 z3 z4 q1 q2 Hq3.out Hq4.out).trans HT.out),hB⟩
   ·(try rw[q3])
    have Hq3:=zq q3;clear q3
    go_wp2_with fail
    refine bq (.bool (false)) (by simp[results,Try.results35,go_sem,bne]) ?_
    exact⟨au ((fl k u l nm m tv n1 n2 cv z0 z1 z2 z3 z4 q1 q2 Hq3.out).trans HT.out),hB⟩
  ·(try rw[q2])
   have nq2:(nm.toList != [])=true:=by simp only[bne,q2];rfl
   go_wp2_with fail
   refine bq (.bool (false)) (by simp[results,Try.results35,go_sem,bne]) ?_
   exact⟨au ((fm k u l nm m tv n1 n2 cv z0 z1 z2 z3 z4 q1 q2).trans HT.out),hB⟩
 ·(try rw[q1])
  go_wp2_with fail
  refine bq (.bool (false)) (by simp[results,Try.results35,go_sem,bne]) ?_
  exact⟨au ((fo k u l nm m tv n1 n2 cv z0 z1 z2 z3 z4 q1).trans HT.out),hB⟩
end Go.Proofs.Ytfhglkmjibjjoaa

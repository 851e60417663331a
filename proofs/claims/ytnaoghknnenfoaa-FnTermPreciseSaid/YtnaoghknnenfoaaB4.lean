/-
  The check of a node of a term: kinds 1, 2, 5.
  The check of a node of a term: kinds 13, 14, k.
-/
import Derived.Test.YtnaoghknnenfoaaB1
set_option linter.unusedSimpArgs false
set_option linter.unusedVariables false
set_option maxRecDepth 100000
namespace Go.Proofs.Ytnaoghknnenfoaa
open Go.RowKit
theorem gb (u l:Int)(nm:ByteArray)(m:Nat)(tv n1 n2 cv:Bool)(h0:((aJ 1)==(m:Int))=true)(h1:(aN nm)=true)(h2:(aA u 0 0)=true)(h3:(n1)=true)(h4:(n2)=true)(h5:(l==0)=true):(true:Bool)=(nodeB 1 u l nm m tv n1 n2 cv):=by
 first | (simp_all [nodeB,ownB];done) | grind [nodeB,ownB,aA]
theorem fs (u l:Int)(nm:ByteArray)(m:Nat)(tv n1 n2 cv:Bool)(h0:((aJ 1)==(m:Int))=true)(h1:(aN nm)=true)(h2:(aA u 0 0)=true)(h3:(n1)=true)(h4:(n2)=true)(h5:(l==0)=false):(false:Bool)=(nodeB 1 u l nm m tv n1 n2 cv):=by
 first | (simp_all [nodeB,ownB];done) | grind [nodeB,ownB,aA]
theorem gf (u l:Int)(nm:ByteArray)(m:Nat)(tv n1 n2 cv:Bool)(h0:((aJ 1)==(m:Int))=true)(h1:(aN nm)=true)(h2:(aA u 0 0)=true)(h3:(n1)=true)(h4:(n2)=false):(false:Bool)=(nodeB 1 u l nm m tv n1 n2 cv):=by
 first | (simp_all [nodeB,ownB];done) | grind [nodeB,ownB,aA]
theorem fG (u l:Int)(nm:ByteArray)(m:Nat)(tv n1 n2 cv:Bool)(h0:((aJ 1)==(m:Int))=true)(h1:(aN nm)=true)(h2:(aA u 0 0)=true)(h3:(n1)=false):(false:Bool)=(nodeB 1 u l nm m tv n1 n2 cv):=by
 first | (simp_all [nodeB,ownB];done) | grind [nodeB,ownB,aA]
theorem fz (u l:Int)(nm:ByteArray)(m:Nat)(tv n1 n2 cv:Bool)(h0:((aJ 1)==(m:Int))=true)(h1:(aN nm)=true)(h2:(aA u 0 0)=false):(false:Bool)=(nodeB 1 u l nm m tv n1 n2 cv):=by
 first | (simp_all [nodeB,ownB];done) | grind [nodeB,ownB,aA]
theorem fu (u l:Int)(nm:ByteArray)(m:Nat)(tv n1 n2 cv:Bool)(h0:((aJ 1)==(m:Int))=true)(h1:(aN nm)=false):(false:Bool)=(nodeB 1 u l nm m tv n1 n2 cv):=by
 first | (simp_all [nodeB,ownB];done) | grind [nodeB,ownB,aA]
theorem fw (u l:Int)(nm:ByteArray)(m:Nat)(tv n1 n2 cv:Bool)(h0:((aJ 1)==(m:Int))=false):(false:Bool)=(nodeB 1 u l nm m tv n1 n2 cv):=by
 first | (simp_all [nodeB,ownB];done) | grind [nodeB,ownB,aA]
theorem gh (u l:Int)(nm:ByteArray)(m:Nat)(tv n1 n2 cv:Bool)(h0:((aJ 2)==(m:Int))=true)(h1:(nm.toList == [])=true)(h2:(aA u 0 999)=true)(h3:(n1)=true)(h4:(n2)=true)(h5:(l==0)=true):(true:Bool)=(nodeB 2 u l nm m tv n1 n2 cv):=by
 first | (simp_all [nodeB,ownB];done) | grind [nodeB,ownB,aA]
theorem fJ (u l:Int)(nm:ByteArray)(m:Nat)(tv n1 n2 cv:Bool)(h0:((aJ 2)==(m:Int))=true)(h1:(nm.toList == [])=true)(h2:(aA u 0 999)=true)(h3:(n1)=true)(h4:(n2)=true)(h5:(l==0)=false):(false:Bool)=(nodeB 2 u l nm m tv n1 n2 cv):=by
 first | (simp_all [nodeB,ownB];done) | grind [nodeB,ownB,aA]
theorem fg (u l:Int)(nm:ByteArray)(m:Nat)(tv n1 n2 cv:Bool)(h0:((aJ 2)==(m:Int))=true)(h1:(nm.toList == [])=true)(h2:(aA u 0 999)=true)(h3:(n1)=true)(h4:(n2)=false):(false:Bool)=(nodeB 2 u l nm m tv n1 n2 cv):=by
 first | (simp_all [nodeB,ownB];done) | grind [nodeB,ownB,aA]
theorem ey (u l:Int)(nm:ByteArray)(m:Nat)(tv n1 n2 cv:Bool)(h0:((aJ 2)==(m:Int))=true)(h1:(nm.toList == [])=true)(h2:(aA u 0 999)=true)(h3:(n1)=false):(false:Bool)=(nodeB 2 u l nm m tv n1 n2 cv):=by
 first | (simp_all [nodeB,ownB];done) | grind [nodeB,ownB,aA]
theorem eV (u l:Int)(nm:ByteArray)(m:Nat)(tv n1 n2 cv:Bool)(h0:((aJ 2)==(m:Int))=true)(h1:(nm.toList == [])=true)(h2:(aA u 0 999)=false):(false:Bool)=(nodeB 2 u l nm m tv n1 n2 cv):=by
 first | (simp_all [nodeB,ownB];done) | grind [nodeB,ownB,aA]
theorem eS (u l:Int)(nm:ByteArray)(m:Nat)(tv n1 n2 cv:Bool)(h0:((aJ 2)==(m:Int))=true)(h1:(nm.toList == [])=false):(false:Bool)=(nodeB 2 u l nm m tv n1 n2 cv):=by
 first | (simp_all [nodeB,ownB];done) | grind [nodeB,ownB,aA]
theorem eZ (u l:Int)(nm:ByteArray)(m:Nat)(tv n1 n2 cv:Bool)(h0:((aJ 2)==(m:Int))=false):(false:Bool)=(nodeB 2 u l nm m tv n1 n2 cv):=by
 first | (simp_all [nodeB,ownB];done) | grind [nodeB,ownB,aA]
theorem eW (u l:Int)(nm:ByteArray)(m:Nat)(tv n1 n2 cv:Bool)(h0:((aJ 5)==(m:Int))=true)(h1:(aN nm)=true)(h2:(aA u 0 0)=true)(h3:(tv)=true)(h4:(n2)=true)(h5:(l==0)=true):(true:Bool)=(nodeB 5 u l nm m tv n1 n2 cv):=by
 first | (simp_all [nodeB,ownB];done) | grind [nodeB,ownB,aA]
theorem eR (u l:Int)(nm:ByteArray)(m:Nat)(tv n1 n2 cv:Bool)(h0:((aJ 5)==(m:Int))=true)(h1:(aN nm)=true)(h2:(aA u 0 0)=true)(h3:(tv)=true)(h4:(n2)=true)(h5:(l==0)=false):(false:Bool)=(nodeB 5 u l nm m tv n1 n2 cv):=by
 first | (simp_all [nodeB,ownB];done) | grind [nodeB,ownB,aA]
theorem fb (u l:Int)(nm:ByteArray)(m:Nat)(tv n1 n2 cv:Bool)(h0:((aJ 5)==(m:Int))=true)(h1:(aN nm)=true)(h2:(aA u 0 0)=true)(h3:(tv)=true)(h4:(n2)=false):(false:Bool)=(nodeB 5 u l nm m tv n1 n2 cv):=by
 first | (simp_all [nodeB,ownB];done) | grind [nodeB,ownB,aA]
theorem ex (u l:Int)(nm:ByteArray)(m:Nat)(tv n1 n2 cv:Bool)(h0:((aJ 5)==(m:Int))=true)(h1:(aN nm)=true)(h2:(aA u 0 0)=true)(h3:(tv)=false):(false:Bool)=(nodeB 5 u l nm m tv n1 n2 cv):=by
 first | (simp_all [nodeB,ownB];done) | grind [nodeB,ownB,aA]
theorem f9 (u l:Int)(nm:ByteArray)(m:Nat)(tv n1 n2 cv:Bool)(h0:((aJ 5)==(m:Int))=true)(h1:(aN nm)=true)(h2:(aA u 0 0)=false):(false:Bool)=(nodeB 5 u l nm m tv n1 n2 cv):=by
 first | (simp_all [nodeB,ownB];done) | grind [nodeB,ownB,aA]
theorem eO (u l:Int)(nm:ByteArray)(m:Nat)(tv n1 n2 cv:Bool)(h0:((aJ 5)==(m:Int))=true)(h1:(aN nm)=false):(false:Bool)=(nodeB 5 u l nm m tv n1 n2 cv):=by
 first | (simp_all [nodeB,ownB];done) | grind [nodeB,ownB,aA]
theorem ew (u l:Int)(nm:ByteArray)(m:Nat)(tv n1 n2 cv:Bool)(h0:((aJ 5)==(m:Int))=false):(false:Bool)=(nodeB 5 u l nm m tv n1 n2 cv):=by
 first | (simp_all [nodeB,ownB];done) | grind [nodeB,ownB,aA]
set_option maxHeartbeats 4000000 in
theorem ob (u tk fk l:Int)(nm:ByteArray)(ta fa c:Option Addr)(tn tq fn fq m q:Nat)(w:World)(tv n1 n2 cv:Bool)(H1:Hid (∀W,Below w.heap.size w W→Calls Try.prog 60 #[.agg #[.int .i64 tk,.slice ta tn tq]] W fun e W'=>e = .returned (.bool (tv))∧Below W.heap.size W W'))(H2:Hid (∀W,Below w.heap.size w W→Calls Try.prog 61 #[.agg #[.int .i64 tk,.slice ta tn tq]] W fun e W'=>e = .returned (.bool (n1))∧Below W.heap.size W W'))(H4:Hid (∀W,Below w.heap.size w W→Calls Try.prog 61 #[.agg #[.int .i64 fk,.slice fa fn fq]] W fun e W'=>e = .returned (.bool (n2))∧Below W.heap.size W W'))(H3:Hid (∀W,Below w.heap.size w W→Calls Try.prog 62 #[.agg #[.int .i64 fk,.slice fa fn fq],.agg #[.int .i64 tk,.slice ta tn tq]] W fun e W'=>e = .returned (.bool (cv))∧Below W.heap.size W W')) :
  Calls Try.prog 37 #[.agg #[.int .i64 1,.string nm,.int .i64 u,.int .i64 tk,.slice ta tn tq,.int .i64 fk,.slice fa fn fq,.int .i64 l,.slice c m q]] w fun e w'=>e = .returned (.bool (nodeB 1 u l nm m tv n1 n2 cv))∧Below w.heap.size w w':=by
 obtain⟨rr,hrr⟩ : ∃rr0:Bool,(nodeB 1 u l nm m tv n1 n2 cv)=rr0:=⟨_,rfl⟩
 rw [hrr]
 have HT:=Lib.hid hrr
 clear hrr
 go_enter Try.func37,Try.ntmps37
 go_wp2_with fail
 have s0_:(World.alloc w (Obj.cells #[.int .i64 1,.string nm,.int .i64 u,.int .i64 tk,.slice ta tn tq,.int .i64 fk,.slice fa fn fq,.int .i64 l,.slice c m q] 28)).cell? ⟨w.heap.size,0,none⟩=some (.int .i64 1):=aj (by simp) 0
 have s1_:(World.alloc w (Obj.cells #[.int .i64 1,.string nm,.int .i64 u,.int .i64 tk,.slice ta tn tq,.int .i64 fk,.slice fa fn fq,.int .i64 l,.slice c m q] 28)).cell? ⟨w.heap.size,8,none⟩=some (.slice c m q):=aj (by simp) 8
 have hS0:=Lib.hid (show(World.drew (World.alloc w (Obj.cells #[.int .i64 1,.string nm,.int .i64 u,.int .i64 tk,.slice ta tn tq,.int .i64 fk,.slice fa fn fq,.int .i64 l,.slice c m q] 28))).cell? ⟨w.heap.size,0,none⟩=some (.int .i64 1)∧(World.drew (World.alloc w (Obj.cells #[.int .i64 1,.string nm,.int .i64 u,.int .i64 tk,.slice ta tn tq,.int .i64 fk,.slice fa fn fq,.int .i64 l,.slice c m q] 28))).cell? ⟨w.heap.size,8,none⟩=some (.slice c m q) from⟨ay (s0_),ay (s1_)⟩)
 have hSb:=Lib.hid (show ∀X Y:World,Below X.heap.size X Y→(X.cell? ⟨w.heap.size,0,none⟩=some (.int .i64 1)∧X.cell? ⟨w.heap.size,8,none⟩=some (.slice c m q))→(Y.cell? ⟨w.heap.size,0,none⟩=some (.int .i64 1)∧Y.cell? ⟨w.heap.size,8,none⟩=some (.slice c m q)) from fun X Y h s=>⟨a9 h s.1,a9 h s.2⟩)
 go_region_held3 (fun w'=>w'.cell? ⟨w.heap.size,0,none⟩=some (.int .i64 1)∧w'.cell? ⟨w.heap.size,8,none⟩=some (.slice c m q))
  (repeat (first | with_reducible refine hSb.out _ _ hb1 ?_ | with_reducible exact hS0.out))
  (first | (go_at_call 57;((with_reducible refine(cz 1 _).mono ?_);rintro e w1 ⟨rfl,hb1⟩)))
 clear s0_ s1_
 have hB:=(ai ah.drew hb1)
 have zw1:=hB.size
 have c0_0:w1.cell? ⟨w.heap.size,0,none⟩=some (.int .i64 1):=a9 hb1 (ay (aj (by simp) 0))
 have c0_1:w1.cell? ⟨w.heap.size,1,none⟩=some (.string nm):=a9 hb1 (ay (aj (by simp) 1))
 have c0_2:w1.cell? ⟨w.heap.size,2,none⟩=some (.int .i64 u):=a9 hb1 (ay (aj (by simp) 2))
 have c0_3:w1.cell? ⟨w.heap.size,3,none⟩=some (.int .i64 tk):=a9 hb1 (ay (aj (by simp) 3))
 have c0_4:w1.cell? ⟨w.heap.size,4,none⟩=some (.slice ta tn tq):=a9 hb1 (ay (aj (by simp) 4))
 have c0_5:w1.cell? ⟨w.heap.size,5,none⟩=some (.int .i64 fk):=a9 hb1 (ay (aj (by simp) 5))
 have c0_6:w1.cell? ⟨w.heap.size,6,none⟩=some (.slice fa fn fq):=a9 hb1 (ay (aj (by simp) 6))
 have c0_7:w1.cell? ⟨w.heap.size,7,none⟩=some (.int .i64 l):=a9 hb1 (ay (aj (by simp) 7))
 have d0_w1:=World.block_lt_of_cell? _ _ c0_0
 rcases Bool.eq_false_or_eq_true ((aJ 1)==(m:Int)) with q1 | q1
 ·(try rw [q1])
  go_wp2_with fail
  refine(i6 nm _).mono ?_
  rintro e w2 ⟨rfl,hb2⟩
  replace hB:=(ai hB hb2)
  have zw2:=hB.size
  replace c0_2:w2.cell? ⟨w.heap.size,2,none⟩=some (.int .i64 u):=a9 hb2 (c0_2)
  replace c0_3:w2.cell? ⟨w.heap.size,3,none⟩=some (.int .i64 tk):=a9 hb2 (c0_3)
  replace c0_4:w2.cell? ⟨w.heap.size,4,none⟩=some (.slice ta tn tq):=a9 hb2 (c0_4)
  replace c0_5:w2.cell? ⟨w.heap.size,5,none⟩=some (.int .i64 fk):=a9 hb2 (c0_5)
  replace c0_6:w2.cell? ⟨w.heap.size,6,none⟩=some (.slice fa fn fq):=a9 hb2 (c0_6)
  replace c0_7:w2.cell? ⟨w.heap.size,7,none⟩=some (.int .i64 l):=a9 hb2 (c0_7)
  have d0_w2:=World.block_lt_of_cell? _ _ c0_2
  rcases Bool.eq_false_or_eq_true (aN nm) with q2 | q2
  ·(try rw [q2])
   have Hq2:=Lib.hid q2
   clear q2
   go_wp2_with fail
   refine(b9 u 0 0 _).mono ?_
   rintro e w3 ⟨rfl,hb3⟩
   replace hB:=(ai hB hb3)
   have zw3:=hB.size
   replace c0_3:w3.cell? ⟨w.heap.size,3,none⟩=some (.int .i64 tk):=a9 hb3 (c0_3)
   replace c0_4:w3.cell? ⟨w.heap.size,4,none⟩=some (.slice ta tn tq):=a9 hb3 (c0_4)
   replace c0_5:w3.cell? ⟨w.heap.size,5,none⟩=some (.int .i64 fk):=a9 hb3 (c0_5)
   replace c0_6:w3.cell? ⟨w.heap.size,6,none⟩=some (.slice fa fn fq):=a9 hb3 (c0_6)
   replace c0_7:w3.cell? ⟨w.heap.size,7,none⟩=some (.int .i64 l):=a9 hb3 (c0_7)
   have d0_w3:=World.block_lt_of_cell? _ _ c0_3
   rcases Bool.eq_false_or_eq_true (aA u 0 0) with q3 | q3
   ·(try rw [q3])
    have Hq3:=Lib.hid q3
    clear q3
    go_wp2_with fail
    refine(H2.out _ hB).mono ?_
    rintro e w4 ⟨rfl,hb4⟩
    replace hB:=(ai hB hb4)
    have zw4:=hB.size
    replace c0_5:w4.cell? ⟨w.heap.size,5,none⟩=some (.int .i64 fk):=a9 hb4 (c0_5)
    replace c0_6:w4.cell? ⟨w.heap.size,6,none⟩=some (.slice fa fn fq):=a9 hb4 (c0_6)
    replace c0_7:w4.cell? ⟨w.heap.size,7,none⟩=some (.int .i64 l):=a9 hb4 (c0_7)
    have d0_w4:=World.block_lt_of_cell? _ _ c0_5
    rcases Bool.eq_false_or_eq_true (n1) with q4 | q4
    ·(try rw [q4])
     have Hq4:=Lib.hid q4
     clear q4
     rcases Bool.eq_false_or_eq_true (n2) with q5 | q5
     ·have Hq5:=Lib.hid q5
      clear q5
      go_wp2_with fail
      refine(H4.out _ hB).mono ?_
      rintro e w5 ⟨rfl,hb5⟩
      rw [Hq5.out]
      replace hB:=(ai hB hb5)
      have zw5:=hB.size
      replace c0_7:w5.cell? ⟨w.heap.size,7,none⟩=some (.int .i64 l):=a9 hb5 (c0_7)
      have d0_w5:=World.block_lt_of_cell? _ _ c0_7
      rcases Bool.eq_false_or_eq_true (l==0) with q6 | q6
      ·(try rw [q6])
       have nq6:(l != 0)=false:=by simp only [bne,q6];rfl
       go_wp2_with fail
       refine bodyPost_ret (v:=.bool (true)) (by simp [results,Try.results37,go_sem,bne]) rfl ?_
       exact⟨au ((gb u l nm m tv n1 n2 cv q1 Hq2.out Hq3.out Hq4.out Hq5.out q6).trans HT.out),hB⟩
      ·(try rw [q6])
       have nq6:(l != 0)=true:=by simp only [bne,q6];rfl
       go_wp2_with fail
       refine bodyPost_ret (v:=.bool (false)) (by simp [results,Try.results37,go_sem,bne]) rfl ?_
       exact⟨au ((fs u l nm m tv n1 n2 cv q1 Hq2.out Hq3.out Hq4.out Hq5.out q6).trans HT.out),hB⟩
     ·have Hq5:=Lib.hid q5
      clear q5
      go_wp2_with fail
      refine(H4.out _ hB).mono ?_
      rintro e w6 ⟨rfl,hb6⟩
      rw [Hq5.out]
      replace hB:=(ai hB hb6)
      have zw6:=hB.size
      go_wp2_with fail
      refine bodyPost_ret (v:=.bool (false)) (by simp [results,Try.results37,go_sem,bne]) rfl ?_
      exact⟨au ((gf u l nm m tv n1 n2 cv q1 Hq2.out Hq3.out Hq4.out Hq5.out).trans HT.out),hB⟩
    ·(try rw [q4])
     have Hq4:=Lib.hid q4
     clear q4
     go_wp2_with fail
     refine bodyPost_ret (v:=.bool (false)) (by simp [results,Try.results37,go_sem,bne]) rfl ?_
     exact⟨au ((fG u l nm m tv n1 n2 cv q1 Hq2.out Hq3.out Hq4.out).trans HT.out),hB⟩
   ·(try rw [q3])
    have Hq3:=Lib.hid q3
    clear q3
    go_wp2_with fail
    refine bodyPost_ret (v:=.bool (false)) (by simp [results,Try.results37,go_sem,bne]) rfl ?_
    exact⟨au ((fz u l nm m tv n1 n2 cv q1 Hq2.out Hq3.out).trans HT.out),hB⟩
  ·(try rw [q2])
   have Hq2:=Lib.hid q2
   clear q2
   go_wp2_with fail
   refine bodyPost_ret (v:=.bool (false)) (by simp [results,Try.results37,go_sem,bne]) rfl ?_
   exact⟨au ((fu u l nm m tv n1 n2 cv q1 Hq2.out).trans HT.out),hB⟩
 ·(try rw [q1])
  go_wp2_with fail
  refine bodyPost_ret (v:=.bool (false)) (by simp [results,Try.results37,go_sem,bne]) rfl ?_
  exact⟨au ((fw u l nm m tv n1 n2 cv q1).trans HT.out),hB⟩
set_option maxHeartbeats 4000000 in
theorem oe (u tk fk l:Int)(nm:ByteArray)(ta fa c:Option Addr)(tn tq fn fq m q:Nat)(w:World)(tv n1 n2 cv:Bool)(H1:Hid (∀W,Below w.heap.size w W→Calls Try.prog 60 #[.agg #[.int .i64 tk,.slice ta tn tq]] W fun e W'=>e = .returned (.bool (tv))∧Below W.heap.size W W'))(H2:Hid (∀W,Below w.heap.size w W→Calls Try.prog 61 #[.agg #[.int .i64 tk,.slice ta tn tq]] W fun e W'=>e = .returned (.bool (n1))∧Below W.heap.size W W'))(H4:Hid (∀W,Below w.heap.size w W→Calls Try.prog 61 #[.agg #[.int .i64 fk,.slice fa fn fq]] W fun e W'=>e = .returned (.bool (n2))∧Below W.heap.size W W'))(H3:Hid (∀W,Below w.heap.size w W→Calls Try.prog 62 #[.agg #[.int .i64 fk,.slice fa fn fq],.agg #[.int .i64 tk,.slice ta tn tq]] W fun e W'=>e = .returned (.bool (cv))∧Below W.heap.size W W')) :
  Calls Try.prog 37 #[.agg #[.int .i64 2,.string nm,.int .i64 u,.int .i64 tk,.slice ta tn tq,.int .i64 fk,.slice fa fn fq,.int .i64 l,.slice c m q]] w fun e w'=>e = .returned (.bool (nodeB 2 u l nm m tv n1 n2 cv))∧Below w.heap.size w w':=by
 obtain⟨rr,hrr⟩ : ∃rr0:Bool,(nodeB 2 u l nm m tv n1 n2 cv)=rr0:=⟨_,rfl⟩
 rw [hrr]
 have HT:=Lib.hid hrr
 clear hrr
 go_enter Try.func37,Try.ntmps37
 go_wp2_with fail
 have s0_:(World.alloc w (Obj.cells #[.int .i64 2,.string nm,.int .i64 u,.int .i64 tk,.slice ta tn tq,.int .i64 fk,.slice fa fn fq,.int .i64 l,.slice c m q] 28)).cell? ⟨w.heap.size,0,none⟩=some (.int .i64 2):=aj (by simp) 0
 have s1_:(World.alloc w (Obj.cells #[.int .i64 2,.string nm,.int .i64 u,.int .i64 tk,.slice ta tn tq,.int .i64 fk,.slice fa fn fq,.int .i64 l,.slice c m q] 28)).cell? ⟨w.heap.size,8,none⟩=some (.slice c m q):=aj (by simp) 8
 have hS0:=Lib.hid (show(World.drew (World.alloc w (Obj.cells #[.int .i64 2,.string nm,.int .i64 u,.int .i64 tk,.slice ta tn tq,.int .i64 fk,.slice fa fn fq,.int .i64 l,.slice c m q] 28))).cell? ⟨w.heap.size,0,none⟩=some (.int .i64 2)∧(World.drew (World.alloc w (Obj.cells #[.int .i64 2,.string nm,.int .i64 u,.int .i64 tk,.slice ta tn tq,.int .i64 fk,.slice fa fn fq,.int .i64 l,.slice c m q] 28))).cell? ⟨w.heap.size,8,none⟩=some (.slice c m q) from⟨ay (s0_),ay (s1_)⟩)
 have hSb:=Lib.hid (show ∀X Y:World,Below X.heap.size X Y→(X.cell? ⟨w.heap.size,0,none⟩=some (.int .i64 2)∧X.cell? ⟨w.heap.size,8,none⟩=some (.slice c m q))→(Y.cell? ⟨w.heap.size,0,none⟩=some (.int .i64 2)∧Y.cell? ⟨w.heap.size,8,none⟩=some (.slice c m q)) from fun X Y h s=>⟨a9 h s.1,a9 h s.2⟩)
 go_region_held3 (fun w'=>w'.cell? ⟨w.heap.size,0,none⟩=some (.int .i64 2)∧w'.cell? ⟨w.heap.size,8,none⟩=some (.slice c m q))
  (repeat (first | with_reducible refine hSb.out _ _ hb1 ?_ | with_reducible exact hS0.out))
  (first | (go_at_call 57;((with_reducible refine(cz 2 _).mono ?_);rintro e w1 ⟨rfl,hb1⟩)))
 clear s0_ s1_
 have hB:=(ai ah.drew hb1)
 have zw1:=hB.size
 have c0_0:w1.cell? ⟨w.heap.size,0,none⟩=some (.int .i64 2):=a9 hb1 (ay (aj (by simp) 0))
 have c0_1:w1.cell? ⟨w.heap.size,1,none⟩=some (.string nm):=a9 hb1 (ay (aj (by simp) 1))
 have c0_2:w1.cell? ⟨w.heap.size,2,none⟩=some (.int .i64 u):=a9 hb1 (ay (aj (by simp) 2))
 have c0_3:w1.cell? ⟨w.heap.size,3,none⟩=some (.int .i64 tk):=a9 hb1 (ay (aj (by simp) 3))
 have c0_4:w1.cell? ⟨w.heap.size,4,none⟩=some (.slice ta tn tq):=a9 hb1 (ay (aj (by simp) 4))
 have c0_5:w1.cell? ⟨w.heap.size,5,none⟩=some (.int .i64 fk):=a9 hb1 (ay (aj (by simp) 5))
 have c0_6:w1.cell? ⟨w.heap.size,6,none⟩=some (.slice fa fn fq):=a9 hb1 (ay (aj (by simp) 6))
 have c0_7:w1.cell? ⟨w.heap.size,7,none⟩=some (.int .i64 l):=a9 hb1 (ay (aj (by simp) 7))
 have d0_w1:=World.block_lt_of_cell? _ _ c0_0
 rcases Bool.eq_false_or_eq_true ((aJ 2)==(m:Int)) with q1 | q1
 ·(try rw [q1])
  rcases Bool.eq_false_or_eq_true (nm.toList == []) with q2 | q2
  ·(try rw [q2])
   have nq2:(nm.toList != [])=false:=by simp only [bne,q2];rfl
   go_wp2_with fail
   refine(b9 u 0 999 _).mono ?_
   rintro e w2 ⟨rfl,hb2⟩
   replace hB:=(ai hB hb2)
   have zw2:=hB.size
   replace c0_3:w2.cell? ⟨w.heap.size,3,none⟩=some (.int .i64 tk):=a9 hb2 (c0_3)
   replace c0_4:w2.cell? ⟨w.heap.size,4,none⟩=some (.slice ta tn tq):=a9 hb2 (c0_4)
   replace c0_5:w2.cell? ⟨w.heap.size,5,none⟩=some (.int .i64 fk):=a9 hb2 (c0_5)
   replace c0_6:w2.cell? ⟨w.heap.size,6,none⟩=some (.slice fa fn fq):=a9 hb2 (c0_6)
   replace c0_7:w2.cell? ⟨w.heap.size,7,none⟩=some (.int .i64 l):=a9 hb2 (c0_7)
   have d0_w2:=World.block_lt_of_cell? _ _ c0_3
   rcases Bool.eq_false_or_eq_true (aA u 0 999) with q3 | q3
   ·(try rw [q3])
    have Hq3:=Lib.hid q3
    clear q3
    go_wp2_with fail
    refine(H2.out _ hB).mono ?_
    rintro e w3 ⟨rfl,hb3⟩
    replace hB:=(ai hB hb3)
    have zw3:=hB.size
    replace c0_5:w3.cell? ⟨w.heap.size,5,none⟩=some (.int .i64 fk):=a9 hb3 (c0_5)
    replace c0_6:w3.cell? ⟨w.heap.size,6,none⟩=some (.slice fa fn fq):=a9 hb3 (c0_6)
    replace c0_7:w3.cell? ⟨w.heap.size,7,none⟩=some (.int .i64 l):=a9 hb3 (c0_7)
    have d0_w3:=World.block_lt_of_cell? _ _ c0_5
    rcases Bool.eq_false_or_eq_true (n1) with q4 | q4
    ·(try rw [q4])
     have Hq4:=Lib.hid q4
     clear q4
     rcases Bool.eq_false_or_eq_true (n2) with q5 | q5
     ·have Hq5:=Lib.hid q5
      clear q5
      go_wp2_with fail
      refine(H4.out _ hB).mono ?_
      rintro e w4 ⟨rfl,hb4⟩
      rw [Hq5.out]
      replace hB:=(ai hB hb4)
      have zw4:=hB.size
      replace c0_7:w4.cell? ⟨w.heap.size,7,none⟩=some (.int .i64 l):=a9 hb4 (c0_7)
      have d0_w4:=World.block_lt_of_cell? _ _ c0_7
      rcases Bool.eq_false_or_eq_true (l==0) with q6 | q6
      ·(try rw [q6])
       have nq6:(l != 0)=false:=by simp only [bne,q6];rfl
       go_wp2_with fail
       refine bodyPost_ret (v:=.bool (true)) (by simp [results,Try.results37,go_sem,bne]) rfl ?_
       exact⟨au ((gh u l nm m tv n1 n2 cv q1 q2 Hq3.out Hq4.out Hq5.out q6).trans HT.out),hB⟩
      ·(try rw [q6])
       have nq6:(l != 0)=true:=by simp only [bne,q6];rfl
       go_wp2_with fail
       refine bodyPost_ret (v:=.bool (false)) (by simp [results,Try.results37,go_sem,bne]) rfl ?_
       exact⟨au ((fJ u l nm m tv n1 n2 cv q1 q2 Hq3.out Hq4.out Hq5.out q6).trans HT.out),hB⟩
     ·have Hq5:=Lib.hid q5
      clear q5
      go_wp2_with fail
      refine(H4.out _ hB).mono ?_
      rintro e w5 ⟨rfl,hb5⟩
      rw [Hq5.out]
      replace hB:=(ai hB hb5)
      have zw5:=hB.size
      go_wp2_with fail
      refine bodyPost_ret (v:=.bool (false)) (by simp [results,Try.results37,go_sem,bne]) rfl ?_
      exact⟨au ((fg u l nm m tv n1 n2 cv q1 q2 Hq3.out Hq4.out Hq5.out).trans HT.out),hB⟩
    ·(try rw [q4])
     have Hq4:=Lib.hid q4
     clear q4
     go_wp2_with fail
     refine bodyPost_ret (v:=.bool (false)) (by simp [results,Try.results37,go_sem,bne]) rfl ?_
     exact⟨au ((ey u l nm m tv n1 n2 cv q1 q2 Hq3.out Hq4.out).trans HT.out),hB⟩
   ·(try rw [q3])
    have Hq3:=Lib.hid q3
    clear q3
    go_wp2_with fail
    refine bodyPost_ret (v:=.bool (false)) (by simp [results,Try.results37,go_sem,bne]) rfl ?_
    exact⟨au ((eV u l nm m tv n1 n2 cv q1 q2 Hq3.out).trans HT.out),hB⟩
  ·(try rw [q2])
   have nq2:(nm.toList != [])=true:=by simp only [bne,q2];rfl
   go_wp2_with fail
   refine bodyPost_ret (v:=.bool (false)) (by simp [results,Try.results37,go_sem,bne]) rfl ?_
   exact⟨au ((eS u l nm m tv n1 n2 cv q1 q2).trans HT.out),hB⟩
 ·(try rw [q1])
  go_wp2_with fail
  refine bodyPost_ret (v:=.bool (false)) (by simp [results,Try.results37,go_sem,bne]) rfl ?_
  exact⟨au ((eZ u l nm m tv n1 n2 cv q1).trans HT.out),hB⟩
set_option maxHeartbeats 4000000 in
theorem lI (u tk fk l:Int)(nm:ByteArray)(ta fa c:Option Addr)(tn tq fn fq m q:Nat)(w:World)(tv n1 n2 cv:Bool)(H1:Hid (∀W,Below w.heap.size w W→Calls Try.prog 60 #[.agg #[.int .i64 tk,.slice ta tn tq]] W fun e W'=>e = .returned (.bool (tv))∧Below W.heap.size W W'))(H2:Hid (∀W,Below w.heap.size w W→Calls Try.prog 61 #[.agg #[.int .i64 tk,.slice ta tn tq]] W fun e W'=>e = .returned (.bool (n1))∧Below W.heap.size W W'))(H4:Hid (∀W,Below w.heap.size w W→Calls Try.prog 61 #[.agg #[.int .i64 fk,.slice fa fn fq]] W fun e W'=>e = .returned (.bool (n2))∧Below W.heap.size W W'))(H3:Hid (∀W,Below w.heap.size w W→Calls Try.prog 62 #[.agg #[.int .i64 fk,.slice fa fn fq],.agg #[.int .i64 tk,.slice ta tn tq]] W fun e W'=>e = .returned (.bool (cv))∧Below W.heap.size W W')) :
  Calls Try.prog 37 #[.agg #[.int .i64 5,.string nm,.int .i64 u,.int .i64 tk,.slice ta tn tq,.int .i64 fk,.slice fa fn fq,.int .i64 l,.slice c m q]] w fun e w'=>e = .returned (.bool (nodeB 5 u l nm m tv n1 n2 cv))∧Below w.heap.size w w':=by
 obtain⟨rr,hrr⟩ : ∃rr0:Bool,(nodeB 5 u l nm m tv n1 n2 cv)=rr0:=⟨_,rfl⟩
 rw [hrr]
 have HT:=Lib.hid hrr
 clear hrr
 go_enter Try.func37,Try.ntmps37
 go_wp2_with fail
 have s0_:(World.alloc w (Obj.cells #[.int .i64 5,.string nm,.int .i64 u,.int .i64 tk,.slice ta tn tq,.int .i64 fk,.slice fa fn fq,.int .i64 l,.slice c m q] 28)).cell? ⟨w.heap.size,0,none⟩=some (.int .i64 5):=aj (by simp) 0
 have s1_:(World.alloc w (Obj.cells #[.int .i64 5,.string nm,.int .i64 u,.int .i64 tk,.slice ta tn tq,.int .i64 fk,.slice fa fn fq,.int .i64 l,.slice c m q] 28)).cell? ⟨w.heap.size,8,none⟩=some (.slice c m q):=aj (by simp) 8
 have hS0:=Lib.hid (show(World.drew (World.alloc w (Obj.cells #[.int .i64 5,.string nm,.int .i64 u,.int .i64 tk,.slice ta tn tq,.int .i64 fk,.slice fa fn fq,.int .i64 l,.slice c m q] 28))).cell? ⟨w.heap.size,0,none⟩=some (.int .i64 5)∧(World.drew (World.alloc w (Obj.cells #[.int .i64 5,.string nm,.int .i64 u,.int .i64 tk,.slice ta tn tq,.int .i64 fk,.slice fa fn fq,.int .i64 l,.slice c m q] 28))).cell? ⟨w.heap.size,8,none⟩=some (.slice c m q) from⟨ay (s0_),ay (s1_)⟩)
 have hSb:=Lib.hid (show ∀X Y:World,Below X.heap.size X Y→(X.cell? ⟨w.heap.size,0,none⟩=some (.int .i64 5)∧X.cell? ⟨w.heap.size,8,none⟩=some (.slice c m q))→(Y.cell? ⟨w.heap.size,0,none⟩=some (.int .i64 5)∧Y.cell? ⟨w.heap.size,8,none⟩=some (.slice c m q)) from fun X Y h s=>⟨a9 h s.1,a9 h s.2⟩)
 go_region_held3 (fun w'=>w'.cell? ⟨w.heap.size,0,none⟩=some (.int .i64 5)∧w'.cell? ⟨w.heap.size,8,none⟩=some (.slice c m q))
  (repeat (first | with_reducible refine hSb.out _ _ hb1 ?_ | with_reducible exact hS0.out))
  (first | (go_at_call 57;((with_reducible refine(cz 5 _).mono ?_);rintro e w1 ⟨rfl,hb1⟩)))
 clear s0_ s1_
 have hB:=(ai ah.drew hb1)
 have zw1:=hB.size
 have c0_0:w1.cell? ⟨w.heap.size,0,none⟩=some (.int .i64 5):=a9 hb1 (ay (aj (by simp) 0))
 have c0_1:w1.cell? ⟨w.heap.size,1,none⟩=some (.string nm):=a9 hb1 (ay (aj (by simp) 1))
 have c0_2:w1.cell? ⟨w.heap.size,2,none⟩=some (.int .i64 u):=a9 hb1 (ay (aj (by simp) 2))
 have c0_3:w1.cell? ⟨w.heap.size,3,none⟩=some (.int .i64 tk):=a9 hb1 (ay (aj (by simp) 3))
 have c0_4:w1.cell? ⟨w.heap.size,4,none⟩=some (.slice ta tn tq):=a9 hb1 (ay (aj (by simp) 4))
 have c0_5:w1.cell? ⟨w.heap.size,5,none⟩=some (.int .i64 fk):=a9 hb1 (ay (aj (by simp) 5))
 have c0_6:w1.cell? ⟨w.heap.size,6,none⟩=some (.slice fa fn fq):=a9 hb1 (ay (aj (by simp) 6))
 have c0_7:w1.cell? ⟨w.heap.size,7,none⟩=some (.int .i64 l):=a9 hb1 (ay (aj (by simp) 7))
 have d0_w1:=World.block_lt_of_cell? _ _ c0_0
 rcases Bool.eq_false_or_eq_true ((aJ 5)==(m:Int)) with q1 | q1
 ·(try rw [q1])
  go_wp2_with fail
  refine(i6 nm _).mono ?_
  rintro e w2 ⟨rfl,hb2⟩
  replace hB:=(ai hB hb2)
  have zw2:=hB.size
  replace c0_2:w2.cell? ⟨w.heap.size,2,none⟩=some (.int .i64 u):=a9 hb2 (c0_2)
  replace c0_3:w2.cell? ⟨w.heap.size,3,none⟩=some (.int .i64 tk):=a9 hb2 (c0_3)
  replace c0_4:w2.cell? ⟨w.heap.size,4,none⟩=some (.slice ta tn tq):=a9 hb2 (c0_4)
  replace c0_5:w2.cell? ⟨w.heap.size,5,none⟩=some (.int .i64 fk):=a9 hb2 (c0_5)
  replace c0_6:w2.cell? ⟨w.heap.size,6,none⟩=some (.slice fa fn fq):=a9 hb2 (c0_6)
  replace c0_7:w2.cell? ⟨w.heap.size,7,none⟩=some (.int .i64 l):=a9 hb2 (c0_7)
  have d0_w2:=World.block_lt_of_cell? _ _ c0_2
  rcases Bool.eq_false_or_eq_true (aN nm) with q2 | q2
  ·(try rw [q2])
   have Hq2:=Lib.hid q2
   clear q2
   go_wp2_with fail
   refine(b9 u 0 0 _).mono ?_
   rintro e w3 ⟨rfl,hb3⟩
   replace hB:=(ai hB hb3)
   have zw3:=hB.size
   replace c0_3:w3.cell? ⟨w.heap.size,3,none⟩=some (.int .i64 tk):=a9 hb3 (c0_3)
   replace c0_4:w3.cell? ⟨w.heap.size,4,none⟩=some (.slice ta tn tq):=a9 hb3 (c0_4)
   replace c0_5:w3.cell? ⟨w.heap.size,5,none⟩=some (.int .i64 fk):=a9 hb3 (c0_5)
   replace c0_6:w3.cell? ⟨w.heap.size,6,none⟩=some (.slice fa fn fq):=a9 hb3 (c0_6)
   replace c0_7:w3.cell? ⟨w.heap.size,7,none⟩=some (.int .i64 l):=a9 hb3 (c0_7)
   have d0_w3:=World.block_lt_of_cell? _ _ c0_3
   rcases Bool.eq_false_or_eq_true (aA u 0 0) with q3 | q3
   ·(try rw [q3])
    have Hq3:=Lib.hid q3
    clear q3
    go_wp2_with fail
    refine(H1.out _ hB).mono ?_
    rintro e w4 ⟨rfl,hb4⟩
    replace hB:=(ai hB hb4)
    have zw4:=hB.size
    replace c0_5:w4.cell? ⟨w.heap.size,5,none⟩=some (.int .i64 fk):=a9 hb4 (c0_5)
    replace c0_6:w4.cell? ⟨w.heap.size,6,none⟩=some (.slice fa fn fq):=a9 hb4 (c0_6)
    replace c0_7:w4.cell? ⟨w.heap.size,7,none⟩=some (.int .i64 l):=a9 hb4 (c0_7)
    have d0_w4:=World.block_lt_of_cell? _ _ c0_5
    rcases Bool.eq_false_or_eq_true (tv) with q4 | q4
    ·(try rw [q4])
     have Hq4:=Lib.hid q4
     clear q4
     rcases Bool.eq_false_or_eq_true (n2) with q5 | q5
     ·have Hq5:=Lib.hid q5
      clear q5
      go_wp2_with fail
      refine(H4.out _ hB).mono ?_
      rintro e w5 ⟨rfl,hb5⟩
      rw [Hq5.out]
      replace hB:=(ai hB hb5)
      have zw5:=hB.size
      replace c0_7:w5.cell? ⟨w.heap.size,7,none⟩=some (.int .i64 l):=a9 hb5 (c0_7)
      have d0_w5:=World.block_lt_of_cell? _ _ c0_7
      rcases Bool.eq_false_or_eq_true (l==0) with q6 | q6
      ·(try rw [q6])
       have nq6:(l != 0)=false:=by simp only [bne,q6];rfl
       go_wp2_with fail
       refine bodyPost_ret (v:=.bool (true)) (by simp [results,Try.results37,go_sem,bne]) rfl ?_
       exact⟨au ((eW u l nm m tv n1 n2 cv q1 Hq2.out Hq3.out Hq4.out Hq5.out q6).trans HT.out),hB⟩
      ·(try rw [q6])
       have nq6:(l != 0)=true:=by simp only [bne,q6];rfl
       go_wp2_with fail
       refine bodyPost_ret (v:=.bool (false)) (by simp [results,Try.results37,go_sem,bne]) rfl ?_
       exact⟨au ((eR u l nm m tv n1 n2 cv q1 Hq2.out Hq3.out Hq4.out Hq5.out q6).trans HT.out),hB⟩
     ·have Hq5:=Lib.hid q5
      clear q5
      go_wp2_with fail
      refine(H4.out _ hB).mono ?_
      rintro e w6 ⟨rfl,hb6⟩
      rw [Hq5.out]
      replace hB:=(ai hB hb6)
      have zw6:=hB.size
      go_wp2_with fail
      refine bodyPost_ret (v:=.bool (false)) (by simp [results,Try.results37,go_sem,bne]) rfl ?_
      exact⟨au ((fb u l nm m tv n1 n2 cv q1 Hq2.out Hq3.out Hq4.out Hq5.out).trans HT.out),hB⟩
    ·(try rw [q4])
     have Hq4:=Lib.hid q4
     clear q4
     go_wp2_with fail
     refine bodyPost_ret (v:=.bool (false)) (by simp [results,Try.results37,go_sem,bne]) rfl ?_
     exact⟨au ((ex u l nm m tv n1 n2 cv q1 Hq2.out Hq3.out Hq4.out).trans HT.out),hB⟩
   ·(try rw [q3])
    have Hq3:=Lib.hid q3
    clear q3
    go_wp2_with fail
    refine bodyPost_ret (v:=.bool (false)) (by simp [results,Try.results37,go_sem,bne]) rfl ?_
    exact⟨au ((f9 u l nm m tv n1 n2 cv q1 Hq2.out Hq3.out).trans HT.out),hB⟩
  ·(try rw [q2])
   have Hq2:=Lib.hid q2
   clear q2
   go_wp2_with fail
   refine bodyPost_ret (v:=.bool (false)) (by simp [results,Try.results37,go_sem,bne]) rfl ?_
   exact⟨au ((eO u l nm m tv n1 n2 cv q1 Hq2.out).trans HT.out),hB⟩
 ·(try rw [q1])
  go_wp2_with fail
  refine bodyPost_ret (v:=.bool (false)) (by simp [results,Try.results37,go_sem,bne]) rfl ?_
  exact⟨au ((ew u l nm m tv n1 n2 cv q1).trans HT.out),hB⟩
end Go.Proofs.Ytnaoghknnenfoaa
namespace Go.Proofs.Ytnaoghknnenfoaa
open Go.RowKit
theorem eH (u l:Int)(nm:ByteArray)(m:Nat)(tv n1 n2 cv:Bool)(h0:((aJ 13)==(m:Int))=true)(h1:(nm.toList == [])=true)(h2:(aA u 0 0)=true)(h3:(tv)=true)(h4:(n2)=true)(h5:(l==0)=true):(true:Bool)=(nodeB 13 u l nm m tv n1 n2 cv):=by
 first | (simp_all [nodeB,ownB];done) | grind [nodeB,ownB,aA]
theorem fd (u l:Int)(nm:ByteArray)(m:Nat)(tv n1 n2 cv:Bool)(h0:((aJ 13)==(m:Int))=true)(h1:(nm.toList == [])=true)(h2:(aA u 0 0)=true)(h3:(tv)=true)(h4:(n2)=true)(h5:(l==0)=false):(false:Bool)=(nodeB 13 u l nm m tv n1 n2 cv):=by
 first | (simp_all [nodeB,ownB];done) | grind [nodeB,ownB,aA]
theorem eE (u l:Int)(nm:ByteArray)(m:Nat)(tv n1 n2 cv:Bool)(h0:((aJ 13)==(m:Int))=true)(h1:(nm.toList == [])=true)(h2:(aA u 0 0)=true)(h3:(tv)=true)(h4:(n2)=false):(false:Bool)=(nodeB 13 u l nm m tv n1 n2 cv):=by
 first | (simp_all [nodeB,ownB];done) | grind [nodeB,ownB,aA]
theorem ev (u l:Int)(nm:ByteArray)(m:Nat)(tv n1 n2 cv:Bool)(h0:((aJ 13)==(m:Int))=true)(h1:(nm.toList == [])=true)(h2:(aA u 0 0)=true)(h3:(tv)=false):(false:Bool)=(nodeB 13 u l nm m tv n1 n2 cv):=by
 first | (simp_all [nodeB,ownB];done) | grind [nodeB,ownB,aA]
theorem eL (u l:Int)(nm:ByteArray)(m:Nat)(tv n1 n2 cv:Bool)(h0:((aJ 13)==(m:Int))=true)(h1:(nm.toList == [])=true)(h2:(aA u 0 0)=false):(false:Bool)=(nodeB 13 u l nm m tv n1 n2 cv):=by
 first | (simp_all [nodeB,ownB];done) | grind [nodeB,ownB,aA]
theorem eP (u l:Int)(nm:ByteArray)(m:Nat)(tv n1 n2 cv:Bool)(h0:((aJ 13)==(m:Int))=true)(h1:(nm.toList == [])=false):(false:Bool)=(nodeB 13 u l nm m tv n1 n2 cv):=by
 first | (simp_all [nodeB,ownB];done) | grind [nodeB,ownB,aA]
theorem eY (u l:Int)(nm:ByteArray)(m:Nat)(tv n1 n2 cv:Bool)(h0:((aJ 13)==(m:Int))=false):(false:Bool)=(nodeB 13 u l nm m tv n1 n2 cv):=by
 first | (simp_all [nodeB,ownB];done) | grind [nodeB,ownB,aA]
theorem eJ (u l:Int)(nm:ByteArray)(m:Nat)(tv n1 n2 cv:Bool)(h0:((aJ 14)==(m:Int))=true)(h1:(nm.toList == [])=true)(h2:(aA u 0 0)=true)(h3:(tv)=true)(h4:(cv)=true)(h5:(cN l)=true):(true:Bool)=(nodeB 14 u l nm m tv n1 n2 cv):=by
 first | (simp_all [nodeB,ownB];done) | grind [nodeB,ownB,aA]
theorem eI (u l:Int)(nm:ByteArray)(m:Nat)(tv n1 n2 cv:Bool)(h0:((aJ 14)==(m:Int))=true)(h1:(nm.toList == [])=true)(h2:(aA u 0 0)=true)(h3:(tv)=true)(h4:(cv)=true)(h5:(cN l)=false):(false:Bool)=(nodeB 14 u l nm m tv n1 n2 cv):=by
 first | (simp_all [nodeB,ownB];done) | grind [nodeB,ownB,aA]
theorem eK (u l:Int)(nm:ByteArray)(m:Nat)(tv n1 n2 cv:Bool)(h0:((aJ 14)==(m:Int))=true)(h1:(nm.toList == [])=true)(h2:(aA u 0 0)=true)(h3:(tv)=true)(h4:(cv)=false):(false:Bool)=(nodeB 14 u l nm m tv n1 n2 cv):=by
 first | (simp_all [nodeB,ownB];done) | grind [nodeB,ownB,aA]
theorem ep (u l:Int)(nm:ByteArray)(m:Nat)(tv n1 n2 cv:Bool)(h0:((aJ 14)==(m:Int))=true)(h1:(nm.toList == [])=true)(h2:(aA u 0 0)=true)(h3:(tv)=false):(false:Bool)=(nodeB 14 u l nm m tv n1 n2 cv):=by
 first | (simp_all [nodeB,ownB];done) | grind [nodeB,ownB,aA]
theorem ek (u l:Int)(nm:ByteArray)(m:Nat)(tv n1 n2 cv:Bool)(h0:((aJ 14)==(m:Int))=true)(h1:(nm.toList == [])=true)(h2:(aA u 0 0)=false):(false:Bool)=(nodeB 14 u l nm m tv n1 n2 cv):=by
 first | (simp_all [nodeB,ownB];done) | grind [nodeB,ownB,aA]
theorem em (u l:Int)(nm:ByteArray)(m:Nat)(tv n1 n2 cv:Bool)(h0:((aJ 14)==(m:Int))=true)(h1:(nm.toList == [])=false):(false:Bool)=(nodeB 14 u l nm m tv n1 n2 cv):=by
 first | (simp_all [nodeB,ownB];done) | grind [nodeB,ownB,aA]
theorem eo (u l:Int)(nm:ByteArray)(m:Nat)(tv n1 n2 cv:Bool)(h0:((aJ 14)==(m:Int))=false):(false:Bool)=(nodeB 14 u l nm m tv n1 n2 cv):=by
 first | (simp_all [nodeB,ownB];done) | grind [nodeB,ownB,aA]
theorem eG (k u l:Int)(nm:ByteArray)(m:Nat)(tv n1 n2 cv:Bool)(h0:(k==1)=false)(h1:(k==5)=false)(h2:(k==13)=false)(h3:(k==14)=false)(h4:(k==2)=false)(h5:((aJ k)==(m:Int))=true)(h6:(nm.toList == [])=true)(h7:(aA u 0 0)=true)(h8:(n1)=true)(h9:(n2)=true)(h10:(l==0)=true):(true:Bool)=(nodeB k u l nm m tv n1 n2 cv):=by
 first | (simp_all [nodeB,ownB];done) | grind [nodeB,ownB,aA]
theorem eC (k u l:Int)(nm:ByteArray)(m:Nat)(tv n1 n2 cv:Bool)(h0:(k==1)=false)(h1:(k==5)=false)(h2:(k==13)=false)(h3:(k==14)=false)(h4:(k==2)=false)(h5:((aJ k)==(m:Int))=true)(h6:(nm.toList == [])=true)(h7:(aA u 0 0)=true)(h8:(n1)=true)(h9:(n2)=true)(h10:(l==0)=false):(false:Bool)=(nodeB k u l nm m tv n1 n2 cv):=by
 first | (simp_all [nodeB,ownB];done) | grind [nodeB,ownB,aA]
theorem eN (k u l:Int)(nm:ByteArray)(m:Nat)(tv n1 n2 cv:Bool)(h0:(k==1)=false)(h1:(k==5)=false)(h2:(k==13)=false)(h3:(k==14)=false)(h4:(k==2)=false)(h5:((aJ k)==(m:Int))=true)(h6:(nm.toList == [])=true)(h7:(aA u 0 0)=true)(h8:(n1)=true)(h9:(n2)=false):(false:Bool)=(nodeB k u l nm m tv n1 n2 cv):=by
 first | (simp_all [nodeB,ownB];done) | grind [nodeB,ownB,aA]
theorem eM (k u l:Int)(nm:ByteArray)(m:Nat)(tv n1 n2 cv:Bool)(h0:(k==1)=false)(h1:(k==5)=false)(h2:(k==13)=false)(h3:(k==14)=false)(h4:(k==2)=false)(h5:((aJ k)==(m:Int))=true)(h6:(nm.toList == [])=true)(h7:(aA u 0 0)=true)(h8:(n1)=false):(false:Bool)=(nodeB k u l nm m tv n1 n2 cv):=by
 first | (simp_all [nodeB,ownB];done) | grind [nodeB,ownB,aA]
theorem eB (k u l:Int)(nm:ByteArray)(m:Nat)(tv n1 n2 cv:Bool)(h0:(k==1)=false)(h1:(k==5)=false)(h2:(k==13)=false)(h3:(k==14)=false)(h4:(k==2)=false)(h5:((aJ k)==(m:Int))=true)(h6:(nm.toList == [])=true)(h7:(aA u 0 0)=false):(false:Bool)=(nodeB k u l nm m tv n1 n2 cv):=by
 first | (simp_all [nodeB,ownB];done) | grind [nodeB,ownB,aA]
theorem fc (k u l:Int)(nm:ByteArray)(m:Nat)(tv n1 n2 cv:Bool)(h0:(k==1)=false)(h1:(k==5)=false)(h2:(k==13)=false)(h3:(k==14)=false)(h4:(k==2)=false)(h5:((aJ k)==(m:Int))=true)(h6:(nm.toList == [])=false):(false:Bool)=(nodeB k u l nm m tv n1 n2 cv):=by
 first | (simp_all [nodeB,ownB];done) | grind [nodeB,ownB,aA]
theorem eD (k u l:Int)(nm:ByteArray)(m:Nat)(tv n1 n2 cv:Bool)(h0:(k==1)=false)(h1:(k==5)=false)(h2:(k==13)=false)(h3:(k==14)=false)(h4:(k==2)=false)(h5:((aJ k)==(m:Int))=false):(false:Bool)=(nodeB k u l nm m tv n1 n2 cv):=by
 first | (simp_all [nodeB,ownB];done) | grind [nodeB,ownB,aA]
set_option maxHeartbeats 4000000 in
theorem kE (u tk fk l:Int)(nm:ByteArray)(ta fa c:Option Addr)(tn tq fn fq m q:Nat)(w:World)(tv n1 n2 cv:Bool)(H1:Hid (∀W,Below w.heap.size w W→Calls Try.prog 60 #[.agg #[.int .i64 tk,.slice ta tn tq]] W fun e W'=>e = .returned (.bool (tv))∧Below W.heap.size W W'))(H2:Hid (∀W,Below w.heap.size w W→Calls Try.prog 61 #[.agg #[.int .i64 tk,.slice ta tn tq]] W fun e W'=>e = .returned (.bool (n1))∧Below W.heap.size W W'))(H4:Hid (∀W,Below w.heap.size w W→Calls Try.prog 61 #[.agg #[.int .i64 fk,.slice fa fn fq]] W fun e W'=>e = .returned (.bool (n2))∧Below W.heap.size W W'))(H3:Hid (∀W,Below w.heap.size w W→Calls Try.prog 62 #[.agg #[.int .i64 fk,.slice fa fn fq],.agg #[.int .i64 tk,.slice ta tn tq]] W fun e W'=>e = .returned (.bool (cv))∧Below W.heap.size W W')) :
  Calls Try.prog 37 #[.agg #[.int .i64 13,.string nm,.int .i64 u,.int .i64 tk,.slice ta tn tq,.int .i64 fk,.slice fa fn fq,.int .i64 l,.slice c m q]] w fun e w'=>e = .returned (.bool (nodeB 13 u l nm m tv n1 n2 cv))∧Below w.heap.size w w':=by
 obtain⟨rr,hrr⟩ : ∃rr0:Bool,(nodeB 13 u l nm m tv n1 n2 cv)=rr0:=⟨_,rfl⟩
 rw [hrr]
 have HT:=Lib.hid hrr
 clear hrr
 go_enter Try.func37,Try.ntmps37
 go_wp2_with fail
 have s0_:(World.alloc w (Obj.cells #[.int .i64 13,.string nm,.int .i64 u,.int .i64 tk,.slice ta tn tq,.int .i64 fk,.slice fa fn fq,.int .i64 l,.slice c m q] 28)).cell? ⟨w.heap.size,0,none⟩=some (.int .i64 13):=aj (by simp) 0
 have s1_:(World.alloc w (Obj.cells #[.int .i64 13,.string nm,.int .i64 u,.int .i64 tk,.slice ta tn tq,.int .i64 fk,.slice fa fn fq,.int .i64 l,.slice c m q] 28)).cell? ⟨w.heap.size,8,none⟩=some (.slice c m q):=aj (by simp) 8
 have hS0:=Lib.hid (show(World.drew (World.alloc w (Obj.cells #[.int .i64 13,.string nm,.int .i64 u,.int .i64 tk,.slice ta tn tq,.int .i64 fk,.slice fa fn fq,.int .i64 l,.slice c m q] 28))).cell? ⟨w.heap.size,0,none⟩=some (.int .i64 13)∧(World.drew (World.alloc w (Obj.cells #[.int .i64 13,.string nm,.int .i64 u,.int .i64 tk,.slice ta tn tq,.int .i64 fk,.slice fa fn fq,.int .i64 l,.slice c m q] 28))).cell? ⟨w.heap.size,8,none⟩=some (.slice c m q) from⟨ay (s0_),ay (s1_)⟩)
 have hSb:=Lib.hid (show ∀X Y:World,Below X.heap.size X Y→(X.cell? ⟨w.heap.size,0,none⟩=some (.int .i64 13)∧X.cell? ⟨w.heap.size,8,none⟩=some (.slice c m q))→(Y.cell? ⟨w.heap.size,0,none⟩=some (.int .i64 13)∧Y.cell? ⟨w.heap.size,8,none⟩=some (.slice c m q)) from fun X Y h s=>⟨a9 h s.1,a9 h s.2⟩)
 go_region_held3 (fun w'=>w'.cell? ⟨w.heap.size,0,none⟩=some (.int .i64 13)∧w'.cell? ⟨w.heap.size,8,none⟩=some (.slice c m q))
  (repeat (first | with_reducible refine hSb.out _ _ hb1 ?_ | with_reducible exact hS0.out))
  (first | (go_at_call 57;((with_reducible refine(cz 13 _).mono ?_);rintro e w1 ⟨rfl,hb1⟩)))
 clear s0_ s1_
 have hB:=(ai ah.drew hb1)
 have zw1:=hB.size
 have c0_0:w1.cell? ⟨w.heap.size,0,none⟩=some (.int .i64 13):=a9 hb1 (ay (aj (by simp) 0))
 have c0_1:w1.cell? ⟨w.heap.size,1,none⟩=some (.string nm):=a9 hb1 (ay (aj (by simp) 1))
 have c0_2:w1.cell? ⟨w.heap.size,2,none⟩=some (.int .i64 u):=a9 hb1 (ay (aj (by simp) 2))
 have c0_3:w1.cell? ⟨w.heap.size,3,none⟩=some (.int .i64 tk):=a9 hb1 (ay (aj (by simp) 3))
 have c0_4:w1.cell? ⟨w.heap.size,4,none⟩=some (.slice ta tn tq):=a9 hb1 (ay (aj (by simp) 4))
 have c0_5:w1.cell? ⟨w.heap.size,5,none⟩=some (.int .i64 fk):=a9 hb1 (ay (aj (by simp) 5))
 have c0_6:w1.cell? ⟨w.heap.size,6,none⟩=some (.slice fa fn fq):=a9 hb1 (ay (aj (by simp) 6))
 have c0_7:w1.cell? ⟨w.heap.size,7,none⟩=some (.int .i64 l):=a9 hb1 (ay (aj (by simp) 7))
 have d0_w1:=World.block_lt_of_cell? _ _ c0_0
 rcases Bool.eq_false_or_eq_true ((aJ 13)==(m:Int)) with q1 | q1
 ·(try rw [q1])
  rcases Bool.eq_false_or_eq_true (nm.toList == []) with q2 | q2
  ·(try rw [q2])
   have nq2:(nm.toList != [])=false:=by simp only [bne,q2];rfl
   go_wp2_with fail
   refine(b9 u 0 0 _).mono ?_
   rintro e w2 ⟨rfl,hb2⟩
   replace hB:=(ai hB hb2)
   have zw2:=hB.size
   replace c0_3:w2.cell? ⟨w.heap.size,3,none⟩=some (.int .i64 tk):=a9 hb2 (c0_3)
   replace c0_4:w2.cell? ⟨w.heap.size,4,none⟩=some (.slice ta tn tq):=a9 hb2 (c0_4)
   replace c0_5:w2.cell? ⟨w.heap.size,5,none⟩=some (.int .i64 fk):=a9 hb2 (c0_5)
   replace c0_6:w2.cell? ⟨w.heap.size,6,none⟩=some (.slice fa fn fq):=a9 hb2 (c0_6)
   replace c0_7:w2.cell? ⟨w.heap.size,7,none⟩=some (.int .i64 l):=a9 hb2 (c0_7)
   have d0_w2:=World.block_lt_of_cell? _ _ c0_3
   rcases Bool.eq_false_or_eq_true (aA u 0 0) with q3 | q3
   ·(try rw [q3])
    have Hq3:=Lib.hid q3
    clear q3
    go_wp2_with fail
    refine(H1.out _ hB).mono ?_
    rintro e w3 ⟨rfl,hb3⟩
    replace hB:=(ai hB hb3)
    have zw3:=hB.size
    replace c0_5:w3.cell? ⟨w.heap.size,5,none⟩=some (.int .i64 fk):=a9 hb3 (c0_5)
    replace c0_6:w3.cell? ⟨w.heap.size,6,none⟩=some (.slice fa fn fq):=a9 hb3 (c0_6)
    replace c0_7:w3.cell? ⟨w.heap.size,7,none⟩=some (.int .i64 l):=a9 hb3 (c0_7)
    have d0_w3:=World.block_lt_of_cell? _ _ c0_5
    rcases Bool.eq_false_or_eq_true (tv) with q4 | q4
    ·(try rw [q4])
     have Hq4:=Lib.hid q4
     clear q4
     rcases Bool.eq_false_or_eq_true (n2) with q5 | q5
     ·have Hq5:=Lib.hid q5
      clear q5
      go_wp2_with fail
      refine(H4.out _ hB).mono ?_
      rintro e w4 ⟨rfl,hb4⟩
      rw [Hq5.out]
      replace hB:=(ai hB hb4)
      have zw4:=hB.size
      replace c0_7:w4.cell? ⟨w.heap.size,7,none⟩=some (.int .i64 l):=a9 hb4 (c0_7)
      have d0_w4:=World.block_lt_of_cell? _ _ c0_7
      rcases Bool.eq_false_or_eq_true (l==0) with q6 | q6
      ·(try rw [q6])
       have nq6:(l != 0)=false:=by simp only [bne,q6];rfl
       go_wp2_with fail
       refine bodyPost_ret (v:=.bool (true)) (by simp [results,Try.results37,go_sem,bne]) rfl ?_
       exact⟨au ((eH u l nm m tv n1 n2 cv q1 q2 Hq3.out Hq4.out Hq5.out q6).trans HT.out),hB⟩
      ·(try rw [q6])
       have nq6:(l != 0)=true:=by simp only [bne,q6];rfl
       go_wp2_with fail
       refine bodyPost_ret (v:=.bool (false)) (by simp [results,Try.results37,go_sem,bne]) rfl ?_
       exact⟨au ((fd u l nm m tv n1 n2 cv q1 q2 Hq3.out Hq4.out Hq5.out q6).trans HT.out),hB⟩
     ·have Hq5:=Lib.hid q5
      clear q5
      go_wp2_with fail
      refine(H4.out _ hB).mono ?_
      rintro e w5 ⟨rfl,hb5⟩
      rw [Hq5.out]
      replace hB:=(ai hB hb5)
      have zw5:=hB.size
      go_wp2_with fail
      refine bodyPost_ret (v:=.bool (false)) (by simp [results,Try.results37,go_sem,bne]) rfl ?_
      exact⟨au ((eE u l nm m tv n1 n2 cv q1 q2 Hq3.out Hq4.out Hq5.out).trans HT.out),hB⟩
    ·(try rw [q4])
     have Hq4:=Lib.hid q4
     clear q4
     go_wp2_with fail
     refine bodyPost_ret (v:=.bool (false)) (by simp [results,Try.results37,go_sem,bne]) rfl ?_
     exact⟨au ((ev u l nm m tv n1 n2 cv q1 q2 Hq3.out Hq4.out).trans HT.out),hB⟩
   ·(try rw [q3])
    have Hq3:=Lib.hid q3
    clear q3
    go_wp2_with fail
    refine bodyPost_ret (v:=.bool (false)) (by simp [results,Try.results37,go_sem,bne]) rfl ?_
    exact⟨au ((eL u l nm m tv n1 n2 cv q1 q2 Hq3.out).trans HT.out),hB⟩
  ·(try rw [q2])
   have nq2:(nm.toList != [])=true:=by simp only [bne,q2];rfl
   go_wp2_with fail
   refine bodyPost_ret (v:=.bool (false)) (by simp [results,Try.results37,go_sem,bne]) rfl ?_
   exact⟨au ((eP u l nm m tv n1 n2 cv q1 q2).trans HT.out),hB⟩
 ·(try rw [q1])
  go_wp2_with fail
  refine bodyPost_ret (v:=.bool (false)) (by simp [results,Try.results37,go_sem,bne]) rfl ?_
  exact⟨au ((eY u l nm m tv n1 n2 cv q1).trans HT.out),hB⟩
set_option maxHeartbeats 4000000 in
theorem kR (u tk fk l:Int)(nm:ByteArray)(ta fa c:Option Addr)(tn tq fn fq m q:Nat)(w:World)(tv n1 n2 cv:Bool)(H1:Hid (∀W,Below w.heap.size w W→Calls Try.prog 60 #[.agg #[.int .i64 tk,.slice ta tn tq]] W fun e W'=>e = .returned (.bool (tv))∧Below W.heap.size W W'))(H2:Hid (∀W,Below w.heap.size w W→Calls Try.prog 61 #[.agg #[.int .i64 tk,.slice ta tn tq]] W fun e W'=>e = .returned (.bool (n1))∧Below W.heap.size W W'))(H4:Hid (∀W,Below w.heap.size w W→Calls Try.prog 61 #[.agg #[.int .i64 fk,.slice fa fn fq]] W fun e W'=>e = .returned (.bool (n2))∧Below W.heap.size W W'))(H3:Hid (∀W,Below w.heap.size w W→Calls Try.prog 62 #[.agg #[.int .i64 fk,.slice fa fn fq],.agg #[.int .i64 tk,.slice ta tn tq]] W fun e W'=>e = .returned (.bool (cv))∧Below W.heap.size W W')) :
  Calls Try.prog 37 #[.agg #[.int .i64 14,.string nm,.int .i64 u,.int .i64 tk,.slice ta tn tq,.int .i64 fk,.slice fa fn fq,.int .i64 l,.slice c m q]] w fun e w'=>e = .returned (.bool (nodeB 14 u l nm m tv n1 n2 cv))∧Below w.heap.size w w':=by
 obtain⟨rr,hrr⟩ : ∃rr0:Bool,(nodeB 14 u l nm m tv n1 n2 cv)=rr0:=⟨_,rfl⟩
 rw [hrr]
 have HT:=Lib.hid hrr
 clear hrr
 go_enter Try.func37,Try.ntmps37
 go_wp2_with fail
 have s0_:(World.alloc w (Obj.cells #[.int .i64 14,.string nm,.int .i64 u,.int .i64 tk,.slice ta tn tq,.int .i64 fk,.slice fa fn fq,.int .i64 l,.slice c m q] 28)).cell? ⟨w.heap.size,0,none⟩=some (.int .i64 14):=aj (by simp) 0
 have s1_:(World.alloc w (Obj.cells #[.int .i64 14,.string nm,.int .i64 u,.int .i64 tk,.slice ta tn tq,.int .i64 fk,.slice fa fn fq,.int .i64 l,.slice c m q] 28)).cell? ⟨w.heap.size,8,none⟩=some (.slice c m q):=aj (by simp) 8
 have hS0:=Lib.hid (show(World.drew (World.alloc w (Obj.cells #[.int .i64 14,.string nm,.int .i64 u,.int .i64 tk,.slice ta tn tq,.int .i64 fk,.slice fa fn fq,.int .i64 l,.slice c m q] 28))).cell? ⟨w.heap.size,0,none⟩=some (.int .i64 14)∧(World.drew (World.alloc w (Obj.cells #[.int .i64 14,.string nm,.int .i64 u,.int .i64 tk,.slice ta tn tq,.int .i64 fk,.slice fa fn fq,.int .i64 l,.slice c m q] 28))).cell? ⟨w.heap.size,8,none⟩=some (.slice c m q) from⟨ay (s0_),ay (s1_)⟩)
 have hSb:=Lib.hid (show ∀X Y:World,Below X.heap.size X Y→(X.cell? ⟨w.heap.size,0,none⟩=some (.int .i64 14)∧X.cell? ⟨w.heap.size,8,none⟩=some (.slice c m q))→(Y.cell? ⟨w.heap.size,0,none⟩=some (.int .i64 14)∧Y.cell? ⟨w.heap.size,8,none⟩=some (.slice c m q)) from fun X Y h s=>⟨a9 h s.1,a9 h s.2⟩)
 go_region_held3 (fun w'=>w'.cell? ⟨w.heap.size,0,none⟩=some (.int .i64 14)∧w'.cell? ⟨w.heap.size,8,none⟩=some (.slice c m q))
  (repeat (first | with_reducible refine hSb.out _ _ hb1 ?_ | with_reducible exact hS0.out))
  (first | (go_at_call 57;((with_reducible refine(cz 14 _).mono ?_);rintro e w1 ⟨rfl,hb1⟩)))
 clear s0_ s1_
 have hB:=(ai ah.drew hb1)
 have zw1:=hB.size
 have c0_0:w1.cell? ⟨w.heap.size,0,none⟩=some (.int .i64 14):=a9 hb1 (ay (aj (by simp) 0))
 have c0_1:w1.cell? ⟨w.heap.size,1,none⟩=some (.string nm):=a9 hb1 (ay (aj (by simp) 1))
 have c0_2:w1.cell? ⟨w.heap.size,2,none⟩=some (.int .i64 u):=a9 hb1 (ay (aj (by simp) 2))
 have c0_3:w1.cell? ⟨w.heap.size,3,none⟩=some (.int .i64 tk):=a9 hb1 (ay (aj (by simp) 3))
 have c0_4:w1.cell? ⟨w.heap.size,4,none⟩=some (.slice ta tn tq):=a9 hb1 (ay (aj (by simp) 4))
 have c0_5:w1.cell? ⟨w.heap.size,5,none⟩=some (.int .i64 fk):=a9 hb1 (ay (aj (by simp) 5))
 have c0_6:w1.cell? ⟨w.heap.size,6,none⟩=some (.slice fa fn fq):=a9 hb1 (ay (aj (by simp) 6))
 have c0_7:w1.cell? ⟨w.heap.size,7,none⟩=some (.int .i64 l):=a9 hb1 (ay (aj (by simp) 7))
 have d0_w1:=World.block_lt_of_cell? _ _ c0_0
 rcases Bool.eq_false_or_eq_true ((aJ 14)==(m:Int)) with q1 | q1
 ·(try rw [q1])
  rcases Bool.eq_false_or_eq_true (nm.toList == []) with q2 | q2
  ·(try rw [q2])
   have nq2:(nm.toList != [])=false:=by simp only [bne,q2];rfl
   go_wp2_with fail
   refine(b9 u 0 0 _).mono ?_
   rintro e w2 ⟨rfl,hb2⟩
   replace hB:=(ai hB hb2)
   have zw2:=hB.size
   replace c0_3:w2.cell? ⟨w.heap.size,3,none⟩=some (.int .i64 tk):=a9 hb2 (c0_3)
   replace c0_4:w2.cell? ⟨w.heap.size,4,none⟩=some (.slice ta tn tq):=a9 hb2 (c0_4)
   replace c0_5:w2.cell? ⟨w.heap.size,5,none⟩=some (.int .i64 fk):=a9 hb2 (c0_5)
   replace c0_6:w2.cell? ⟨w.heap.size,6,none⟩=some (.slice fa fn fq):=a9 hb2 (c0_6)
   replace c0_7:w2.cell? ⟨w.heap.size,7,none⟩=some (.int .i64 l):=a9 hb2 (c0_7)
   have d0_w2:=World.block_lt_of_cell? _ _ c0_3
   rcases Bool.eq_false_or_eq_true (aA u 0 0) with q3 | q3
   ·(try rw [q3])
    have Hq3:=Lib.hid q3
    clear q3
    go_wp2_with fail
    refine(H1.out _ hB).mono ?_
    rintro e w3 ⟨rfl,hb3⟩
    replace hB:=(ai hB hb3)
    have zw3:=hB.size
    replace c0_5:w3.cell? ⟨w.heap.size,5,none⟩=some (.int .i64 fk):=a9 hb3 (c0_5)
    replace c0_6:w3.cell? ⟨w.heap.size,6,none⟩=some (.slice fa fn fq):=a9 hb3 (c0_6)
    replace c0_3:w3.cell? ⟨w.heap.size,3,none⟩=some (.int .i64 tk):=a9 hb3 (c0_3)
    replace c0_4:w3.cell? ⟨w.heap.size,4,none⟩=some (.slice ta tn tq):=a9 hb3 (c0_4)
    replace c0_7:w3.cell? ⟨w.heap.size,7,none⟩=some (.int .i64 l):=a9 hb3 (c0_7)
    have d0_w3:=World.block_lt_of_cell? _ _ c0_5
    rcases Bool.eq_false_or_eq_true (tv) with q4 | q4
    ·(try rw [q4])
     have Hq4:=Lib.hid q4
     clear q4
     rcases Bool.eq_false_or_eq_true (cv) with q5 | q5
     ·have Hq5:=Lib.hid q5
      clear q5
      go_wp2_with fail
      refine(H3.out _ hB).mono ?_
      rintro e w4 ⟨rfl,hb4⟩
      rw [Hq5.out]
      replace hB:=(ai hB hb4)
      have zw4:=hB.size
      replace c0_7:w4.cell? ⟨w.heap.size,7,none⟩=some (.int .i64 l):=a9 hb4 (c0_7)
      have d0_w4:=World.block_lt_of_cell? _ _ c0_7
      go_wp2_with fail
      refine(oR l _).mono ?_
      rintro e w5 ⟨rfl,hb5⟩
      replace hB:=(ai hB hb5)
      have zw5:=hB.size
      rcases Bool.eq_false_or_eq_true (cN l) with q6 | q6
      ·(try rw [q6])
       have Hq6:=Lib.hid q6
       clear q6
       go_wp2_with fail
       refine bodyPost_ret (v:=.bool (true)) (by simp [results,Try.results37,go_sem,bne]) rfl ?_
       exact⟨au ((eJ u l nm m tv n1 n2 cv q1 q2 Hq3.out Hq4.out Hq5.out Hq6.out).trans HT.out),hB⟩
      ·(try rw [q6])
       have Hq6:=Lib.hid q6
       clear q6
       go_wp2_with fail
       refine bodyPost_ret (v:=.bool (false)) (by simp [results,Try.results37,go_sem,bne]) rfl ?_
       exact⟨au ((eI u l nm m tv n1 n2 cv q1 q2 Hq3.out Hq4.out Hq5.out Hq6.out).trans HT.out),hB⟩
     ·have Hq5:=Lib.hid q5
      clear q5
      go_wp2_with fail
      refine(H3.out _ hB).mono ?_
      rintro e w6 ⟨rfl,hb6⟩
      rw [Hq5.out]
      replace hB:=(ai hB hb6)
      have zw6:=hB.size
      go_wp2_with fail
      refine bodyPost_ret (v:=.bool (false)) (by simp [results,Try.results37,go_sem,bne]) rfl ?_
      exact⟨au ((eK u l nm m tv n1 n2 cv q1 q2 Hq3.out Hq4.out Hq5.out).trans HT.out),hB⟩
    ·(try rw [q4])
     have Hq4:=Lib.hid q4
     clear q4
     go_wp2_with fail
     refine bodyPost_ret (v:=.bool (false)) (by simp [results,Try.results37,go_sem,bne]) rfl ?_
     exact⟨au ((ep u l nm m tv n1 n2 cv q1 q2 Hq3.out Hq4.out).trans HT.out),hB⟩
   ·(try rw [q3])
    have Hq3:=Lib.hid q3
    clear q3
    go_wp2_with fail
    refine bodyPost_ret (v:=.bool (false)) (by simp [results,Try.results37,go_sem,bne]) rfl ?_
    exact⟨au ((ek u l nm m tv n1 n2 cv q1 q2 Hq3.out).trans HT.out),hB⟩
  ·(try rw [q2])
   have nq2:(nm.toList != [])=true:=by simp only [bne,q2];rfl
   go_wp2_with fail
   refine bodyPost_ret (v:=.bool (false)) (by simp [results,Try.results37,go_sem,bne]) rfl ?_
   exact⟨au ((em u l nm m tv n1 n2 cv q1 q2).trans HT.out),hB⟩
 ·(try rw [q1])
  go_wp2_with fail
  refine bodyPost_ret (v:=.bool (false)) (by simp [results,Try.results37,go_sem,bne]) rfl ?_
  exact⟨au ((eo u l nm m tv n1 n2 cv q1).trans HT.out),hB⟩
set_option maxHeartbeats 4000000 in
theorem mJ (k u tk fk l:Int)(nm:ByteArray)(ta fa c:Option Addr)(tn tq fn fq m q:Nat)(w:World)(tv n1 n2 cv:Bool)(z0:(k==1)=false)(z1:(k==5)=false)(z2:(k==13)=false)(z3:(k==14)=false)(z4:(k==2)=false)(H1:Hid (∀W,Below w.heap.size w W→Calls Try.prog 60 #[.agg #[.int .i64 tk,.slice ta tn tq]] W fun e W'=>e = .returned (.bool (tv))∧Below W.heap.size W W'))(H2:Hid (∀W,Below w.heap.size w W→Calls Try.prog 61 #[.agg #[.int .i64 tk,.slice ta tn tq]] W fun e W'=>e = .returned (.bool (n1))∧Below W.heap.size W W'))(H4:Hid (∀W,Below w.heap.size w W→Calls Try.prog 61 #[.agg #[.int .i64 fk,.slice fa fn fq]] W fun e W'=>e = .returned (.bool (n2))∧Below W.heap.size W W'))(H3:Hid (∀W,Below w.heap.size w W→Calls Try.prog 62 #[.agg #[.int .i64 fk,.slice fa fn fq],.agg #[.int .i64 tk,.slice ta tn tq]] W fun e W'=>e = .returned (.bool (cv))∧Below W.heap.size W W')) :
  Calls Try.prog 37 #[.agg #[.int .i64 k,.string nm,.int .i64 u,.int .i64 tk,.slice ta tn tq,.int .i64 fk,.slice fa fn fq,.int .i64 l,.slice c m q]] w fun e w'=>e = .returned (.bool (nodeB k u l nm m tv n1 n2 cv))∧Below w.heap.size w w':=by
 obtain⟨rr,hrr⟩ : ∃rr0:Bool,(nodeB k u l nm m tv n1 n2 cv)=rr0:=⟨_,rfl⟩
 rw [hrr]
 have HT:=Lib.hid hrr
 clear hrr
 have nz0:(k != 1)=true:=by simp only [bne,z0];rfl
 have nz1:(k != 5)=true:=by simp only [bne,z1];rfl
 have nz2:(k != 13)=true:=by simp only [bne,z2];rfl
 have nz3:(k != 14)=true:=by simp only [bne,z3];rfl
 have nz4:(k != 2)=true:=by simp only [bne,z4];rfl
 go_enter Try.func37,Try.ntmps37
 go_wp2_with fail
 have s0_:(World.alloc w (Obj.cells #[.int .i64 k,.string nm,.int .i64 u,.int .i64 tk,.slice ta tn tq,.int .i64 fk,.slice fa fn fq,.int .i64 l,.slice c m q] 28)).cell? ⟨w.heap.size,0,none⟩=some (.int .i64 k):=aj (by simp) 0
 have s1_:(World.alloc w (Obj.cells #[.int .i64 k,.string nm,.int .i64 u,.int .i64 tk,.slice ta tn tq,.int .i64 fk,.slice fa fn fq,.int .i64 l,.slice c m q] 28)).cell? ⟨w.heap.size,8,none⟩=some (.slice c m q):=aj (by simp) 8
 have hS0:=Lib.hid (show(World.drew (World.alloc w (Obj.cells #[.int .i64 k,.string nm,.int .i64 u,.int .i64 tk,.slice ta tn tq,.int .i64 fk,.slice fa fn fq,.int .i64 l,.slice c m q] 28))).cell? ⟨w.heap.size,0,none⟩=some (.int .i64 k)∧(World.drew (World.alloc w (Obj.cells #[.int .i64 k,.string nm,.int .i64 u,.int .i64 tk,.slice ta tn tq,.int .i64 fk,.slice fa fn fq,.int .i64 l,.slice c m q] 28))).cell? ⟨w.heap.size,8,none⟩=some (.slice c m q) from⟨ay (s0_),ay (s1_)⟩)
 have hSb:=Lib.hid (show ∀X Y:World,Below X.heap.size X Y→(X.cell? ⟨w.heap.size,0,none⟩=some (.int .i64 k)∧X.cell? ⟨w.heap.size,8,none⟩=some (.slice c m q))→(Y.cell? ⟨w.heap.size,0,none⟩=some (.int .i64 k)∧Y.cell? ⟨w.heap.size,8,none⟩=some (.slice c m q)) from fun X Y h s=>⟨a9 h s.1,a9 h s.2⟩)
 go_region_held3 (fun w'=>w'.cell? ⟨w.heap.size,0,none⟩=some (.int .i64 k)∧w'.cell? ⟨w.heap.size,8,none⟩=some (.slice c m q))
  (repeat (first | with_reducible refine hSb.out _ _ hb1 ?_ | with_reducible exact hS0.out))
  (first | (go_at_call 57;((with_reducible refine(cz k _).mono ?_);rintro e w1 ⟨rfl,hb1⟩)))
 clear s0_ s1_
 have hB:=(ai ah.drew hb1)
 have zw1:=hB.size
 have c0_0:w1.cell? ⟨w.heap.size,0,none⟩=some (.int .i64 k):=a9 hb1 (ay (aj (by simp) 0))
 have c0_1:w1.cell? ⟨w.heap.size,1,none⟩=some (.string nm):=a9 hb1 (ay (aj (by simp) 1))
 have c0_2:w1.cell? ⟨w.heap.size,2,none⟩=some (.int .i64 u):=a9 hb1 (ay (aj (by simp) 2))
 have c0_3:w1.cell? ⟨w.heap.size,3,none⟩=some (.int .i64 tk):=a9 hb1 (ay (aj (by simp) 3))
 have c0_4:w1.cell? ⟨w.heap.size,4,none⟩=some (.slice ta tn tq):=a9 hb1 (ay (aj (by simp) 4))
 have c0_5:w1.cell? ⟨w.heap.size,5,none⟩=some (.int .i64 fk):=a9 hb1 (ay (aj (by simp) 5))
 have c0_6:w1.cell? ⟨w.heap.size,6,none⟩=some (.slice fa fn fq):=a9 hb1 (ay (aj (by simp) 6))
 have c0_7:w1.cell? ⟨w.heap.size,7,none⟩=some (.int .i64 l):=a9 hb1 (ay (aj (by simp) 7))
 have d0_w1:=World.block_lt_of_cell? _ _ c0_0
 rcases Bool.eq_false_or_eq_true ((aJ k)==(m:Int)) with q1 | q1
 ·(try rw [q1])
  rcases Bool.eq_false_or_eq_true (nm.toList == []) with q2 | q2
  ·(try rw [q2])
   have nq2:(nm.toList != [])=false:=by simp only [bne,q2];rfl
   go_wp2_with fail
   refine(b9 u 0 0 _).mono ?_
   rintro e w2 ⟨rfl,hb2⟩
   replace hB:=(ai hB hb2)
   have zw2:=hB.size
   replace c0_3:w2.cell? ⟨w.heap.size,3,none⟩=some (.int .i64 tk):=a9 hb2 (c0_3)
   replace c0_4:w2.cell? ⟨w.heap.size,4,none⟩=some (.slice ta tn tq):=a9 hb2 (c0_4)
   replace c0_5:w2.cell? ⟨w.heap.size,5,none⟩=some (.int .i64 fk):=a9 hb2 (c0_5)
   replace c0_6:w2.cell? ⟨w.heap.size,6,none⟩=some (.slice fa fn fq):=a9 hb2 (c0_6)
   replace c0_7:w2.cell? ⟨w.heap.size,7,none⟩=some (.int .i64 l):=a9 hb2 (c0_7)
   have d0_w2:=World.block_lt_of_cell? _ _ c0_3
   rcases Bool.eq_false_or_eq_true (aA u 0 0) with q3 | q3
   ·(try rw [q3])
    have Hq3:=Lib.hid q3
    clear q3
    go_wp2_with fail
    refine(H2.out _ hB).mono ?_
    rintro e w3 ⟨rfl,hb3⟩
    replace hB:=(ai hB hb3)
    have zw3:=hB.size
    replace c0_5:w3.cell? ⟨w.heap.size,5,none⟩=some (.int .i64 fk):=a9 hb3 (c0_5)
    replace c0_6:w3.cell? ⟨w.heap.size,6,none⟩=some (.slice fa fn fq):=a9 hb3 (c0_6)
    replace c0_7:w3.cell? ⟨w.heap.size,7,none⟩=some (.int .i64 l):=a9 hb3 (c0_7)
    have d0_w3:=World.block_lt_of_cell? _ _ c0_5
    rcases Bool.eq_false_or_eq_true (n1) with q4 | q4
    ·(try rw [q4])
     have Hq4:=Lib.hid q4
     clear q4
     rcases Bool.eq_false_or_eq_true (n2) with q5 | q5
     ·have Hq5:=Lib.hid q5
      clear q5
      go_wp2_with fail
      refine(H4.out _ hB).mono ?_
      rintro e w4 ⟨rfl,hb4⟩
      rw [Hq5.out]
      replace hB:=(ai hB hb4)
      have zw4:=hB.size
      replace c0_7:w4.cell? ⟨w.heap.size,7,none⟩=some (.int .i64 l):=a9 hb4 (c0_7)
      have d0_w4:=World.block_lt_of_cell? _ _ c0_7
      rcases Bool.eq_false_or_eq_true (l==0) with q6 | q6
      ·(try rw [q6])
       have nq6:(l != 0)=false:=by simp only [bne,q6];rfl
       go_wp2_with fail
       refine bodyPost_ret (v:=.bool (true)) (by simp [results,Try.results37,go_sem,bne]) rfl ?_
       exact⟨au ((eG k u l nm m tv n1 n2 cv z0 z1 z2 z3 z4 q1 q2 Hq3.out Hq4.out Hq5.out q6).trans HT.out),hB⟩
      ·(try rw [q6])
       have nq6:(l != 0)=true:=by simp only [bne,q6];rfl
       go_wp2_with fail
       refine bodyPost_ret (v:=.bool (false)) (by simp [results,Try.results37,go_sem,bne]) rfl ?_
       exact⟨au ((eC k u l nm m tv n1 n2 cv z0 z1 z2 z3 z4 q1 q2 Hq3.out Hq4.out Hq5.out q6).trans HT.out),hB⟩
     ·have Hq5:=Lib.hid q5
      clear q5
      go_wp2_with fail
      refine(H4.out _ hB).mono ?_
      rintro e w5 ⟨rfl,hb5⟩
      rw [Hq5.out]
      replace hB:=(ai hB hb5)
      have zw5:=hB.size
      go_wp2_with fail
      refine bodyPost_ret (v:=.bool (false)) (by simp [results,Try.results37,go_sem,bne]) rfl ?_
      exact⟨au ((eN k u l nm m tv n1 n2 cv z0 z1 z2 z3 z4 q1 q2 Hq3.out Hq4.out Hq5.out).trans HT.out),hB⟩
    ·(try rw [q4])
     have Hq4:=Lib.hid q4
     clear q4
     go_wp2_with fail
     refine bodyPost_ret (v:=.bool (false)) (by simp [results,Try.results37,go_sem,bne]) rfl ?_
     exact⟨au ((eM k u l nm m tv n1 n2 cv z0 z1 z2 z3 z4 q1 q2 Hq3.out Hq4.out).trans HT.out),hB⟩
   ·(try rw [q3])
    have Hq3:=Lib.hid q3
    clear q3
    go_wp2_with fail
    refine bodyPost_ret (v:=.bool (false)) (by simp [results,Try.results37,go_sem,bne]) rfl ?_
    exact⟨au ((eB k u l nm m tv n1 n2 cv z0 z1 z2 z3 z4 q1 q2 Hq3.out).trans HT.out),hB⟩
  ·(try rw [q2])
   have nq2:(nm.toList != [])=true:=by simp only [bne,q2];rfl
   go_wp2_with fail
   refine bodyPost_ret (v:=.bool (false)) (by simp [results,Try.results37,go_sem,bne]) rfl ?_
   exact⟨au ((fc k u l nm m tv n1 n2 cv z0 z1 z2 z3 z4 q1 q2).trans HT.out),hB⟩
 ·(try rw [q1])
  go_wp2_with fail
  refine bodyPost_ret (v:=.bool (false)) (by simp [results,Try.results37,go_sem,bne]) rfl ?_
  exact⟨au ((eD k u l nm m tv n1 n2 cv z0 z1 z2 z3 z4 q1).trans HT.out),hB⟩
end Go.Proofs.Ytnaoghknnenfoaa

/- The checks of a node of a term, joined; shapes and sizes of terms. -/
import Derived.Test.YtfahhonmiimmdaaGreatB3
import Derived.Test.YtfahhonmiimmdaaGreatB4
set_option linter.unusedSimpArgs false
set_option linter.unusedVariables false
set_option maxRecDepth 100000
set_option maxHeartbeats 16000000
namespace Go.Proofs.YtfahhonmiimmdaaGreat
open Go.RowKit
mutual
def Tm.shape:Tm→Int→Int→Bool
 | .mk k s u t f l ts,nt,d=>decide (1≤d) && !(k==nt)&&((aD k==(ts.length:Int))&&(Tm.mk k s u t f l ts).ownB)&&Tm.shapes ts nt (d-1)
def Tm.shapes:List Tm→Int→Int→Bool
 | [],_,_=>true
 | t :: ts,nt,d=>t.shape nt d&&Tm.shapes ts nt d
end
mutual
def Tm.size:Tm→Int
 | .mk _ _ _ _ _ _ ts=>1+Tm.sizes ts
def Tm.sizes:List Tm→Int
 | []=>0
 | t :: ts=>t.size+Tm.sizes ts
end
def Tm.valid (t:Tm):Bool:=t.shape 14 12&&decide (t.size≤30)
def Tm.castValid (t:Tm):Bool:=t.shape 13 40&&decide (t.size≤200)
theorem Tm.shapes_drop (ts:List Tm)(nt d:Int)(k:Nat)(h:k<ts.length):Tm.shapes (ts.drop k) nt d=(ts[k].shape nt d&&Tm.shapes (ts.drop (k+1)) nt d):=by
 rw[List.drop_eq_getElem_cons h]
 conv=>lhs;unfold Tm.shapes
theorem Tm.shape_parts {k u l:Int}{s:ByteArray}{t f:Ty}{ts:List Tm}{nt d:Int}(h:(Tm.mk k s u t f l ts).shape nt d=true):1≤d∧¬k=nt∧aD k=(ts.length:Int)∧(Tm.mk k s u t f l ts).ownB=true∧Tm.shapes ts nt (d-1)=true:=by
 unfold Tm.shape at h;simp only[Bool.and_eq_true,decide_eq_true_eq,Bool.not_eq_true',beq_eq_false_iff_ne,beq_iff_eq] at h
 exact⟨h.1.1.1,h.1.1.2,h.1.2.1,h.1.2.2,h.2⟩
theorem Tm.shapes_mem {nt d:Int} : ∀ {ts:List Tm} {t:Tm},Tm.shapes ts nt d=true→t∈ts→t.shape nt d=true
 | u :: ts,t,h,ht=>by
  unfold Tm.shapes at h;simp only[Bool.and_eq_true] at h
  rcases List.mem_cons.1 ht with rfl | ht
  ·exact h.1
  ·exact Tm.shapes_mem h.2 ht
theorem nV (k:Int):aD k≤3:=by unfold aD;(repeat' split)<;>omega
mutual
theorem Tm.size_pos : ∀t:Tm,1≤t.size
 | .mk _ _ _ _ _ _ ts=>by unfold Tm.size;have:=Tm.sizes_pos ts;omega
theorem Tm.sizes_pos : ∀ts:List Tm,0≤Tm.sizes ts
 | []=>by unfold Tm.sizes;omega
 | t :: ts=>by unfold Tm.sizes;have:=Tm.size_pos t;have:=Tm.sizes_pos ts;omega
end
mutual
theorem Tm.size_shape : ∀(t:Tm) (nt:Int) (n:Nat),t.shape nt n=true→2*t.size+1≤3 ^ n
 | .mk k s u t f l ts,nt,n,h=>by
  obtain⟨h1,-,h3,-,h5⟩:=Tm.shape_parts h;obtain⟨m,rfl⟩ : ∃m,n=m+1:=⟨n-1,by omega⟩
  rw[show((m+1:Nat):Int)-1=(m:Int) from by omega] at h5;have h6:=Tm.sizes_shape ts nt m h5;have h7:=nV k;have h8:(1:Int)≤3 ^ m:=by exact_mod_cast Nat.one_le_pow _ _ (by omega)
  unfold Tm.size;have h9:(3:Int) ^ (m+1)=3*3 ^ m:=by rw[Int.pow_succ];omega
  rw[h3] at h7;have h10:(ts.length:Int)*3 ^ m≤3*3 ^ m:=Int.mul_le_mul_of_nonneg_right h7 (by omega);have h11:ts.length=0∨1≤ts.length:=by omega
  rcases h11 with h11 | h11
  ·have:ts = []:=List.eq_nil_of_length_eq_zero h11
   subst this;simp only[Tm.sizes] at *
   omega
  ·have h12:ts.length=1∨ts.length=2∨ts.length=3:=by omega
   rcases h12 with h12 | h12 | h12
   ·rw[show(ts.length:Int)=1 from by omega] at h6;omega
   ·rw[show(ts.length:Int)=2 from by omega] at h6;omega
   ·rw[show(ts.length:Int)=3 from by omega] at h6;omega
theorem Tm.sizes_shape : ∀(ts:List Tm) (nt:Int) (n:Nat),Tm.shapes ts nt n=true→2*Tm.sizes ts+ts.length≤(ts.length:Int)*3 ^ n
 | [],nt,n,h=>by unfold Tm.sizes;simp
 | t :: ts,nt,n,h=>by
  unfold Tm.shapes at h;simp only[Bool.and_eq_true] at h;have h1:=Tm.size_shape t nt n h.1;have h2:=Tm.sizes_shape ts nt n h.2;unfold Tm.sizes;rw[List.length_cons,show((ts.length+1:Nat):Int)*3 ^ n=(ts.length:Int)*3 ^ n+3 ^ n from by rw[Int.natCast_add,Int.add_mul];simp]
  omega
end
theorem Tm.sizes_take_succ : ∀(ts:List Tm) (j:Nat) (h:j<ts.length),Tm.sizes (ts.take (j+1))=Tm.sizes (ts.take j)+ts[j].size
 | [],_,h=>absurd h (Nat.not_lt_zero _)
 | t :: ts,0,_=>by simp[Tm.sizes]
 | t :: ts,j+1,h=>by
  have:=Tm.sizes_take_succ ts j (by simpa using h);simp only[List.take_succ_cons,Tm.sizes,List.getElem_cons_succ]
  omega
theorem Tm.sizes_take_le : ∀(ts:List Tm) (j:Nat),Tm.sizes (ts.take j)≤Tm.sizes ts
 | [],_=>by simp
 | t :: ts,0=>by have:=Tm.sizes_pos (t :: ts);simpa [Tm.sizes] using this
 | t :: ts,j+1=>by
  have:=Tm.sizes_take_le ts j;simp only[List.take_succ_cons,Tm.sizes]
  omega
theorem Tm.size_bd {t:Tm}{nt:Int}{n:Nat}(h:t.shape nt n=true)(hn:n≤40):t.size≤6078832729528464400:=by
 have h1:=Tm.size_shape t nt n h;have h2:(3:Int) ^ n≤3 ^ 40:=by exact_mod_cast Nat.pow_le_pow_right (by omega) hn
 have h3:(3:Int) ^ 40=12157665459056928801:=by decide
 omega
theorem px (u l:Int)(nm:ByteArray)(tv n1 n2 sv cc:Bool)(h0:(nm.toList == [])=true)(h1:(u==0)=true)(h2:(decide ((bF l)≥1))=true)(h3:(decide ((bF l)≤99))=true)(h4:(tv)=true)(h5:(sv)=true)(h6:decide (bF l≥1)=ce l)(h7:decide (bF l≤99)=true):(cc:Bool)=(ownB 14 u l nm tv n1 n2 (sv&&tv&&cc)):=by
 first | (simp_all [ownB,bB];done) | grind [ownB,bB]
theorem py (u l:Int)(nm:ByteArray)(tv n1 n2 sv cc:Bool)(h0:(nm.toList == [])=true)(h1:(u==0)=true)(h2:(decide ((bF l)≥1))=true)(h3:(decide ((bF l)≤99))=true)(h4:(tv)=true)(h5:(sv)=false)(h6:decide (bF l≥1)=ce l)(h7:decide (bF l≤99)=true):(false:Bool)=(ownB 14 u l nm tv n1 n2 (sv&&tv&&cc)):=by
 first | (simp_all [ownB,bB];done) | grind [ownB,bB]
theorem pz (u l:Int)(nm:ByteArray)(tv n1 n2 sv cc:Bool)(h0:(nm.toList == [])=true)(h1:(u==0)=true)(h2:(decide ((bF l)≥1))=true)(h3:(decide ((bF l)≤99))=true)(h4:(tv)=false)(h5:decide (bF l≥1)=ce l)(h6:decide (bF l≤99)=true):(false:Bool)=(ownB 14 u l nm tv n1 n2 (sv&&tv&&cc)):=by
 first | (simp_all [ownB,bB];done) | grind [ownB,bB]
theorem pA (u l:Int)(nm:ByteArray)(tv n1 n2 sv cc:Bool)(h0:(nm.toList == [])=true)(h1:(u==0)=true)(h2:(decide ((bF l)≥1))=true)(h3:(decide ((bF l)≤99))=false)(h4:decide (bF l≥1)=ce l)(h5:decide (bF l≤99)=true):(false:Bool)=(ownB 14 u l nm tv n1 n2 (sv&&tv&&cc)):=by
 first | (simp_all [ownB,bB];done) | grind [ownB,bB]
theorem pB (u l:Int)(nm:ByteArray)(tv n1 n2 sv cc:Bool)(h0:(nm.toList == [])=true)(h1:(u==0)=true)(h2:(decide ((bF l)≥1))=false)(h3:decide (bF l≥1)=ce l)(h4:decide (bF l≤99)=true):(false:Bool)=(ownB 14 u l nm tv n1 n2 (sv&&tv&&cc)):=by
 first | (simp_all [ownB,bB];done) | grind [ownB,bB]
theorem pC (u l:Int)(nm:ByteArray)(tv n1 n2 sv cc:Bool)(h0:(nm.toList == [])=true)(h1:(u==0)=false)(h2:decide (bF l≥1)=ce l)(h3:decide (bF l≤99)=true):(false:Bool)=(ownB 14 u l nm tv n1 n2 (sv&&tv&&cc)):=by
 first | (simp_all [ownB,bB];done) | grind [ownB,bB]
theorem pD (u l:Int)(nm:ByteArray)(tv n1 n2 sv cc:Bool)(h0:(nm.toList == [])=false)(h1:decide (bF l≥1)=ce l)(h2:decide (bF l≤99)=true):(false:Bool)=(ownB 14 u l nm tv n1 n2 (sv&&tv&&cc)):=by
 first | (simp_all [ownB,bB];done) | grind [ownB,bB]
theorem uy (F:Nat→Prop)(t:Tm)(y:Value)(w:World)(hy:ax F w t y) :
  Calls Tryz.prog 64 #[y] w fun e w'=>e = .returned (.bool (t.nodeB))∧Below w.heap.size w w':=by
 obtain⟨k,nm,u,tk,ta,tn,tq,fk,fa,fn,fq,l,c,m,q,rfl⟩:=hy.shape;obtain⟨r1,r2,r3,r4,r5,r6,r7,r8,r9,rn,rm,rq,hty,hsr,hks⟩:=hy.parts;have h1:=fun W (h:Below w.heap.size w W)=>eS F t.type _ W (hty.below h);have h2:=fun W (h:Below w.heap.size w W)=>iU tk ta tn tq W;have h4:=fun W (h:Below w.heap.size w W)=>iU fk fa fn fq W;have h3:=fun W (h:Below w.heap.size w W)=>ep F F t.src t.type _ _ W (hsr.below h) (hty.below h);have e1:t.type.noneB=noneB tk tn:=by unfold Ty.noneB;rw[r4,r5]
 have e2:t.src.noneB=noneB fk fn:=by unfold Ty.noneB;rw[r6,r7]
 rw[←e1] at h2;rw[←e2] at h4;have e:nodeB k u l nm m t.type.valid t.type.noneB t.src.noneB (t.src.valid&&t.type.valid&&t.src.cons t.type)=t.nodeB:=by unfold Tm.nodeB Tm.ownB nodeB;rw[r1,r2,r3,r8,r9]
 rw[←e]
 rcases kinds6 k with rfl | rfl | rfl | rfl | rfl | ⟨z0,z1,z2,z3,z4⟩
 ·exact oY u tk fk l nm ta fa c tn tq fn fq m q w _ _ _ (t.src.valid&&t.type.valid&&t.src.cons t.type) (zq h1) (zq h2) (zq h4) (zq h3)
 ·exact oZ u tk fk l nm ta fa c tn tq fn fq m q w _ _ _ (t.src.valid&&t.type.valid&&t.src.cons t.type) (zq h1) (zq h2) (zq h4) (zq h3)
 ·exact p7 u tk fk l nm ta fa c tn tq fn fq m q w _ _ _ (t.src.valid&&t.type.valid&&t.src.cons t.type) (zq h1) (zq h2) (zq h4) (zq h3)
 ·exact om u tk fk l nm ta fa c tn tq fn fq m q w _ _ _ (t.src.valid&&t.type.valid&&t.src.cons t.type) (zq h1) (zq h2) (zq h4) (zq h3)
 ·exact on u tk fk l nm ta fa c tn tq fn fq m q w _ _ _ (t.src.valid&&t.type.valid&&t.src.cons t.type) (zq h1) (zq h2) (zq h4) (zq h3)
 ·exact p9 k u tk fk l nm ta fa c tn tq fn fq m q w _ _ _ (t.src.valid&&t.type.valid&&t.src.cons t.type) z0 z1 z2 z3 z4 (zq h1) (zq h2) (zq h4) (zq h3)
theorem oa (F:Nat→Prop)(t:Tm)(y:Value)(w:World)(hy:ax F w t y)(hk:(t.kind==14)=false) :
  Calls Tryz.prog 78 #[y] w fun e w'=>e = .returned (.bool (t.ownB))∧Below w.heap.size w w':=by
 obtain⟨k,nm,u,tk,ta,tn,tq,fk,fa,fn,fq,l,c,m,q,rfl⟩:=hy.shape;obtain⟨r1,r2,r3,r4,r5,r6,r7,r8,r9,rn,rm,rq,hty,hsr,hks⟩:=hy.parts;have h1:=fun W (h:Below w.heap.size w W)=>bV F t.type _ W (hty.below h);have h2:=fun W (h:Below w.heap.size w W)=>lS tk ta tn tq W;have h4:=fun W (h:Below w.heap.size w W)=>lS fk fa fn fq W;have e1:t.type.noneB=noneB tk tn:=by unfold Ty.noneB;rw[r4,r5]
 have e2:t.src.noneB=noneB fk fn:=by unfold Ty.noneB;rw[r6,r7]
 rw[←e1] at h2;rw[←e2] at h4;have e:ownB k u l nm t.type.valid t.type.noneB t.src.noneB (t.src.valid&&t.type.valid&&t.src.cons t.type)=t.ownB:=by unfold Tm.ownB;rw[r1,r2,r3,r8]
 rw[←e];rw[←r1] at hk
 rcases kinds6 k with rfl | rfl | rfl | rfl | rfl | ⟨z0,z1,z2,z3,z4⟩
 ·exact tW u tk fk l nm ta fa c tn tq fn fq m q w _ _ _ (t.src.valid&&t.type.valid&&t.src.cons t.type) (zq h1) (zq h2) (zq h4)
 ·exact tX u tk fk l nm ta fa c tn tq fn fq m q w _ _ _ (t.src.valid&&t.type.valid&&t.src.cons t.type) (zq h1) (zq h2) (zq h4)
 ·exact tY u tk fk l nm ta fa c tn tq fn fq m q w _ _ _ (t.src.valid&&t.type.valid&&t.src.cons t.type) (zq h1) (zq h2) (zq h4)
 ·exact sN u tk fk l nm ta fa c tn tq fn fq m q w _ _ _ (t.src.valid&&t.type.valid&&t.src.cons t.type) (zq h1) (zq h2) (zq h4)
 ·exact absurd hk (by decide)
 ·exact tZ k u tk fk l nm ta fa c tn tq fn fq m q w _ _ _ (t.src.valid&&t.type.valid&&t.src.cons t.type) z0 z1 z2 z3 z4 (zq h1) (zq h2) (zq h4)
theorem uA (n:Int)(w:World):Calls Tryz.prog 104 #[.int .i64 n] w fun e w'=>e = .returned (.int .i64 (bF n))∧Below w.heap.size w w':=(uQ n w).mono fun e w' h=>⟨h.1,h.2▸Below.refl _ _⟩
theorem em (n:Int):decide (bF n≤99)=true:=by unfold bF;simp only[decide_eq_true_eq];split<;>(try split)<;>omega
theorem sU (u tk fk l:Int)(nm:ByteArray)(ta fa c:Option Addr)(tn tq fn fq m q:Nat)(tv n1 n2 sv cc:Bool)(w:World)(H1:Hid (∀W,Below w.heap.size w W→Calls Tryz.prog 83 #[.agg #[.int .i64 tk,.slice ta tn tq]] W fun e W'=>e = .returned (.bool (tv))∧Below W.heap.size W W'))(H2:Hid (∀W,Below w.heap.size w W→Calls Tryz.prog 83 #[.agg #[.int .i64 fk,.slice fa fn fq]] W fun e W'=>e = .returned (.bool (sv))∧Below W.heap.size W W'))(H3:Hid (tv=true→sv=true→∀W,Below w.heap.size w W→Calls Tryz.prog 58 #[.agg #[.int .i64 fk,.slice fa fn fq],.agg #[.int .i64 tk,.slice ta tn tq]] W fun e W'=>e = .returned (.bool (cc))∧Below W.heap.size W W')) :
  Calls Tryz.prog 77 #[.agg #[.int .i64 14,.string nm,.int .i64 u,.int .i64 tk,.slice ta tn tq,.int .i64 fk,.slice fa fn fq,.int .i64 l,.slice c m q]] w fun e w'=>e = .returned (.bool (ownB 14 u l nm tv n1 n2 (sv&&tv&&cc)))∧Below w.heap.size w w':=by
 obtain⟨rr,hrr⟩ : ∃rr0:Bool,(ownB 14 u l nm tv n1 n2 (sv&&tv&&cc))=rr0:=⟨_,rfl⟩
 rw[hrr];have HT:=zq hrr;clear hrr
 go_enter Tryz.func77,Tryz.ntmps77
 go_wp2_with fail
 refine(uA l _).mono ?_;rintro e w1 ⟨rfl,hb1⟩;have hB:=(aj ai hb1)
 have zw1:=hB.size;have c0_1:w1.cell? ⟨w.heap.size,1,none⟩=some (.string nm):=ah hb1 (ap (by simp) 1);have c0_2:w1.cell? ⟨w.heap.size,2,none⟩=some (.int .i64 u):=ah hb1 (ap (by simp) 2);have c0_3:w1.cell? ⟨w.heap.size,3,none⟩=some (.int .i64 tk):=ah hb1 (ap (by simp) 3);have c0_4:w1.cell? ⟨w.heap.size,4,none⟩=some (.slice ta tn tq):=ah hb1 (ap (by simp) 4);have c0_5:w1.cell? ⟨w.heap.size,5,none⟩=some (.int .i64 fk):=ah hb1 (ap (by simp) 5);have c0_6:w1.cell? ⟨w.heap.size,6,none⟩=some (.slice fa fn fq):=ah hb1 (ap (by simp) 6);have d0_w1:=World.block_lt_of_cell? _ _ c0_1
 rcases Bool.eq_false_or_eq_true (nm.toList == []) with q1 | q1
 ·skip
  have nq1:(nm.toList != [])=false:=by simp only[bne,q1];rfl
  rcases Bool.eq_false_or_eq_true (u==0) with q2 | q2
  ·skip
   have nq2:(u != 0)=false:=by simp only[bne,q2];rfl
   rcases Bool.eq_false_or_eq_true (decide ((bF l)≥1)) with q3 | q3
   ·skip
    rcases Bool.eq_false_or_eq_true (decide ((bF l)≤99)) with q4 | q4
    ·skip
     rcases Bool.eq_false_or_eq_true (tv) with q5 | q5
     ·have Hq5:=zq q5
      clear q5
      rcases Bool.eq_false_or_eq_true (sv) with q6 | q6
      ·have Hq6:=zq q6
       clear q6
       go_wp2_with fail
       refine(H1.out _ hB).mono ?_;rintro e w2 ⟨rfl,hb2⟩;rw[Hq5.out];replace hB:=(aj hB hb2)
       have zw2:=hB.size;replace c0_5:=ah hb2 c0_5;replace c0_6:=ah hb2 c0_6;replace c0_3:=ah hb2 c0_3;replace c0_4:=ah hb2 c0_4;have d0_w2:=World.block_lt_of_cell? _ _ c0_5
       go_wp2_with fail
       refine(H2.out _ hB).mono ?_;rintro e w3 ⟨rfl,hb3⟩;rw[Hq6.out];replace hB:=(aj hB hb3)
       have zw3:=hB.size;replace c0_5:=ah hb3 c0_5;replace c0_6:=ah hb3 c0_6;replace c0_3:=ah hb3 c0_3;replace c0_4:=ah hb3 c0_4;have d0_w3:=World.block_lt_of_cell? _ _ c0_5
       go_wp2_with fail
       refine(H3.out Hq5.out Hq6.out _ hB).mono ?_;rintro e w4 ⟨rfl,hb4⟩;replace hB:=(aj hB hb4)
       have zw4:=hB.size
       go_wp2_with fail
       refine bodyPost_ret (v:=.bool (cc)) (by simp[results,Tryz.results77,go_sem,bne]) rfl ?_
       exact⟨au ((px u l nm tv n1 n2 sv cc q1 q2 q3 q4 Hq5.out Hq6.out (da l) (em l)).trans HT.out),hB⟩
      ·have Hq6:=zq q6
       clear q6
       go_wp2_with fail
       refine(H1.out _ hB).mono ?_;rintro e w5 ⟨rfl,hb5⟩;rw[Hq5.out];replace hB:=(aj hB hb5)
       have zw5:=hB.size;replace c0_5:=ah hb5 c0_5;replace c0_6:=ah hb5 c0_6;have d0_w5:=World.block_lt_of_cell? _ _ c0_5
       go_wp2_with fail
       refine(H2.out _ hB).mono ?_;rintro e w6 ⟨rfl,hb6⟩;rw[Hq6.out];replace hB:=(aj hB hb6)
       have zw6:=hB.size
       go_wp2_with fail
       refine bodyPost_ret (v:=.bool (false)) (by simp[results,Tryz.results77,go_sem,bne]) rfl ?_
       exact⟨au ((py u l nm tv n1 n2 sv cc q1 q2 q3 q4 Hq5.out Hq6.out (da l) (em l)).trans HT.out),hB⟩
     ·have Hq5:=zq q5
      clear q5
      go_wp2_with fail
      refine(H1.out _ hB).mono ?_;rintro e w7 ⟨rfl,hb7⟩;rw[Hq5.out];replace hB:=(aj hB hb7)
      have zw7:=hB.size
      go_wp2_with fail
      refine bodyPost_ret (v:=.bool (false)) (by simp[results,Tryz.results77,go_sem,bne]) rfl ?_
      exact⟨au ((pz u l nm tv n1 n2 sv cc q1 q2 q3 q4 Hq5.out (da l) (em l)).trans HT.out),hB⟩
    ·skip
     go_wp2_with fail
     refine bodyPost_ret (v:=.bool (false)) (by simp[results,Tryz.results77,go_sem,bne]) rfl ?_
     exact⟨au ((pA u l nm tv n1 n2 sv cc q1 q2 q3 q4 (da l) (em l)).trans HT.out),hB⟩
   ·skip
    go_wp2_with fail
    refine bodyPost_ret (v:=.bool (false)) (by simp[results,Tryz.results77,go_sem,bne]) rfl ?_
    exact⟨au ((pB u l nm tv n1 n2 sv cc q1 q2 q3 (da l) (em l)).trans HT.out),hB⟩
  ·skip
   have nq2:(u != 0)=true:=by simp only[bne,q2];rfl
   go_wp2_with fail
   refine bodyPost_ret (v:=.bool (false)) (by simp[results,Tryz.results77,go_sem,bne]) rfl ?_
   exact⟨au ((pC u l nm tv n1 n2 sv cc q1 q2 (da l) (em l)).trans HT.out),hB⟩
 ·skip
  have nq1:(nm.toList != [])=true:=by simp only[bne,q1];rfl
  go_wp2_with fail
  refine bodyPost_ret (v:=.bool (false)) (by simp[results,Tryz.results77,go_sem,bne]) rfl ?_
  exact⟨au ((pD u l nm tv n1 n2 sv cc q1 (da l) (em l)).trans HT.out),hB⟩
theorem uS (F:Nat→Prop)(t:Tm)(y:Value)(w:World)(hy:ax F w t y)(hk:(t.kind==14)=true) :
  Calls Tryz.prog 77 #[y] w fun e w'=>e = .returned (.bool (t.ownB))∧Below w.heap.size w w':=by
 obtain⟨k,nm,u,tk,ta,tn,tq,fk,fa,fn,fq,l,c,m,q,rfl⟩:=hy.shape;obtain⟨r1,r2,r3,r4,r5,r6,r7,r8,r9,rn,rm,rq,hty,hsr,hks⟩:=hy.parts;have h1:=fun W (h:Below w.heap.size w W)=>bV F t.type _ W (hty.below h);have h2:=fun W (h:Below w.heap.size w W)=>bV F t.src _ W (hsr.below h);have h3:=fun(a:t.type.valid=true) (b:t.src.valid=true) W (h:Below w.heap.size w W)=>ef F F t.src t.type _ _ _ _ W (hsr.below h) (hty.below h) b a;have e:ownB k u l nm t.type.valid t.type.noneB t.src.noneB (t.src.valid&&t.type.valid&&t.src.cons t.type)=t.ownB:=by unfold Tm.ownB;rw[r1,r2,r3,r8]
 rw[←e];rw[←r1] at hk;obtain rfl:k=14:=by simpa using hk
 exact sU u tk fk l nm ta fa c tn tq fn fq m q _ _ _ _ _ w (zq h1) (zq h2) (zq h3)
end Go.Proofs.YtfahhonmiimmdaaGreat

/- The checks of a node of a term, joined; shapes and sizes of terms. And what else its parts name. -/
import Derived.Test.YtfahhonmiimmdaaGreatTmNodeS
import Derived.Test.YtfahhonmiimmdaaGreatB5
import Derived.Test.YtfahhonmiimmdaaGreatTmNodeI2
import Derived.Test.YtfahhonmiimmdaaGreatDraw
set_option linter.unusedSimpArgs false
set_option linter.unusedVariables false
set_option maxRecDepth 100000
set_option maxHeartbeats 16000000
namespace Go.Proofs.YtfahhonmiimmdaaGreat
open Go.RowKit
mutual
def Tm.shape:Tm→Int→Int→Bool
 | .mk k s u t f l ts,nt,d=>decide (1≤d) && !(k==nt)&&((aG k==(ts.length:Int))&&(Tm.mk k s u t f l ts).ownB)&&Tm.shapes ts nt (d-1)
def Tm.shapes:List Tm→Int→Int→Bool
 | [],_,_=>true
 | t :: ts,nt,d=>t.shape nt d&&Tm.shapes ts nt d
end
mutual
def Tm.size:Tm→Int
 | .mk _ _ _ _ _ _ ts=>1+Tm.sizes ts
def Tm.sizes:List Tm→Int
 | []=>0
 | t :: ts=>t.size+Tm.sizes ts
end
def Tm.valid (t:Tm):Bool:=t.shape 14 12&&decide (t.size≤30)
def Tm.castValid (t:Tm):Bool:=t.shape 13 40&&decide (t.size≤200)
theorem Tm.shapes_drop (ts:List Tm)(nt d:Int)(k:Nat)(h:k<ts.length):Tm.shapes (ts.drop k) nt d=(ts[k].shape nt d&&Tm.shapes (ts.drop (k+1)) nt d):=by
 rw[List.drop_eq_getElem_cons h]
 conv=>lhs;unfold Tm.shapes
theorem Tm.shape_parts {k u l:Int}{s:ByteArray}{t f:Ty}{ts:List Tm}{nt d:Int}(h:(Tm.mk k s u t f l ts).shape nt d=true):1≤d∧¬k=nt∧aG k=(ts.length:Int)∧(Tm.mk k s u t f l ts).ownB=true∧Tm.shapes ts nt (d-1)=true:=by
 unfold Tm.shape at h;simp only[Bool.and_eq_true,decide_eq_true_eq,Bool.not_eq_true',beq_eq_false_iff_ne,beq_iff_eq] at h
 exact⟨h.1.1.1,h.1.1.2,h.1.2.1,h.1.2.2,h.2⟩
theorem Tm.shapes_mem {nt d:Int} : ∀ {ts:List Tm} {t:Tm},Tm.shapes ts nt d=true→t∈ts→t.shape nt d=true
 | u :: ts,t,h,ht=>by
  unfold Tm.shapes at h;simp only[Bool.and_eq_true] at h
  rcases List.mem_cons.1 ht with rfl | ht
  ·exact h.1
  ·exact Tm.shapes_mem h.2 ht
theorem n7 (k:Int):aG k≤3:=by unfold aG;(repeat' split)<;>omega
mutual
theorem Tm.size_pos : ∀t:Tm,1≤t.size
 | .mk _ _ _ _ _ _ ts=>by unfold Tm.size;have:=Tm.sizes_pos ts;omega
theorem Tm.sizes_pos : ∀ts:List Tm,0≤Tm.sizes ts
 | []=>by unfold Tm.sizes;omega
 | t :: ts=>by unfold Tm.sizes;have:=Tm.size_pos t;have:=Tm.sizes_pos ts;omega
end
mutual
theorem Tm.size_shape : ∀(t:Tm) (nt:Int) (n:Nat),t.shape nt n=true→2*t.size+1≤3 ^ n
 | .mk k s u t f l ts,nt,n,h=>by
  obtain⟨h1,-,h3,-,h5⟩:=Tm.shape_parts h;obtain⟨m,rfl⟩ : ∃m,n=m+1:=⟨n-1,by omega⟩
  rw[show((m+1:Nat):Int)-1=(m:Int) from by omega] at h5;have h6:=Tm.sizes_shape ts nt m h5;have h7:=n7 k;have h8:(1:Int)≤3 ^ m:=by exact_mod_cast Nat.one_le_pow _ _ (by omega)
  unfold Tm.size;have h9:(3:Int) ^ (m+1)=3*3 ^ m:=by rw[Int.pow_succ];omega
  rw[h3] at h7;have h10:(ts.length:Int)*3 ^ m≤3*3 ^ m:=Int.mul_le_mul_of_nonneg_right h7 (by omega);have h11:ts.length=0∨1≤ts.length:=by omega
  rcases h11 with h11 | h11
  ·have:ts = []:=List.eq_nil_of_length_eq_zero h11
   subst this;simp only[Tm.sizes] at *
   omega
  ·have h12:ts.length=1∨ts.length=2∨ts.length=3:=by omega
   rcases h12 with h12 | h12 | h12
   ·rw[show(ts.length:Int)=1 from by omega] at h6;omega
   ·rw[show(ts.length:Int)=2 from by omega] at h6;omega
   ·rw[show(ts.length:Int)=3 from by omega] at h6;omega
theorem Tm.sizes_shape : ∀(ts:List Tm) (nt:Int) (n:Nat),Tm.shapes ts nt n=true→2*Tm.sizes ts+ts.length≤(ts.length:Int)*3 ^ n
 | [],nt,n,h=>by unfold Tm.sizes;simp
 | t :: ts,nt,n,h=>by
  unfold Tm.shapes at h;simp only[Bool.and_eq_true] at h;have h1:=Tm.size_shape t nt n h.1;have h2:=Tm.sizes_shape ts nt n h.2;unfold Tm.sizes;rw[List.length_cons,show((ts.length+1:Nat):Int)*3 ^ n=(ts.length:Int)*3 ^ n+3 ^ n from by rw[Int.natCast_add,Int.add_mul];simp]
  omega
end
theorem Tm.sizes_take_succ : ∀(ts:List Tm) (j:Nat) (h:j<ts.length),Tm.sizes (ts.take (j+1))=Tm.sizes (ts.take j)+ts[j].size
 | [],_,h=>absurd h (Nat.not_lt_zero _)
 | t :: ts,0,_=>by simp[Tm.sizes]
 | t :: ts,j+1,h=>by
  have:=Tm.sizes_take_succ ts j (by simpa using h);simp only[List.take_succ_cons,Tm.sizes,List.getElem_cons_succ]
  omega
theorem Tm.sizes_take_le : ∀(ts:List Tm) (j:Nat),Tm.sizes (ts.take j)≤Tm.sizes ts
 | [],_=>by simp
 | t :: ts,0=>by have:=Tm.sizes_pos (t :: ts);simpa [Tm.sizes] using this
 | t :: ts,j+1=>by
  have:=Tm.sizes_take_le ts j;simp only[List.take_succ_cons,Tm.sizes]
  omega
theorem Tm.size_bd {t:Tm}{nt:Int}{n:Nat}(h:t.shape nt n=true)(hn:n≤40):t.size≤6078832729528464400:=by
 have h1:=Tm.size_shape t nt n h;have h2:(3:Int) ^ n≤3 ^ 40:=by exact_mod_cast Nat.pow_le_pow_right (by omega) hn
 have h3:(3:Int) ^ 40=12157665459056928801:=by decide
 omega
theorem oF (u l:Int)(nm:ByteArray)(tv n1 n2 sv cc:Bool)(h0:(nm.toList == [])=true)(h1:(u==0)=true)(h2:(decide ((bJ l)≥1))=true)(h3:(decide ((bJ l)≤99))=true)(h4:(tv)=true)(h5:(sv)=true)(h6:decide (bJ l≥1)=cj l)(h7:decide (bJ l≤99)=true):(cc:Bool)=(ownB 14 u l nm tv n1 n2 (sv&&tv&&cc)):=by
 first | (simp_all [ownB,bG];done) | grind [ownB,bG]
theorem oG (u l:Int)(nm:ByteArray)(tv n1 n2 sv cc:Bool)(h0:(nm.toList == [])=true)(h1:(u==0)=true)(h2:(decide ((bJ l)≥1))=true)(h3:(decide ((bJ l)≤99))=true)(h4:(tv)=true)(h5:(sv)=false)(h6:decide (bJ l≥1)=cj l)(h7:decide (bJ l≤99)=true):(false:Bool)=(ownB 14 u l nm tv n1 n2 (sv&&tv&&cc)):=by
 first | (simp_all [ownB,bG];done) | grind [ownB,bG]
theorem oH (u l:Int)(nm:ByteArray)(tv n1 n2 sv cc:Bool)(h0:(nm.toList == [])=true)(h1:(u==0)=true)(h2:(decide ((bJ l)≥1))=true)(h3:(decide ((bJ l)≤99))=true)(h4:(tv)=false)(h5:decide (bJ l≥1)=cj l)(h6:decide (bJ l≤99)=true):(false:Bool)=(ownB 14 u l nm tv n1 n2 (sv&&tv&&cc)):=by
 first | (simp_all [ownB,bG];done) | grind [ownB,bG]
theorem oI (u l:Int)(nm:ByteArray)(tv n1 n2 sv cc:Bool)(h0:(nm.toList == [])=true)(h1:(u==0)=true)(h2:(decide ((bJ l)≥1))=true)(h3:(decide ((bJ l)≤99))=false)(h4:decide (bJ l≥1)=cj l)(h5:decide (bJ l≤99)=true):(false:Bool)=(ownB 14 u l nm tv n1 n2 (sv&&tv&&cc)):=by
 first | (simp_all [ownB,bG];done) | grind [ownB,bG]
theorem oJ (u l:Int)(nm:ByteArray)(tv n1 n2 sv cc:Bool)(h0:(nm.toList == [])=true)(h1:(u==0)=true)(h2:(decide ((bJ l)≥1))=false)(h3:decide (bJ l≥1)=cj l)(h4:decide (bJ l≤99)=true):(false:Bool)=(ownB 14 u l nm tv n1 n2 (sv&&tv&&cc)):=by
 first | (simp_all [ownB,bG];done) | grind [ownB,bG]
theorem oK (u l:Int)(nm:ByteArray)(tv n1 n2 sv cc:Bool)(h0:(nm.toList == [])=true)(h1:(u==0)=false)(h2:decide (bJ l≥1)=cj l)(h3:decide (bJ l≤99)=true):(false:Bool)=(ownB 14 u l nm tv n1 n2 (sv&&tv&&cc)):=by
 first | (simp_all [ownB,bG];done) | grind [ownB,bG]
theorem oL (u l:Int)(nm:ByteArray)(tv n1 n2 sv cc:Bool)(h0:(nm.toList == [])=false)(h1:decide (bJ l≥1)=cj l)(h2:decide (bJ l≤99)=true):(false:Bool)=(ownB 14 u l nm tv n1 n2 (sv&&tv&&cc)):=by
 first | (simp_all [ownB,bG];done) | grind [ownB,bG]
theorem tb (F:Nat→Prop)(t:Tm)(y:Value)(w:World)(hy:aA F w t y) :
  Calls Tryz.prog 64 #[y] w fun e w'=>e = .returned (.bool (t.nodeB))∧Below w.heap.size w w':=by
 obtain⟨k,nm,u,tk,ta,tn,tq,fk,fa,fn,fq,l,c,m,q,rfl⟩:=hy.shape;obtain⟨r1,r2,r3,r4,r5,r6,r7,r8,r9,rn,rm,rq,hty,hsr,hks⟩:=hy.parts;have h1:=fun W (h:Below w.heap.size w W)=>eu F t.type _ W (hty.below h);have h2:=fun W (h:Below w.heap.size w W)=>ij tk ta tn tq W;have h4:=fun W (h:Below w.heap.size w W)=>ij fk fa fn fq W;have h3:=fun W (h:Below w.heap.size w W)=>lp F F t.src t.type _ _ W (hsr.below h) (hty.below h);have e1:t.type.noneB=noneB tk tn:=by unfold Ty.noneB;rw[r4,r5]
 have e2:t.src.noneB=noneB fk fn:=by unfold Ty.noneB;rw[r6,r7]
 rw[←e1] at h2;rw[←e2] at h4;have e:nodeB k u l nm m t.type.valid t.type.noneB t.src.noneB (t.src.valid&&t.type.valid&&t.src.cons t.type)=t.nodeB:=by unfold Tm.nodeB Tm.ownB nodeB;rw[r1,r2,r3,r8,r9]
 rw[←e]
 rcases kinds6 k with rfl | rfl | rfl | rfl | rfl | ⟨z0,z1,z2,z3,z4⟩
 ·exact oa u tk fk l nm ta fa c tn tq fn fq m q w _ _ _ (t.src.valid&&t.type.valid&&t.src.cons t.type) (zq h1) (zq h2) (zq h4) (zq h3)
 ·exact ob u tk fk l nm ta fa c tn tq fn fq m q w _ _ _ (t.src.valid&&t.type.valid&&t.src.cons t.type) (zq h1) (zq h2) (zq h4) (zq h3)
 ·exact oc u tk fk l nm ta fa c tn tq fn fq m q w _ _ _ (t.src.valid&&t.type.valid&&t.src.cons t.type) (zq h1) (zq h2) (zq h4) (zq h3)
 ·exact ns u tk fk l nm ta fa c tn tq fn fq m q w _ _ _ (t.src.valid&&t.type.valid&&t.src.cons t.type) (zq h1) (zq h2) (zq h4) (zq h3)
 ·exact nu u tk fk l nm ta fa c tn tq fn fq m q w _ _ _ (t.src.valid&&t.type.valid&&t.src.cons t.type) (zq h1) (zq h2) (zq h4) (zq h3)
 ·exact od k u tk fk l nm ta fa c tn tq fn fq m q w _ _ _ (t.src.valid&&t.type.valid&&t.src.cons t.type) z0 z1 z2 z3 z4 (zq h1) (zq h2) (zq h4) (zq h3)
theorem ni (F:Nat→Prop)(t:Tm)(y:Value)(w:World)(hy:aA F w t y)(hk:(t.kind==14)=false) :
  Calls Tryz.prog 78 #[y] w fun e w'=>e = .returned (.bool (t.ownB))∧Below w.heap.size w w':=by
 obtain⟨k,nm,u,tk,ta,tn,tq,fk,fa,fn,fq,l,c,m,q,rfl⟩:=hy.shape;obtain⟨r1,r2,r3,r4,r5,r6,r7,r8,r9,rn,rm,rq,hty,hsr,hks⟩:=hy.parts;have h1:=fun W (h:Below w.heap.size w W)=>bZ F t.type _ W (hty.below h);have h2:=fun W (h:Below w.heap.size w W)=>l7 tk ta tn tq W;have h4:=fun W (h:Below w.heap.size w W)=>l7 fk fa fn fq W;have e1:t.type.noneB=noneB tk tn:=by unfold Ty.noneB;rw[r4,r5]
 have e2:t.src.noneB=noneB fk fn:=by unfold Ty.noneB;rw[r6,r7]
 rw[←e1] at h2;rw[←e2] at h4;have e:ownB k u l nm t.type.valid t.type.noneB t.src.noneB (t.src.valid&&t.type.valid&&t.src.cons t.type)=t.ownB:=by unfold Tm.ownB;rw[r1,r2,r3,r8]
 rw[←e];rw[←r1] at hk
 rcases kinds6 k with rfl | rfl | rfl | rfl | rfl | ⟨z0,z1,z2,z3,z4⟩
 ·exact sL u tk fk l nm ta fa c tn tq fn fq m q w _ _ _ (t.src.valid&&t.type.valid&&t.src.cons t.type) (zq h1) (zq h2) (zq h4)
 ·exact sM u tk fk l nm ta fa c tn tq fn fq m q w _ _ _ (t.src.valid&&t.type.valid&&t.src.cons t.type) (zq h1) (zq h2) (zq h4)
 ·exact sN u tk fk l nm ta fa c tn tq fn fq m q w _ _ _ (t.src.valid&&t.type.valid&&t.src.cons t.type) (zq h1) (zq h2) (zq h4)
 ·exact rB u tk fk l nm ta fa c tn tq fn fq m q w _ _ _ (t.src.valid&&t.type.valid&&t.src.cons t.type) (zq h1) (zq h2) (zq h4)
 ·exact absurd hk (by decide)
 ·exact sO k u tk fk l nm ta fa c tn tq fn fq m q w _ _ _ (t.src.valid&&t.type.valid&&t.src.cons t.type) z0 z1 z2 z3 z4 (zq h1) (zq h2) (zq h4)
theorem tf (n:Int)(w:World):Calls Tryz.prog 104 #[.int .i64 n] w fun e w'=>e = .returned (.int .i64 (bJ n))∧Below w.heap.size w w':=(tG n w).mono fun e w' h=>⟨h.1,h.2▸Below.refl _ _⟩
theorem el (n:Int):decide (bJ n≤99)=true:=by unfold bJ;simp only[decide_eq_true_eq];split<;>(try split)<;>omega
theorem rI (u tk fk l:Int)(nm:ByteArray)(ta fa c:Option Addr)(tn tq fn fq m q:Nat)(tv n1 n2 sv cc:Bool)(w:World)(H1:Hid (∀W,Below w.heap.size w W→Calls Tryz.prog 83 #[.agg #[.int .i64 tk,.slice ta tn tq]] W fun e W'=>e = .returned (.bool (tv))∧Below W.heap.size W W'))(H2:Hid (∀W,Below w.heap.size w W→Calls Tryz.prog 83 #[.agg #[.int .i64 fk,.slice fa fn fq]] W fun e W'=>e = .returned (.bool (sv))∧Below W.heap.size W W'))(H3:Hid (tv=true→sv=true→∀W,Below w.heap.size w W→Calls Tryz.prog 58 #[.agg #[.int .i64 fk,.slice fa fn fq],.agg #[.int .i64 tk,.slice ta tn tq]] W fun e W'=>e = .returned (.bool (cc))∧Below W.heap.size W W')) :
  Calls Tryz.prog 77 #[.agg #[.int .i64 14,.string nm,.int .i64 u,.int .i64 tk,.slice ta tn tq,.int .i64 fk,.slice fa fn fq,.int .i64 l,.slice c m q]] w fun e w'=>e = .returned (.bool (ownB 14 u l nm tv n1 n2 (sv&&tv&&cc)))∧Below w.heap.size w w':=by
 obtain⟨rr,hrr⟩ : ∃rr0:Bool,(ownB 14 u l nm tv n1 n2 (sv&&tv&&cc))=rr0:=⟨_,rfl⟩
 rw[hrr];have HT:=zq hrr;clear hrr
 go_enter Tryz.func77,Tryz.ntmps77
 go_wp2_with fail
 refine(tf l _).mono ?_;rintro e w1 ⟨rfl,hb1⟩;have hB:=(al aj hb1)
 have zw1:=hB.size;have c0_1:w1.cell? ⟨w.heap.size,1,none⟩=some (.string nm):=af hb1 (au (by simp) 1);have c0_2:w1.cell? ⟨w.heap.size,2,none⟩=some (.int .i64 u):=af hb1 (au (by simp) 2);have c0_3:w1.cell? ⟨w.heap.size,3,none⟩=some (.int .i64 tk):=af hb1 (au (by simp) 3);have c0_4:w1.cell? ⟨w.heap.size,4,none⟩=some (.slice ta tn tq):=af hb1 (au (by simp) 4);have c0_5:w1.cell? ⟨w.heap.size,5,none⟩=some (.int .i64 fk):=af hb1 (au (by simp) 5);have c0_6:w1.cell? ⟨w.heap.size,6,none⟩=some (.slice fa fn fq):=af hb1 (au (by simp) 6);have d0_w1:=World.block_lt_of_cell? _ _ c0_1
 rcases Bool.eq_false_or_eq_true (nm.toList == []) with q1 | q1
 ·skip
  have nq1:(nm.toList != [])=false:=by simp only[bne,q1];rfl
  rcases Bool.eq_false_or_eq_true (u==0) with q2 | q2
  ·skip
   have nq2:(u != 0)=false:=by simp only[bne,q2];rfl
   rcases Bool.eq_false_or_eq_true (decide ((bJ l)≥1)) with q3 | q3
   ·skip
    rcases Bool.eq_false_or_eq_true (decide ((bJ l)≤99)) with q4 | q4
    ·skip
     rcases Bool.eq_false_or_eq_true (tv) with q5 | q5
     ·have Hq5:=zq q5
      clear q5
      rcases Bool.eq_false_or_eq_true (sv) with q6 | q6
      ·have Hq6:=zq q6
       clear q6
       go_wp2_with fail
       refine(H1.out _ hB).mono ?_;rintro e w2 ⟨rfl,hb2⟩;rw[Hq5.out];replace hB:=(al hB hb2)
       have zw2:=hB.size;replace c0_5:=af hb2 c0_5;replace c0_6:=af hb2 c0_6;replace c0_3:=af hb2 c0_3;replace c0_4:=af hb2 c0_4;have d0_w2:=World.block_lt_of_cell? _ _ c0_5
       go_wp2_with fail
       refine(H2.out _ hB).mono ?_;rintro e w3 ⟨rfl,hb3⟩;rw[Hq6.out];replace hB:=(al hB hb3)
       have zw3:=hB.size;replace c0_5:=af hb3 c0_5;replace c0_6:=af hb3 c0_6;replace c0_3:=af hb3 c0_3;replace c0_4:=af hb3 c0_4;have d0_w3:=World.block_lt_of_cell? _ _ c0_5
       go_wp2_with fail
       refine(H3.out Hq5.out Hq6.out _ hB).mono ?_;rintro e w4 ⟨rfl,hb4⟩;replace hB:=(al hB hb4)
       have zw4:=hB.size
       go_wp2_with fail
       refine bodyPost_ret (v:=.bool (cc)) (by simp[results,Tryz.results77,go_sem,bne]) rfl ?_
       exact⟨ax ((oF u l nm tv n1 n2 sv cc q1 q2 q3 q4 Hq5.out Hq6.out (cX l) (el l)).trans HT.out),hB⟩
      ·have Hq6:=zq q6
       clear q6
       go_wp2_with fail
       refine(H1.out _ hB).mono ?_;rintro e w5 ⟨rfl,hb5⟩;rw[Hq5.out];replace hB:=(al hB hb5)
       have zw5:=hB.size;replace c0_5:=af hb5 c0_5;replace c0_6:=af hb5 c0_6;have d0_w5:=World.block_lt_of_cell? _ _ c0_5
       go_wp2_with fail
       refine(H2.out _ hB).mono ?_;rintro e w6 ⟨rfl,hb6⟩;rw[Hq6.out];replace hB:=(al hB hb6)
       have zw6:=hB.size
       go_wp2_with fail
       refine bodyPost_ret (v:=.bool (false)) (by simp[results,Tryz.results77,go_sem,bne]) rfl ?_
       exact⟨ax ((oG u l nm tv n1 n2 sv cc q1 q2 q3 q4 Hq5.out Hq6.out (cX l) (el l)).trans HT.out),hB⟩
     ·have Hq5:=zq q5
      clear q5
      go_wp2_with fail
      refine(H1.out _ hB).mono ?_;rintro e w7 ⟨rfl,hb7⟩;rw[Hq5.out];replace hB:=(al hB hb7)
      have zw7:=hB.size
      go_wp2_with fail
      refine bodyPost_ret (v:=.bool (false)) (by simp[results,Tryz.results77,go_sem,bne]) rfl ?_
      exact⟨ax ((oH u l nm tv n1 n2 sv cc q1 q2 q3 q4 Hq5.out (cX l) (el l)).trans HT.out),hB⟩
    ·skip
     go_wp2_with fail
     refine bodyPost_ret (v:=.bool (false)) (by simp[results,Tryz.results77,go_sem,bne]) rfl ?_
     exact⟨ax ((oI u l nm tv n1 n2 sv cc q1 q2 q3 q4 (cX l) (el l)).trans HT.out),hB⟩
   ·skip
    go_wp2_with fail
    refine bodyPost_ret (v:=.bool (false)) (by simp[results,Tryz.results77,go_sem,bne]) rfl ?_
    exact⟨ax ((oJ u l nm tv n1 n2 sv cc q1 q2 q3 (cX l) (el l)).trans HT.out),hB⟩
  ·skip
   have nq2:(u != 0)=true:=by simp only[bne,q2];rfl
   go_wp2_with fail
   refine bodyPost_ret (v:=.bool (false)) (by simp[results,Tryz.results77,go_sem,bne]) rfl ?_
   exact⟨ax ((oK u l nm tv n1 n2 sv cc q1 q2 (cX l) (el l)).trans HT.out),hB⟩
 ·skip
  have nq1:(nm.toList != [])=true:=by simp only[bne,q1];rfl
  go_wp2_with fail
  refine bodyPost_ret (v:=.bool (false)) (by simp[results,Tryz.results77,go_sem,bne]) rfl ?_
  exact⟨ax ((oL u l nm tv n1 n2 sv cc q1 (cX l) (el l)).trans HT.out),hB⟩
theorem tI (F:Nat→Prop)(t:Tm)(y:Value)(w:World)(hy:aA F w t y)(hk:(t.kind==14)=true) :
  Calls Tryz.prog 77 #[y] w fun e w'=>e = .returned (.bool (t.ownB))∧Below w.heap.size w w':=by
 obtain⟨k,nm,u,tk,ta,tn,tq,fk,fa,fn,fq,l,c,m,q,rfl⟩:=hy.shape;obtain⟨r1,r2,r3,r4,r5,r6,r7,r8,r9,rn,rm,rq,hty,hsr,hks⟩:=hy.parts;have h1:=fun W (h:Below w.heap.size w W)=>bZ F t.type _ W (hty.below h);have h2:=fun W (h:Below w.heap.size w W)=>bZ F t.src _ W (hsr.below h);have h3:=fun(a:t.type.valid=true) (b:t.src.valid=true) W (h:Below w.heap.size w W)=>ec F F t.src t.type _ _ _ _ W (hsr.below h) (hty.below h) b a;have e:ownB k u l nm t.type.valid t.type.noneB t.src.noneB (t.src.valid&&t.type.valid&&t.src.cons t.type)=t.ownB:=by unfold Tm.ownB;rw[r1,r2,r3,r8]
 rw[←e];rw[←r1] at hk;obtain rfl:k=14:=by simpa using hk
 exact rI u tk fk l nm ta fa c tn tq fn fq m q _ _ _ _ _ w (zq h1) (zq h2) (zq h3)
def bs (l:List UInt8):ByteArray:=⟨l.toArray⟩
theorem bs_size (l:List UInt8):(bs l).size=l.length:=by unfold bs;simp[ByteArray.size]
def eO (x:UInt8):List UInt8→List UInt8
 | []=> [x]
 | y :: l=>if y<x then y :: eO x l else if y=x then y :: l else x :: y :: l
theorem gc (x:UInt8) : ∀(l:List UInt8) (k:Nat) (hk:k≤l.length),(∀y∈l.take k,y<x)→(∀h:k<l.length,¬l[k]<x)→eO x l=if l[k]?=some x then l else l.take k++x :: l.drop k
 | [],k,hk,_,_=>by
  obtain rfl:k=0:=by simpa using hk
  rfl
 | y :: l,0,_,_,h2=>by
  have h3 : ¬y<x:=h2 (by simp);unfold eO;rw[if_neg h3]
  by_cases h4:y=x
  ·subst h4;rw[if_pos rfl,if_pos (by simp)]
  ·rw[if_neg h4,if_neg (by simpa using h4)];rfl
 | y :: l,k+1,hk,h1,h2=>by
  have h3:y<x:=h1 y (by simp);have ih:=gc x l k (by simpa using hk) (fun z hz=>h1 z (by rw[List.take_succ_cons];exact List.mem_cons_of_mem _ hz)) (fun h=>by have:=h2 (by simpa using h);simpa using this);unfold eO;rw[if_pos h3,ih];simp only[List.getElem?_cons_succ,List.take_succ_cons,List.drop_succ_cons]
  split<;>rfl
mutual
def Tm.fr:Tm→(UInt8→Bool)→UInt8→Bool
 | .mk k s _ _ _ _ ts,q,c=>(k==1 && !(q c)&&s.data.toList == [c])||Tm.frs ts (if k==5 then fun d=>q d||s.data.toList == [d] else q) c
def Tm.frs:List Tm→(UInt8→Bool)→UInt8→Bool
 | [],_,_=>false
 | t :: ts,q,c=>t.fr q c||Tm.frs ts q c
end
theorem ie (l:List UInt8):(bs l).toList=l:=by unfold bs;exact ByteArray.toList_mk l
theorem gb (l:List UInt8)(i j:Nat):(bs l).extract i j=bs ((l.take j).drop i):=by
 apply ByteArray.ext
 unfold bs;rw[ByteArray.data_extract]
 apply Array.ext'
 simp[List.extract_eq_take_drop,List.drop_take]
theorem n9 (a b:List UInt8):bs a++bs b=bs (a++b):=by
 apply ByteArray.ext
 unfold bs;rw[ByteArray.data_append]
 apply Array.ext'
 simp
theorem bs_one (l:List UInt8)(j:Nat)(h:j<l.length):((bs l).extract j (j+1)).toList = [l[j]]:=by
 rw[gb,ie,List.take_succ_eq_append_getElem h,List.drop_append_of_le_length (by simp;omega)]
 simp[List.drop_take]
theorem np (a b:UInt8):Op.bytesLess [a] [b]=decide (a<b):=by
 simp[Op.bytesLess]
theorem tH (l:List UInt8)(x:UInt8)(w:World)(hl:l.length≤1000) :
  Calls Tryz.prog 114 #[.string (bs l),.string (bs [x])] w fun e w'=>e = .returned (.string (bs (eO x l)))∧Below w.heap.size w w':=by
 obtain⟨n,hn⟩ : ∃n,l.length=n:=⟨_,rfl⟩
 obtain⟨s,hs⟩ : ∃s,bs l=s:=⟨_,rfl⟩
 have hsz:s.size=n:=by rw[←hs,bs_size,hn]
 have hx1:(bs [x]).size=1:=rfl;obtain⟨r,hr⟩ : ∃r,bs (eO x l)=r:=⟨_,rfl⟩
 have hex : ∀j (h:j<l.length),((s.extract j (j+1)).toList==(bs [x]).toList)=(l[j]==x):=fun j h=>by
  rw[←hs,bs_one l j h,ie,Bool.eq_iff_iff]
  simp
 have hls : ∀j (h:j<l.length),Op.bytesLess (s.extract j (j+1)).toList (bs [x]).toList=decide (l[j]<x):=fun j h=>by
  rw[←hs,bs_one l j h,ie,np]
 have hsp : ∀j,j≤l.length→(∀y∈l.take j,y<x)→(∀h:j<l.length,¬l[j]<x)→¬l[j]?=some x→r=s.extract 0 j++bs [x]++s.extract j n:=fun j h1 h2 h3 h4=>by
  rw[←hr,gc x l j h1 h2 h3,if_neg h4,←hs,gb,gb,n9,n9,←hn,List.take_length]
  simp
 have hsp2 : ∀j,j≤l.length→(∀y∈l.take j,y<x)→(∀h:j<l.length,¬l[j]<x)→l[j]?=some x→r=s:=fun j h1 h2 h3 h4=>by
  rw[←hr,gc x l j h1 h2 h3,if_pos h4,hs]
 rw[hs,hr];have HN:=zq hn;have HX:=zq hex;have HL:=zq hls;have HS1:=zq hsp;have HS2:=zq hsp2;rw[hn] at hl;clear hn hs hr hex hls hsp hsp2
 go_enter Tryz.func114,Tryz.ntmps114
 go_wp2_with fail
 go_loopw [5] (fun i wr=>∃j:Nat,j≤n∧i = .int .i64 j∧Hid (∀y∈l.take j,y<x)∧Below w.heap.size w wr) (fun i _=>n-(intOf i).toNat)
 case atStart=>exact⟨0,by omega,rfl,by simp[Hid],Below.refl _ _⟩
 case round=>
  obtain⟨j,hj,rfl,hR,hbw⟩:=hrel;have hc1 : ∀a b:Nat,a≤n→b≤n→¬(9223372036854775807<a+1+b):=fun a b h1 h2=>by omega
  by_cases hlt:j<n
  ·have hjt:j<l.length:=by rw[HN.out];exact hlt
   have i1:=IntWalk.i64_in ((j:Int)+1) (by omega);have hx:=HX.out j hjt;have hls:=HL.out j hjt;obtain⟨z,hz⟩ : ∃z,l[j]=z:=⟨_,rfl⟩
   have htk:l.take (j+1)=l.take j ++ [z]:=by rw[List.take_succ_eq_append_getElem hjt,hz]
   have hg:l[j]?=some z:=by rw[List.getElem?_eq_getElem hjt,hz]
   have hng : ¬z<x→∀h:j<l.length,¬l[j]<x:=fun h1 h2=>by rw[hz];exact h1
   rw[hz] at hx hls;have HTK:=zq htk;have HG:=zq hg;have HNG:=zq hng;clear htk hz hg hng
   by_cases hzl:z<x
   ·rw[decide_eq_true hzl] at hls
    have HZ:=zq hzl;clear hzl
    go_wp2_with fail
    go_roundw
    case rel=>exact⟨j+1,by omega,by go_num,fun y hy=>by rw[HTK.out] at hy;rcases List.mem_append.1 hy with hy | hy;exact hR.out y hy;rw[List.mem_singleton] at hy;rw[hy];exact HZ.out,hbw⟩
    case measure=>simp[intOf];omega
   ·rw[decide_eq_false hzl] at hls
    rcases Bool.eq_false_or_eq_true (z==x) with hzx | hzx
    ·rw[hzx] at hx
     have hres:=HS2.out j (by have:=HN.out;omega) hR.out (HNG.out hzl) (by rw[HG.out,eq_of_beq hzx]);have HRES:=zq hres;clear hres hzx hzl
     go_wp2_with fail
     go_ret
     exact⟨mR HRES.out.symm,hbw⟩
    ·rw[hzx] at hx
     have hres:=HS1.out j (by have:=HN.out;omega) hR.out (HNG.out hzl) (by rw[HG.out];intro e;simp at e;subst e;simp at hzx);have HRES:=zq hres;clear hres hzx hzl
     go_wp2_with fail
     go_quiet (fail)
     go_wp2_with fail
     go_ret
     exact⟨mR HRES.out.symm,eU hbw _⟩
  ·have hjn:j=n:=by omega
   have hres:=HS1.out j (by have:=HN.out;omega) hR.out (fun h=>by have:=HN.out;omega) (by rw[List.getElem?_eq_none (by have:=HN.out;omega)];simp);have HRES:=zq hres;clear hres;subst hjn;have hse:s.extract j j=ByteArray.empty:=by apply ByteArray.ext;simp[ByteArray.data_extract]
   have HSE:=zq hse;clear hse;have hend:s.extract 0 j++bs [x]=r:=by rw[HRES.out,HSE.out];exact(ByteArray.append_empty).symm
   have HEND:=zq hend;clear hend
   go_wp2_with fail
   go_quiet (fail)
   go_wp2_with fail
   go_ret
   exact⟨mR HEND.out,eU hbw _⟩
theorem ah {w:World}{b o:Nat}{cs:Array Value}{T:TypeId}{fr:Nat × Nat}{v:Value}(h:w.heap[b]?=some (.cells cs T fr))(hv:cs[o]?=some v):w.cell? ⟨b,o,none⟩=some v:=by
 simp only[World.cell?,h]
 simpa using hv
theorem ao {w:World}{b:Nat}{cs:Array Value}{T:TypeId}(h:w.heap[b]?=some (.cells cs T (0,0)))(o:Nat):w.frozen? ⟨b,o,none⟩=false:=by
 simp[World.frozen?,h]
theorem aD {w:World}{b:Nat}{x:Obj}(h:w.heap[b]?=some x):b<w.heap.size:=(Array.getElem?_eq_some_iff.1 h).1
theorem aF {w:World}{b:Nat}{o:Obj}(hb:w.heap.size=b):(w.alloc o).heap[b]?=some o:=by subst hb;exact heap_alloc_new w o
theorem ag {w w':World}{b:Nat}{x:Obj}(h:w.heap[b]?=some x)(k:Below w.heap.size w w'):w'.heap[b]?=some x:=(k.block b (aD h)).trans h
theorem aB {r:Nat}{w w':World}{b:Nat}{x:Obj}(h:w.heap[b]?=some x)(k:Chg [r] w w')(hn:b≠r:=by omega):w'.heap[b]?=some x:=(k.block b (aD h) (by simpa using hn)).trans h
theorem cx {w:World}{b:Nat}{x:Obj}{p:Addr}{v:Value}(h:w.heap[b]?=some x)(hn:b≠p.block):(w.setCell p v).heap[b]?=some x:=(Below.heap_setCell w p v b hn).trans h
theorem aN {w:World}{b o:Nat}{cs cs':Array Value}{T:TypeId}{fr:Nat × Nat}{v:Value}(h:w.heap[b]?=some (.cells cs T fr))(e:cs.setIfInBounds o v=cs'):(w.setCell ⟨b,o,none⟩ v).heap[b]?=some (.cells cs' T fr):=by
 subst e;exact cy h
theorem blk9 {w:World}{b:Nat}{a0 a1 a2 a3 a4 a5 a6 a7 a8:Value}{T:TypeId}(h:w.heap[b]?=some (.cells #[a0,a1,a2,a3,a4,a5,a6,a7,a8] T (0,0))):w.cell? ⟨b,0,none⟩=some a0∧w.cell? ⟨b,1,none⟩=some a1∧w.cell? ⟨b,2,none⟩=some a2∧w.cell? ⟨b,3,none⟩=some a3∧w.cell? ⟨b,4,none⟩=some a4∧w.cell? ⟨b,5,none⟩=some a5∧w.cell? ⟨b,6,none⟩=some a6∧w.cell? ⟨b,7,none⟩=some a7∧w.cell? ⟨b,8,none⟩=some a8:=
 ⟨(ah h rfl),ah h rfl,ah h rfl,ah h rfl,ah h rfl,ah h rfl,ah h rfl,ah h rfl,ah h rfl⟩
theorem blk9r {w:World}{b:Nat}{a0 a1 a2 a3 a4 a5 a6 a7 a8:Value}{T:TypeId}{R:Prop}(h:w.heap[b]?=some (.cells #[a0,a1,a2,a3,a4,a5,a6,a7,a8] T (0,0)))(r:R):w.cell? ⟨b,0,none⟩=some a0∧w.cell? ⟨b,1,none⟩=some a1∧w.cell? ⟨b,2,none⟩=some a2∧w.cell? ⟨b,3,none⟩=some a3∧w.cell? ⟨b,4,none⟩=some a4∧w.cell? ⟨b,5,none⟩=some a5∧w.cell? ⟨b,6,none⟩=some a6∧w.cell? ⟨b,7,none⟩=some a7∧w.cell? ⟨b,8,none⟩=some a8∧R:=
 ⟨(ah h rfl),ah h rfl,ah h rfl,ah h rfl,ah h rfl,ah h rfl,ah h rfl,ah h rfl,ah h rfl,r⟩
theorem blk9f {w:World}{b:Nat}{a0 a1 a2 a3 a4 a5 a6 a7 a8:Value}{T:TypeId}(h:w.heap[b]?=some (.cells #[a0,a1,a2,a3,a4,a5,a6,a7,a8] T (0,0))):w.cell? ⟨b,0,none⟩=some a0∧w.frozen? ⟨b,0,none⟩=false∧w.cell? ⟨b,1,none⟩=some a1∧w.frozen? ⟨b,1,none⟩=false∧w.cell? ⟨b,2,none⟩=some a2∧w.frozen? ⟨b,2,none⟩=false∧w.cell? ⟨b,3,none⟩=some a3∧w.frozen? ⟨b,3,none⟩=false∧w.cell? ⟨b,4,none⟩=some a4∧w.frozen? ⟨b,4,none⟩=false∧w.cell? ⟨b,5,none⟩=some a5∧w.frozen? ⟨b,5,none⟩=false∧w.cell? ⟨b,6,none⟩=some a6∧w.frozen? ⟨b,6,none⟩=false∧w.cell? ⟨b,7,none⟩=some a7∧w.frozen? ⟨b,7,none⟩=false∧w.cell? ⟨b,8,none⟩=some a8∧w.frozen? ⟨b,8,none⟩=false:=
 ⟨ah h rfl,ao h 0,ah h rfl,ao h 1,ah h rfl,ao h 2,ah h rfl,ao h 3,ah h rfl,ao h 4,ah h rfl,ao h 5,ah h rfl,ao h 6,ah h rfl,ao h 7,ah h rfl,ao h 8⟩
theorem blk2 {w:World}{b:Nat}{a0 a1:Value}{T:TypeId}(h:w.heap[b]?=some (.cells #[a0,a1] T (0,0))):w.cell? ⟨b,0,none⟩=some a0∧w.cell? ⟨b,1,none⟩=some a1:=⟨ah h rfl,ah h rfl⟩
theorem zqb {fp:List Nat}{w W X:World}(h:Hid (Chg fp w W))(k:Below W.heap.size W X):Hid (Chg fp w X):=zq (Chg.trans h.out (Chg.of_below k))
theorem zqc {fp:List Nat}{w W X:World}(h:Hid (Chg fp w W))(k:Chg fp W X):Hid (Chg fp w X):=zq (Chg.trans h.out k)
theorem Tryz.infoTm2:(Tryz.prog.info? 28).map (fun i=>(i.zero,i.size,i.bytes))=some (some (.agg #[.int .i64 0,.string ByteArray.empty,.int .i64 0,.int .i64 0,.slice none 0 0,.int .i64 0,.slice none 0 0,.int .i64 0,.slice none 0 0]),9,128):=by kernel_rfl
theorem og (x:UInt8) : ∀l:List UInt8,(eO x l).length≤l.length+1
 | []=>by simp[eO]
 | y :: l=>by
  unfold eO;have:=og x l
  split
  ·simp;omega
  ·split
   ·simp
   ·simp
theorem iZ {X:World}{B:Nat}(xs:List ByteArray){T:TypeId}(hB:X.heap.size=B)(Q:ByteArray→Prop)(hQ : ∀x∈xs,Q x)(i:Nat)(hi:i<xs.length) :
  ∃x,(X.alloc (.cells (xs.map Value.string).toArray T)).cell? ⟨B,i,none⟩=some (.string x)∧Q x:=by
 refine⟨xs[i],?_,hQ _ (List.getElem_mem hi)⟩;rw[au hB]
 simp[hi]
theorem Tm.cnts_append : ∀(a b:List Tm),Tm.cnts (a++b)=Tm.cnts a+Tm.cnts b
 | [],b=>by simp[Tm.cnts]
 | t :: a,b=>by
  have:=Tm.cnts_append a b;simp only[List.cons_append,Tm.cnts]
  omega
theorem aA.srep {F:Nat→Prop}{w:World}{t:Tm}{k u tk fk l:Int}{nm:ByteArray}{s1 s2 s:Value}(h:aA F w t (.agg #[.int .i64 k,.string nm,.int .i64 u,.int .i64 tk,s1,.int .i64 fk,s2,.int .i64 l,s])) :
  bE F w t.row [.int .i64 k,.string nm,.int .i64 u,.int .i64 tk,s1,.int .i64 fk,s2,.int .i64 l,s]:=by
 obtain⟨z1,z2,z,he,hn,h1,h2,h3⟩:=h;simp only[Value.agg.injEq,Array.mk.injEq,List.cons.injEq,Value.int.injEq,Value.string.injEq,true_and,and_true] at he;obtain⟨rfl,rfl,rfl,rfl,rfl,rfl,rfl,rfl,rfl⟩:=he
 cases t with | mk k nm u t f l ts=>
 have ci : ∀n:Int,aM F w (.int n) (.int .i64 n):=fun n=>by unfold aM;rfl
 unfold Tm.row
 exact⟨_,_,rfl,ci _,_,_,rfl,by unfold aM;exact⟨rfl,hn⟩,_,_,rfl,ci _,_,_,rfl,ci _,_,_,rfl,h1,_,_,rfl,ci _,_,_,rfl,h2,_,_,rfl,ci _,_,_,rfl,h3,rfl⟩
theorem aA.mk {F:Nat→Prop}{w:World}{k u l tk fk:Int}{nm:ByteArray}{t f:Ty}{ts:List Tm}{s1 s2 s:Value}(hn:nm.size≤maxLen)(h1:ap F w t (.agg #[.int .i64 tk,s1]))(h2:ap F w f (.agg #[.int .i64 fk,s2]))(h3:aS F w ts s) :
  aA F w (.mk k nm u t f l ts) (.agg #[.int .i64 k,.string nm,.int .i64 u,.int .i64 tk,s1,.int .i64 fk,s2,.int .i64 l,s]):=by
 obtain⟨z1,he1,h1⟩:=h1;obtain⟨z2,he2,h2⟩:=h2;simp only[Value.agg.injEq,Array.mk.injEq,List.cons.injEq,Value.int.injEq,true_and,and_true] at he1 he2;obtain⟨rfl,rfl⟩:=he1;obtain⟨rfl,rfl⟩:=he2
 exact⟨_,_,_,rfl,hn,h1,h2,h3⟩
theorem ap.setB {B:Nat}{w:World}{t:Ty}{y:Value}(h:ap (B ≤ ·) w t y){p:Addr}(hp:p.block<B)(v:Value):ap (B ≤ ·) (w.setCell p v) t y:=
 h.move ⟨by simp[World.setCell],fun _ h _=>h,fun b hb _=>Below.heap_setCell w p v b (by omega)⟩
structure Bd where
 name:ByteArray
 ty:Ty
def Bd.row (b:Bd):List C:= [.str b.name,.int b.ty.kind,.sl (Ty.rows b.ty.kids)]
def Bd.rows (l:List Bd):List (List C):=l.map Bd.row
theorem Bd.row_length (b:Bd):b.row.length=3:=rfl
theorem Bd.rows_length (l:List Bd):(Bd.rows l).length=l.length:=by simp[Bd.rows]
def aL (F:Nat→Prop)(w:World)(l:List Bd)(y:Value):Prop:=aM F w (.sl (Bd.rows l)) y
def kp (F:Nat→Prop)(w:World)(b:Bd)(y:Value):Prop:=∃k c m q,y = .agg #[.string b.name,.int .i64 k,.slice c m q]∧b.name.size≤maxLen∧ap F w b.ty (.agg #[.int .i64 k,.slice c m q])
theorem aL.move {F G:Nat→Prop}{w w':World}{l:List Bd}{y:Value}(h:aL F w l y)(k:bx F G w w'):aL G w' l y:=aM.move k _ _ h
theorem aL.below {F:Nat→Prop}{w w':World}{l:List Bd}{y:Value}(h:aL F w l y)(k:Below w.heap.size w w'):aL F w' l y:=h.move (.below k)
theorem kp.below {F:Nat→Prop}{w w':World}{b:Bd}{y:Value}(h:kp F w b y)(k:Below w.heap.size w w'):kp F w' b y:=
 let ⟨a,c,m,q,h1,h2,h3⟩:=h;⟨a,c,m,q,h1,h2,h3.below k⟩
theorem aL.open {F:Nat→Prop}{w:World}{l:List Bd}{y:Value}(h:aL F w l y) :
  ∃(a:Option Addr) (cap:Nat),y = .slice a l.length cap∧l.length≤cap∧cap≤maxLen ∧
   ∀i (h:i<l.length),∃b off k c m q,a=some ⟨b,off,none⟩∧w.cell? ⟨b,off+i*3,none⟩=some (.string l[i].name)∧l[i].name.size≤maxLen∧w.cell? ⟨b,off+i*3+1,none⟩=some (.int .i64 k)∧w.cell? ⟨b,off+i*3+2,none⟩=some (.slice c m q)∧ap F w l[i].ty (.agg #[.int .i64 k,.slice c m q]):=by
 obtain⟨a,cap,h1,h2,h3,h4⟩:=aM.rows h;rw[Bd.rows_length] at h1 h2;refine⟨a,cap,h1,h2,h3,fun i hi=>?_⟩
 rcases h4 with h4 | ⟨b,off,ha,hF,hl,hr⟩
 ·rw[←Bd.rows_length,h4] at hi;exact absurd hi (Nat.not_lt_zero _)
 ·have hc:=hr.get (m:=3) (fun r hr=>by obtain⟨t,_,rfl⟩:=List.mem_map.1 hr;rfl) i (by rw[Bd.rows_length];exact hi)
  have he:(Bd.rows l)[i]'(by rw[Bd.rows_length];exact hi)=l[i].row:=by simp[Bd.rows]
  rw[he] at hc;unfold Bd.row aR at hc;obtain⟨⟨y0,hy0,hc0⟩,hc⟩:=hc;unfold aR at hc;obtain⟨⟨y1,hy1,hc1⟩,hc⟩:=hc;unfold aR at hc;obtain⟨⟨y2,hy2,hc2⟩,_⟩:=hc;obtain⟨e0,z0⟩:=aM.str_eq hc0;rw[e0] at hy0;rw[aM.int_eq hc1] at hy1;obtain⟨c,q,rfl,_⟩:=aM.rows hc2
  exact⟨b,off,_,c,_,q,ha,hy0,z0,hy1,hy2,_,rfl,hc2⟩
theorem aL.shape {F:Nat→Prop}{w:World}{l:List Bd}{y:Value}(h:aL F w l y) : ∃a n q,y = .slice a n q:=by
 obtain⟨a,q,rfl,_⟩:=h.open
 exact⟨a,_,q,rfl⟩
theorem kp.shape {F:Nat→Prop}{w:World}{b:Bd}{y:Value}(h:kp F w b y) : ∃s k a n q,y = .agg #[.string s,.int .i64 k,.slice a n q]:=by
 obtain⟨k,c,m,q,rfl,_⟩:=h
 exact⟨_,k,c,m,q,rfl⟩
theorem aL.at {F:Nat→Prop}{w wr:World}{l:List Bd}{a:Option Addr}{n cap:Nat}(h:aL F w l (.slice a n cap))(hb:Below w.heap.size w wr){i:Nat}(hi:i<l.length) :
  ∃b off k c m q,a=some ⟨b,off,none⟩∧b<wr.heap.size∧wr.cell? ⟨b,off+i*3,none⟩=some (.string l[i].name)∧l[i].name.size≤maxLen∧wr.cell? ⟨b,off+i*3+1,none⟩=some (.int .i64 k)∧wr.cell? ⟨b,off+i*3+2,none⟩=some (.slice c m q)∧ap F wr l[i].ty (.agg #[.int .i64 k,.slice c m q]):=by
 obtain⟨a',cap',he,_,_,hg⟩:=h.open;simp only[Value.slice.injEq] at he;obtain⟨rfl,_,rfl⟩:=he;obtain⟨b,off,k,c,m,q,ha,h0,hz,h1,h2,ht⟩:=hg i hi;have e0:=af hb h0
 exact⟨b,off,k,c,m,q,ha,World.block_lt_of_cell? wr _ e0,e0,hz,af hb h1,af hb h2,ht.below hb⟩
def Bd.cnt (b:Bd):Nat:=b.name.size+b.ty.cnt
def Bd.cs:List Bd→Nat
 | []=>0
 | b :: l=>b.cnt+Bd.cs l
def Bd.cnts (l:List Bd):Nat:=l.length+Bd.cs l
theorem Bd.cnt_mem : ∀ {l:List Bd} {b:Bd},b∈l→b.cnt≤Bd.cs l
 | u :: l,b,h=>by
  rcases List.mem_cons.1 h with rfl | h
  ·simp only[Bd.cs];omega
  ·have:=Bd.cnt_mem h;simp only[Bd.cs];omega
def j4 (B:Nat)(w:World)(b:Bd)(y:Value):Prop:=∃k c m q fp,y = .agg #[.string b.name,.int .i64 k,.slice c m q]∧bl w b.row [.string b.name,.int .i64 k,.slice c m q] fp∧fp.Nodup∧∀x∈fp,B≤x
def eK (B:Nat)(w:World)(l:List Bd)(y:Value):Prop:=∃fp,aJ w (.sl (Bd.rows l)) y fp∧fp.Nodup∧∀b∈fp,B≤b
theorem eK.rep {B:Nat}{w:World}{l:List Bd}{y:Value}(h:eK B w l y):aL (B ≤ ·) w l y:=
 let ⟨_,h1,_,h3⟩:=h;aJ.rep _ _ _ (fun b hb=>h3 b hb) h1
theorem eK.below {B:Nat}{w w':World}{l:List Bd}{y:Value}(h:eK B w l y)(k:Below w.heap.size w w'):eK B w' l y:=
 let ⟨fp,h1,h2,h3⟩:=h;⟨fp,aJ.move _ _ _ (fun b hb=>k.block b (aJ.lt _ _ _ h1 b hb)) h1,h2,h3⟩
theorem eK.shape {B:Nat}{w:World}{l:List Bd}{y:Value}(h:eK B w l y) : ∃a n q,y = .slice a n q:=h.rep.shape
theorem Bd.flatten_length (l:List Bd):(Bd.rows l).flatten.length=l.length*3:=by
 induction l with
 | nil=>rfl
 | cons t ts ih=>unfold Bd.rows at ih ⊢;rw[List.map_cons,List.flatten_cons,List.length_append,ih,t.row_length,List.length_cons];omega
theorem j4.setCell {B:Nat}{w:World}{b:Bd}{y:Value}(h:j4 B w b y){p:Addr}(hp:p.block<B)(v:Value):j4 B (w.setCell p v) b y:=by
 obtain⟨k,c,m,q,fp,rfl,h1,h2,h3⟩:=h
 exact⟨k,c,m,q,fp,rfl,h1.move _ _ _ (fun b hb=>Below.heap_setCell w p v b (by have:=h3 b hb;omega)),h2,h3⟩
theorem j4.mono {B B':Nat}{w:World}{b:Bd}{y:Value}(h:j4 B w b y)(hB:B'≤B):j4 B' w b y:=by
 obtain⟨k,c,m,q,fp,rfl,h1,h2,h3⟩:=h
 exact⟨k,c,m,q,fp,rfl,h1,h2,fun b hb=>Nat.le_trans hB (h3 b hb)⟩
def Bd.same (a b:Bd):Bool:=(a.name.toList==b.name.toList)&&a.ty.same b.ty
def Bd.ok (b:Bd):Bool:=aO b.name&&b.ty.valid
def ctxB (l:List Bd):Bool:=decide (l.length≤12)&&l.all Bd.ok
def eL (l:List Bd)(y:Value):Prop:=(l = []∧y = .slice none 0 0)∨(1≤l.length∧∃a m q,y = .slice (some a) m q)
theorem eL.shape {l:List Bd}{y:Value}(h:eL l y) : ∃a n q,y = .slice a n q:=by
 rcases h with ⟨-,rfl⟩ | ⟨-,a,m,q,rfl⟩<;>exact⟨_,_,_,rfl⟩
section
variable {P:Program} {ops:Array Oper} {Q:Exit→Act→World→Prop} {md:Region.Mode} {S:World→Prop} {fuel:Nat} {listed:Array Bool} {a:Act} {w:World}
theorem hwt (i:Nat)(oi:Oper)(v:Value)(hS:S w)(hy : ∀w',S w'→(execOp a.eval oi).run P w' = .ok (.value v) w')(h:wpAnyH P md ops Q S fuel (listed.setIfInBounds i true) (a.put oi.dst v) w)
  (hw:Region.wanted oi (yielded ops a.tmps)=true:=by rfl) (hi:ops[i]?=some oi:=by rfl) (hs:Region.noSelect ops=true:=by kernel_rfl) (hf:Region.free md ops listed i=true:=by kernel_rfl) (hr:(Region.ready md ops listed).contains i=true:=by kernel_rfl)
  (hQ : ∀c a w,Q (.panic c) (a.put oi.dst v) w→Q (.panic c) a w:=by exact fun _ _ _ h=>h):wpAnyH P md ops Q S (fuel+1) listed a w:=
 wpAnyH_take hi hs hf hr hQ (.inl ⟨hw,hy⟩) hS h
theorem hwn (i:Nat)(oi:Oper)(hS:S w)(h:wpAnyH P md ops Q S fuel (listed.setIfInBounds i true) (a.put oi.dst undef) w)
  (hw:Region.wanted oi (yielded ops a.tmps)=false:=by rfl) (hi:ops[i]?=some oi:=by rfl) (hs:Region.noSelect ops=true:=by kernel_rfl) (hf:Region.free md ops listed i=true:=by kernel_rfl) (hr:(Region.ready md ops listed).contains i=true:=by kernel_rfl)
  (hQ : ∀c a w,Q (.panic c) (a.put oi.dst undef) w→Q (.panic c) a w:=by exact fun _ _ _ h=>h):wpAnyH P md ops Q S (fuel+1) listed a w:=
 wpAnyH_take hi hs hf hr hQ (.inr ⟨hw,rfl⟩) hS h
theorem hwr (i:Nat)(oi:Oper)(h : ∀K':Act→World→Prop,Shut (∀a w,S w→(S w→wpAnyH P md ops Q S fuel (listed.setIfInBounds i true) a w)→K' a w)→if Region.wanted oi (yielded ops a.tmps)=true then Oper.wp P oi a w K' Q else K' (a.put oi.dst undef) w)
  (hi:ops[i]?=some oi:=by rfl) (hr:Region.ready md ops listed = [i]:=by kernel_rfl):wpAnyH P md ops Q S (fuel+1) listed a w:=
 wpAnyH_ready hr (by simp) (AllReadyH.cons hi h AllReadyH.nil)
end
theorem hw1 {α:Type}(l:List α)(i:Nat)(a:α):l.toArray.setIfInBounds i a=(l.set i a).toArray:=by simp
theorem hw2 {α:Type}(l:List α)(a b:α):(a :: l).set 0 b=b :: l:=rfl
theorem hw3 {α:Type}(l:List α)(i:Nat)(a b:α):(a :: l).set (i+1) b=a :: l.set i b:=rfl
theorem hwA:(∀(l:List Value) (i:Nat) (a:Value),l.toArray.setIfInBounds i a=(l.set i a).toArray)∧(∀(l:List Value) (a b:Value),(a :: l).set 0 b=b :: l)∧(∀(l:List Value) (i:Nat) (a b:Value),(a :: l).set (i+1) b=a :: l.set i b) ∧
  (∀(a:Act) (d:Tmp) (v:Value),a.put (some d) v={a with tmps:=a.tmps.setIfInBounds d v})∧(∀(a:Act) (v:Value),a.put none v=a):=⟨hw1,hw2,hw3,fun _ _ _=>rfl,fun _ _=>rfl⟩
theorem co {W:World}{b:Nat}{a0 a1:Value}{T:TypeId}(h:W.heap[b]?=some (.cells #[a0,a1] T (0,0))):W.cell? ⟨b,0,none⟩=some a0∧W.cell? ⟨b,1,none⟩=some a1∧W.frozen? ⟨b,0,none⟩=false∧W.frozen? ⟨b,1,none⟩=false:=
 ⟨ah h rfl,ah h rfl,ao h 0,ao h 1⟩
theorem bK (W:World) : ∃X,World.drew W=X∧Below W.heap.size W X∧W.heap.size≤X.heap.size∧X.heap.size≤W.heap.size:=⟨_,rfl,bdr,Nat.le_refl _,Nat.le_refl _⟩
theorem aZ (W:World)(o:Obj) : ∃X,World.alloc W o=X∧Below W.heap.size W X∧X.heap[W.heap.size]?=some o∧W.heap.size+1≤X.heap.size∧X.heap.size≤W.heap.size+1:=⟨_,rfl,aj,aF rfl,by simp,by simp⟩
def HSt (b:Nat)(W X:World):Prop:=(∀c,c≠b→X.heap[c]?=W.heap[c]?)∧(∀w:World,Below w.heap.size w W→w.heap.size≤b→Below w.heap.size w X)∧W.heap.size≤X.heap.size∧X.heap.size≤W.heap.size∧(∀(w:World) (fp:List Nat),Chg fp w W→w.heap.size≤b→Chg fp w X)
theorem HSt.blk {b c:Nat}{W X:World}{x:Obj}(h:HSt b W X)(hn:c≠b)(f:W.heap[c]?=some x):X.heap[c]?=some x:=(h.1 c hn).trans f
theorem HSt.cell {b:Nat}{p:Addr}{W X:World}{v:Value}(h:HSt b W X)(hn:p.block≠b)(f:W.cell? p=some v):X.cell? p=some v:=by
 simp only[World.cell?] at f ⊢;rw[h.1 p.block hn];exact f
theorem HSt.bel {b:Nat}{w W X:World}(h:HSt b W X)(f:Below w.heap.size w W)(hb:w.heap.size≤b):Below w.heap.size w X:=h.2.1 w f hb
theorem HSt.chg {b:Nat}{fp:List Nat}{w W X:World}(h:HSt b W X)(f:Chg fp w W)(hb:w.heap.size≤b):Chg fp w X:=h.2.2.2.2 w fp f hb
theorem HSt.keeps {b:Nat}{W X:World}{F:Nat→Prop}(h:HSt b W X)(hn : ∀c,F c→c≠b):bx F F W X:=⟨h.2.2.1,fun _ hc _=>hc,fun c hc _=>h.1 c (hn c hc)⟩
theorem HSt.refl (b:Nat)(W:World):HSt b W W:=⟨fun _ _=>rfl,fun _ f _=>f,Nat.le_refl _,Nat.le_refl _,fun _ _ f _=>f⟩
theorem HSt.step {b o:Nat}{W X:World}{v:Value}(h:HSt b W X):HSt b W (X.setCell ⟨b,o,none⟩ v):=
 ⟨fun c hc=>(Below.heap_setCell _ ⟨b,o,none⟩ v c hc).trans (h.1 c hc),fun w f hb=>(h.2.1 w f hb).setCell (p:=⟨b,o,none⟩) hb _,by simpa [World.setCell] using h.2.2.1,by simpa [World.setCell] using h.2.2.2.1,fun w fp f hb=>by
   have k:=h.2.2.2.2 w fp f hb
   exact⟨k.os,k.tape,k.output,by simpa [World.setCell] using k.size,fun c hc hn=>(Below.heap_setCell _ ⟨b,o,none⟩ v c (by show c≠b;omega)).trans (k.block c hc hn)⟩⟩
theorem bC {W:World}{b:Nat}{a0 a1:Value}{T:TypeId}(h:W.heap[b]?=some (.cells #[a0,a1] T (0,0)))(v0 v1:Value) :
  ∃X,World.setCell (World.setCell W ⟨b,0,none⟩ v0) ⟨b,1,none⟩ v1=X∧HSt b W X∧X.heap[b]?=some (.cells #[v0,v1] T (0,0))∧W.heap.size≤X.heap.size∧X.heap.size≤W.heap.size:=
 ⟨_,rfl,(HSt.refl b W).step.step,aN (aN h rfl) rfl,by simp[World.setCell],by simp[World.setCell]⟩
theorem bQ {W:World}{b:Nat}{a0 a1 a2 a3 a4 a5 a6 a7 a8:Value}{T:TypeId}(h:W.heap[b]?=some (.cells #[a0,a1,a2,a3,a4,a5,a6,a7,a8] T (0,0)))(v0 v1 v2 v3 v4 v5 v6 v7 v8:Value) :
  ∃X,World.setCell (World.setCell (World.setCell (World.setCell (World.setCell (World.setCell (World.setCell (World.setCell (World.setCell W ⟨b,0,none⟩ v0) ⟨b,1,none⟩ v1) ⟨b,2,none⟩ v2) ⟨b,3,none⟩ v3) ⟨b,4,none⟩ v4) ⟨b,5,none⟩ v5) ⟨b,6,none⟩ v6) ⟨b,7,none⟩ v7) ⟨b,8,none⟩ v8=X∧HSt b W X∧X.heap[b]?=some (.cells #[v0,v1,v2,v3,v4,v5,v6,v7,v8] T (0,0))∧W.heap.size≤X.heap.size∧X.heap.size≤W.heap.size:=by
 have h0:=aN (v:=v0) h (rfl:(#[a0,a1,a2,a3,a4,a5,a6,a7,a8]:Array Value).setIfInBounds 0 v0 = #[v0,a1,a2,a3,a4,a5,a6,a7,a8]);have h1:=aN (v:=v1) h0 (rfl:(#[v0,a1,a2,a3,a4,a5,a6,a7,a8]:Array Value).setIfInBounds 1 v1 = #[v0,v1,a2,a3,a4,a5,a6,a7,a8]);have h2:=aN (v:=v2) h1 (rfl:(#[v0,v1,a2,a3,a4,a5,a6,a7,a8]:Array Value).setIfInBounds 2 v2 = #[v0,v1,v2,a3,a4,a5,a6,a7,a8]);have h3:=aN (v:=v3) h2 (rfl:(#[v0,v1,v2,a3,a4,a5,a6,a7,a8]:Array Value).setIfInBounds 3 v3 = #[v0,v1,v2,v3,a4,a5,a6,a7,a8]);have h4:=aN (v:=v4) h3 (rfl:(#[v0,v1,v2,v3,a4,a5,a6,a7,a8]:Array Value).setIfInBounds 4 v4 = #[v0,v1,v2,v3,v4,a5,a6,a7,a8]);have h5:=aN (v:=v5) h4 (rfl:(#[v0,v1,v2,v3,v4,a5,a6,a7,a8]:Array Value).setIfInBounds 5 v5 = #[v0,v1,v2,v3,v4,v5,a6,a7,a8]);have h6:=aN (v:=v6) h5 (rfl:(#[v0,v1,v2,v3,v4,v5,a6,a7,a8]:Array Value).setIfInBounds 6 v6 = #[v0,v1,v2,v3,v4,v5,v6,a7,a8]);have h7:=aN (v:=v7) h6 (rfl:(#[v0,v1,v2,v3,v4,v5,v6,a7,a8]:Array Value).setIfInBounds 7 v7 = #[v0,v1,v2,v3,v4,v5,v6,v7,a8]);have h8:=aN (v:=v8) h7 (rfl:(#[v0,v1,v2,v3,v4,v5,v6,v7,a8]:Array Value).setIfInBounds 8 v8 = #[v0,v1,v2,v3,v4,v5,v6,v7,v8]);have hs:=((((((((((HSt.refl b W).step (o:=0) (v:=v0)).step (o:=1) (v:=v1)).step (o:=2) (v:=v2)).step (o:=3) (v:=v3)).step (o:=4) (v:=v4)).step (o:=5) (v:=v5)).step (o:=6) (v:=v6)).step (o:=7) (v:=v7)).step (o:=8) (v:=v8))
 exact⟨_,rfl,hs,h8,hs.2.2.1,hs.2.2.2.1⟩
theorem HSt.rep {b:Nat}{W X:World}{F:Nat→Prop}{t:Ty}{y:Value}(h:HSt b W X)(hn : ∀c,F c→c≠b)(f:ap F W t y):ap F X t y:=f.move (h.keeps hn)
theorem kpN {r:Nat}{W X:World}{F:Nat→Prop}(h:Chg [r] W X)(hn : ∀b,F b→b≠r):bx F F W X:=h.keeps fun b hb=>by simpa using hn b hb
theorem ap.rg {B:Nat}{X:World}{t:Ty}{v:Value}(h:ap (B ≤ ·) X t v):Hid (ap (fun b=>B≤b∧b<X.heap.size) X t v):=zq (h.move (.weaken fun b h1 h2=>⟨h1,h2⟩))
theorem ap.leaf {w:World}(k:Int):ap (fun _=>True) w (Ty.mk k []) (.agg #[.int .i64 k,.slice none 0 0]):=by
 refine⟨_,rfl,?_⟩;unfold aE Ty.kids Ty.rows aM
 exact⟨none,0,rfl,Nat.le_refl _,by unfold maxLen;omega,.inl rfl⟩
theorem ap.parts {F:Nat→Prop}{w:World}{t:Ty}{k:Int}{c:Value}(h:ap F w t (.agg #[.int .i64 k,c])):t.kind=k∧aM F w (.sl (Ty.rows t.kids)) c:=by
 obtain⟨s,he,hs⟩:=h;simp only[Value.agg.injEq,Array.mk.injEq,List.cons.injEq,Value.int.injEq,true_and,and_true] at he;obtain⟨rfl,rfl⟩:=he
 exact⟨rfl,hs⟩
theorem ap.two_mk {F:Nat→Prop}{w:World}{b cap:Nat}{k:Int}{t u:Ty}{k1 k2:Int}{c1 c2:Value}(hF:F b)(hc:2≤cap)(hm:cap≤maxLen)
  (e0:w.cell? ⟨b,0,none⟩=some (.int .i64 k1)) (e1:w.cell? ⟨b,1,none⟩=some c1) (e2:w.cell? ⟨b,2,none⟩=some (.int .i64 k2)) (e3:w.cell? ⟨b,3,none⟩=some c2)
  (ht:ap F w t (.agg #[.int .i64 k1,c1])) (hu:ap F w u (.agg #[.int .i64 k2,c2])):ap F w (Ty.mk k [t,u]) (.agg #[.int .i64 k,.slice (some ⟨b,0,none⟩) 2 cap]):=by
 refine⟨_,rfl,?_⟩;obtain⟨p1,p2⟩:=ht.parts;obtain⟨p3,p4⟩:=hu.parts
 cases t with | mk k1' ts=>cases u with | mk k2' us=>
 simp only[Ty.kind,Ty.kids] at *;subst p1 p3;unfold aE aM;refine⟨_,cap,by simp[Ty.rows_length],by rw[Ty.rows_length];simpa using hc,hm,.inr ⟨b,0,rfl,hF,World.block_lt_of_cell? _ _ e0,?_⟩⟩;simp only[Ty.rows,Ty.row];unfold bg;refine⟨?_,?_⟩
 ·unfold aR
  refine⟨⟨_,e0,by unfold aM;rfl⟩,?_⟩;unfold aR
  exact⟨⟨_,e1,p2⟩,by unfold aR;trivial⟩
 ·unfold bg
  refine⟨?_,by unfold bg;trivial⟩;unfold aR;refine⟨⟨_,e2,by unfold aM;rfl⟩,?_⟩;unfold aR
  exact⟨⟨_,e3,p4⟩,by unfold aR;trivial⟩
theorem uj (r:Nat)(y:Value)(w:World)(h:cz w r y)(hr:r≤w.heap.size):Calls Tryz.prog 25 #[y] w (tO w):=by
 obtain⟨a,n,cap,rfl,hn,hc,hg⟩:=h;unfold maxLen at hc;have HG:=zq hg;clear hg
 by_cases h2:2000<n
 ·have hd:decide ((n:Int)>2000)=true:=by simp;omega
  obtain⟨b,off,c,rfl,-⟩:=HG.out 0 (by omega);have h3:2000≤cap:=by omega
  go_enter Tryz.func25,Tryz.ntmps25
  go_wp2_with fail
  go_ret
  refine⟨w.heap.size,rfl,Nat.le_refl _,⟨by simp,.slice (some ⟨b,off,none⟩) 2000 cap,aw 0,?_,aw 1,b5 1⟩,aj⟩;refine⟨_,2000,cap,rfl,by omega,by unfold maxLen;omega,fun i hi=>?_⟩;obtain⟨b,off,c,e,hb,hl,hcell,c0,c1⟩:=HG.out i (by omega)
  exact⟨b,off,c,e,hl,by simp;omega,af aj hcell,c0,c1⟩
 ·have hd:decide ((n:Int)>2000)=false:=by simp;omega
  go_enter Tryz.func25,Tryz.ntmps25
  go_wp2_with fail
  go_ret
  refine⟨w.heap.size,rfl,Nat.le_refl _,⟨by simp,.slice a n cap,aw 0,?_,aw 1,b5 1⟩,aj⟩;refine⟨_,n,cap,rfl,by omega,by unfold maxLen;omega,fun i hi=>?_⟩;obtain⟨b,off,c,e,hb,hl,hcell,c0,c1⟩:=HG.out i (by omega)
  exact⟨b,off,c,e,hl,by simp;omega,af aj hcell,c0,c1⟩
theorem kX (r p:Nat)(w:World)(h:aT w r p)(hp:p≤1000000000):Calls Tryz.prog 49 #[.pointer (some ⟨r,0,none⟩)] w (DT r p 14 w):=by
 have hrl:=h.1
 go_enter Tryz.func49,Tryz.ntmps49
 go_wp2_with fail
 refine(bO (fun k=>1≤k∧k≤4) r p _ 5 5 _ (h.below aH) (by omega) (by omega) (by omega) (Nat.le_refl _) (by omega) (bA [3,2,4,1,3] (by simp) _ (by decide))).mono ?_;rintro e w1 ⟨k,rfl,⟨k1,k4⟩,hrd1,hch1⟩;obtain⟨d,rfl⟩:=Int.eq_ofNat_of_zero_le (show 0≤k by omega);have hw1:w.heap.size+2≤w1.heap.size:=by have:=hch1.size;simp at this;omega
 have x0:w1.cell? ⟨w.heap.size,0,none⟩=some (.int .i64 0):=hch1.cellne (by show w.heap.size≠r;omega) (af aj (aw 0));have x1:w1.cell? ⟨w.heap.size,1,none⟩=some (.slice none 0 0):=hch1.cellne (by show w.heap.size≠r;omega) (af aj (aw 1));have f0:w1.frozen? ⟨w.heap.size,0,none⟩=false:=(hch1.frone (by omega) (by simp;omega)).trans (cb aj (by simp) (b5 0));have f1:w1.frozen? ⟨w.heap.size,1,none⟩=false:=(hch1.frone (by omega) (by simp;omega)).trans (cb aj (by simp) (b5 1));have h24:2 ^ d≤2 ^ 4:=Nat.pow_le_pow_right (by omega) (by omega);have H24:=zq h24
 go_wp2_with fail
 refine(gv d r (p+1) _ (by omega) (by omega) hrd1 (by have:=H24.out;omega)).mono ?_;intro e w2 hd2;obtain⟨t,v,q,rfl,hn,hv,hq,hrd2,hch2⟩:=hd2.mono (show 2 ^ d-1≤15 by omega) (show 2 ^ d≤16 by omega);clear h24 H24;obtain⟨kk,aa,nn,qq,rfl⟩:=hv.shape;have hw2:=hch2.size;replace f0:w2.frozen? ⟨w.heap.size,0,none⟩=false:=aU hch2 (by omega) x0 f0;replace f1:w2.frozen? ⟨w.heap.size,1,none⟩=false:=aU hch2 (by omega) x1 f1;replace x0:w2.cell? ⟨w.heap.size,0,none⟩=some (.int .i64 0):=aP hch2 (by omega) x0;replace x1:w2.cell? ⟨w.heap.size,1,none⟩=some (.slice none 0 0):=aP hch2 (by omega) x1
 go_wp2_with fail
 refine bodyPost_ret (v:=.agg #[.int .i64 kk,.slice aa nn qq]) (by simp[results,Tryz.results49,go_sem,x0,x1]) rfl ?_;refine⟨t,_,q,rfl,by omega,ap.lower ((hv.rep.setCell (by show w.heap.size<w1.heap.size;omega) _).setCell (by show w.heap.size<w1.heap.size;omega) _) (by omega),by omega,
   (hrd2.setCell (by show r<w.heap.size;omega) _).setCell (by show r<w.heap.size;omega) _,?_⟩
 exact((((Chg.of_below aH).trans hch1).trans hch2).trans' (Nat.le_refl _) _).trans' (Nat.le_refl _) _
theorem oh (m1 rx:Int)(h0:m1=rx):(m1:Int)=(rx):=by
 simp_all
theorem eX (F:Nat→Prop)(t:Tm) : ∀(nt:Int) (n:Nat) (_:t.shape nt n=true) (d:Int) (_:(n:Int)≤d) (_:d≤40) (y:Value) (w:World),aA F w t y →
  Calls Tryz.prog 41 #[y,.int .i64 d] w fun e w'=>e = .returned (.int .i64 (t.size))∧Below w.heap.size w w':=by
 intro nt n hsh d hd0 hd5 y w hy;have IH : ∀t'∈t.kids,∀(nt:Int) (n:Nat) (_:t'.shape nt n=true) (d:Int) (_:(n:Int)≤d) (_:d≤40) (y:Value) (W:World),aA F W t' y→Calls Tryz.prog 41 #[y,.int .i64 d] W fun e W'=>e = .returned (.int .i64 (t'.size))∧Below W.heap.size W W':=
  fun t' ht nt n a d b c y W e=>eX F t' nt n a d b c y W e
 have hbd:=Tm.size_bd hsh (by omega);obtain⟨k,nm,u,tk,ta,tn,tq,fk,fa,fn,fq,l,c,m,q,rfl⟩:=hy.shape;obtain⟨r1,r2,r3,r4,r5,r6,r7,r8,r9,rn,rm,rq,hty,hsr,hks⟩:=hy.parts
 cases t with | mk kk nn uu tt ff ll ts=>
 simp only[Tm.kind,Tm.name,Tm.num,Tm.type,Tm.src,Tm.label,Tm.kids] at *;subst r1 r2 r3 r8;obtain⟨s1,-,-,-,s5⟩:=Tm.shape_parts hsh;obtain⟨dd,rfl⟩ : ∃x,n=x+1:=⟨n-1,by omega⟩
 rw[show((dd+1:Nat):Int)-1=(dd:Int) from by omega] at s5;unfold Tm.size at hbd ⊢;have hd1:0<d:=by omega
 have hdd:(dd:Int)≤d-1:=by omega
 have hd:decide (d>0)=true:=by simpa using hd1
 obtain⟨rx,hr0⟩ : ∃r,1+Tm.sizes ts=r:=⟨_,rfl⟩
 rw[hr0];have HT0:=zq hr0;have HN:=zq r9;have HB:=zq hbd;have HSH:=zq s5;have IHH:=zq IH;unfold maxLen at rq;clear hr0 IH hy r9 r4 r5 r6 r7 rn hty hsr hbd s5 hsh hd0;obtain⟨rr,hrr⟩ : ∃rr0:Int,(rx)=rr0:=⟨_,rfl⟩
 rw[hrr];have HT:=zq hrr;clear hrr
 go_enter Tryz.func41,Tryz.ntmps41
 go_wp2_with fail
 go_loopw [6,5] (fun i m1_ wr=>∃j:Nat,j≤m∧i = .int .i64 j∧(∃m1:Int,m1_ = .int .i64 m1∧(1≤m1∧m1≤6078832729528464400)∧Hid (m1=1+Tm.sizes (ts.take j)))∧Below w.heap.size w wr∧wr.cell? ⟨w.heap.size,8,none⟩=some (.slice c m q)) (fun i _ _=>m-(intOf i).toNat)
 case atStart=>exact⟨0,by omega,rfl,⟨_,rfl,(by omega),(by unfold Hid;simp[Tm.sizes])⟩,aj,au (by simp) 8⟩
 case round=>
  obtain⟨j,hj,rfl,⟨m1,rfl,m1_0,m1_1⟩,hB,x0⟩:=hrel;have lx1:=World.block_lt_of_cell? _ _ x0
  by_cases hlt:j<m
  ·have hjt:j<ts.length:=by have:=HN.out;omega
   obtain⟨b,off,k0,nm0,u0,tk0,ta0,tn0,tq0,fk0,fa0,fn0,fq0,l0,a0,m0,q0,rfl,lb,e0,e1,e2,e3,e4,e5,e6,e7,e8,ht⟩:=hks.at hB hjt;have hshj:ts[j].shape nt dd=true:=Tm.shapes_mem HSH.out (List.getElem_mem hjt);have hcall:=IHH.out ts[j] (List.getElem_mem hjt) nt dd hshj (d-1);have hp:=Tm.size_pos ts[j];have hstep:=Tm.sizes_take_succ ts j hjt;have hle:=Tm.sizes_take_le ts (j+1);have hmr:m1+ts[j].size≤6078832729528464400:=by have:=m1_1.out;have:=HB.out;omega
   generalize ts[j].size=r at hcall hp hstep hmr;have HC:=zq hcall;have HS:=zq hstep;clear hcall hstep hshj hle;have hwr:=IntWalk.i64_in (d-1) (by omega)
   go_wp2_with fail
   refine(HC.out (by omega) (by omega) _ _ ht).mono ?_;rintro e w1 ⟨rfl,hb1⟩;replace hB:=(al hB hb1)
   have zw1:=hB.size;replace x0:=af hb1 x0;have d0_w1:=World.block_lt_of_cell? _ _ x0;have hwr:=IntWalk.i64_in (m1+r) (by omega);have hwr:=IntWalk.i64_in ((j:Int)+1) (by omega)
   go_wp2_with fail
   go_roundw
   case rel=>exact⟨j+1,by omega,by go_num,⟨_,rfl,(by omega),(by have h1:=m1_1.out;have h2:=HS.out;unfold Hid;omega)⟩,hB,x0⟩
   case measure=>simp[intOf];omega
  ·skip
   have HMM:Hid (m1=rx):=zq (by have:=m1_1.out;rw[List.take_of_length_le (by have:=HN.out;omega)] at this;have:=HT0.out;omega)
   go_wp2_with fail
   refine bodyPost_ret (v:=.int .i64 (m1)) (by simp[results,Tryz.results41,go_sem,bne]) rfl ?_
   exact⟨bc ((oh m1 rx HMM.out).trans HT.out),hB⟩
termination_by SizeOf.sizeOf t
decreasing_by exact Tm.kid_lt ht
end Go.Proofs.YtfahhonmiimmdaaGreat

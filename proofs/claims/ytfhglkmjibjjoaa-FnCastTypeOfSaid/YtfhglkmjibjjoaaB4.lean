/- Walks beside a source of numbers: what is known of a cell, a tree, the memory behind a draw. And what else its parts name. -/
import Derived.Test.YtfhglkmjibjjoaaB1
import Derived.Test.YtfhglkmjibjjoaaB11
import Derived.Test.YtfhglkmjibjjoaaB8
import Derived.Test.YtfhglkmjibjjoaaB9
import Derived.Test.YtfhglkmjibjjoaaB24
set_option linter.unusedSimpArgs false
set_option linter.unusedVariables false
set_option maxRecDepth 100000
set_option maxHeartbeats 16000000
namespace Go.Proofs.Ytfhglkmjibjjoaa
open Go.RowKit
theorem ai.ne {B r:Nat}{w:World}{t:Ty}{y:Value}(h:ai (B <= ·) w t y)(hr:r<B):ai (· ≠ r) w t y:=h.move (.weaken fun b hb _=>by omega)
theorem ai.setCell {B:Nat}{w:World}{t:Ty}{y:Value}(h:ai (B <= ·) w t y){p:Addr}(hp:p.block<B)(v:Value):ai (B <= ·) (w.setCell p v) t y:=
 h.move ⟨by simp[World.setCell],fun _ h _=>h,fun b hb _=>Below.heap_setCell w p v b (by omega)⟩
theorem ai.lower {B B':Nat}{w:World}{t:Ty}{y:Value}(h:ai (B <= ·) w t y)(hB:B'<=B):ai (B' <= ·) w t y:=h.move (.weaken fun b hb _=>Nat.le_trans hB hb)
theorem cl.below {w w':World}{r:Nat}{v:Value}(h:cl w r v)(k:Below w.heap.size w w'):cl w' r v:=h.keep k.size fun b hb _=>k.block b hb
theorem cl.shape {w:World}{r:Nat}{v:Value}(h:cl w r v) : ∃a n cap,v = .slice a n cap:=let ⟨a,n,cap,h1,_⟩:=h;⟨a,n,cap,h1⟩
def iM (r p c m:Nat)(w:World)(e:Ending)(w':World):Prop:=∃(t:Ty) (v:Value) (q:Nat),e = .returned v∧t.cnt+2<=m∧bp w.heap.size w' t v∧q<=p+c∧aR w' r q∧Chg [r] w w'
theorem iM.mono {r p c c' m m':Nat}{w w':World}{e:Ending}(h:iM r p c m w e w')(hc:c<=c')(hm:m<=m'):iM r p c' m' w e w':=
 let ⟨s,v,q,h1,h2,h3,h4,h5,h6⟩:=h;⟨s,v,q,h1,by omega,h3,by omega,h5,h6⟩
def DT (r p m:Nat)(w:World)(e:Ending)(w':World):Prop:=∃(t:Ty) (v:Value) (q:Nat),e = .returned v∧t.cnt<=m∧ai (w.heap.size <= ·) w' t v∧q<=p+200∧aR w' r q∧Chg [r] w w'
def DR1 (w:World)(e:Ending)(w':World):Prop:=∃(t:Ty) (v:Value),e = .returned v∧ai (w.heap.size <= ·) w' t v∧Below w.heap.size w w'
def ol (w:World)(e:Ending)(w':World):Prop:=∃rb,e = .returned (.pointer (some ⟨rb,0,none⟩))∧w.heap.size<=rb∧aR w' rb 0∧Below w.heap.size w w'
theorem bJ {X:World}{B:Nat}(xs:List Int){T:TypeId}(hB:X.heap.size=B)(Q:Int->Prop)(hQ : ∀x∈xs,Q x)(i:Nat)(hi:i<xs.length) :
  ∃x,(X.alloc (.cells (xs.map (Value.int .i64)).toArray T)).cell? ⟨B,i,none⟩=some (.int .i64 x)∧Q x:=by
 refine⟨xs[i],?_,hQ _ (List.getElem_mem hi)⟩;rw[ao hB]
 simp[hi]
theorem Ty.cnts_append : ∀(ts us:List Ty),Ty.cnts (ts++us)=Ty.cnts ts+Ty.cnts us
 | [],us=>by simp[Ty.cnts]
 | t::ts,us=>by simp[Ty.cnts,Ty.cnts_append ts us];omega
mutual
def Tm.shape:Tm->Int->Int->Bool
 | .mk k s u t f l ts,nt,d=>decide (1<=d) && !(k==nt)&&((aD k==(ts.length:Int))&&(Tm.mk k s u t f l ts).ownB)&&Tm.shapes ts nt (d-1)
def Tm.shapes:List Tm->Int->Int->Bool
 | [],_,_=>true
 | t::ts,nt,d=>t.shape nt d&&Tm.shapes ts nt d
end
mutual
def Tm.size:Tm->Int
 | .mk _ _ _ _ _ _ ts=>1+Tm.sizes ts
def Tm.sizes:List Tm->Int
 | []=>0
 | t::ts=>t.size+Tm.sizes ts
end
def Tm.valid (t:Tm):Bool:=t.shape 14 12&&decide (t.size<=30)
def Tm.castValid (t:Tm):Bool:=t.shape 13 40&&decide (t.size<=200)
theorem Tm.shapes_drop (ts:List Tm)(nt d:Int)(k:Nat)(h:k<ts.length):Tm.shapes (ts.drop k) nt d=(ts[k].shape nt d&&Tm.shapes (ts.drop (k+1)) nt d):=by
 rw[List.drop_eq_getElem_cons h]
 conv=>lhs;unfold Tm.shapes
theorem Tm.shape_parts {k u l:Int}{s:ByteArray}{t f:Ty}{ts:List Tm}{nt d:Int}(h:(Tm.mk k s u t f l ts).shape nt d=true):1<=d∧¬k=nt∧aD k=(ts.length:Int)∧(Tm.mk k s u t f l ts).ownB=true∧Tm.shapes ts nt (d-1)=true:=by
 unfold Tm.shape at h;simp only[Bool.and_eq_true,decide_eq_true_eq,Bool.not_eq_true',beq_eq_false_iff_ne,beq_iff_eq] at h
 exact⟨h.1.1.1,h.1.1.2,h.1.2.1,h.1.2.2,h.2⟩
theorem Tm.shapes_mem {nt d:Int} : ∀ {ts:List Tm} {t:Tm},Tm.shapes ts nt d=true->t∈ts->t.shape nt d=true
 | u::ts,t,h,ht=>by
  unfold Tm.shapes at h;simp only[Bool.and_eq_true] at h
  rcases List.mem_cons.1 ht with rfl | ht
  ·exact h.1
  ·exact Tm.shapes_mem h.2 ht
theorem jV (k:Int):aD k<=3:=by unfold aD;(repeat' split)<;>omega
mutual
theorem Tm.size_pos : ∀t:Tm,1<=t.size
 | .mk _ _ _ _ _ _ ts=>by unfold Tm.size;have:=Tm.sizes_pos ts;omega
theorem Tm.sizes_pos : ∀ts:List Tm,0<=Tm.sizes ts
 | []=>by unfold Tm.sizes;omega
 | t::ts=>by unfold Tm.sizes;have:=Tm.size_pos t;have:=Tm.sizes_pos ts;omega
end
mutual
theorem Tm.size_shape : ∀(t:Tm) (nt:Int) (n:Nat),t.shape nt n=true->2*t.size+1<=3 ^ n
 | .mk k s u t f l ts,nt,n,h=>by
  obtain⟨h1,-,h3,-,h5⟩:=Tm.shape_parts h;obtain⟨m,rfl⟩ : ∃m,n=m+1:=⟨n-1,by omega⟩
  rw[show((m+1:Nat):Int)-1=(m:Int) from by omega] at h5;have h6:=Tm.sizes_shape ts nt m h5;have h7:=jV k;have h8:(1:Int)<=3 ^ m:=by exact_mod_cast Nat.one_le_pow _ _ (by omega)
  unfold Tm.size;have h9:(3:Int) ^ (m+1)=3*3 ^ m:=by rw[Int.pow_succ];omega
  rw[h3] at h7;have h10:(ts.length:Int)*3 ^ m<=3*3 ^ m:=Int.mul_le_mul_of_nonneg_right h7 (by omega);have h11:ts.length=0∨1<=ts.length:=by omega
  rcases h11 with h11 | h11
  ·have:ts = []:=List.eq_nil_of_length_eq_zero h11
   subst this;simp only[Tm.sizes] at *
   omega
  ·have h12:ts.length=1∨ts.length=2∨ts.length=3:=by omega
   rcases h12 with h12 | h12 | h12
   ·rw[show(ts.length:Int)=1 from by omega] at h6;omega
   ·rw[show(ts.length:Int)=2 from by omega] at h6;omega
   ·rw[show(ts.length:Int)=3 from by omega] at h6;omega
theorem Tm.sizes_shape : ∀(ts:List Tm) (nt:Int) (n:Nat),Tm.shapes ts nt n=true->2*Tm.sizes ts+ts.length<=(ts.length:Int)*3 ^ n
 | [],nt,n,h=>by unfold Tm.sizes;simp
 | t::ts,nt,n,h=>by
  unfold Tm.shapes at h;simp only[Bool.and_eq_true] at h;have h1:=Tm.size_shape t nt n h.1;have h2:=Tm.sizes_shape ts nt n h.2;unfold Tm.sizes;rw[List.length_cons,show((ts.length+1:Nat):Int)*3 ^ n=(ts.length:Int)*3 ^ n+3 ^ n from by rw[Int.natCast_add,Int.add_mul];simp]
  omega
end
theorem Tm.sizes_take_succ : ∀(ts:List Tm) (j:Nat) (h:j<ts.length),Tm.sizes (ts.take (j+1))=Tm.sizes (ts.take j)+ts[j].size
 | [],_,h=>absurd h (Nat.not_lt_zero _)
 | t::ts,0,_=>by simp[Tm.sizes]
 | t::ts,j+1,h=>by
  have:=Tm.sizes_take_succ ts j (by simpa using h);simp only[List.take_succ_cons,Tm.sizes,List.getElem_cons_succ]
  omega
theorem Tm.sizes_take_le : ∀(ts:List Tm) (j:Nat),Tm.sizes (ts.take j)<=Tm.sizes ts
 | [],_=>by simp
 | t::ts,0=>by have:=Tm.sizes_pos (t::ts);simpa [Tm.sizes] using this
 | t::ts,j+1=>by
  have:=Tm.sizes_take_le ts j;simp only[List.take_succ_cons,Tm.sizes]
  omega
theorem Tm.size_bd {t:Tm}{nt:Int}{n:Nat}(h:t.shape nt n=true)(hn:n<=40):t.size<=6078832729528464400:=by
 have h1:=Tm.size_shape t nt n h;have h2:(3:Int) ^ n<=3 ^ 40:=by exact_mod_cast Nat.pow_le_pow_right (by omega) hn
 have h3:(3:Int) ^ 40=12157665459056928801:=by decide
 omega
theorem lQ (u l:Int)(nm:ByteArray)(tv n1 n2 sv cc:Bool)(h0:(nm.toList == [])=true)(h1:(u==0)=true)(h2:(decide ((bQ l)≥1))=true)(h3:(decide ((bQ l)<=99))=true)(h4:(tv)=true)(h5:(sv)=true)(h6:decide (bQ l≥1)=cp l)(h7:decide (bQ l<=99)=true):(cc:Bool)=(ownB 14 u l nm tv n1 n2 (sv&&tv&&cc)):=by
 first | (simp_all [ownB,bN];done) | grind [ownB,bN]
theorem lS (u l:Int)(nm:ByteArray)(tv n1 n2 sv cc:Bool)(h0:(nm.toList == [])=true)(h1:(u==0)=true)(h2:(decide ((bQ l)≥1))=true)(h3:(decide ((bQ l)<=99))=true)(h4:(tv)=true)(h5:(sv)=false)(h6:decide (bQ l≥1)=cp l)(h7:decide (bQ l<=99)=true):(false:Bool)=(ownB 14 u l nm tv n1 n2 (sv&&tv&&cc)):=by
 first | (simp_all [ownB,bN];done) | grind [ownB,bN]
theorem lT (u l:Int)(nm:ByteArray)(tv n1 n2 sv cc:Bool)(h0:(nm.toList == [])=true)(h1:(u==0)=true)(h2:(decide ((bQ l)≥1))=true)(h3:(decide ((bQ l)<=99))=true)(h4:(tv)=false)(h5:decide (bQ l≥1)=cp l)(h6:decide (bQ l<=99)=true):(false:Bool)=(ownB 14 u l nm tv n1 n2 (sv&&tv&&cc)):=by
 first | (simp_all [ownB,bN];done) | grind [ownB,bN]
theorem lU (u l:Int)(nm:ByteArray)(tv n1 n2 sv cc:Bool)(h0:(nm.toList == [])=true)(h1:(u==0)=true)(h2:(decide ((bQ l)≥1))=true)(h3:(decide ((bQ l)<=99))=false)(h4:decide (bQ l≥1)=cp l)(h5:decide (bQ l<=99)=true):(false:Bool)=(ownB 14 u l nm tv n1 n2 (sv&&tv&&cc)):=by
 first | (simp_all [ownB,bN];done) | grind [ownB,bN]
theorem lW (u l:Int)(nm:ByteArray)(tv n1 n2 sv cc:Bool)(h0:(nm.toList == [])=true)(h1:(u==0)=true)(h2:(decide ((bQ l)≥1))=false)(h3:decide (bQ l≥1)=cp l)(h4:decide (bQ l<=99)=true):(false:Bool)=(ownB 14 u l nm tv n1 n2 (sv&&tv&&cc)):=by
 first | (simp_all [ownB,bN];done) | grind [ownB,bN]
theorem lX (u l:Int)(nm:ByteArray)(tv n1 n2 sv cc:Bool)(h0:(nm.toList == [])=true)(h1:(u==0)=false)(h2:decide (bQ l≥1)=cp l)(h3:decide (bQ l<=99)=true):(false:Bool)=(ownB 14 u l nm tv n1 n2 (sv&&tv&&cc)):=by
 first | (simp_all [ownB,bN];done) | grind [ownB,bN]
theorem lY (u l:Int)(nm:ByteArray)(tv n1 n2 sv cc:Bool)(h0:(nm.toList == [])=false)(h1:decide (bQ l≥1)=cp l)(h2:decide (bQ l<=99)=true):(false:Bool)=(ownB 14 u l nm tv n1 n2 (sv&&tv&&cc)):=by
 first | (simp_all [ownB,bN];done) | grind [ownB,bN]
theorem nN (F:Nat->Prop)(t:Tm)(y:Value)(w:World)(hy:aB F w t y) :
  Calls Try.prog 35 #[y] w fun e w'=>e = .returned (.bool (t.nodeB))∧Below w.heap.size w w':=by
 obtain⟨k,nm,u,tk,ta,tn,tq,fk,fa,fn,fq,l,c,m,q,rfl⟩:=hy.shape;obtain⟨r1,r2,r3,r4,r5,r6,r7,r8,r9,rn,rm,rq,hty,hsr,hks⟩:=hy.parts;have h1:=fun W (h:Below w.heap.size w W)=>d9 F t.type _ W (hty.below h);have h2:=fun W (h:Below w.heap.size w W)=>fP tk ta tn tq W;have h4:=fun W (h:Below w.heap.size w W)=>fP fk fa fn fq W;have h3:=fun W (h:Below w.heap.size w W)=>ej F F t.src t.type _ _ W (hsr.below h) (hty.below h);have e1:t.type.noneB=noneB tk tn:=by unfold Ty.noneB;rw[r4,r5]
 have e2:t.src.noneB=noneB fk fn:=by unfold Ty.noneB;rw[r6,r7]
 rw[<-e1] at h2;rw[<-e2] at h4;have e:nodeB k u l nm m t.type.valid t.type.noneB t.src.noneB (t.src.valid&&t.type.valid&&t.src.cons t.type)=t.nodeB:=by unfold Tm.nodeB Tm.ownB nodeB;rw[r1,r2,r3,r8,r9]
 rw[<-e]
 rcases kinds6 k with rfl | rfl | rfl | rfl | rfl | ⟨z0,z1,z2,z3,z4⟩
 ·exact lg u tk fk l nm ta fa c tn tq fn fq m q w _ _ _ (t.src.valid&&t.type.valid&&t.src.cons t.type) (zq h1) (zq h2) (zq h4) (zq h3)
 ·exact lh u tk fk l nm ta fa c tn tq fn fq m q w _ _ _ (t.src.valid&&t.type.valid&&t.src.cons t.type) (zq h1) (zq h2) (zq h4) (zq h3)
 ·exact li u tk fk l nm ta fa c tn tq fn fq m q w _ _ _ (t.src.valid&&t.type.valid&&t.src.cons t.type) (zq h1) (zq h2) (zq h4) (zq h3)
 ·exact kB u tk fk l nm ta fa c tn tq fn fq m q w _ _ _ (t.src.valid&&t.type.valid&&t.src.cons t.type) (zq h1) (zq h2) (zq h4) (zq h3)
 ·exact kC u tk fk l nm ta fa c tn tq fn fq m q w _ _ _ (t.src.valid&&t.type.valid&&t.src.cons t.type) (zq h1) (zq h2) (zq h4) (zq h3)
 ·exact lk k u tk fk l nm ta fa c tn tq fn fq m q w _ _ _ (t.src.valid&&t.type.valid&&t.src.cons t.type) z0 z1 z2 z3 z4 (zq h1) (zq h2) (zq h4) (zq h3)
theorem kg (F:Nat->Prop)(t:Tm)(y:Value)(w:World)(hy:aB F w t y)(hk:(t.kind==14)=false) :
  Calls Try.prog 56 #[y] w fun e w'=>e = .returned (.bool (t.ownB))∧Below w.heap.size w w':=by
 obtain⟨k,nm,u,tk,ta,tn,tq,fk,fa,fn,fq,l,c,m,q,rfl⟩:=hy.shape;obtain⟨r1,r2,r3,r4,r5,r6,r7,r8,r9,rn,rm,rq,hty,hsr,hks⟩:=hy.parts;have h1:=fun W (h:Below w.heap.size w W)=>ce F t.type _ W (hty.below h);have h2:=fun W (h:Below w.heap.size w W)=>j6 tk ta tn tq W;have h4:=fun W (h:Below w.heap.size w W)=>j6 fk fa fn fq W;have e1:t.type.noneB=noneB tk tn:=by unfold Ty.noneB;rw[r4,r5]
 have e2:t.src.noneB=noneB fk fn:=by unfold Ty.noneB;rw[r6,r7]
 rw[<-e1] at h2;rw[<-e2] at h4;have e:ownB k u l nm t.type.valid t.type.noneB t.src.noneB (t.src.valid&&t.type.valid&&t.src.cons t.type)=t.ownB:=by unfold Tm.ownB;rw[r1,r2,r3,r8]
 rw[<-e];rw[<-r1] at hk
 rcases kinds6 k with rfl | rfl | rfl | rfl | rfl | ⟨z0,z1,z2,z3,z4⟩
 ·exact ns u tk fk l nm ta fa c tn tq fn fq m q w _ _ _ (t.src.valid&&t.type.valid&&t.src.cons t.type) (zq h1) (zq h2) (zq h4)
 ·exact nu u tk fk l nm ta fa c tn tq fn fq m q w _ _ _ (t.src.valid&&t.type.valid&&t.src.cons t.type) (zq h1) (zq h2) (zq h4)
 ·exact nw u tk fk l nm ta fa c tn tq fn fq m q w _ _ _ (t.src.valid&&t.type.valid&&t.src.cons t.type) (zq h1) (zq h2) (zq h4)
 ·exact mi u tk fk l nm ta fa c tn tq fn fq m q w _ _ _ (t.src.valid&&t.type.valid&&t.src.cons t.type) (zq h1) (zq h2) (zq h4)
 ·exact absurd hk (by decide)
 ·exact ny k u tk fk l nm ta fa c tn tq fn fq m q w _ _ _ (t.src.valid&&t.type.valid&&t.src.cons t.type) z0 z1 z2 z3 z4 (zq h1) (zq h2) (zq h4)
theorem nP (n:Int)(w:World):Calls Try.prog 77 #[.int .i64 n] w fun e w'=>e = .returned (.int .i64 (bQ n))∧Below w.heap.size w w':=(ob n w).mono fun e w' h=>⟨h.1,h.2▸Below.refl _ _⟩
theorem dA (n:Int):decide (bQ n<=99)=true:=by unfold bQ;simp only[decide_eq_true_eq];split<;>(try split)<;>omega
theorem mn (u tk fk l:Int)(nm:ByteArray)(ta fa c:Option Addr)(tn tq fn fq m q:Nat)(tv n1 n2 sv cc:Bool)(w:World)(H1:Hid (∀W,Below w.heap.size w W->Calls Try.prog 61 #[.agg #[.int .i64 tk,.slice ta tn tq]] W fun e W'=>e = .returned (.bool (tv))∧Below W.heap.size W W'))(H2:Hid (∀W,Below w.heap.size w W->Calls Try.prog 61 #[.agg #[.int .i64 fk,.slice fa fn fq]] W fun e W'=>e = .returned (.bool (sv))∧Below W.heap.size W W'))(H3:Hid (tv=true->sv=true->∀W,Below w.heap.size w W->Calls Try.prog 44 #[.agg #[.int .i64 fk,.slice fa fn fq],.agg #[.int .i64 tk,.slice ta tn tq]] W fun e W'=>e = .returned (.bool (cc))∧Below W.heap.size W W')) :
  Calls Try.prog 55 #[.agg (nv 14 nm u tk ta tn tq fk fa fn fq l c m q)] w fun e w'=>e = .returned (.bool (ownB 14 u l nm tv n1 n2 (sv&&tv&&cc)))∧Below w.heap.size w w':=by
 obtain⟨rr,hrr⟩ : ∃rr0:Bool,(ownB 14 u l nm tv n1 n2 (sv&&tv&&cc))=rr0:=⟨_,rfl⟩
 rw[hrr];have HT:=zq hrr;clear hrr
 go_enter Try.func55,Try.ntmps55
 go_wp2_with fail
 refine(nP l _).mono ?_;rintro e w1 ⟨rfl,hb1⟩;have hB:=(al ag hb1)
 have zw1:=hB.size;have c0_1:w1.cell? ⟨w.heap.size,1,none⟩=some (.string nm):=af hb1 (ao (by simp) 1);have c0_2:w1.cell? ⟨w.heap.size,2,none⟩=some (.int .i64 u):=af hb1 (ao (by simp) 2);have c0_3:w1.cell? ⟨w.heap.size,3,none⟩=some (.int .i64 tk):=af hb1 (ao (by simp) 3);have c0_4:w1.cell? ⟨w.heap.size,4,none⟩=some (.slice ta tn tq):=af hb1 (ao (by simp) 4);have c0_5:w1.cell? ⟨w.heap.size,5,none⟩=some (.int .i64 fk):=af hb1 (ao (by simp) 5);have c0_6:w1.cell? ⟨w.heap.size,6,none⟩=some (.slice fa fn fq):=af hb1 (ao (by simp) 6);have d0_w1:=World.block_lt_of_cell? _ _ c0_1
 rcases Bool.eq_false_or_eq_true (nm.toList == []) with q1 | q1
 ·skip
  have nq1:(nm.toList != [])=false:=by simp only[bne,q1];rfl
  rcases Bool.eq_false_or_eq_true (u==0) with q2 | q2
  ·skip
   have nq2:(u != 0)=false:=by simp only[bne,q2];rfl
   rcases Bool.eq_false_or_eq_true (decide ((bQ l)≥1)) with q3 | q3
   ·skip
    rcases Bool.eq_false_or_eq_true (decide ((bQ l)<=99)) with q4 | q4
    ·skip
     rcases Bool.eq_false_or_eq_true (tv) with q5 | q5
     ·have Hq5:=zq q5
      clear q5
      rcases Bool.eq_false_or_eq_true (sv) with q6 | q6
      ·have Hq6:=zq q6
       clear q6
       go_wp2_with fail
       refine(H1.out _ hB).mono ?_;rintro e w2 ⟨rfl,hb2⟩;rw[Hq5.out];replace hB:=(al hB hb2)
       have zw2:=hB.size;replace c0_5:=af hb2 c0_5;replace c0_6:=af hb2 c0_6;replace c0_3:=af hb2 c0_3;replace c0_4:=af hb2 c0_4;have d0_w2:=World.block_lt_of_cell? _ _ c0_5
       go_wp2_with fail
       refine(H2.out _ hB).mono ?_;rintro e w3 ⟨rfl,hb3⟩;rw[Hq6.out];replace hB:=(al hB hb3)
       have zw3:=hB.size;replace c0_5:=af hb3 c0_5;replace c0_6:=af hb3 c0_6;replace c0_3:=af hb3 c0_3;replace c0_4:=af hb3 c0_4;have d0_w3:=World.block_lt_of_cell? _ _ c0_5
       go_wp2_with fail
       refine(H3.out Hq5.out Hq6.out _ hB).mono ?_;rintro e w4 ⟨rfl,hb4⟩;replace hB:=(al hB hb4)
       have zw4:=hB.size
       go_wp2_with fail
       refine bq (.bool (cc)) (by simp[results,Try.results55,go_sem,bne]) ?_
       exact⟨au ((lQ u l nm tv n1 n2 sv cc q1 q2 q3 q4 Hq5.out Hq6.out (cY l) (dA l)).trans HT.out),hB⟩
      ·have Hq6:=zq q6
       clear q6
       go_wp2_with fail
       refine(H1.out _ hB).mono ?_;rintro e w5 ⟨rfl,hb5⟩;rw[Hq5.out];replace hB:=(al hB hb5)
       have zw5:=hB.size;replace c0_5:=af hb5 c0_5;replace c0_6:=af hb5 c0_6;have d0_w5:=World.block_lt_of_cell? _ _ c0_5
       go_wp2_with fail
       refine(H2.out _ hB).mono ?_;rintro e w6 ⟨rfl,hb6⟩;rw[Hq6.out];replace hB:=(al hB hb6)
       have zw6:=hB.size
       go_wp2_with fail
       refine bq (.bool (false)) (by simp[results,Try.results55,go_sem,bne]) ?_
       exact⟨au ((lS u l nm tv n1 n2 sv cc q1 q2 q3 q4 Hq5.out Hq6.out (cY l) (dA l)).trans HT.out),hB⟩
     ·have Hq5:=zq q5
      clear q5
      go_wp2_with fail
      refine(H1.out _ hB).mono ?_;rintro e w7 ⟨rfl,hb7⟩;rw[Hq5.out];replace hB:=(al hB hb7)
      have zw7:=hB.size
      go_wp2_with fail
      refine bq (.bool (false)) (by simp[results,Try.results55,go_sem,bne]) ?_
      exact⟨au ((lT u l nm tv n1 n2 sv cc q1 q2 q3 q4 Hq5.out (cY l) (dA l)).trans HT.out),hB⟩
    ·skip
     go_wp2_with fail
     refine bq (.bool (false)) (by simp[results,Try.results55,go_sem,bne]) ?_
     exact⟨au ((lU u l nm tv n1 n2 sv cc q1 q2 q3 q4 (cY l) (dA l)).trans HT.out),hB⟩
   ·skip
    go_wp2_with fail
    refine bq (.bool (false)) (by simp[results,Try.results55,go_sem,bne]) ?_
    exact⟨au ((lW u l nm tv n1 n2 sv cc q1 q2 q3 (cY l) (dA l)).trans HT.out),hB⟩
  ·skip
   have nq2:(u != 0)=true:=by simp only[bne,q2];rfl
   go_wp2_with fail
   refine bq (.bool (false)) (by simp[results,Try.results55,go_sem,bne]) ?_
   exact⟨au ((lX u l nm tv n1 n2 sv cc q1 q2 (cY l) (dA l)).trans HT.out),hB⟩
 ·skip
  have nq1:(nm.toList != [])=true:=by simp only[bne,q1];rfl
  go_wp2_with fail
  refine bq (.bool (false)) (by simp[results,Try.results55,go_sem,bne]) ?_
  exact⟨au ((lY u l nm tv n1 n2 sv cc q1 (cY l) (dA l)).trans HT.out),hB⟩
theorem od (F:Nat->Prop)(t:Tm)(y:Value)(w:World)(hy:aB F w t y)(hk:(t.kind==14)=true) :
  Calls Try.prog 55 #[y] w fun e w'=>e = .returned (.bool (t.ownB))∧Below w.heap.size w w':=by
 obtain⟨k,nm,u,tk,ta,tn,tq,fk,fa,fn,fq,l,c,m,q,rfl⟩:=hy.shape;obtain⟨r1,r2,r3,r4,r5,r6,r7,r8,r9,rn,rm,rq,hty,hsr,hks⟩:=hy.parts;have h1:=fun W (h:Below w.heap.size w W)=>ce F t.type _ W (hty.below h);have h2:=fun W (h:Below w.heap.size w W)=>ce F t.src _ W (hsr.below h);have h3:=fun(a:t.type.valid=true) (b:t.src.valid=true) W (h:Below w.heap.size w W)=>dr F F t.src t.type _ _ _ _ W (hsr.below h) (hty.below h) b a;have e:ownB k u l nm t.type.valid t.type.noneB t.src.noneB (t.src.valid&&t.type.valid&&t.src.cons t.type)=t.ownB:=by unfold Tm.ownB;rw[r1,r2,r3,r8]
 rw[<-e];rw[<-r1] at hk;obtain rfl:k=14:=by simpa using hk
 exact mn u tk fk l nm ta fa c tn tq fn fq m q _ _ _ _ _ w (zq h1) (zq h2) (zq h3)
def dI (G:Nat->Prop)(o:Option Ty)(w:World)(e:Ending)(w':World):Prop:=∃(k:Int) (a:Option Addr) (n q:Nat) (b:Bool) (t:Ty),e = .returned (.tuple #[.agg #[.int .i64 k,.slice a n q],.bool b])∧b=o.isSome∧ai (fun x=>G x∨w.heap.size<=x) w' t (.agg #[.int .i64 k,.slice a n q])∧(∀s,o=some s->t=s)∧Below w.heap.size w w'
def bS (l:List Bd)(nm:ByteArray):Nat->Option Ty
 | 0=>none
 | i+1=>match l[i]? with
  | some b=>if b.name.toList==nm.toList then some b.ty else bS l nm i
  | none=>bS l nm i
theorem k7 {l:List Bd}{nm:ByteArray}{i:Nat}(h:i<l.length)(e:(l[i].name.toList==nm.toList)=true):bS l nm (i+1)=some l[i].ty:=by
 simp only[bS,List.getElem?_eq_getElem h,e,if_true]
theorem iT {l:List Bd}{nm:ByteArray}{i:Nat}(h:i<l.length)(e:(l[i].name.toList==nm.toList)=false):bS l nm (i+1)=bS l nm i:=by
 simp only[bS,List.getElem?_eq_getElem h,e];rfl
theorem ai.any {F:Nat->Prop}{w:World}{t:Ty}{y:Value}(h:ai F w t y):ai (fun _=>True) w t y:=h.move (.weaken fun _ _ _=>trivial)
def aX (o:Option Ty)(w:World)(e:Ending)(w':World):Prop:=dI (fun _=>False) o w e w'
theorem ai.zeroG {H:Nat->Prop}{w:World}:ai H w (.mk 0 []) (.agg #[.int .i64 0,.slice none 0 0]):=by
 refine⟨_,rfl,?_⟩;unfold av aL
 exact⟨none,0,rfl,Nat.le_refl _,by unfold maxLen;omega,.inl rfl⟩
theorem nM (F:Nat->Prop)(l:List Bd)(nm:ByteArray)(y:Value)(w:World)(hy:aE F w l y) :
  Calls Try.prog 50 #[y,.string nm] w (dI F (bS l nm l.length) w):=by
 obtain⟨a,n,q,rfl⟩:=hy.shape;obtain⟨a',q',he,hq1,hq2,-⟩:=hy.open;simp only[Value.slice.injEq] at he;obtain⟨rfl,rfl,rfl⟩:=he;unfold maxLen at hq2;have HY:=zq hy;clear hy;have hZ:(w.alloc (.cells #[.int .i64 0,.slice none 0 0] 25)).heap[w.heap.size]?=some (.cells #[.int .i64 0,.slice none 0 0] 25 (0,0)):=aA rfl;generalize hn:l.length=n at *;have HN:=zq hn;clear hn;have hwn:wrap64 ((n:Int)-1)=(n:Int)-1:=by unfold wrap64;omega
 go_enter Try.func50,Try.ntmps50
 go_wp2_with fail
 go_loopw [6] (fun i wr=>∃j:Nat,j<=n∧i = .int .i64 ((j:Int)-1)∧wr=w.alloc (.cells #[.int .i64 0,.slice none 0 0] 25)∧Hid (bS l nm n=bS l nm j)) (fun i _=>(intOf i+1).toNat)
 case atStart=>exact⟨n,Nat.le_refl _,rfl,rfl,zq rfl⟩
 case round=>
  obtain⟨j,hj,rfl,rfl,hrel⟩:=hrel;have z0:(w.alloc (.cells #[.int .i64 0,.slice none 0 0] 25)).cell? ⟨w.heap.size,0,none⟩=some (.int .i64 0):=ah hZ rfl;have z1:(w.alloc (.cells #[.int .i64 0,.slice none 0 0] 25)).cell? ⟨w.heap.size,1,none⟩=some (.slice none 0 0):=ah hZ rfl;have zf0:(w.alloc (.cells #[.int .i64 0,.slice none 0 0] 25)).frozen? ⟨w.heap.size,0,none⟩=false:=aj hZ 0;have zf1:(w.alloc (.cells #[.int .i64 0,.slice none 0 0] 25)).frozen? ⟨w.heap.size,1,none⟩=false:=aj hZ 1
  cases j with
  | zero=>
   have h0:decide (((0:Nat):Int)-1≥0)=false:=by simp
   go_wp2_with fail
   refine bq (.tuple #[.agg #[.int .i64 0,.slice none 0 0],.bool false]) (by simp[results,Try.results50,go_sem]) ?_
   exact⟨_,_,_,_,_,_,rfl,by rw[hrel.out];rfl,ai.zeroG,(by rw[hrel.out];intro s h;cases h),ag⟩
  | succ j=>
   have hjl:j<l.length:=by have:=HN.out;omega
   obtain⟨b,off,k0,a0,m0,q0,rfl,l0,e0,ez,e1,e2,ht⟩:=HY.out.at (Below.refl _ _) hjl;replace e0:=af (ag (o:=.cells #[.int .i64 0,.slice none 0 0] 25)) e0;replace e1:=af (ag (o:=.cells #[.int .i64 0,.slice none 0 0] 25)) e1;replace e2:=af (ag (o:=.cells #[.int .i64 0,.slice none 0 0] 25)) e2;have HT:=zq ht;clear ht;have h0:decide (((j+1:Nat):Int)-1≥0)=true:=by simp
   have hji:((j+1:Nat):Int)-1=(j:Int):=by omega
   have hj0:(0:Int)<=(j:Int):=by omega
   have hj1:(j:Int)<(n:Int):=by omega
   have hwj:wrap64 ((j:Int)-1)=(j:Int)-1:=by unfold wrap64;omega
   rw[hji]
   rcases Bool.eq_false_or_eq_true (l[j].name.toList==nm.toList) with q1 | q1
   ·have HQ:=zq (k7 hjl q1)
    go_wp2_with fail
    refine bq (.tuple #[.agg #[.int .i64 k0,.slice a0 m0 q0],.bool true]) (by simp[results,Try.results50,go_sem]) ?_
    exact⟨_,_,_,_,_,_,rfl,by rw[hrel.out,HQ.out];rfl,(HT.out.move (.weaken fun b h _=>.inl h)).below ag,(by rw[hrel.out,HQ.out];intro s h;exact Option.some.inj h),ag⟩
   ·have HQ:=zq (iT hjl q1)
    go_wp2_with fail
    go_roundw
    case rel=>exact⟨j,by omega,by first | trivial | rfl,by first | trivial | rfl,zq (hrel.out.trans HQ.out)⟩
    case measure=>simp[intOf]
theorem j7 (F:Nat->Prop)(l:List Bd)(nm:ByteArray)(y:Value)(w:World)(hy:aE F w l y)(hc : ∀b∈l,b.ty.cnt<=1048576) :
  Calls Try.prog 57 #[y,.string nm] w (aX (bS l nm l.length) w):=by
 obtain⟨a,n,q,rfl⟩:=hy.shape;obtain⟨a',q',he,hq1,hq2,-⟩:=hy.open;simp only[Value.slice.injEq] at he;obtain⟨rfl,rfl,rfl⟩:=he;unfold maxLen at hq2;have HY:=zq hy;have HCN:=zq hc;clear hy hc;have hZ:(w.alloc (.cells #[.int .i64 0,.slice none 0 0] 25)).heap[w.heap.size]?=some (.cells #[.int .i64 0,.slice none 0 0] 25 (0,0)):=aA rfl;generalize hn:l.length=n at *;have HN:=zq hn;clear hn;have hwn:wrap64 ((n:Int)-1)=(n:Int)-1:=by unfold wrap64;omega
 go_enter Try.func57,Try.ntmps57
 go_wp2_with fail
 go_loopw [6] (fun i wr=>∃j:Nat,j<=n∧i = .int .i64 ((j:Int)-1)∧wr=w.alloc (.cells #[.int .i64 0,.slice none 0 0] 25)∧Hid (bS l nm n=bS l nm j)) (fun i _=>(intOf i+1).toNat)
 case atStart=>exact⟨n,Nat.le_refl _,rfl,rfl,zq rfl⟩
 case round=>
  obtain⟨j,hj,rfl,rfl,hrel⟩:=hrel;have z0:(w.alloc (.cells #[.int .i64 0,.slice none 0 0] 25)).cell? ⟨w.heap.size,0,none⟩=some (.int .i64 0):=ah hZ rfl;have z1:(w.alloc (.cells #[.int .i64 0,.slice none 0 0] 25)).cell? ⟨w.heap.size,1,none⟩=some (.slice none 0 0):=ah hZ rfl;have zf0:(w.alloc (.cells #[.int .i64 0,.slice none 0 0] 25)).frozen? ⟨w.heap.size,0,none⟩=false:=aj hZ 0;have zf1:(w.alloc (.cells #[.int .i64 0,.slice none 0 0] 25)).frozen? ⟨w.heap.size,1,none⟩=false:=aj hZ 1
  cases j with
  | zero=>
   have h0:decide (((0:Nat):Int)-1≥0)=false:=by simp
   go_wp2_with fail
   refine bq (.tuple #[.agg #[.int .i64 0,.slice none 0 0],.bool false]) (by simp[results,Try.results57,go_sem]) ?_
   exact⟨_,_,_,_,_,_,rfl,by rw[hrel.out];rfl,ai.zeroG,(by rw[hrel.out];intro s h;cases h),ag⟩
  | succ j=>
   have hjl:j<l.length:=by have:=HN.out;omega
   obtain⟨b,off,k0,a0,m0,q0,rfl,l0,e0,ez,e1,e2,ht⟩:=HY.out.at (Below.refl _ _) hjl;replace e0:=af (ag (o:=.cells #[.int .i64 0,.slice none 0 0] 25)) e0;replace e1:=af (ag (o:=.cells #[.int .i64 0,.slice none 0 0] 25)) e1;replace e2:=af (ag (o:=.cells #[.int .i64 0,.slice none 0 0] 25)) e2;have HT:=zq ht;clear ht;have h0:decide (((j+1:Nat):Int)-1≥0)=true:=by simp
   have hji:((j+1:Nat):Int)-1=(j:Int):=by omega
   have hj0:(0:Int)<=(j:Int):=by omega
   have hj1:(j:Int)<(n:Int):=by omega
   have hwj:wrap64 ((j:Int)-1)=(j:Int)-1:=by unfold wrap64;omega
   rw[hji]
   rcases Bool.eq_false_or_eq_true (l[j].name.toList==nm.toList) with q1 | q1
   ·have HQ:=zq (k7 hjl q1)
    go_wp2_with fail
    refine(b5 F _ _ _ (HT.out.below ag) (HCN.out _ (List.getElem_mem hjl))).mono ?_;rintro e w1 ⟨v,rfl,hv,hb1⟩;obtain⟨kc,ac,nc,qc,rfl⟩:=hv.shape;have HV:=zq hv;have HB:=zq (al ag hb1);replace hZ:=a9 hZ hb1;have hz1:=hb1.size;simp only[World.size_alloc] at hz1;clear hv hb1 z0 z1 zf0 zf1 e0 e1 e2;obtain⟨z0,z1⟩:=blk2 hZ;have zf0:=aj hZ 0;have zf1:=aj hZ 1
    go_wp2_with fail
    have hY:((w1.setCell ⟨w.heap.size,0,none⟩ (.int .i64 kc)).setCell ⟨w.heap.size,1,none⟩ (.slice ac nc qc)).heap[w.heap.size]?=some (.cells #[.int .i64 kc,.slice ac nc qc] 25 (0,0)):=az (az hZ (rfl:(#[Value.int .i64 0,.slice none 0 0]:Array Value).setIfInBounds 0 (.int .i64 kc) = #[.int .i64 kc,.slice none 0 0])) rfl;obtain⟨rc0,rc1⟩:=blk2 hY;refine bq (.tuple #[.agg #[.int .i64 kc,.slice ac nc qc],.bool true]) (by simp[results,Try.results57,go_sem,rc0,rc1]) ?_
    exact⟨_,_,_,_,_,_,rfl,by rw[hrel.out,HQ.out];rfl,((HV.out.setCell (p:=⟨w.heap.size,0,none⟩) (by simp) _).setCell (p:=⟨w.heap.size,1,none⟩) (by simp) _).rep.move (.weaken fun b h _=>.inr (by have:(w.alloc (.cells #[.int .i64 0,.slice none 0 0] 25)).heap.size<=b:=h;simp at this;omega)),(by rw[hrel.out,HQ.out];intro s h;exact Option.some.inj h),(HB.out.setCell (p:=⟨w.heap.size,0,none⟩) (by show w.heap.size<=w.heap.size;omega) _).setCell (p:=⟨w.heap.size,1,none⟩) (by show w.heap.size<=w.heap.size;omega) _⟩
   ·have HQ:=zq (iT hjl q1)
    go_wp2_with fail
    go_roundw
    case rel=>exact⟨j,by omega,by first | trivial | rfl,by first | trivial | rfl,zq (hrel.out.trans HQ.out)⟩
    case measure=>simp[intOf]
end Go.Proofs.Ytfhglkmjibjjoaa

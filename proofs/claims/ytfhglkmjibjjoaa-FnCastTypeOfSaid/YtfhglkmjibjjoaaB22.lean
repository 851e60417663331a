/- The shape of a term, by the reference. -/
import Derived.Test.YtfhglkmjibjjoaaB4
set_option linter.unusedSimpArgs false
set_option linter.unusedVariables false
set_option maxRecDepth 100000
set_option maxHeartbeats 16000000
namespace Go.Proofs.Ytfhglkmjibjjoaa
open Go.RowKit
theorem kM (k d:Int)(m:Nat)(ow rk:Bool)(h0:(decide (d<1))=true):(false:Bool)=(decide (1<=d) && !(k==13)&&((aD k==(m:Int))&&ow)&&rk):=by
 first | (simp_all;done) | (simp_all;omega) | grind
theorem kN (k d:Int)(m:Nat)(ow rk:Bool)(h0:(decide (d<1))=false)(h1:((aD k)==(m:Int))=true)(h2:(k==13)=true):(false:Bool)=(decide (1<=d) && !(k==13)&&((aD k==(m:Int))&&ow)&&rk):=by
 first | (simp_all;done) | (simp_all;omega) | grind
theorem kO (k d:Int)(m:Nat)(ow rk:Bool)(h0:(decide (d<1))=false)(h1:((aD k)==(m:Int))=true)(h2:(k==13)=false)(h3:(k==14)=true)(h4:(ow)=true)(h5:rk=false):(false:Bool)=(decide (1<=d) && !(k==13)&&((aD k==(m:Int))&&ow)&&rk):=by
 first | (simp_all;done) | (simp_all;omega) | grind
theorem kP (k d:Int)(m:Nat)(ow rk:Bool)(h0:(decide (d<1))=false)(h1:((aD k)==(m:Int))=true)(h2:(k==13)=false)(h3:(k==14)=true)(h4:(ow)=true)(h5:rk=true):(true:Bool)=(decide (1<=d) && !(k==13)&&((aD k==(m:Int))&&ow)&&rk):=by
 first | (simp_all;done) | (simp_all;omega) | grind
theorem kQ (k d:Int)(m:Nat)(ow rk:Bool)(h0:(decide (d<1))=false)(h1:((aD k)==(m:Int))=true)(h2:(k==13)=false)(h3:(k==14)=true)(h4:(ow)=false):(false:Bool)=(decide (1<=d) && !(k==13)&&((aD k==(m:Int))&&ow)&&rk):=by
 first | (simp_all;done) | (simp_all;omega) | grind
theorem kR (k d:Int)(m:Nat)(ow rk:Bool)(h0:(decide (d<1))=false)(h1:((aD k)==(m:Int))=true)(h2:(k==13)=false)(h3:(k==14)=false)(h4:(ow)=true)(h5:rk=false):(false:Bool)=(decide (1<=d) && !(k==13)&&((aD k==(m:Int))&&ow)&&rk):=by
 first | (simp_all;done) | (simp_all;omega) | grind
theorem kS (k d:Int)(m:Nat)(ow rk:Bool)(h0:(decide (d<1))=false)(h1:((aD k)==(m:Int))=true)(h2:(k==13)=false)(h3:(k==14)=false)(h4:(ow)=true)(h5:rk=true):(true:Bool)=(decide (1<=d) && !(k==13)&&((aD k==(m:Int))&&ow)&&rk):=by
 first | (simp_all;done) | (simp_all;omega) | grind
theorem kT (k d:Int)(m:Nat)(ow rk:Bool)(h0:(decide (d<1))=false)(h1:((aD k)==(m:Int))=true)(h2:(k==13)=false)(h3:(k==14)=false)(h4:(ow)=false):(false:Bool)=(decide (1<=d) && !(k==13)&&((aD k==(m:Int))&&ow)&&rk):=by
 first | (simp_all;done) | (simp_all;omega) | grind
theorem kU (k d:Int)(m:Nat)(ow rk:Bool)(h0:(decide (d<1))=false)(h1:((aD k)==(m:Int))=false):(false:Bool)=(decide (1<=d) && !(k==13)&&((aD k==(m:Int))&&ow)&&rk):=by
 first | (simp_all;done) | (simp_all;omega) | grind
theorem im (F:Nat->Prop)(t:Tm) : ∀(d:Int) (y:Value) (w:World),aB F w t y->0<=d->d<=100 ->
  Calls Try.prog 29 #[y,.int .i64 d] w fun e w'=>e = .returned (.bool (t.shape 13 d))∧Below w.heap.size w w':=by
 intro d y w hy hd0 hd5;have IH : ∀t'∈t.kids,∀(d:Int) (y:Value) (W:World),aB F W t' y->0<=d->d<=100->Calls Try.prog 29 #[y,.int .i64 d] W fun e W'=>e = .returned (.bool (t'.shape 13 d))∧Below W.heap.size W W':=
  fun t' ht d y W a b c=>im F t' d y W a b c
 have ho:=fun(hk:(t.kind==14)=false) W (h:Below w.heap.size w W)=>kg F t y W (hy.below h) hk;have ho4:=fun(hk:(t.kind==14)=true) W (h:Below w.heap.size w W)=>od F t y W (hy.below h) hk;obtain⟨k,nm,u,tk,ta,tn,tq,fk,fa,fn,fq,l,c,m,q,rfl⟩:=hy.shape;obtain⟨r1,r2,r3,r4,r5,r6,r7,r8,r9,rn,rm,rq,hty,hsr,hks⟩:=hy.parts
 cases t with | mk kk nn uu tt ff ll ts=>
 simp only[Tm.kind,Tm.name,Tm.num,Tm.type,Tm.src,Tm.label,Tm.kids] at *;subst r1 r2 r3 r8;unfold Tm.shape;generalize (Tm.mk k nm u tt ff l ts).ownB=ow at *;obtain⟨rk,hrk⟩ : ∃r,r=Tm.shapes ts 13 (d-1):=⟨_,rfl⟩
 rw[<-hrk,<-r9];have HN:=zq r9;have HRK:=zq hrk;have HO:=zq ho;have HO4:=zq ho4;have IHH:=zq IH;unfold maxLen at rq;clear hrk ho IH hy r9 r4 r5 r6 r7 rn hty hsr ho4;obtain⟨rr,hrr⟩ : ∃rr0:Bool,(decide (1<=d) && !(k==13)&&((aD k==(m:Int))&&ow)&&rk)=rr0:=⟨_,rfl⟩
 rw[hrr];have HT:=zq hrr;clear hrr
 go_enter Try.func29,Try.ntmps29
 rcases Bool.eq_false_or_eq_true (decide (d<1)) with q1 | q1
 ·skip
  go_wp2_with fail
  refine wp_region_noPanic ?_;refine wp_region_held_drew (S:=fun w'=>True) (by kernel_rfl) ?_ (fun hH0=>?_)
  ·exact trivial
  refine hwq hx0 (.int .i64 d) hH0 ?_;refine hwq hx1 (.bool true) hH0 ?_;refine hwq hx2 (.bool true) hH0 ?_;refine hwu hx3 hH0 ?_;refine hwu hx4 hH0 ?_;refine hwu hx5 hH0 ?_;refine hwu hx6 hH0 ?_;refine hwu hx7 hH0 ?_;refine hwu hx8 hH0 ?_;refine hwu hx9 hH0 ?_;refine hwq bd (.bool true) hH0 ?_;refine hwq bl (.bool true) hH0 ?_;refine hwu bz hH0 ?_;refine hwu bA hH0 ?_;refine hwu bB hH0 ?_;refine hwq bF (.bool true) hH0 ?_;refine hwq bI (.bool true) hH0 ?_;refine hwu co hH0 ?_;refine hwu cD hH0 ?_;refine hwu dp hH0 ?_;refine hwu dM hH0 ?_;refine hwu hx21 hH0 ?_;refine hwu hx22 hH0 ?_;refine hwu hx23 hH0 ?_;refine hwu hx24 hH0 ?_;refine hwq hx25 (.bool true) hH0 ?_;refine hwq hx26 (.bool true) hH0 ?_;refine hwu hx27 hH0 ?_;refine hwu hx28 hH0 ?_;refine hwu hx29 hH0 ?_;refine hwu hx30 hH0 ?_;refine hwu hx31 hH0 ?_;refine hwu hx32 hH0 ?_;refine hwu hx33 hH0 ?_;refine hwu hx34 hH0 ?_;refine hwq hx35 (.bool true) hH0 ?_;refine hwd ?_;clear hH0
  go_wp2_with fail
  refine bq (.bool (false)) (by simp[results,Try.results29,go_sem,bne]) ?_
  exact⟨au ((kM k d m ow rk q1).trans HT.out),ag.drew⟩
 ·skip
  rcases Bool.eq_false_or_eq_true ((aD k)==(m:Int)) with q2 | q2
  ·skip
   have nq2:((aD k) != (m:Int))=false:=by simp only[bne,q2];rfl
   rcases Bool.eq_false_or_eq_true (k==13) with q3 | q3
   ·skip
    have nq3:(k != 13)=false:=by simp only[bne,q3];rfl
    go_wp2_with fail
    have s0_:(World.alloc w (Obj.cells (nv k nm u tk ta tn tq fk fa fn fq l c m q) 28)).cell? ⟨w.heap.size,0,none⟩=some (.int .i64 k):=ao (by simp) 0;have s1_:(World.alloc w (Obj.cells (nv k nm u tk ta tn tq fk fa fn fq l c m q) 28)).cell? ⟨w.heap.size,8,none⟩=some (.slice c m q):=ao (by simp) 8;refine wp_region_noPanic ?_;refine wp_region_held_drew (S:=fun w'=>w'.cell? ⟨w.heap.size,0,none⟩=some (.int .i64 k)∧w'.cell? ⟨w.heap.size,8,none⟩=some (.slice c m q)) (by kernel_rfl) ?_ (fun hH0=>?_)
    ·exact⟨ap (s0_),ap (s1_)⟩
    refine hwq hx0 (.int .i64 d) hH0 ?_;refine hwq hx1 (.bool false) hH0 ?_;refine hwq hx2 (.bool false) hH0 ?_;refine hwq hx3 (.pointer (some ⟨w.heap.size,0,none⟩)) hH0 ?_;refine hwq hx4 (.int .i64 k) hH0 ?_;refine hwq hx6 (.pointer (some ⟨w.heap.size,8,none⟩)) hH0 ?_;refine hwq hx7 (.slice c m q) hH0 ?_;refine hwq hx8 (.int .i64 (m:Int)) hH0 ?_;refine hwe hx5 (fun K hK=>?_)
    go_simp
    go_at_call 54
    (with_reducible refine(cH k _).mono ?_)
    rintro e w1 ⟨rfl,hb1⟩
    go_wp2_with fail
    refine hK.out _ _ ?_ (fun hH1=>?_)
    ·exact⟨af hb1 (ap (s0_)),af hb1 (ap (s1_))⟩
    clear hK K hH0
    try simp only[hwA]
    refine hwq hx9 (.bool false) hH1 ?_;refine hwq bd (.bool false) hH1 ?_;refine hwq bl (.bool false) hH1 ?_;refine hwq bz (.pointer (some ⟨w.heap.size,0,none⟩)) hH1 ?_;refine hwq bA (.int .i64 k) hH1 ?_;refine hwq bB (.bool true) hH1 ?_;refine hwq bF (.bool true) hH1 ?_;refine hwq bI (.bool true) hH1 ?_;refine hwu co hH1 ?_;refine hwu cD hH1 ?_;refine hwu dp hH1 ?_;refine hwu dM hH1 ?_;refine hwu hx21 hH1 ?_;refine hwu hx22 hH1 ?_;refine hwu hx23 hH1 ?_;refine hwu hx24 hH1 ?_;refine hwq hx25 (.bool true) hH1 ?_;refine hwq hx26 (.bool true) hH1 ?_;refine hwu hx27 hH1 ?_;refine hwu hx28 hH1 ?_;refine hwu hx29 hH1 ?_;refine hwu hx30 hH1 ?_;refine hwu hx31 hH1 ?_;refine hwu hx32 hH1 ?_;refine hwu hx33 hH1 ?_;refine hwu hx34 hH1 ?_;refine hwq hx35 (.bool true) hH1 ?_;refine hwd ?_;clear hH1 s0_ s1_;have hB:=(al ag.drew hb1)
    have zw1:=hB.size
    go_wp2_with fail
    refine bq (.bool (false)) (by simp[results,Try.results29,go_sem,bne]) ?_
    exact⟨au ((kN k d m ow rk q1 q2 q3).trans HT.out),hB⟩
   ·skip
    have nq3:(k != 13)=true:=by simp only[bne,q3];rfl
    rcases Bool.eq_false_or_eq_true (k==14) with q4 | q4
    ·skip
     have nq4:(k != 14)=false:=by simp only[bne,q4];rfl
     rcases Bool.eq_false_or_eq_true (ow) with q5 | q5
     ·have Hq5:=zq q5
      clear q5
      go_wp2_with fail
      have s0_:(World.alloc w (Obj.cells (nv k nm u tk ta tn tq fk fa fn fq l c m q) 28)).cell? ⟨w.heap.size,0,none⟩=some (.int .i64 k):=ao (by simp) 0;have s1_:(World.alloc w (Obj.cells (nv k nm u tk ta tn tq fk fa fn fq l c m q) 28)).cell? ⟨w.heap.size,8,none⟩=some (.slice c m q):=ao (by simp) 8;have s2_:(World.alloc w (Obj.cells (nv k nm u tk ta tn tq fk fa fn fq l c m q) 28)).cell? ⟨w.heap.size,1,none⟩=some (.string nm):=ao (by simp) 1;have s3_:(World.alloc w (Obj.cells (nv k nm u tk ta tn tq fk fa fn fq l c m q) 28)).cell? ⟨w.heap.size,2,none⟩=some (.int .i64 u):=ao (by simp) 2;have s4_:(World.alloc w (Obj.cells (nv k nm u tk ta tn tq fk fa fn fq l c m q) 28)).cell? ⟨w.heap.size,3,none⟩=some (.int .i64 tk):=ao (by simp) 3;have s5_:(World.alloc w (Obj.cells (nv k nm u tk ta tn tq fk fa fn fq l c m q) 28)).cell? ⟨w.heap.size,4,none⟩=some (.slice ta tn tq):=ao (by simp) 4;have s6_:(World.alloc w (Obj.cells (nv k nm u tk ta tn tq fk fa fn fq l c m q) 28)).cell? ⟨w.heap.size,5,none⟩=some (.int .i64 fk):=ao (by simp) 5;have s7_:(World.alloc w (Obj.cells (nv k nm u tk ta tn tq fk fa fn fq l c m q) 28)).cell? ⟨w.heap.size,6,none⟩=some (.slice fa fn fq):=ao (by simp) 6;have s8_:(World.alloc w (Obj.cells (nv k nm u tk ta tn tq fk fa fn fq l c m q) 28)).cell? ⟨w.heap.size,7,none⟩=some (.int .i64 l):=ao (by simp) 7;refine wp_region_noPanic ?_;refine wp_region_held_drew (S:=fun w'=>w'.cell? ⟨w.heap.size,0,none⟩=some (.int .i64 k)∧w'.cell? ⟨w.heap.size,8,none⟩=some (.slice c m q)∧w'.cell? ⟨w.heap.size,1,none⟩=some (.string nm)∧w'.cell? ⟨w.heap.size,2,none⟩=some (.int .i64 u)∧w'.cell? ⟨w.heap.size,3,none⟩=some (.int .i64 tk)∧w'.cell? ⟨w.heap.size,4,none⟩=some (.slice ta tn tq)∧w'.cell? ⟨w.heap.size,5,none⟩=some (.int .i64 fk)∧w'.cell? ⟨w.heap.size,6,none⟩=some (.slice fa fn fq)∧w'.cell? ⟨w.heap.size,7,none⟩=some (.int .i64 l)) (by kernel_rfl) ?_ (fun hH0=>?_)
      ·exact⟨ap (s0_),ap (s1_),ap (s2_),ap (s3_),ap (s4_),ap (s5_),ap (s6_),ap (s7_),ap (s8_)⟩
      refine hwq hx0 (.int .i64 d) hH0 ?_;refine hwq hx1 (.bool false) hH0 ?_;refine hwq hx2 (.bool false) hH0 ?_;refine hwq hx3 (.pointer (some ⟨w.heap.size,0,none⟩)) hH0 ?_;refine hwq hx4 (.int .i64 k) hH0 ?_;refine hwq hx6 (.pointer (some ⟨w.heap.size,8,none⟩)) hH0 ?_;refine hwq hx7 (.slice c m q) hH0 ?_;refine hwq hx8 (.int .i64 (m:Int)) hH0 ?_;refine hwe hx5 (fun K hK=>?_)
      go_simp
      go_at_call 54
      (with_reducible refine(cH k _).mono ?_)
      rintro e w2 ⟨rfl,hb2⟩
      go_wp2_with fail
      refine hK.out _ _ ?_ (fun hH1=>?_)
      ·exact⟨af hb2 (ap (s0_)),af hb2 (ap (s1_)),af hb2 (ap (s2_)),af hb2 (ap (s3_)),af hb2 (ap (s4_)),af hb2 (ap (s5_)),af hb2 (ap (s6_)),af hb2 (ap (s7_)),af hb2 (ap (s8_))⟩
      clear hK K hH0
      try simp only[hwA]
      refine hwq hx9 (.bool false) hH1 ?_;refine hwq bd (.bool false) hH1 ?_;refine hwq bl (.bool false) hH1 ?_;refine hwq bz (.pointer (some ⟨w.heap.size,0,none⟩)) hH1 ?_;refine hwq bA (.int .i64 k) hH1 ?_;refine hwq bB (.bool false) hH1 ?_;refine hwq bF (.bool false) hH1 ?_;refine hwq bI (.bool false) hH1 ?_;refine hwq co (.pointer (some ⟨w.heap.size,0,none⟩)) hH1 ?_;refine hwq cD (.int .i64 k) hH1 ?_;refine hwq dp (.bool true) hH1 ?_;refine hwq dM (.bool true) hH1 ?_;refine hwq hx21 (.agg (nv k nm u tk ta tn tq fk fa fn fq l c m q)) hH1 ?_;refine hwe hx22 (fun K hK=>?_)
      go_simp
      go_at_call 55
      (with_reducible refine(HO4.out q4 _ (al ag.drew hb2)).mono ?_)
      rintro e w3 ⟨rfl,hb3⟩;rw[Hq5.out]
      go_wp2_with fail
      refine hK.out _ _ ?_ (fun hH2=>?_)
      ·exact⟨af hb3 (af hb2 (ap (s0_))),af hb3 (af hb2 (ap (s1_))),af hb3 (af hb2 (ap (s2_))),af hb3 (af hb2 (ap (s3_))),af hb3 (af hb2 (ap (s4_))),af hb3 (af hb2 (ap (s5_))),af hb3 (af hb2 (ap (s6_))),af hb3 (af hb2 (ap (s7_))),af hb3 (af hb2 (ap (s8_)))⟩
      clear hK K hH1
      try simp only[hwA]
      refine hwq hx23 (.bool false) hH2 ?_;refine hwq hx24 (.bool false) hH2 ?_;refine hwq hx25 (.bool false) hH2 ?_;refine hwq hx26 (.bool false) hH2 ?_;refine hwq hx27 (.pointer (some ⟨w.heap.size,0,none⟩)) hH2 ?_;refine hwq hx28 (.int .i64 k) hH2 ?_;refine hwq hx29 (.bool false) hH2 ?_;refine hwq hx30 (.bool false) hH2 ?_;refine hwu hx31 hH2 ?_;refine hwu hx32 hH2 ?_;refine hwu hx33 hH2 ?_;refine hwq hx34 (.bool false) hH2 ?_;refine hwq hx35 (.bool false) hH2 ?_;refine hwd ?_;clear hH2 s0_ s1_ s2_ s3_ s4_ s5_ s6_ s7_ s8_;have hB:=(al (al ag.drew hb2) hb3)
      have zw3:=hB.size;have c0_8:w3.cell? ⟨w.heap.size,8,none⟩=some (.slice c m q):=af hb3 (af hb2 (ap (ao (by simp) 8)));have d0_w3:=World.block_lt_of_cell? _ _ c0_8
      go_wp2_with fail
      go_loopw [5] (fun i wr=>∃j:Nat,j<=m∧i = .int .i64 j∧Below w.heap.size w wr∧wr.cell? ⟨w.heap.size,8,none⟩=some (.slice c m q)∧Hid (rk=Tm.shapes (ts.drop j) 13 (d-1))) (fun i _=>m-(intOf i).toNat)
      case atStart=>exact⟨0,by omega,rfl,hB,c0_8,HRK.out⟩
      case round=>
       obtain⟨j,hj,rfl,hB,x0,hR0⟩:=hrel;have lx1:=World.block_lt_of_cell? _ _ x0
       by_cases hlt:j<m
       ·have hjt:j<ts.length:=by have:=HN.out;omega
        obtain⟨b,off,k0,nm0,u0,tk0,ta0,tn0,tq0,fk0,fa0,fn0,fq0,l0,a0,m0,q0,rfl,lb,e0,e1,e2,e3,e4,e5,e6,e7,e8,ht⟩:=hks.at hB hjt;have hcall:=IHH.out ts[j] (List.getElem_mem hjt) (d-1);have hstep:=hR0.out.trans (Tm.shapes_drop ts 13 (d-1) j hjt);generalize ts[j].shape 13 (d-1)=r at hcall hstep;have HC:=zq hcall;have HS:=zq hstep;clear hcall hstep hR0;have hwr:=IntWalk.i64_in (d-1) (by omega)
        go_wp2_with fail
        refine(HC.out _ _ ht (by have h:=q1;simp only[decide_eq_false_iff_not] at h;omega) (by have h:=q1;simp only[decide_eq_false_iff_not] at h;omega)).mono ?_;rintro e w4 ⟨rfl,hb4⟩;replace hB:=(al hB hb4)
        have zw4:=hB.size;replace x0:=af hb4 x0;have d0_w4:=World.block_lt_of_cell? _ _ x0
        rcases Bool.eq_false_or_eq_true (r) with q6 | q6
        ·(try rw[q6])
         have Hq6:=zq q6;clear q6;have hwr:=IntWalk.i64_in ((j:Int)+1) (by omega)
         go_wp2_with fail
         go_roundw
         case rel=>exact⟨j+1,by omega,by go_num,hB,x0,(by rw[Hid,HS.out,Hq6.out];rfl)⟩
         case measure=>simp[intOf];omega
        ·(try rw[q6])
         have Hq6:=zq q6;clear q6
         go_wp2_with fail
         refine bq (.bool (false)) (by simp[results,Try.results29,go_sem,bne]) ?_
         exact⟨au ((kO k d m ow rk q1 q2 q3 q4 Hq5.out (by rw[HS.out,Hq6.out];rfl)).trans HT.out),hB⟩
       ·skip
        have HRK:Hid (rk=true):=zq (by rw[hR0.out,List.drop_eq_nil_of_le (by have:=HN.out;omega)];unfold Tm.shapes;rfl)
        go_wp2_with fail
        refine bq (.bool (true)) (by simp[results,Try.results29,go_sem,bne]) ?_
        exact⟨au ((kP k d m ow rk q1 q2 q3 q4 Hq5.out HRK.out).trans HT.out),hB⟩
     ·have Hq5:=zq q5
      clear q5
      go_wp2_with fail
      have s0_:(World.alloc w (Obj.cells (nv k nm u tk ta tn tq fk fa fn fq l c m q) 28)).cell? ⟨w.heap.size,0,none⟩=some (.int .i64 k):=ao (by simp) 0;have s1_:(World.alloc w (Obj.cells (nv k nm u tk ta tn tq fk fa fn fq l c m q) 28)).cell? ⟨w.heap.size,8,none⟩=some (.slice c m q):=ao (by simp) 8;have s2_:(World.alloc w (Obj.cells (nv k nm u tk ta tn tq fk fa fn fq l c m q) 28)).cell? ⟨w.heap.size,1,none⟩=some (.string nm):=ao (by simp) 1;have s3_:(World.alloc w (Obj.cells (nv k nm u tk ta tn tq fk fa fn fq l c m q) 28)).cell? ⟨w.heap.size,2,none⟩=some (.int .i64 u):=ao (by simp) 2;have s4_:(World.alloc w (Obj.cells (nv k nm u tk ta tn tq fk fa fn fq l c m q) 28)).cell? ⟨w.heap.size,3,none⟩=some (.int .i64 tk):=ao (by simp) 3;have s5_:(World.alloc w (Obj.cells (nv k nm u tk ta tn tq fk fa fn fq l c m q) 28)).cell? ⟨w.heap.size,4,none⟩=some (.slice ta tn tq):=ao (by simp) 4;have s6_:(World.alloc w (Obj.cells (nv k nm u tk ta tn tq fk fa fn fq l c m q) 28)).cell? ⟨w.heap.size,5,none⟩=some (.int .i64 fk):=ao (by simp) 5;have s7_:(World.alloc w (Obj.cells (nv k nm u tk ta tn tq fk fa fn fq l c m q) 28)).cell? ⟨w.heap.size,6,none⟩=some (.slice fa fn fq):=ao (by simp) 6;have s8_:(World.alloc w (Obj.cells (nv k nm u tk ta tn tq fk fa fn fq l c m q) 28)).cell? ⟨w.heap.size,7,none⟩=some (.int .i64 l):=ao (by simp) 7;refine wp_region_noPanic ?_;refine wp_region_held_drew (S:=fun w'=>w'.cell? ⟨w.heap.size,0,none⟩=some (.int .i64 k)∧w'.cell? ⟨w.heap.size,8,none⟩=some (.slice c m q)∧w'.cell? ⟨w.heap.size,1,none⟩=some (.string nm)∧w'.cell? ⟨w.heap.size,2,none⟩=some (.int .i64 u)∧w'.cell? ⟨w.heap.size,3,none⟩=some (.int .i64 tk)∧w'.cell? ⟨w.heap.size,4,none⟩=some (.slice ta tn tq)∧w'.cell? ⟨w.heap.size,5,none⟩=some (.int .i64 fk)∧w'.cell? ⟨w.heap.size,6,none⟩=some (.slice fa fn fq)∧w'.cell? ⟨w.heap.size,7,none⟩=some (.int .i64 l)) (by kernel_rfl) ?_ (fun hH0=>?_)
      ·exact⟨ap (s0_),ap (s1_),ap (s2_),ap (s3_),ap (s4_),ap (s5_),ap (s6_),ap (s7_),ap (s8_)⟩
      refine hwq hx0 (.int .i64 d) hH0 ?_;refine hwq hx1 (.bool false) hH0 ?_;refine hwq hx2 (.bool false) hH0 ?_;refine hwq hx3 (.pointer (some ⟨w.heap.size,0,none⟩)) hH0 ?_;refine hwq hx4 (.int .i64 k) hH0 ?_;refine hwq hx6 (.pointer (some ⟨w.heap.size,8,none⟩)) hH0 ?_;refine hwq hx7 (.slice c m q) hH0 ?_;refine hwq hx8 (.int .i64 (m:Int)) hH0 ?_;refine hwe hx5 (fun K hK=>?_)
      go_simp
      go_at_call 54
      (with_reducible refine(cH k _).mono ?_)
      rintro e w5 ⟨rfl,hb5⟩
      go_wp2_with fail
      refine hK.out _ _ ?_ (fun hH1=>?_)
      ·exact⟨af hb5 (ap (s0_)),af hb5 (ap (s1_)),af hb5 (ap (s2_)),af hb5 (ap (s3_)),af hb5 (ap (s4_)),af hb5 (ap (s5_)),af hb5 (ap (s6_)),af hb5 (ap (s7_)),af hb5 (ap (s8_))⟩
      clear hK K hH0
      try simp only[hwA]
      refine hwq hx9 (.bool false) hH1 ?_;refine hwq bd (.bool false) hH1 ?_;refine hwq bl (.bool false) hH1 ?_;refine hwq bz (.pointer (some ⟨w.heap.size,0,none⟩)) hH1 ?_;refine hwq bA (.int .i64 k) hH1 ?_;refine hwq bB (.bool false) hH1 ?_;refine hwq bF (.bool false) hH1 ?_;refine hwq bI (.bool false) hH1 ?_;refine hwq co (.pointer (some ⟨w.heap.size,0,none⟩)) hH1 ?_;refine hwq cD (.int .i64 k) hH1 ?_;refine hwq dp (.bool true) hH1 ?_;refine hwq dM (.bool true) hH1 ?_;refine hwq hx21 (.agg (nv k nm u tk ta tn tq fk fa fn fq l c m q)) hH1 ?_;refine hwe hx22 (fun K hK=>?_)
      go_simp
      go_at_call 55
      (with_reducible refine(HO4.out q4 _ (al ag.drew hb5)).mono ?_)
      rintro e w6 ⟨rfl,hb6⟩;rw[Hq5.out]
      go_wp2_with fail
      refine hK.out _ _ ?_ (fun hH2=>?_)
      ·exact⟨af hb6 (af hb5 (ap (s0_))),af hb6 (af hb5 (ap (s1_))),af hb6 (af hb5 (ap (s2_))),af hb6 (af hb5 (ap (s3_))),af hb6 (af hb5 (ap (s4_))),af hb6 (af hb5 (ap (s5_))),af hb6 (af hb5 (ap (s6_))),af hb6 (af hb5 (ap (s7_))),af hb6 (af hb5 (ap (s8_)))⟩
      clear hK K hH1
      try simp only[hwA]
      refine hwq hx23 (.bool true) hH2 ?_;refine hwq hx24 (.bool true) hH2 ?_;refine hwq hx25 (.bool true) hH2 ?_;refine hwq hx26 (.bool true) hH2 ?_;refine hwu hx27 hH2 ?_;refine hwu hx28 hH2 ?_;refine hwu hx29 hH2 ?_;refine hwu hx30 hH2 ?_;refine hwu hx31 hH2 ?_;refine hwu hx32 hH2 ?_;refine hwu hx33 hH2 ?_;refine hwu hx34 hH2 ?_;refine hwq hx35 (.bool true) hH2 ?_;refine hwd ?_;clear hH2 s0_ s1_ s2_ s3_ s4_ s5_ s6_ s7_ s8_;have hB:=(al (al ag.drew hb5) hb6)
      have zw6:=hB.size
      go_wp2_with fail
      refine bq (.bool (false)) (by simp[results,Try.results29,go_sem,bne]) ?_
      exact⟨au ((kQ k d m ow rk q1 q2 q3 q4 Hq5.out).trans HT.out),hB⟩
    ·skip
     have nq4:(k != 14)=true:=by simp only[bne,q4];rfl
     go_wp2_with fail
     have s0_:(World.alloc w (Obj.cells (nv k nm u tk ta tn tq fk fa fn fq l c m q) 28)).cell? ⟨w.heap.size,0,none⟩=some (.int .i64 k):=ao (by simp) 0;have s1_:(World.alloc w (Obj.cells (nv k nm u tk ta tn tq fk fa fn fq l c m q) 28)).cell? ⟨w.heap.size,8,none⟩=some (.slice c m q):=ao (by simp) 8;have s2_:(World.alloc w (Obj.cells (nv k nm u tk ta tn tq fk fa fn fq l c m q) 28)).cell? ⟨w.heap.size,1,none⟩=some (.string nm):=ao (by simp) 1;have s3_:(World.alloc w (Obj.cells (nv k nm u tk ta tn tq fk fa fn fq l c m q) 28)).cell? ⟨w.heap.size,2,none⟩=some (.int .i64 u):=ao (by simp) 2;have s4_:(World.alloc w (Obj.cells (nv k nm u tk ta tn tq fk fa fn fq l c m q) 28)).cell? ⟨w.heap.size,3,none⟩=some (.int .i64 tk):=ao (by simp) 3;have s5_:(World.alloc w (Obj.cells (nv k nm u tk ta tn tq fk fa fn fq l c m q) 28)).cell? ⟨w.heap.size,4,none⟩=some (.slice ta tn tq):=ao (by simp) 4;have s6_:(World.alloc w (Obj.cells (nv k nm u tk ta tn tq fk fa fn fq l c m q) 28)).cell? ⟨w.heap.size,5,none⟩=some (.int .i64 fk):=ao (by simp) 5;have s7_:(World.alloc w (Obj.cells (nv k nm u tk ta tn tq fk fa fn fq l c m q) 28)).cell? ⟨w.heap.size,6,none⟩=some (.slice fa fn fq):=ao (by simp) 6;have s8_:(World.alloc w (Obj.cells (nv k nm u tk ta tn tq fk fa fn fq l c m q) 28)).cell? ⟨w.heap.size,7,none⟩=some (.int .i64 l):=ao (by simp) 7;refine wp_region_noPanic ?_;refine wp_region_held_drew (S:=fun w'=>w'.cell? ⟨w.heap.size,0,none⟩=some (.int .i64 k)∧w'.cell? ⟨w.heap.size,8,none⟩=some (.slice c m q)∧w'.cell? ⟨w.heap.size,1,none⟩=some (.string nm)∧w'.cell? ⟨w.heap.size,2,none⟩=some (.int .i64 u)∧w'.cell? ⟨w.heap.size,3,none⟩=some (.int .i64 tk)∧w'.cell? ⟨w.heap.size,4,none⟩=some (.slice ta tn tq)∧w'.cell? ⟨w.heap.size,5,none⟩=some (.int .i64 fk)∧w'.cell? ⟨w.heap.size,6,none⟩=some (.slice fa fn fq)∧w'.cell? ⟨w.heap.size,7,none⟩=some (.int .i64 l)) (by kernel_rfl) ?_ (fun hH0=>?_)
     ·exact⟨ap (s0_),ap (s1_),ap (s2_),ap (s3_),ap (s4_),ap (s5_),ap (s6_),ap (s7_),ap (s8_)⟩
     refine hwq hx0 (.int .i64 d) hH0 ?_;refine hwq hx1 (.bool false) hH0 ?_;refine hwq hx2 (.bool false) hH0 ?_;refine hwq hx3 (.pointer (some ⟨w.heap.size,0,none⟩)) hH0 ?_;refine hwq hx4 (.int .i64 k) hH0 ?_;refine hwq hx6 (.pointer (some ⟨w.heap.size,8,none⟩)) hH0 ?_;refine hwq hx7 (.slice c m q) hH0 ?_;refine hwq hx8 (.int .i64 (m:Int)) hH0 ?_;refine hwe hx5 (fun K hK=>?_)
     go_simp
     go_at_call 54
     (with_reducible refine(cH k _).mono ?_)
     rintro e w7 ⟨rfl,hb7⟩
     go_wp2_with fail
     refine hK.out _ _ ?_ (fun hH1=>?_)
     ·exact⟨af hb7 (ap (s0_)),af hb7 (ap (s1_)),af hb7 (ap (s2_)),af hb7 (ap (s3_)),af hb7 (ap (s4_)),af hb7 (ap (s5_)),af hb7 (ap (s6_)),af hb7 (ap (s7_)),af hb7 (ap (s8_))⟩
     clear hK K hH0
     try simp only[hwA]
     refine hwq hx9 (.bool false) hH1 ?_;refine hwq bd (.bool false) hH1 ?_;refine hwq bl (.bool false) hH1 ?_;refine hwq bz (.pointer (some ⟨w.heap.size,0,none⟩)) hH1 ?_;refine hwq bA (.int .i64 k) hH1 ?_;refine hwq bB (.bool false) hH1 ?_;refine hwq bF (.bool false) hH1 ?_;refine hwq bI (.bool false) hH1 ?_;refine hwq co (.pointer (some ⟨w.heap.size,0,none⟩)) hH1 ?_;refine hwq cD (.int .i64 k) hH1 ?_;refine hwq dp (.bool false) hH1 ?_;refine hwq dM (.bool false) hH1 ?_;refine hwu hx21 hH1 ?_;refine hwu hx22 hH1 ?_;refine hwu hx23 hH1 ?_;refine hwq hx24 (.bool false) hH1 ?_;refine hwq hx25 (.bool false) hH1 ?_;refine hwq hx26 (.bool false) hH1 ?_;refine hwq hx27 (.pointer (some ⟨w.heap.size,0,none⟩)) hH1 ?_;refine hwq hx28 (.int .i64 k) hH1 ?_;refine hwq hx29 (.bool true) hH1 ?_;refine hwq hx30 (.bool true) hH1 ?_;refine hwq hx31 (.agg (nv k nm u tk ta tn tq fk fa fn fq l c m q)) hH1 ?_;refine hwe hx32 (fun K hK=>?_)
     go_simp
     go_at_call 56
     (with_reducible refine(HO.out q4 _ (al ag.drew hb7)).mono ?_)
     rintro e w8 ⟨rfl,hb8⟩
     go_wp2_with fail
     refine hK.out _ _ ?_ (fun hH2=>?_)
     ·exact⟨af hb8 (af hb7 (ap (s0_))),af hb8 (af hb7 (ap (s1_))),af hb8 (af hb7 (ap (s2_))),af hb8 (af hb7 (ap (s3_))),af hb8 (af hb7 (ap (s4_))),af hb8 (af hb7 (ap (s5_))),af hb8 (af hb7 (ap (s6_))),af hb8 (af hb7 (ap (s7_))),af hb8 (af hb7 (ap (s8_)))⟩
     clear hK K hH1
     try simp only[hwA]
     refine hwq hx33 (.bool (!ow)) hH2 ?_;refine hwq hx34 (.bool (!ow)) hH2 ?_;refine hwq hx35 (.bool (!ow)) hH2 ?_;refine hwd ?_;clear hH2 s0_ s1_ s2_ s3_ s4_ s5_ s6_ s7_ s8_;have hB:=(al (al ag.drew hb7) hb8)
     have zw8:=hB.size;have c0_8:w8.cell? ⟨w.heap.size,8,none⟩=some (.slice c m q):=af hb8 (af hb7 (ap (ao (by simp) 8)));have d0_w8:=World.block_lt_of_cell? _ _ c0_8
     rcases Bool.eq_false_or_eq_true (ow) with q7 | q7
     ·(try rw[q7])
      have Hq7:=zq q7;clear q7
      go_wp2_with fail
      go_loopw [5] (fun i wr=>∃j:Nat,j<=m∧i = .int .i64 j∧Below w.heap.size w wr∧wr.cell? ⟨w.heap.size,8,none⟩=some (.slice c m q)∧Hid (rk=Tm.shapes (ts.drop j) 13 (d-1))) (fun i _=>m-(intOf i).toNat)
      case atStart=>exact⟨0,by omega,rfl,hB,c0_8,HRK.out⟩
      case round=>
       obtain⟨j,hj,rfl,hB,x0,hR0⟩:=hrel;have lx1:=World.block_lt_of_cell? _ _ x0
       by_cases hlt:j<m
       ·have hjt:j<ts.length:=by have:=HN.out;omega
        obtain⟨b,off,k0,nm0,u0,tk0,ta0,tn0,tq0,fk0,fa0,fn0,fq0,l0,a0,m0,q0,rfl,lb,e0,e1,e2,e3,e4,e5,e6,e7,e8,ht⟩:=hks.at hB hjt;have hcall:=IHH.out ts[j] (List.getElem_mem hjt) (d-1);have hstep:=hR0.out.trans (Tm.shapes_drop ts 13 (d-1) j hjt);generalize ts[j].shape 13 (d-1)=r at hcall hstep;have HC:=zq hcall;have HS:=zq hstep;clear hcall hstep hR0;have hwr:=IntWalk.i64_in (d-1) (by omega)
        go_wp2_with fail
        refine(HC.out _ _ ht (by have h:=q1;simp only[decide_eq_false_iff_not] at h;omega) (by have h:=q1;simp only[decide_eq_false_iff_not] at h;omega)).mono ?_;rintro e w9 ⟨rfl,hb9⟩;replace hB:=(al hB hb9)
        have zw9:=hB.size;replace x0:=af hb9 x0;have d0_w9:=World.block_lt_of_cell? _ _ x0
        rcases Bool.eq_false_or_eq_true (r) with q8 | q8
        ·(try rw[q8])
         have Hq8:=zq q8;clear q8;have hwr:=IntWalk.i64_in ((j:Int)+1) (by omega)
         go_wp2_with fail
         go_roundw
         case rel=>exact⟨j+1,by omega,by go_num,hB,x0,(by rw[Hid,HS.out,Hq8.out];rfl)⟩
         case measure=>simp[intOf];omega
        ·(try rw[q8])
         have Hq8:=zq q8;clear q8
         go_wp2_with fail
         refine bq (.bool (false)) (by simp[results,Try.results29,go_sem,bne]) ?_
         exact⟨au ((kR k d m ow rk q1 q2 q3 q4 Hq7.out (by rw[HS.out,Hq8.out];rfl)).trans HT.out),hB⟩
       ·skip
        have HRK:Hid (rk=true):=zq (by rw[hR0.out,List.drop_eq_nil_of_le (by have:=HN.out;omega)];unfold Tm.shapes;rfl)
        go_wp2_with fail
        refine bq (.bool (true)) (by simp[results,Try.results29,go_sem,bne]) ?_
        exact⟨au ((kS k d m ow rk q1 q2 q3 q4 Hq7.out HRK.out).trans HT.out),hB⟩
     ·(try rw[q7])
      have Hq7:=zq q7;clear q7
      go_wp2_with fail
      refine bq (.bool (false)) (by simp[results,Try.results29,go_sem,bne]) ?_
      exact⟨au ((kT k d m ow rk q1 q2 q3 q4 Hq7.out).trans HT.out),hB⟩
  ·skip
   have nq2:((aD k) != (m:Int))=true:=by simp only[bne,q2];rfl
   go_wp2_with fail
   have s0_:(World.alloc w (Obj.cells (nv k nm u tk ta tn tq fk fa fn fq l c m q) 28)).cell? ⟨w.heap.size,0,none⟩=some (.int .i64 k):=ao (by simp) 0;have s1_:(World.alloc w (Obj.cells (nv k nm u tk ta tn tq fk fa fn fq l c m q) 28)).cell? ⟨w.heap.size,8,none⟩=some (.slice c m q):=ao (by simp) 8;refine wp_region_noPanic ?_;refine wp_region_held_drew (S:=fun w'=>w'.cell? ⟨w.heap.size,0,none⟩=some (.int .i64 k)∧w'.cell? ⟨w.heap.size,8,none⟩=some (.slice c m q)) (by kernel_rfl) ?_ (fun hH0=>?_)
   ·exact⟨ap (s0_),ap (s1_)⟩
   refine hwq hx0 (.int .i64 d) hH0 ?_;refine hwq hx1 (.bool false) hH0 ?_;refine hwq hx2 (.bool false) hH0 ?_;refine hwq hx3 (.pointer (some ⟨w.heap.size,0,none⟩)) hH0 ?_;refine hwq hx4 (.int .i64 k) hH0 ?_;refine hwq hx6 (.pointer (some ⟨w.heap.size,8,none⟩)) hH0 ?_;refine hwq hx7 (.slice c m q) hH0 ?_;refine hwq hx8 (.int .i64 (m:Int)) hH0 ?_;refine hwe hx5 (fun K hK=>?_)
   go_simp
   go_at_call 54
   (with_reducible refine(cH k _).mono ?_)
   rintro e w10 ⟨rfl,hb10⟩
   go_wp2_with fail
   refine hK.out _ _ ?_ (fun hH1=>?_)
   ·exact⟨af hb10 (ap (s0_)),af hb10 (ap (s1_))⟩
   clear hK K hH0
   try simp only[hwA]
   refine hwq hx9 (.bool true) hH1 ?_;refine hwq bd (.bool true) hH1 ?_;refine hwq bl (.bool true) hH1 ?_;refine hwu bz hH1 ?_;refine hwu bA hH1 ?_;refine hwu bB hH1 ?_;refine hwq bF (.bool true) hH1 ?_;refine hwq bI (.bool true) hH1 ?_;refine hwu co hH1 ?_;refine hwu cD hH1 ?_;refine hwu dp hH1 ?_;refine hwu dM hH1 ?_;refine hwu hx21 hH1 ?_;refine hwu hx22 hH1 ?_;refine hwu hx23 hH1 ?_;refine hwu hx24 hH1 ?_;refine hwq hx25 (.bool true) hH1 ?_;refine hwq hx26 (.bool true) hH1 ?_;refine hwu hx27 hH1 ?_;refine hwu hx28 hH1 ?_;refine hwu hx29 hH1 ?_;refine hwu hx30 hH1 ?_;refine hwu hx31 hH1 ?_;refine hwu hx32 hH1 ?_;refine hwu hx33 hH1 ?_;refine hwu hx34 hH1 ?_;refine hwq hx35 (.bool true) hH1 ?_;refine hwd ?_;clear hH1 s0_ s1_;have hB:=(al ag.drew hb10)
   have zw10:=hB.size
   go_wp2_with fail
   refine bq (.bool (false)) (by simp[results,Try.results29,go_sem,bne]) ?_
   exact⟨au ((kU k d m ow rk q1 q2).trans HT.out),hB⟩
termination_by SizeOf.sizeOf t
decreasing_by exact Tm.kid_lt ht
end Go.Proofs.Ytfhglkmjibjjoaa

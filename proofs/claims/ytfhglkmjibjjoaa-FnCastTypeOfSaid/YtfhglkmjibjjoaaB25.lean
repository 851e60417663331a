/- Numbers are drawn from given bytes; types are drawn. And what else its parts name. -/
import Derived.Test.YtfhglkmjibjjoaaB14
import Derived.Test.YtfhglkmjibjjoaaB13
set_option linter.unusedSimpArgs false
set_option linter.unusedVariables false
set_option maxRecDepth 100000
set_option maxHeartbeats 16000000
namespace Go.Proofs.Ytfhglkmjibjjoaa
open Go.RowKit
theorem mB (r:Nat)(y:Value)(w:World)(h:cl w r y)(hr:r<=w.heap.size):Calls Try.prog 22 #[y] w (ol w):=by
 obtain⟨a,n,cap,rfl,hn,hc,hg⟩:=h;unfold maxLen at hc;have HG:=zq hg;clear hg
 by_cases h2:2000<n
 ·have hd:decide ((n:Int)>2000)=true:=by simp;omega
  obtain⟨b,off,c,rfl,-⟩:=HG.out 0 (by omega);have h3:2000<=cap:=by omega
  go_enter Try.func22,Try.ntmps22
  go_wp2_with fail
  go_ret
  refine⟨w.heap.size,rfl,Nat.le_refl _,⟨by simp,.slice (some ⟨b,off,none⟩) 2000 cap,aF 0,?_,aF 1,b9 1⟩,ag⟩;refine⟨_,2000,cap,rfl,by omega,by unfold maxLen;omega,fun i hi=>?_⟩;obtain⟨b,off,c,e,hb,hl,hcell,c0,c1⟩:=HG.out i (by omega)
  exact⟨b,off,c,e,hl,by simp;omega,af ag hcell,c0,c1⟩
 ·have hd:decide ((n:Int)>2000)=false:=by simp;omega
  go_enter Try.func22,Try.ntmps22
  go_wp2_with fail
  go_ret
  refine⟨w.heap.size,rfl,Nat.le_refl _,⟨by simp,.slice a n cap,aF 0,?_,aF 1,b9 1⟩,ag⟩;refine⟨_,n,cap,rfl,by omega,by unfold maxLen;omega,fun i hi=>?_⟩;obtain⟨b,off,c,e,hb,hl,hcell,c0,c1⟩:=HG.out i (by omega)
  exact⟨b,off,c,e,hl,by simp;omega,af ag hcell,c0,c1⟩
theorem eC (r p:Nat)(w:World)(h:aR w r p)(hp:p<=1000000000):Calls Try.prog 26 #[.pointer (some ⟨r,0,none⟩)] w (DT r p 14 w):=by
 have hrl:=h.1
 go_enter Try.func26,Try.ntmps26
 go_wp2_with fail
 refine(bY (fun k=>1<=k∧k<=4) r p _ 5 5 _ (h.below aZ) (by omega) (by omega) (by omega) (Nat.le_refl _) (by omega) (bJ [3,2,4,1,3] (by simp) _ (by decide))).mono ?_;rintro e w1 ⟨k,rfl,⟨k1,k4⟩,hrd1,hch1⟩;obtain⟨d,rfl⟩:=Int.eq_ofNat_of_zero_le (show 0<=k by omega);have hw1:w.heap.size+2<=w1.heap.size:=by have:=hch1.size;simp at this;omega
 have x0:w1.cell? ⟨w.heap.size,0,none⟩=some (.int .i64 0):=hch1.cellne (by show w.heap.size≠r;omega) (af ag (aF 0));have x1:w1.cell? ⟨w.heap.size,1,none⟩=some (.slice none 0 0):=hch1.cellne (by show w.heap.size≠r;omega) (af ag (aF 1));have f0:w1.frozen? ⟨w.heap.size,0,none⟩=false:=(hch1.frone (by omega) (by simp;omega)).trans (cG ag (by simp) (b9 0));have f1:w1.frozen? ⟨w.heap.size,1,none⟩=false:=(hch1.frone (by omega) (by simp;omega)).trans (cG ag (by simp) (b9 1));have h24:2 ^ d<=2 ^ 4:=Nat.pow_le_pow_right (by omega) (by omega);have H24:=zq h24
 go_wp2_with fail
 refine(eB d r (p+1) _ (by omega) (by omega) hrd1 (by have:=H24.out;omega)).mono ?_;intro e w2 hd2;obtain⟨t,v,q,rfl,hn,hv,hq,hrd2,hch2⟩:=hd2.mono (show 2 ^ d-1<=15 by omega) (show 2 ^ d<=16 by omega);clear h24 H24;obtain⟨kk,aa,nn,qq,rfl⟩:=hv.shape;have hw2:=hch2.size;replace f0:w2.frozen? ⟨w.heap.size,0,none⟩=false:=aO hch2 (by omega) x0 f0;replace f1:w2.frozen? ⟨w.heap.size,1,none⟩=false:=aO hch2 (by omega) x1 f1;replace x0:=aH hch2 (by omega) x0;replace x1:=aH hch2 (by omega) x1
 go_wp2_with fail
 refine bq (.agg #[.int .i64 kk,.slice aa nn qq]) (by simp[results,Try.results26,go_sem,x0,x1]) ?_;refine⟨t,_,q,rfl,by omega,ai.lower ((hv.rep.setCell (by show w.heap.size<w1.heap.size;omega) _).setCell (by show w.heap.size<w1.heap.size;omega) _) (by omega),by omega,
   (hrd2.setCell (by show r<w.heap.size;omega) _).setCell (by show r<w.heap.size;omega) _,?_⟩
 exact((((Chg.of_below aZ).trans hch1).trans hch2).trans' (Nat.le_refl _) _).trans' (Nat.le_refl _) _
theorem aN.chgA {r:Nat}{w w':World}{t:List Tm}{y:Value}(h:aN (· ≠ r) w t y)(k:Chg [r] w w'):aN (· ≠ r) w' t y:=h.move (k.keeps (fun b hb=>by simpa using hb))
theorem aB.chgA {r:Nat}{w w':World}{t:Tm}{y:Value}(h:aB (· ≠ r) w t y)(k:Chg [r] w w'):aB (· ≠ r) w' t y:=h.move (k.keeps (fun b hb=>by simpa using hb))
mutual
def Tm.scan:Tm->Int->Int->Int->Int->Int->Bool × Int
 | .mk k s u t f l ts,nt,mN,mD,deep,c=>if decide (c+1>mN)||decide (deep>mD)||k==nt || !(Tm.mk k s u t f l ts).nodeB then (false,c+1) else Tm.scans ts nt mN mD (deep+1) (c+1)
def Tm.scans:List Tm->Int->Int->Int->Int->Int->Bool × Int
 | [],_,_,_,_,c=>(true,c)
 | t::ts,nt,mN,mD,deep,c=>if (t.scan nt mN mD deep c).1 then Tm.scans ts nt mN mD deep (t.scan nt mN mD deep c).2 else (false,(t.scan nt mN mD deep c).2)
end
mutual
theorem Tm.scan_eq : ∀(t:Tm) (nt mN mD deep c:Int),c<=mN->(t.scan nt mN mD deep c).1=(t.shape nt (mD+1-deep)&&decide (c+t.size<=mN))∧((t.scan nt mN mD deep c).1=true->(t.scan nt mN mD deep c).2=c+t.size)
 | .mk k s u t f l ts,nt,mN,mD,deep,c,hc=>by
  unfold Tm.scan Tm.shape Tm.size;have hp:=Tm.sizes_pos ts;have hnb:(Tm.mk k s u t f l ts).nodeB=((aD k==(ts.length:Int))&&(Tm.mk k s u t f l ts).ownB):=by unfold Tm.nodeB;rfl
  rw[<-hnb];generalize (Tm.mk k s u t f l ts).nodeB=nb
  by_cases h1:c+1>mN
  ·have h2 : ¬c+(1+Tm.sizes ts)<=mN:=by omega
   simp[h1,h2]
  ·by_cases h3:deep>mD
   ·have h4 : ¬1<=mD+1-deep:=by omega
    simp[h1,h3,h4]
   ·have h4:1<=mD+1-deep:=by omega
    cases hk:k==nt
    ·cases nb
     ·simp[h1,h3,h4]
     ·have ih:=Tm.scans_eq ts nt mN mD (deep+1) (c+1) (by omega)
      rw[show mD+1-(deep+1)=mD+1-deep-1 from by omega] at ih;simp only[h1,h3,h4,decide_true,decide_false,Bool.or_false,Bool.not_false,Bool.not_true,Bool.true_and,Bool.false_eq_true,if_false,Bool.and_true];rw[show c+(1+Tm.sizes ts)=c+1+Tm.sizes ts from by omega]
      exact ih
    ·simp[h1,h3,h4]
theorem Tm.scans_eq : ∀(ts:List Tm) (nt mN mD deep c:Int),c<=mN->(Tm.scans ts nt mN mD deep c).1=(Tm.shapes ts nt (mD+1-deep)&&decide (c+Tm.sizes ts<=mN))∧((Tm.scans ts nt mN mD deep c).1=true->(Tm.scans ts nt mN mD deep c).2=c+Tm.sizes ts)
 | [],nt,mN,mD,deep,c,hc=>by
  unfold Tm.scans Tm.shapes Tm.sizes
  simp[hc]
 | t::ts,nt,mN,mD,deep,c,hc=>by
  unfold Tm.scans Tm.shapes Tm.sizes;obtain⟨h1,h2⟩:=Tm.scan_eq t nt mN mD deep c hc;have hp:=Tm.sizes_pos ts;have hq:=Tm.size_pos t
  cases hb:(t.scan nt mN mD deep c).1
  ·rw[hb] at h1
   simp only[Bool.false_eq_true,if_false];refine⟨?_,fun h=>by cases h⟩
   by_cases hs:t.shape nt (mD+1-deep)=true
   ·rw[hs,Bool.true_and] at h1
    have h3 : ¬c+t.size<=mN:=by simpa using h1.symm
    have h4 : ¬c+(t.size+Tm.sizes ts)<=mN:=by omega
    simp[h4]
   ·simp[hs]
  ·rw[hb] at h1
   have h3:=h2 hb;have h4:t.shape nt (mD+1-deep)=true∧c+t.size<=mN:=by simpa using h1.symm
   simp only[if_true];rw[h3,h4.1,Bool.true_and];have ih:=Tm.scans_eq ts nt mN mD deep (c+t.size) h4.2;rw[show c+(t.size+Tm.sizes ts)=c+t.size+Tm.sizes ts from by omega]
   exact ih
end
theorem Tm.scan_le {t:Tm}{nt mN mD deep c x:Int}(hc:c<=mN)(h:t.scan nt mN mD deep c=(true,x)):c<=x∧x<=mN:=by
 have h0:=Tm.scan_eq t nt mN mD deep c hc;rw[h] at h0;have h1:=h0.2 rfl;have h2:t.shape nt (mD+1-deep)=true∧c+t.size<=mN:=by simpa using h0.1.symm
 have:=Tm.size_pos t;simp only at h1
 omega
theorem Tm.scans_drop (ts:List Tm)(nt mN mD deep c:Int)(k:Nat)(h:k<ts.length){a:Bool}{x:Int}(e:ts[k].scan nt mN mD deep c=(a,x)) :
  Tm.scans (ts.drop k) nt mN mD deep c=if a then Tm.scans (ts.drop (k+1)) nt mN mD deep x else (false,x):=by
 rw[List.drop_eq_getElem_cons h]
 conv=>lhs;unfold Tm.scans
 rw[e]
theorem mM (k nt mN mD deep c0 cc xc:Int)(nb:Bool)(sc:Bool × Int)(h0:(decide ((c0+1)>mN))=true):(if decide (c0+1>mN)||decide (deep>mD)||k==nt || !nb then (false,c0+1) else sc)=((false,c0+1):Bool × Int):=by
 first | (simp_all;done) | (simp_all;omega) | grind
theorem mO (k nt mN mD deep c0 cc xc:Int)(nb:Bool)(sc:Bool × Int)(h0:(decide ((c0+1)>mN))=false)(h1:(decide (deep>mD))=true):(if decide (c0+1>mN)||decide (deep>mD)||k==nt || !nb then (false,c0+1) else sc)=((false,c0+1):Bool × Int):=by
 first | (simp_all;done) | (simp_all;omega) | grind
theorem mP (k nt mN mD deep c0 cc xc:Int)(nb:Bool)(sc:Bool × Int)(h0:(decide ((c0+1)>mN))=false)(h1:(decide (deep>mD))=false)(h2:(k==nt)=true):(if decide (c0+1>mN)||decide (deep>mD)||k==nt || !nb then (false,c0+1) else sc)=((false,c0+1):Bool × Int):=by
 first | (simp_all;done) | (simp_all;omega) | grind
theorem mQ (k nt mN mD deep c0 cc xc:Int)(nb:Bool)(sc:Bool × Int)(h0:(decide ((c0+1)>mN))=false)(h1:(decide (deep>mD))=false)(h2:(k==nt)=false)(h3:(nb)=true)(h4:sc=(false,xc)):(if decide (c0+1>mN)||decide (deep>mD)||k==nt || !nb then (false,c0+1) else sc)=((false,xc):Bool × Int):=by
 first | (simp_all;done) | (simp_all;omega) | grind
theorem mR (k nt mN mD deep c0 cc xc:Int)(nb:Bool)(sc:Bool × Int)(h0:(decide ((c0+1)>mN))=false)(h1:(decide (deep>mD))=false)(h2:(k==nt)=false)(h3:(nb)=true)(h4:sc=(true,cc)):(if decide (c0+1>mN)||decide (deep>mD)||k==nt || !nb then (false,c0+1) else sc)=((true,cc):Bool × Int):=by
 first | (simp_all;done) | (simp_all;omega) | grind
theorem mS (k nt mN mD deep c0 cc xc:Int)(nb:Bool)(sc:Bool × Int)(h0:(decide ((c0+1)>mN))=false)(h1:(decide (deep>mD))=false)(h2:(k==nt)=false)(h3:(nb)=false):(if decide (c0+1>mN)||decide (deep>mD)||k==nt || !nb then (false,c0+1) else sc)=((false,c0+1):Bool × Int):=by
 first | (simp_all;done) | (simp_all;omega) | grind
theorem lm (r:Nat)(nt mN mD:Int)(hN:mN<=300)(hD:mD<=100)(t:Tm) : ∀(deep c0:Int) (_:1<=deep∧deep<=mD+1) (_:0<=c0) (_:c0<=mN) (y:Value) (w:World),aB (· ≠ r) w t y->w.cell? ⟨r,0,none⟩=some (.int .i64 c0)->w.frozen? ⟨r,0,none⟩=false->r<w.heap.size ->
  Calls Try.prog 19 #[y,.int .i64 deep,.int .i64 mN,.int .i64 mD,.int .i64 nt,.pointer (some ⟨r,0,none⟩)] w fun e w'=>e = .returned (.bool (t.scan nt mN mD deep c0).1)∧Chg [r] w w'∧w'.cell? ⟨r,0,none⟩=some (.int .i64 (t.scan nt mN mD deep c0).2)∧w'.frozen? ⟨r,0,none⟩=false:=by
 intro deep c0 hdeep hc0 hcN y w hy hc hf hr;have IH : ∀t'∈t.kids,∀(deep c0:Int) (_:1<=deep∧deep<=mD+1) (_:0<=c0) (_:c0<=mN) (y:Value) (w:World),aB (· ≠ r) w t' y->w.cell? ⟨r,0,none⟩=some (.int .i64 c0)->w.frozen? ⟨r,0,none⟩=false->r<w.heap.size ->
  Calls Try.prog 19 #[y,.int .i64 deep,.int .i64 mN,.int .i64 mD,.int .i64 nt,.pointer (some ⟨r,0,none⟩)] w fun e w'=>e = .returned (.bool (t'.scan nt mN mD deep c0).1)∧Chg [r] w w'∧w'.cell? ⟨r,0,none⟩=some (.int .i64 (t'.scan nt mN mD deep c0).2)∧w'.frozen? ⟨r,0,none⟩=false:=
  fun t' ht deep c0 a b d y w e f g h=>lm r nt mN mD hN hD t' deep c0 a b d y w e f g h
 have ho:=fun W (h:Chg [r] w W)=>nN (· ≠ r) t y W (hy.chgA h);obtain⟨k,nm,u,tk,ta,tn,tq,fk,fa,fn,fq,l,c,m,q,rfl⟩:=hy.shape;obtain⟨r1,r2,r3,r4,r5,r6,r7,r8,r9,rn,rm,rq,hty,hsr,hks⟩:=hy.parts
 cases t with | mk kk nn uu tt ff ll ts=>
 simp only[Tm.kind,Tm.name,Tm.num,Tm.type,Tm.src,Tm.label,Tm.kids] at *;subst r1 r2 r3 r8;unfold Tm.scan;generalize (Tm.mk k nm u tt ff l ts).nodeB=nb at *;obtain⟨sc,hsc⟩ : ∃x,x=Tm.scans ts nt mN mD (deep+1) (c0+1):=⟨_,rfl⟩
 rw[<-hsc];have HSC0:=zq hsc;have HN:=zq r9;have HO:=zq ho;have IHH:=zq IH;unfold maxLen at rq;clear hsc ho IH hy r9 r4 r5 r6 r7 rn hty hsr;obtain⟨rr,hrr⟩ : ∃rr0:Bool × Int,(if decide (c0+1>mN)||decide (deep>mD)||k==nt || !nb then (false,c0+1) else sc)=rr0:=⟨_,rfl⟩
 rw[hrr];have HT:=zq hrr;clear hrr
 go_enter Try.func19,Try.ntmps19
 have hwr:=IntWalk.i64_in (c0+1) (by omega)
 rcases Bool.eq_false_or_eq_true (decide ((c0+1)>mN)) with q1 | q1
 ·skip
  go_wp2_with fail
  have hfin:rr=(false,c0+1):=HT.out.symm.trans (mM k nt mN mD deep c0 0 0 nb sc q1);rw[hfin];refine bq (.bool (false)) (by simp[results,Try.results19,go_sem,bne]) ?_
  exact⟨rfl,(((Chg.refl [r] _).setCell (by simp) _).trans (Chg.of_below ag)),af ag (bP (hc)),aG ag (bP (hc)) (dG (hf))⟩
 ·skip
  rcases Bool.eq_false_or_eq_true (decide (deep>mD)) with q2 | q2
  ·skip
   go_wp2_with fail
   have hfin:rr=(false,c0+1):=HT.out.symm.trans (mO k nt mN mD deep c0 0 0 nb sc q1 q2);rw[hfin];refine bq (.bool (false)) (by simp[results,Try.results19,go_sem,bne]) ?_
   exact⟨rfl,(((Chg.refl [r] _).setCell (by simp) _).trans (Chg.of_below ag)),af ag (bP (hc)),aG ag (bP (hc)) (dG (hf))⟩
  ·skip
   rcases Bool.eq_false_or_eq_true (k==nt) with q3 | q3
   ·skip
    have nq3:(k != nt)=false:=by simp only[bne,q3];rfl
    go_wp2_with fail
    have hfin:rr=(false,c0+1):=HT.out.symm.trans (mP k nt mN mD deep c0 0 0 nb sc q1 q2 q3);rw[hfin];refine bq (.bool (false)) (by simp[results,Try.results19,go_sem,bne]) ?_
    exact⟨rfl,(((Chg.refl [r] _).setCell (by simp) _).trans (Chg.of_below ag)),af ag (bP (hc)),aG ag (bP (hc)) (dG (hf))⟩
   ·skip
    have nq3:(k != nt)=true:=by simp only[bne,q3];rfl
    go_wp2_with fail
    refine(HO.out _ (((Chg.refl [r] _).setCell (by simp) _).trans (Chg.of_below ag))).mono ?_;rintro e w1 ⟨rfl,hb1⟩;have hB:=((((Chg.refl [r] _).setCell (by simp) _).trans (Chg.of_below ag)).trans (Chg.of_below hb1))
    have zw1:=hB.size;replace hf:w1.frozen? ⟨r,0,none⟩=false:=aG hb1 (af ag (bP (hc))) (aG ag (bP (hc)) (dG (hf)));have c0_8:w1.cell? ⟨w.heap.size,8,none⟩=some (.slice c m q):=af hb1 (ao (by simp) 8);replace hc:w1.cell? ⟨r,0,none⟩=some (.int .i64 (c0+1)):=af hb1 (af ag (bP (hc)));have d0_w1:=World.block_lt_of_cell? _ _ c0_8;have dr_w1:=World.block_lt_of_cell? _ _ hc
    rcases Bool.eq_false_or_eq_true (nb) with q4 | q4
    ·(try rw[q4])
     have Hq4:=zq q4;clear q4
     go_wp2_with fail
     go_loopw [44] (fun i wr=>∃j:Nat,j<=m∧i = .int .i64 j∧(∃cc:Int,wr.cell? ⟨r,0,none⟩=some (.int .i64 cc)∧(0<=cc∧cc<=mN)∧Hid (sc=Tm.scans (ts.drop j) nt mN mD (deep+1) cc))∧Chg [r] w wr∧wr.frozen? ⟨r,0,none⟩=false) (fun i _=>m-(intOf i).toNat)
     case atStart=>exact⟨0,by omega,rfl,⟨_,hc,(by have h:=q1;simp only[decide_eq_false_iff_not] at h;omega),HSC0.out⟩,hB,hf⟩
     case round=>
      obtain⟨j,hj,rfl,⟨cc,cc_x,cc_0,cc_1⟩,hB,z0⟩:=hrel
      by_cases hlt:j<m
      ·have hjt:j<ts.length:=by have:=HN.out;omega
       obtain⟨b,off,k0,nm0,u0,tk0,ta0,tn0,tq0,fk0,fa0,fn0,fq0,l0,a0,m0,q0,rfl,lb,e0,e1,e2,e3,e4,e5,e6,e7,e8,ht⟩:=(hks.chgA hB).at (Below.refl _ _) hjt;have lb_1:=Nat.lt_succ_of_lt lb;have hdm:deep<=mD:=by have h:=q2;simp only[decide_eq_false_iff_not] at h;omega
       have hcall:=IHH.out ts[j] (List.getElem_mem hjt) (deep+1) cc (by omega) (by omega) (by omega);obtain⟨xb,xc,hx⟩ : ∃a b,ts[j].scan nt mN mD (deep+1) cc=(a,b):=⟨_,_,rfl⟩
       have hstep:=cc_1.out.trans (Tm.scans_drop ts nt mN mD (deep+1) cc j hjt hx);have hle:xb=true->cc<=xc∧xc<=mN:=fun h=>Tm.scan_le (by omega) (h▸hx);rw[hx] at hcall;have HC:=zq hcall;have HS:=zq hstep;have HL:=zq hle;clear hcall hstep hle hx cc_1;have hwr:=IntWalk.i64_in (deep+1) (by omega)
       go_wp2_with fail
       refine(HC.out _ _ (ht.below ag) (af ag (cc_x)) (aG ag (cc_x) (z0)) (by have:=hB.size;simp;omega)).mono ?_;rintro e w2 ⟨rfl,hb2,hc2,hf2⟩;replace hB:=((hB.trans (Chg.of_below ag)).trans hb2)
       have zw2:=hB.size
       rcases Bool.eq_false_or_eq_true (xb) with q5 | q5
       ·(try rw[q5])
        have Hq5:=zq q5;clear q5;have hwr:=IntWalk.i64_in ((j:Int)+1) (by omega)
        go_wp2_with fail
        go_roundw
        case rel=>exact⟨j+1,by omega,by go_num,⟨_,hc2,(by have h:=HL.out Hq5.out;omega),(by rw[Hid,HS.out,Hq5.out];rfl)⟩,hB,hf2⟩
        case measure=>simp[intOf];omega
       ·(try rw[q5])
        have Hq5:=zq q5;clear q5
        go_wp2_with fail
        have hfin:rr=(false,xc):=HT.out.symm.trans (mQ k nt mN mD deep c0 0 xc nb sc q1 q2 q3 Hq4.out (by rw[HS.out,Hq5.out];rfl));rw[hfin];refine bq (.bool (false)) (by simp[results,Try.results19,go_sem,bne]) ?_
        exact⟨rfl,hB,hc2,hf2⟩
      ·skip
       have HSC:Hid (sc=(true,cc)):=zq (by rw[cc_1.out,List.drop_eq_nil_of_le (by have:=HN.out;omega)];unfold Tm.scans;rfl)
       go_wp2_with fail
       have hfin:rr=(true,cc):=HT.out.symm.trans (mR k nt mN mD deep c0 cc 0 nb sc q1 q2 q3 Hq4.out HSC.out);rw[hfin];refine bq (.bool (true)) (by simp[results,Try.results19,go_sem,bne]) ?_
       exact⟨rfl,hB,cc_x,z0⟩
    ·(try rw[q4])
     have Hq4:=zq q4;clear q4
     go_wp2_with fail
     have hfin:rr=(false,c0+1):=HT.out.symm.trans (mS k nt mN mD deep c0 0 0 nb sc q1 q2 q3 Hq4.out);rw[hfin];refine bq (.bool (false)) (by simp[results,Try.results19,go_sem,bne]) ?_
     exact⟨rfl,hB,hc,hf⟩
termination_by SizeOf.sizeOf t
decreasing_by exact Tm.kid_lt ht
theorem mL (v:Bool):(v:Bool)=(v):=by
 rfl
theorem eG (F:Nat->Prop)(t:Tm)(y:Value)(w:World)(hy:aB F w t y) :
  Calls Try.prog 9 #[y] w fun e w'=>e = .returned (.bool (t.castValid))∧Below w.heap.size w w':=by
 have hv:(t.scan 13 200 40 1 0).1=t.castValid:=by
  have h:=(Tm.scan_eq t 13 200 40 1 0 (by omega)).1;unfold Tm.castValid;rw[h]
  simp
 have h1:=fun W (h:Below w.heap.size w W) (r:Nat) (hr:w.heap.size<=r) (hr2:r<W.heap.size) (hc:W.cell? ⟨r,0,none⟩=some (.int .i64 0)) (hf:W.frozen? ⟨r,0,none⟩=false)=>
  (lm r 13 200 40 (by omega) (by omega) t 1 0 (by omega) (by omega) (by omega) y W (hy.move (G:=(· ≠ r)) ⟨h.size,fun b _ hl=>by omega,fun b _ hl=>h.block b hl⟩) hc hf hr2).mono
   (R':=fun e W'=>e = .returned (.bool t.castValid)∧Chg [r] W W') (fun e W' h=>⟨hv▸h.1,h.2.1⟩)
 obtain⟨k,nm,u,tk,ta,tn,tq,fk,fa,fn,fq,l,c,m,q,rfl⟩:=hy.shape;generalize t.castValid=v at *;have H1:=zq h1;clear h1 hy hv;obtain⟨rr,hrr⟩ : ∃rr0:Bool,(v)=rr0:=⟨_,rfl⟩
 rw[hrr];have HT:=zq hrr;clear hrr
 go_enter Try.func9,Try.ntmps9
 go_wp2_with fail
 refine(H1.out _ aZ (w.heap.size+1) (by simp) (by simp) (ao (by simp) 0) (bT (by simp) 0)).mono ?_;rintro e w1 ⟨rfl,hb1⟩;have hB:=(bchg aZ hb1 (by omega) (Nat.le_refl _))
 have zw1:=hB.size
 go_wp2_with fail
 refine bq (.bool (v)) (by simp[results,Try.results9,go_sem,bne]) ?_
 exact⟨au ((mL v ).trans HT.out),hB⟩
structure St (wr W:World) (b j:Nat) (ch:List Nat):Prop where
 chg:Chg (b::ch) wr W
 far : ∀o,j*9+9<=o->W.cell? ⟨b,o,none⟩=wr.cell? ⟨b,o,none⟩
 fro : ∀o,W.frozen? ⟨b,o,none⟩=false
theorem St.refl {wr:World}{b j:Nat}(h : ∀o,wr.frozen? ⟨b,o,none⟩=false):St wr wr b j []:=⟨Chg.refl _ _,fun _ _=>rfl,h⟩
theorem St.set {wr W:World}{b j o:Nat}{ch:List Nat}{v:Value}(h:St wr W b j ch)(ho:o<j*9+9):St wr (W.setCell ⟨b,o,none⟩ v) b j ch:=
 ⟨h.chg.setCell (by simp) _,fun o' ho'=>(World.cell?_setCell_other W _ _ v (fun e=>by cases e;omega)).trans (h.far o' ho'),fun o'=>(dh _ _ _ _).trans (h.fro o')⟩
theorem St.call {wr W W':World}{b j:Nat}{ch g:List Nat}(h:St wr W b j ch)(hc:Chg g W W')(hb:b∉g)(hl:b<W.heap.size):St wr W' b j (ch++g):=
 ⟨(h.chg.mono (by simp;intro x hx;exact .inr (.inl hx))).trans (hc.mono (by simp;intro x hx;exact .inr (.inr hx))),
  fun o ho=>(World.cell?_of_block (a:=⟨b,o,none⟩) (hc.block b hl hb)).trans (h.far o ho),fun o=>(World.frozen?_of_block (a:=⟨b,o,none⟩) (hc.block b hl hb)).trans (h.fro o)⟩
theorem St.below {wr W W':World}{b j:Nat}{ch:List Nat}(h:St wr W b j ch)(hc:Below W.heap.size W W')(hl:b<W.heap.size):St wr W' b j ch:=by
 have:=h.call (Chg.of_below (fp:= []) hc) (by simp) hl
 simpa using this
theorem St.own {wr W:World}{b j:Nat}{ch:List Nat}{c:C}{y:Value}{f:List Nat}(h:St wr W b j ch)(ho:aQ wr c y f)(hd : ∀x∈f,x≠b∧x∉ch):aQ W c y f:=
 aQ.move _ _ _ (fun x hx=>h.chg.block x (aQ.lt _ _ _ ho x hx) (by have:=hd x hx;simp[this.1,this.2])) ho
theorem cC.keep {B:Nat}{w w':World}{t:Tm}{y:Value}(h:cC B w t y)(k:Below w.heap.size w w'):cC B w' t y:=h.below k
theorem bp.leaf {B:Nat}{w:World}{k:Int}{y:Value}(h:bp B w (.mk k []) y) : ∃a q,y = .agg #[.int .i64 k,.slice a 0 q]∧q<=maxLen:=by
 obtain⟨fp,⟨s,rfl,h⟩,-⟩:=h;simp only[Ty.kids,Ty.rows] at h;unfold aQ at h;obtain⟨a,q,rfl,-,hq,-⟩:=h
 exact⟨a,q,rfl,hq⟩
def S.leaf:S->Bool
 | .fn _ _=>false
 | .pr _ _=>false
 | _=>true
theorem S.leaf_ty {s:S}(h:s.leaf=true):s.ty = .mk s.kind []:=by cases s<;>simp[S.leaf,S.ty,S.kind] at h ⊢
theorem nV {W w1 w2:World}{t u:Ty}{y z:Value}(kk:Int)(hy:bp W.heap.size w1 t y)(hb1:Below W.heap.size W w1)(hz:bp w1.heap.size w2 u z)(hb2:Below w1.heap.size w1 w2) :
  Calls Try.prog 51 #[.int .i64 kk,y,z] w2 fun e w'=>∃v,e = .returned v∧bp W.heap.size w' (.mk kk [t,u]) v∧Below w2.heap.size w2 w':=by
 obtain⟨f1,ho1,hd1,hx1⟩:=hy;obtain⟨f2,ho2,hd2,hx2⟩:=hz;have hlt : ∀b∈f1,b<w1.heap.size:=by
  obtain⟨s,rfl,h⟩:=ho1
  exact aQ.lt _ _ _ h
 refine oo W.heap.size kk t u y z w2 f1 f2 (ho1.below hb2) ho2 ?_ ?_ (Nat.le_trans hb1.size hb2.size)
 ·exact List.nodup_append.2 ⟨hd1,hd2,fun x hx y hy e=>by have h1:=hlt x hx;have h2:=hx2 y hy;omega⟩
 ·intro b hb
  rcases List.mem_append.1 hb with hb | hb
  ·exact hx1 b hb
  ·have:=hx2 b hb;have:=hb1.size;omega
end Go.Proofs.Ytfhglkmjibjjoaa

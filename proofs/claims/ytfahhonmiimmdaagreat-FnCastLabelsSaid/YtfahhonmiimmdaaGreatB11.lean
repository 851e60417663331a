/- The text of a type, by the program and by the reference. And what else its parts name. -/
import Derived.Test.YtfahhonmiimmdaaGreatB10
import Derived.Test.YtfahhonmiimmdaaGreatB22
import Derived.Test.YtfahhonmiimmdaaGreatB5
set_option linter.unusedSimpArgs false
set_option linter.unusedVariables false
set_option maxRecDepth 100000
set_option maxHeartbeats 16000000
namespace Go.Proofs.YtfahhonmiimmdaaGreat
open Go.RowKit
def S.bs:S→ByteArray
 | .zero=>⟨#[]⟩
 | .any=>⟨#[63]⟩
 | .int=>⟨#[73]⟩
 | .bool=>⟨#[66]⟩
 | .fn a b=>(⟨#[40]⟩:ByteArray)++a.bs++(⟨#[62]⟩:ByteArray)++b.bs++(⟨#[41]⟩:ByteArray)
 | .pr a b=>(⟨#[40]⟩:ByteArray)++a.bs++(⟨#[42]⟩:ByteArray)++b.bs++(⟨#[41]⟩:ByteArray)
theorem S.bs_text : ∀s:S,s.bs=⟨s.text.toArray⟩
 | .zero=>rfl
 | .any=>rfl
 | .int=>rfl
 | .bool=>rfl
 | .fn a b=>by
  have e : ∀n:UInt8,(⟨#[n]⟩:ByteArray)=⟨[n].toArray⟩:=fun _=>rfl;simp only[S.bs,a.bs_text,b.bs_text,S.text,e,ByteArray.mk_append_mk]
  simp
 | .pr a b=>by
  have e : ∀n:UInt8,(⟨#[n]⟩:ByteArray)=⟨[n].toArray⟩:=fun _=>rfl;simp only[S.bs,a.bs_text,b.bs_text,S.text,e,ByteArray.mk_append_mk]
  simp
theorem S.bs_size {s:S}(h:s.dep≤4):s.bs.size≤29:=by
 rw[S.bs_text];have h1:=S.text_len s;have h2:2 ^ (s.dep+1)≤2 ^ 5:=Nat.pow_le_pow_right (by omega) (by omega)
 show s.text.toArray.size≤29
 simp
 omega
def S.ofKind (k:Int)(l:List S):S:=if k=1 then .any else if k=2 then .int else if k=3 then .bool else match l with | [a,b]=>if k=4 then .fn a b else .pr a b | _=>.zero
mutual
def Ty.toS:Ty→S
 | .mk k ts=>S.ofKind k (Ty.toSs ts)
def Ty.toSs:List Ty→List S
 | []=> []
 | t :: ts=>t.toS :: Ty.toSs ts
end
theorem S.ty_toS : ∀s:S,s.ok=true→s.ty.toS=s
 | .zero,h=>by cases h
 | .any,_=>by simp[S.ty,Ty.toS,S.ofKind]
 | .int,_=>by simp[S.ty,Ty.toS,S.ofKind]
 | .bool,_=>by simp[S.ty,Ty.toS,S.ofKind]
 | .fn a b,h=>by simp[S.ok] at h;simp[S.ty,Ty.toS,Ty.toSs,S.ofKind,a.ty_toS h.1,b.ty_toS h.2]
 | .pr a b,h=>by simp[S.ok] at h;simp[S.ty,Ty.toS,Ty.toSs,S.ofKind,a.ty_toS h.1,b.ty_toS h.2]
theorem hI {a b:S}(h:(S.pr a b).vd=true):a.vd=true∧b.vd=true:=by
 have h3:=S.vd_dep h;have h1:=S.vd_ok h;have e:(S.pr a b).dep=max a.dep b.dep+1:=rfl;have e1:(S.pr a b).ok=(a.ok&&b.ok):=rfl;have m1:=Nat.le_max_left a.dep b.dep;have m2:=Nat.le_max_right a.dep b.dep;rw[e] at h3;rw[e1,Bool.and_eq_true] at h1
 exact⟨S.vd_mk h1.1 (by omega),S.vd_mk h1.2 (by omega)⟩
theorem jP {a b:S}(h:(S.fn a b).vd=true):a.vd=true∧b.vd=true:=by
 have h3:=S.vd_dep h;have h1:=S.vd_ok h;have e:(S.fn a b).dep=max a.dep b.dep+1:=rfl;have e1:(S.fn a b).ok=(a.ok&&b.ok):=rfl;have m1:=Nat.le_max_left a.dep b.dep;have m2:=Nat.le_max_right a.dep b.dep;rw[e] at h3;rw[e1,Bool.and_eq_true] at h1
 exact⟨S.vd_mk h1.1 (by omega),S.vd_mk h1.2 (by omega)⟩
theorem aN.chgA {r:Nat}{w w':World}{t:List Tm}{y:Value}(h:aN (· ≠ r) w t y)(k:Chg [r] w w'):aN (· ≠ r) w' t y:=h.move (k.keeps (fun b hb=>by simpa using hb))
theorem ax.chgA {r:Nat}{w w':World}{t:Tm}{y:Value}(h:ax (· ≠ r) w t y)(k:Chg [r] w w'):ax (· ≠ r) w' t y:=h.move (k.keeps (fun b hb=>by simpa using hb))
mutual
def Tm.scan:Tm→Int→Int→Int→Int→Int→Bool × Int
 | .mk k s u t f l ts,nt,mN,mD,deep,c=>if decide (c+1>mN)||decide (deep>mD)||k==nt || !(Tm.mk k s u t f l ts).nodeB then (false,c+1) else Tm.scans ts nt mN mD (deep+1) (c+1)
def Tm.scans:List Tm→Int→Int→Int→Int→Int→Bool × Int
 | [],_,_,_,_,c=>(true,c)
 | t :: ts,nt,mN,mD,deep,c=>if (t.scan nt mN mD deep c).1 then Tm.scans ts nt mN mD deep (t.scan nt mN mD deep c).2 else (false,(t.scan nt mN mD deep c).2)
end
mutual
theorem Tm.scan_eq : ∀(t:Tm) (nt mN mD deep c:Int),c≤mN→(t.scan nt mN mD deep c).1=(t.shape nt (mD+1-deep)&&decide (c+t.size≤mN))∧((t.scan nt mN mD deep c).1=true→(t.scan nt mN mD deep c).2=c+t.size)
 | .mk k s u t f l ts,nt,mN,mD,deep,c,hc=>by
  unfold Tm.scan Tm.shape Tm.size;have hp:=Tm.sizes_pos ts;have hnb:(Tm.mk k s u t f l ts).nodeB=((aD k==(ts.length:Int))&&(Tm.mk k s u t f l ts).ownB):=by unfold Tm.nodeB;rfl
  rw[←hnb];generalize (Tm.mk k s u t f l ts).nodeB=nb
  by_cases h1:c+1>mN
  ·have h2 : ¬c+(1+Tm.sizes ts)≤mN:=by omega
   simp[h1,h2]
  ·by_cases h3:deep>mD
   ·have h4 : ¬1≤mD+1-deep:=by omega
    simp[h1,h3,h4]
   ·have h4:1≤mD+1-deep:=by omega
    cases hk:k==nt
    ·cases nb
     ·simp[h1,h3,h4]
     ·have ih:=Tm.scans_eq ts nt mN mD (deep+1) (c+1) (by omega)
      rw[show mD+1-(deep+1)=mD+1-deep-1 from by omega] at ih;simp only[h1,h3,h4,decide_true,decide_false,Bool.or_false,Bool.not_false,Bool.not_true,Bool.true_and,Bool.false_eq_true,if_false,Bool.and_true];rw[show c+(1+Tm.sizes ts)=c+1+Tm.sizes ts from by omega]
      exact ih
    ·simp[h1,h3,h4]
theorem Tm.scans_eq : ∀(ts:List Tm) (nt mN mD deep c:Int),c≤mN→(Tm.scans ts nt mN mD deep c).1=(Tm.shapes ts nt (mD+1-deep)&&decide (c+Tm.sizes ts≤mN))∧((Tm.scans ts nt mN mD deep c).1=true→(Tm.scans ts nt mN mD deep c).2=c+Tm.sizes ts)
 | [],nt,mN,mD,deep,c,hc=>by
  unfold Tm.scans Tm.shapes Tm.sizes
  simp[hc]
 | t :: ts,nt,mN,mD,deep,c,hc=>by
  unfold Tm.scans Tm.shapes Tm.sizes;obtain⟨h1,h2⟩:=Tm.scan_eq t nt mN mD deep c hc;have hp:=Tm.sizes_pos ts;have hq:=Tm.size_pos t
  cases hb:(t.scan nt mN mD deep c).1
  ·rw[hb] at h1
   simp only[Bool.false_eq_true,if_false];refine⟨?_,fun h=>by cases h⟩
   by_cases hs:t.shape nt (mD+1-deep)=true
   ·rw[hs,Bool.true_and] at h1
    have h3 : ¬c+t.size≤mN:=by simpa using h1.symm
    have h4 : ¬c+(t.size+Tm.sizes ts)≤mN:=by omega
    simp[h4]
   ·simp[hs]
  ·rw[hb] at h1
   have h3:=h2 hb;have h4:t.shape nt (mD+1-deep)=true∧c+t.size≤mN:=by simpa using h1.symm
   simp only[if_true];rw[h3,h4.1,Bool.true_and];have ih:=Tm.scans_eq ts nt mN mD deep (c+t.size) h4.2;rw[show c+(t.size+Tm.sizes ts)=c+t.size+Tm.sizes ts from by omega]
   exact ih
end
theorem Tm.scan_le {t:Tm}{nt mN mD deep c x:Int}(hc:c≤mN)(h:t.scan nt mN mD deep c=(true,x)):c≤x∧x≤mN:=by
 have h0:=Tm.scan_eq t nt mN mD deep c hc;rw[h] at h0;have h1:=h0.2 rfl;have h2:t.shape nt (mD+1-deep)=true∧c+t.size≤mN:=by simpa using h0.1.symm
 have:=Tm.size_pos t;simp only at h1
 omega
theorem Tm.scans_drop (ts:List Tm)(nt mN mD deep c:Int)(k:Nat)(h:k<ts.length){a:Bool}{x:Int}(e:ts[k].scan nt mN mD deep c=(a,x)) :
  Tm.scans (ts.drop k) nt mN mD deep c=if a then Tm.scans (ts.drop (k+1)) nt mN mD deep x else (false,x):=by
 rw[List.drop_eq_getElem_cons h]
 conv=>lhs;unfold Tm.scans
 rw[e]
theorem tw (k nt mN mD deep c0 cc xc:Int)(nb:Bool)(sc:Bool × Int)(h0:(decide ((c0+1)>mN))=true):(if decide (c0+1>mN)||decide (deep>mD)||k==nt || !nb then (false,c0+1) else sc)=((false,c0+1):Bool × Int):=by
 first | (simp_all;done) | (simp_all;omega) | grind
theorem tx (k nt mN mD deep c0 cc xc:Int)(nb:Bool)(sc:Bool × Int)(h0:(decide ((c0+1)>mN))=false)(h1:(decide (deep>mD))=true):(if decide (c0+1>mN)||decide (deep>mD)||k==nt || !nb then (false,c0+1) else sc)=((false,c0+1):Bool × Int):=by
 first | (simp_all;done) | (simp_all;omega) | grind
theorem tz (k nt mN mD deep c0 cc xc:Int)(nb:Bool)(sc:Bool × Int)(h0:(decide ((c0+1)>mN))=false)(h1:(decide (deep>mD))=false)(h2:(k==nt)=true):(if decide (c0+1>mN)||decide (deep>mD)||k==nt || !nb then (false,c0+1) else sc)=((false,c0+1):Bool × Int):=by
 first | (simp_all;done) | (simp_all;omega) | grind
theorem tA (k nt mN mD deep c0 cc xc:Int)(nb:Bool)(sc:Bool × Int)(h0:(decide ((c0+1)>mN))=false)(h1:(decide (deep>mD))=false)(h2:(k==nt)=false)(h3:(nb)=true)(h4:sc=(false,xc)):(if decide (c0+1>mN)||decide (deep>mD)||k==nt || !nb then (false,c0+1) else sc)=((false,xc):Bool × Int):=by
 first | (simp_all;done) | (simp_all;omega) | grind
theorem tB (k nt mN mD deep c0 cc xc:Int)(nb:Bool)(sc:Bool × Int)(h0:(decide ((c0+1)>mN))=false)(h1:(decide (deep>mD))=false)(h2:(k==nt)=false)(h3:(nb)=true)(h4:sc=(true,cc)):(if decide (c0+1>mN)||decide (deep>mD)||k==nt || !nb then (false,c0+1) else sc)=((true,cc):Bool × Int):=by
 first | (simp_all;done) | (simp_all;omega) | grind
theorem tC (k nt mN mD deep c0 cc xc:Int)(nb:Bool)(sc:Bool × Int)(h0:(decide ((c0+1)>mN))=false)(h1:(decide (deep>mD))=false)(h2:(k==nt)=false)(h3:(nb)=false):(if decide (c0+1>mN)||decide (deep>mD)||k==nt || !nb then (false,c0+1) else sc)=((false,c0+1):Bool × Int):=by
 first | (simp_all;done) | (simp_all;omega) | grind
theorem pa (r:Nat)(nt mN mD:Int)(hN:mN≤300)(hD:mD≤100)(t:Tm) : ∀(deep c0:Int) (_:1≤deep∧deep≤mD+1) (_:0≤c0) (_:c0≤mN) (y:Value) (w:World),ax (· ≠ r) w t y→w.cell? ⟨r,0,none⟩=some (.int .i64 c0)→w.frozen? ⟨r,0,none⟩=false→r<w.heap.size →
  Calls Tryz.prog 37 #[y,.int .i64 deep,.int .i64 mN,.int .i64 mD,.int .i64 nt,.pointer (some ⟨r,0,none⟩)] w fun e w'=>e = .returned (.bool (t.scan nt mN mD deep c0).1)∧Chg [r] w w'∧w'.cell? ⟨r,0,none⟩=some (.int .i64 (t.scan nt mN mD deep c0).2)∧w'.frozen? ⟨r,0,none⟩=false:=by
 intro deep c0 hdeep hc0 hcN y w hy hc hf hr;have IH : ∀t'∈t.kids,∀(deep c0:Int) (_:1≤deep∧deep≤mD+1) (_:0≤c0) (_:c0≤mN) (y:Value) (w:World),ax (· ≠ r) w t' y→w.cell? ⟨r,0,none⟩=some (.int .i64 c0)→w.frozen? ⟨r,0,none⟩=false→r<w.heap.size →
  Calls Tryz.prog 37 #[y,.int .i64 deep,.int .i64 mN,.int .i64 mD,.int .i64 nt,.pointer (some ⟨r,0,none⟩)] w fun e w'=>e = .returned (.bool (t'.scan nt mN mD deep c0).1)∧Chg [r] w w'∧w'.cell? ⟨r,0,none⟩=some (.int .i64 (t'.scan nt mN mD deep c0).2)∧w'.frozen? ⟨r,0,none⟩=false:=
  fun t' ht deep c0 a b d y w e f g h=>pa r nt mN mD hN hD t' deep c0 a b d y w e f g h
 have ho:=fun W (h:Chg [r] w W)=>uy (· ≠ r) t y W (hy.chgA h);obtain⟨k,nm,u,tk,ta,tn,tq,fk,fa,fn,fq,l,c,m,q,rfl⟩:=hy.shape;obtain⟨r1,r2,r3,r4,r5,r6,r7,r8,r9,rn,rm,rq,hty,hsr,hks⟩:=hy.parts
 cases t with | mk kk nn uu tt ff ll ts=>
 simp only[Tm.kind,Tm.name,Tm.num,Tm.type,Tm.src,Tm.label,Tm.kids] at *;subst r1 r2 r3 r8;unfold Tm.scan;generalize (Tm.mk k nm u tt ff l ts).nodeB=nb at *;obtain⟨sc,hsc⟩ : ∃x,x=Tm.scans ts nt mN mD (deep+1) (c0+1):=⟨_,rfl⟩
 rw[←hsc];have HSC0:=zq hsc;have HN:=zq r9;have HO:=zq ho;have IHH:=zq IH;unfold maxLen at rq;clear hsc ho IH hy r9 r4 r5 r6 r7 rn hty hsr;obtain⟨rr,hrr⟩ : ∃rr0:Bool × Int,(if decide (c0+1>mN)||decide (deep>mD)||k==nt || !nb then (false,c0+1) else sc)=rr0:=⟨_,rfl⟩
 rw[hrr];have HT:=zq hrr;clear hrr
 go_enter Tryz.func37,Tryz.ntmps37
 have hwr:=IntWalk.i64_in (c0+1) (by omega)
 rcases Bool.eq_false_or_eq_true (decide ((c0+1)>mN)) with q1 | q1
 ·skip
  go_wp2_with fail
  have hfin:rr=(false,c0+1):=HT.out.symm.trans (tw k nt mN mD deep c0 0 0 nb sc q1);rw[hfin];refine bodyPost_ret (v:=.bool (false)) (by simp[results,Tryz.results37,go_sem,bne]) rfl ?_
  exact⟨rfl,(((Chg.refl [r] _).setCell (by simp) _).trans (Chg.of_below ai)),ah ai (bE (hc)),aO ai (bE (hc)) (eN (hf))⟩
 ·skip
  rcases Bool.eq_false_or_eq_true (decide (deep>mD)) with q2 | q2
  ·skip
   go_wp2_with fail
   have hfin:rr=(false,c0+1):=HT.out.symm.trans (tx k nt mN mD deep c0 0 0 nb sc q1 q2);rw[hfin];refine bodyPost_ret (v:=.bool (false)) (by simp[results,Tryz.results37,go_sem,bne]) rfl ?_
   exact⟨rfl,(((Chg.refl [r] _).setCell (by simp) _).trans (Chg.of_below ai)),ah ai (bE (hc)),aO ai (bE (hc)) (eN (hf))⟩
  ·skip
   rcases Bool.eq_false_or_eq_true (k==nt) with q3 | q3
   ·skip
    have nq3:(k != nt)=false:=by simp only[bne,q3];rfl
    go_wp2_with fail
    have hfin:rr=(false,c0+1):=HT.out.symm.trans (tz k nt mN mD deep c0 0 0 nb sc q1 q2 q3);rw[hfin];refine bodyPost_ret (v:=.bool (false)) (by simp[results,Tryz.results37,go_sem,bne]) rfl ?_
    exact⟨rfl,(((Chg.refl [r] _).setCell (by simp) _).trans (Chg.of_below ai)),ah ai (bE (hc)),aO ai (bE (hc)) (eN (hf))⟩
   ·skip
    have nq3:(k != nt)=true:=by simp only[bne,q3];rfl
    go_wp2_with fail
    refine(HO.out _ (((Chg.refl [r] _).setCell (by simp) _).trans (Chg.of_below ai))).mono ?_;rintro e w1 ⟨rfl,hb1⟩;have hB:=((((Chg.refl [r] _).setCell (by simp) _).trans (Chg.of_below ai)).trans (Chg.of_below hb1))
    have zw1:=hB.size;replace hf:w1.frozen? ⟨r,0,none⟩=false:=aO hb1 (ah ai (bE (hc))) (aO ai (bE (hc)) (eN (hf)));have c0_8:w1.cell? ⟨w.heap.size,8,none⟩=some (.slice c m q):=ah hb1 (ap (by simp) 8);replace hc:w1.cell? ⟨r,0,none⟩=some (.int .i64 (c0+1)):=ah hb1 (ah ai (bE (hc)));have d0_w1:=World.block_lt_of_cell? _ _ c0_8;have dr_w1:=World.block_lt_of_cell? _ _ hc
    rcases Bool.eq_false_or_eq_true (nb) with q4 | q4
    ·(try rw[q4])
     have Hq4:=zq q4;clear q4
     go_wp2_with fail
     go_loopw [44] (fun i wr=>∃j:Nat,j≤m∧i = .int .i64 j∧(∃cc:Int,wr.cell? ⟨r,0,none⟩=some (.int .i64 cc)∧(0≤cc∧cc≤mN)∧Hid (sc=Tm.scans (ts.drop j) nt mN mD (deep+1) cc))∧Chg [r] w wr∧wr.frozen? ⟨r,0,none⟩=false) (fun i _=>m-(intOf i).toNat)
     case atStart=>exact⟨0,by omega,rfl,⟨_,hc,(by have h:=q1;simp only[decide_eq_false_iff_not] at h;omega),HSC0.out⟩,hB,hf⟩
     case round=>
      obtain⟨j,hj,rfl,⟨cc,cc_x,cc_0,cc_1⟩,hB,z0⟩:=hrel
      by_cases hlt:j<m
      ·have hjt:j<ts.length:=by have:=HN.out;omega
       obtain⟨b,off,k0,nm0,u0,tk0,ta0,tn0,tq0,fk0,fa0,fn0,fq0,l0,a0,m0,q0,rfl,lb,e0,e1,e2,e3,e4,e5,e6,e7,e8,ht⟩:=(hks.chgA hB).at (Below.refl _ _) hjt;have lb_1:=Nat.lt_succ_of_lt lb;have hdm:deep≤mD:=by have h:=q2;simp only[decide_eq_false_iff_not] at h;omega
       have hcall:=IHH.out ts[j] (List.getElem_mem hjt) (deep+1) cc (by omega) (by omega) (by omega);obtain⟨xb,xc,hx⟩ : ∃a b,ts[j].scan nt mN mD (deep+1) cc=(a,b):=⟨_,_,rfl⟩
       have hstep:=cc_1.out.trans (Tm.scans_drop ts nt mN mD (deep+1) cc j hjt hx);have hle:xb=true→cc≤xc∧xc≤mN:=fun h=>Tm.scan_le (by omega) (h▸hx);rw[hx] at hcall;have HC:=zq hcall;have HS:=zq hstep;have HL:=zq hle;clear hcall hstep hle hx cc_1;have hwr:=IntWalk.i64_in (deep+1) (by omega)
       go_wp2_with fail
       refine(HC.out _ _ (ht.below ai) (ah ai (cc_x)) (aO ai (cc_x) (z0)) (by have:=hB.size;simp;omega)).mono ?_;rintro e w2 ⟨rfl,hb2,hc2,hf2⟩;replace hB:=((hB.trans (Chg.of_below ai)).trans hb2)
       have zw2:=hB.size
       rcases Bool.eq_false_or_eq_true (xb) with q5 | q5
       ·(try rw[q5])
        have Hq5:=zq q5;clear q5;have hwr:=IntWalk.i64_in ((j:Int)+1) (by omega)
        go_wp2_with fail
        go_roundw
        case rel=>exact⟨j+1,by omega,by go_num,⟨_,hc2,(by have h:=HL.out Hq5.out;omega),(by rw[Hid,HS.out,Hq5.out];rfl)⟩,hB,hf2⟩
        case measure=>simp[intOf];omega
       ·(try rw[q5])
        have Hq5:=zq q5;clear q5
        go_wp2_with fail
        have hfin:rr=(false,xc):=HT.out.symm.trans (tA k nt mN mD deep c0 0 xc nb sc q1 q2 q3 Hq4.out (by rw[HS.out,Hq5.out];rfl));rw[hfin];refine bodyPost_ret (v:=.bool (false)) (by simp[results,Tryz.results37,go_sem,bne]) rfl ?_
        exact⟨rfl,hB,hc2,hf2⟩
      ·skip
       have HSC:Hid (sc=(true,cc)):=zq (by rw[cc_1.out,List.drop_eq_nil_of_le (by have:=HN.out;omega)];unfold Tm.scans;rfl)
       go_wp2_with fail
       have hfin:rr=(true,cc):=HT.out.symm.trans (tB k nt mN mD deep c0 cc 0 nb sc q1 q2 q3 Hq4.out HSC.out);rw[hfin];refine bodyPost_ret (v:=.bool (true)) (by simp[results,Tryz.results37,go_sem,bne]) rfl ?_
       exact⟨rfl,hB,cc_x,z0⟩
    ·(try rw[q4])
     have Hq4:=zq q4;clear q4
     go_wp2_with fail
     have hfin:rr=(false,c0+1):=HT.out.symm.trans (tC k nt mN mD deep c0 0 0 nb sc q1 q2 q3 Hq4.out);rw[hfin];refine bodyPost_ret (v:=.bool (false)) (by simp[results,Tryz.results37,go_sem,bne]) rfl ?_
     exact⟨rfl,hB,hc,hf⟩
termination_by SizeOf.sizeOf t
decreasing_by exact Tm.kid_lt ht
end Go.Proofs.YtfahhonmiimmdaaGreat

/- TermValid and CastValid of the program. And what else its parts name. -/
import Derived.Test.YtfahhonmiimmdaaGreatB7
set_option linter.unusedSimpArgs false
set_option linter.unusedVariables false
set_option maxRecDepth 100000
set_option maxHeartbeats 16000000
namespace Go.Proofs.YtfahhonmiimmdaaGreat
open Go.RowKit
theorem iY (F G:Nat→Prop)(t:Ty) : ∀(u:Ty) (y z:Value) (w:World),ap F w t y→ap G w u z →
  Calls Tryz.prog 92 #[y,z] w fun e w'=>e = .returned (.bool (t.same u))∧Below w.heap.size w w':=by
 intro u y z w hy hz;have IH : ∀t'∈t.kids,∀u'∈u.kids,∀(W:World) (y z:Value),ap F W t' y→ap G W u' z→Calls Tryz.prog 92 #[y,z] W fun e W'=>e = .returned (.bool (t'.same u'))∧Below W.heap.size W W':=
  fun t' ht u' _ W y z a b=>iY F G t' u' y z W a b
 obtain⟨a,cap,rfl,h2,h3,hy'⟩:=hy.open;obtain⟨c,cap',rfl,g2,g3,hz'⟩:=hz.open;obtain⟨_,_,e1,_,_,h4⟩:=hy'.open;obtain⟨_,_,e2,_,_,g4⟩:=hz'.open;simp only[Value.slice.injEq,true_and] at e1 e2;obtain⟨rfl,rfl⟩:=e1;obtain⟨rfl,rfl⟩:=e2;have H4:=zq h4;have G4:=zq g4;clear hy hz hy' hz' h4 g4;have IHH:=zq IH;clear IH
 cases t with | mk k ts=>cases u with | mk l us=>
 simp only[Ty.kind,Ty.kids] at *;unfold maxLen at h3 g3;unfold Ty.same;rw[←Ty.sames_all2]
 by_cases hk:k=l
 ·subst hk
  by_cases hl:ts.length=us.length
  ·obtain⟨n,hn⟩ : ∃n,ts.length=n:=⟨_,rfl⟩
   rw[hn] at hl h2;rw[←hl] at g2;have HN:=zq hn;have HL:=zq hl;rw[hn,←hl];clear hn hl
   go_enter Tryz.func92,Tryz.ntmps92
   go_wp2_with fail
   have hW : ∀w',Below w.heap.size w w'→True:=fun _ _=>trivial
   go_loopw [5] (fun i wr=>∃j:Nat,j≤n∧i = .int .i64 j∧Below w.heap.size w wr∧wr.cell? ⟨w.heap.size,1,none⟩=some (.slice a n cap)∧wr.cell? ⟨w.heap.size+1,1,none⟩=some (.slice c n cap')∧w.heap.size+1<wr.heap.size∧Hid (dx Ty.same ts us=dx Ty.same (ts.drop j) (us.drop j))) (fun i _=>n-(intOf i).toNat)
   case atStart=>exact⟨0,by omega,rfl,aH,by simp,by simp,by simp,rfl⟩
   case round=>
    obtain⟨j,hj,rfl,hbw,hc1,hc2,hsz,hR⟩:=hrel
    by_cases hlt:j<n
    ·obtain⟨b,off,k0,a0,m0,q0,rfl,c0,c1,ht⟩:=H4.out j (by rw[HN.out];exact hlt)
     obtain⟨b',off',k0',a0',m0',q0',rfl,c0',c1',hu⟩:=G4.out j (by rw[←HL.out];exact hlt);have e0:=(hbw.cell (p:=⟨b,off+j*2,none⟩) (World.block_lt_of_cell? w _ c0)).trans c0;have e1:=(hbw.cell (p:=⟨b,off+j*2+1,none⟩) (World.block_lt_of_cell? w _ c1)).trans c1;have e0':=(hbw.cell (p:=⟨b',off'+j*2,none⟩) (World.block_lt_of_cell? w _ c0')).trans c0';have e1':=(hbw.cell (p:=⟨b',off'+j*2+1,none⟩) (World.block_lt_of_cell? w _ c1')).trans c1';have l0:=World.block_lt_of_cell? wr _ e0;have l0':=World.block_lt_of_cell? wr _ e0';clear c0 c1 c0' c1';have hkt:j<ts.length:=by rw[HN.out];exact hlt
     have hku:j<us.length:=by rw[←HL.out];exact hlt
     have hcall:=IHH.out ts[j] (List.getElem_mem hkt) us[j] (List.getElem_mem hku);have hstep:=hR.out.trans (ic Ty.same ts us j hkt hku);generalize ts[j].same us[j]=r at hcall hstep;have HC:=zq hcall;have HS:=zq hstep;clear hcall hstep hR
     cases r
     all_goals
      go_wp2_with fail
      go_region_held3 (fun w'=>w'.cell? ⟨w.heap.size,1,none⟩=some (.slice (some ⟨b,off,none⟩) n cap)∧w'.cell? ⟨w.heap.size+1,1,none⟩=some (.slice (some ⟨b',off',none⟩) n cap')∧w'.cell? ⟨b,off+j*2,none⟩=some (.int .i64 k0)∧w'.cell? ⟨b,off+j*2+1,none⟩=some (.slice a0 m0 q0)∧w'.cell? ⟨b',off'+j*2,none⟩=some (.int .i64 k0')∧w'.cell? ⟨b',off'+j*2+1,none⟩=some (.slice a0' m0' q0'))
       (first | go_keep | exact⟨cn hb1 hc1,cn hb1 hc2,cn hb1 e0,cn hb1 e1,cn hb1 e0',cn hb1 e1'⟩)
       (first | (go_at_call 92;refine(HC.out _ _ _ (ht.below hbw.drew) (hu.below hbw.drew)).mono ?_;rintro e w1 ⟨rfl,hb1⟩))
      go_wp2_with fail
     ·go_ret
      exact⟨ax (by rw[HS.out];simp),nT hbw hb1⟩
     ·go_roundw
      case rel=>exact⟨j+1,by omega,by go_num,nT hbw hb1,cn hb1 hc1,cn hb1 hc2,Nat.lt_of_lt_of_le hsz hb1.size,by rw[Hid,HS.out];rfl⟩
      case measure=>simp[intOf];omega
    ·go_wp2_with fail
     go_ret
     exact⟨ax (by rw[hR.out,jU _ _ _ _ (by rw[HN.out];omega) (by rw[←HL.out];omega)];simp),hbw⟩
  ·have HL:=zq hl
   go_enter Tryz.func92,Tryz.ntmps92
   go_wp2_with fail
   go_ret
   exact⟨ax (by rw[jV Ty.same ts us HL.out];simp),aH⟩
 ·have hkl:(k==l)=false:=by simpa using hk
  have hkl':(k != l)=true:=by simpa using hk
  clear hk
  go_enter Tryz.func92,Tryz.ntmps92
  go_wp2_with fail
  go_ret
  exact⟨ax (by simp[hkl]),aH⟩
termination_by SizeOf.sizeOf t
decreasing_by exact Ty.kid_lt ht
theorem aS.chgA {r:Nat}{w w':World}{t:List Tm}{y:Value}(h:aS (· ≠ r) w t y)(k:Chg [r] w w'):aS (· ≠ r) w' t y:=h.move (k.keeps (fun b hb=>by simpa using hb))
theorem aA.chgA {r:Nat}{w w':World}{t:Tm}{y:Value}(h:aA (· ≠ r) w t y)(k:Chg [r] w w'):aA (· ≠ r) w' t y:=h.move (k.keeps (fun b hb=>by simpa using hb))
mutual
def Tm.scan:Tm→Int→Int→Int→Int→Int→Bool × Int
 | .mk k s u t f l ts,nt,mN,mD,deep,c=>if decide (c+1>mN)||decide (deep>mD)||k==nt || !(Tm.mk k s u t f l ts).nodeB then (false,c+1) else Tm.scans ts nt mN mD (deep+1) (c+1)
def Tm.scans:List Tm→Int→Int→Int→Int→Int→Bool × Int
 | [],_,_,_,_,c=>(true,c)
 | t :: ts,nt,mN,mD,deep,c=>if (t.scan nt mN mD deep c).1 then Tm.scans ts nt mN mD deep (t.scan nt mN mD deep c).2 else (false,(t.scan nt mN mD deep c).2)
end
mutual
theorem Tm.scan_eq : ∀(t:Tm) (nt mN mD deep c:Int),c≤mN→(t.scan nt mN mD deep c).1=(t.shape nt (mD+1-deep)&&decide (c+t.size≤mN))∧((t.scan nt mN mD deep c).1=true→(t.scan nt mN mD deep c).2=c+t.size)
 | .mk k s u t f l ts,nt,mN,mD,deep,c,hc=>by
  unfold Tm.scan Tm.shape Tm.size;have hp:=Tm.sizes_pos ts;have hnb:(Tm.mk k s u t f l ts).nodeB=((aG k==(ts.length:Int))&&(Tm.mk k s u t f l ts).ownB):=by unfold Tm.nodeB;rfl
  rw[←hnb];generalize (Tm.mk k s u t f l ts).nodeB=nb
  by_cases h1:c+1>mN
  ·have h2 : ¬c+(1+Tm.sizes ts)≤mN:=by omega
   simp[h1,h2]
  ·by_cases h3:deep>mD
   ·have h4 : ¬1≤mD+1-deep:=by omega
    simp[h1,h3,h4]
   ·have h4:1≤mD+1-deep:=by omega
    cases hk:k==nt
    ·cases nb
     ·simp[h1,h3,h4]
     ·have ih:=Tm.scans_eq ts nt mN mD (deep+1) (c+1) (by omega)
      rw[show mD+1-(deep+1)=mD+1-deep-1 from by omega] at ih;simp only[h1,h3,h4,decide_true,decide_false,Bool.or_false,Bool.not_false,Bool.not_true,Bool.true_and,Bool.false_eq_true,if_false,Bool.and_true];rw[show c+(1+Tm.sizes ts)=c+1+Tm.sizes ts from by omega]
      exact ih
    ·simp[h1,h3,h4]
theorem Tm.scans_eq : ∀(ts:List Tm) (nt mN mD deep c:Int),c≤mN→(Tm.scans ts nt mN mD deep c).1=(Tm.shapes ts nt (mD+1-deep)&&decide (c+Tm.sizes ts≤mN))∧((Tm.scans ts nt mN mD deep c).1=true→(Tm.scans ts nt mN mD deep c).2=c+Tm.sizes ts)
 | [],nt,mN,mD,deep,c,hc=>by
  unfold Tm.scans Tm.shapes Tm.sizes
  simp[hc]
 | t :: ts,nt,mN,mD,deep,c,hc=>by
  unfold Tm.scans Tm.shapes Tm.sizes;obtain⟨h1,h2⟩:=Tm.scan_eq t nt mN mD deep c hc;have hp:=Tm.sizes_pos ts;have hq:=Tm.size_pos t
  cases hb:(t.scan nt mN mD deep c).1
  ·rw[hb] at h1
   simp only[Bool.false_eq_true,if_false];refine⟨?_,fun h=>by cases h⟩
   by_cases hs:t.shape nt (mD+1-deep)=true
   ·rw[hs,Bool.true_and] at h1
    have h3 : ¬c+t.size≤mN:=by simpa using h1.symm
    have h4 : ¬c+(t.size+Tm.sizes ts)≤mN:=by omega
    simp[h4]
   ·simp[hs]
  ·rw[hb] at h1
   have h3:=h2 hb;have h4:t.shape nt (mD+1-deep)=true∧c+t.size≤mN:=by simpa using h1.symm
   simp only[if_true];rw[h3,h4.1,Bool.true_and];have ih:=Tm.scans_eq ts nt mN mD deep (c+t.size) h4.2;rw[show c+(t.size+Tm.sizes ts)=c+t.size+Tm.sizes ts from by omega]
   exact ih
end
theorem Tm.scan_le {t:Tm}{nt mN mD deep c x:Int}(hc:c≤mN)(h:t.scan nt mN mD deep c=(true,x)):c≤x∧x≤mN:=by
 have h0:=Tm.scan_eq t nt mN mD deep c hc;rw[h] at h0;have h1:=h0.2 rfl;have h2:t.shape nt (mD+1-deep)=true∧c+t.size≤mN:=by simpa using h0.1.symm
 have:=Tm.size_pos t;simp only at h1
 omega
theorem Tm.scans_drop (ts:List Tm)(nt mN mD deep c:Int)(k:Nat)(h:k<ts.length){a:Bool}{x:Int}(e:ts[k].scan nt mN mD deep c=(a,x)) :
  Tm.scans (ts.drop k) nt mN mD deep c=if a then Tm.scans (ts.drop (k+1)) nt mN mD deep x else (false,x):=by
 rw[List.drop_eq_getElem_cons h]
 conv=>lhs;unfold Tm.scans
 rw[e]
theorem rZ (k nt mN mD deep c0 cc xc:Int)(nb:Bool)(sc:Bool × Int)(h0:(decide ((c0+1)>mN))=true):(if decide (c0+1>mN)||decide (deep>mD)||k==nt || !nb then (false,c0+1) else sc)=((false,c0+1):Bool × Int):=by
 first | (simp_all;done) | (simp_all;omega) | grind
theorem sa (k nt mN mD deep c0 cc xc:Int)(nb:Bool)(sc:Bool × Int)(h0:(decide ((c0+1)>mN))=false)(h1:(decide (deep>mD))=true):(if decide (c0+1>mN)||decide (deep>mD)||k==nt || !nb then (false,c0+1) else sc)=((false,c0+1):Bool × Int):=by
 first | (simp_all;done) | (simp_all;omega) | grind
theorem sb (k nt mN mD deep c0 cc xc:Int)(nb:Bool)(sc:Bool × Int)(h0:(decide ((c0+1)>mN))=false)(h1:(decide (deep>mD))=false)(h2:(k==nt)=true):(if decide (c0+1>mN)||decide (deep>mD)||k==nt || !nb then (false,c0+1) else sc)=((false,c0+1):Bool × Int):=by
 first | (simp_all;done) | (simp_all;omega) | grind
theorem sd (k nt mN mD deep c0 cc xc:Int)(nb:Bool)(sc:Bool × Int)(h0:(decide ((c0+1)>mN))=false)(h1:(decide (deep>mD))=false)(h2:(k==nt)=false)(h3:(nb)=true)(h4:sc=(false,xc)):(if decide (c0+1>mN)||decide (deep>mD)||k==nt || !nb then (false,c0+1) else sc)=((false,xc):Bool × Int):=by
 first | (simp_all;done) | (simp_all;omega) | grind
theorem se (k nt mN mD deep c0 cc xc:Int)(nb:Bool)(sc:Bool × Int)(h0:(decide ((c0+1)>mN))=false)(h1:(decide (deep>mD))=false)(h2:(k==nt)=false)(h3:(nb)=true)(h4:sc=(true,cc)):(if decide (c0+1>mN)||decide (deep>mD)||k==nt || !nb then (false,c0+1) else sc)=((true,cc):Bool × Int):=by
 first | (simp_all;done) | (simp_all;omega) | grind
theorem sf (k nt mN mD deep c0 cc xc:Int)(nb:Bool)(sc:Bool × Int)(h0:(decide ((c0+1)>mN))=false)(h1:(decide (deep>mD))=false)(h2:(k==nt)=false)(h3:(nb)=false):(if decide (c0+1>mN)||decide (deep>mD)||k==nt || !nb then (false,c0+1) else sc)=((false,c0+1):Bool × Int):=by
 first | (simp_all;done) | (simp_all;omega) | grind
theorem jW (r:Nat)(nt mN mD:Int)(hN:mN≤300)(hD:mD≤100)(t:Tm) : ∀(deep c0:Int) (_:1≤deep∧deep≤mD+1) (_:0≤c0) (_:c0≤mN) (y:Value) (w:World),aA (· ≠ r) w t y→w.cell? ⟨r,0,none⟩=some (.int .i64 c0)→w.frozen? ⟨r,0,none⟩=false→r<w.heap.size →
  Calls Tryz.prog 37 #[y,.int .i64 deep,.int .i64 mN,.int .i64 mD,.int .i64 nt,.pointer (some ⟨r,0,none⟩)] w fun e w'=>e = .returned (.bool (t.scan nt mN mD deep c0).1)∧Chg [r] w w'∧w'.cell? ⟨r,0,none⟩=some (.int .i64 (t.scan nt mN mD deep c0).2)∧w'.frozen? ⟨r,0,none⟩=false:=by
 intro deep c0 hdeep hc0 hcN y w hy hc hf hr;have IH : ∀t'∈t.kids,∀(deep c0:Int) (_:1≤deep∧deep≤mD+1) (_:0≤c0) (_:c0≤mN) (y:Value) (w:World),aA (· ≠ r) w t' y→w.cell? ⟨r,0,none⟩=some (.int .i64 c0)→w.frozen? ⟨r,0,none⟩=false→r<w.heap.size →
  Calls Tryz.prog 37 #[y,.int .i64 deep,.int .i64 mN,.int .i64 mD,.int .i64 nt,.pointer (some ⟨r,0,none⟩)] w fun e w'=>e = .returned (.bool (t'.scan nt mN mD deep c0).1)∧Chg [r] w w'∧w'.cell? ⟨r,0,none⟩=some (.int .i64 (t'.scan nt mN mD deep c0).2)∧w'.frozen? ⟨r,0,none⟩=false:=
  fun t' ht deep c0 a b d y w e f g h=>jW r nt mN mD hN hD t' deep c0 a b d y w e f g h
 have ho:=fun W (h:Chg [r] w W)=>tb (· ≠ r) t y W (hy.chgA h);obtain⟨k,nm,u,tk,ta,tn,tq,fk,fa,fn,fq,l,c,m,q,rfl⟩:=hy.shape;obtain⟨r1,r2,r3,r4,r5,r6,r7,r8,r9,rn,rm,rq,hty,hsr,hks⟩:=hy.parts
 cases t with | mk kk nn uu tt ff ll ts=>
 simp only[Tm.kind,Tm.name,Tm.num,Tm.type,Tm.src,Tm.label,Tm.kids] at *;subst r1 r2 r3 r8;unfold Tm.scan;generalize (Tm.mk k nm u tt ff l ts).nodeB=nb at *;obtain⟨sc,hsc⟩ : ∃x,x=Tm.scans ts nt mN mD (deep+1) (c0+1):=⟨_,rfl⟩
 rw[←hsc];have HSC0:=zq hsc;have HN:=zq r9;have HO:=zq ho;have IHH:=zq IH;unfold maxLen at rq;clear hsc ho IH hy r9 r4 r5 r6 r7 rn hty hsr;obtain⟨rr,hrr⟩ : ∃rr0:Bool × Int,(if decide (c0+1>mN)||decide (deep>mD)||k==nt || !nb then (false,c0+1) else sc)=rr0:=⟨_,rfl⟩
 rw[hrr];have HT:=zq hrr;clear hrr
 go_enter Tryz.func37,Tryz.ntmps37
 have hwr:=IntWalk.i64_in (c0+1) (by omega)
 rcases Bool.eq_false_or_eq_true (decide ((c0+1)>mN)) with q1 | q1
 ·skip
  go_wp2_with fail
  have hfin:rr=(false,c0+1):=HT.out.symm.trans (rZ k nt mN mD deep c0 0 0 nb sc q1);rw[hfin];refine bodyPost_ret (v:=.bool (false)) (by simp[results,Tryz.results37,go_sem,bne]) rfl ?_
  exact⟨rfl,(((Chg.refl [r] _).setCell (by simp) _).trans (Chg.of_below aj)),af aj (bv (hc)),az aj (bv (hc)) (ep (hf))⟩
 ·skip
  rcases Bool.eq_false_or_eq_true (decide (deep>mD)) with q2 | q2
  ·skip
   go_wp2_with fail
   have hfin:rr=(false,c0+1):=HT.out.symm.trans (sa k nt mN mD deep c0 0 0 nb sc q1 q2);rw[hfin];refine bodyPost_ret (v:=.bool (false)) (by simp[results,Tryz.results37,go_sem,bne]) rfl ?_
   exact⟨rfl,(((Chg.refl [r] _).setCell (by simp) _).trans (Chg.of_below aj)),af aj (bv (hc)),az aj (bv (hc)) (ep (hf))⟩
  ·skip
   rcases Bool.eq_false_or_eq_true (k==nt) with q3 | q3
   ·skip
    have nq3:(k != nt)=false:=by simp only[bne,q3];rfl
    go_wp2_with fail
    have hfin:rr=(false,c0+1):=HT.out.symm.trans (sb k nt mN mD deep c0 0 0 nb sc q1 q2 q3);rw[hfin];refine bodyPost_ret (v:=.bool (false)) (by simp[results,Tryz.results37,go_sem,bne]) rfl ?_
    exact⟨rfl,(((Chg.refl [r] _).setCell (by simp) _).trans (Chg.of_below aj)),af aj (bv (hc)),az aj (bv (hc)) (ep (hf))⟩
   ·skip
    have nq3:(k != nt)=true:=by simp only[bne,q3];rfl
    go_wp2_with fail
    refine(HO.out _ (((Chg.refl [r] _).setCell (by simp) _).trans (Chg.of_below aj))).mono ?_;rintro e w1 ⟨rfl,hb1⟩;have hB:=((((Chg.refl [r] _).setCell (by simp) _).trans (Chg.of_below aj)).trans (Chg.of_below hb1))
    have zw1:=hB.size;replace hf:w1.frozen? ⟨r,0,none⟩=false:=az hb1 (af aj (bv (hc))) (az aj (bv (hc)) (ep (hf)));have c0_8:w1.cell? ⟨w.heap.size,8,none⟩=some (.slice c m q):=af hb1 (au (by simp) 8);replace hc:w1.cell? ⟨r,0,none⟩=some (.int .i64 (c0+1)):=af hb1 (af aj (bv (hc)));have d0_w1:=World.block_lt_of_cell? _ _ c0_8;have dr_w1:=World.block_lt_of_cell? _ _ hc
    rcases Bool.eq_false_or_eq_true (nb) with q4 | q4
    ·(try rw[q4])
     have Hq4:=zq q4;clear q4
     go_wp2_with fail
     go_loopw [44] (fun i wr=>∃j:Nat,j≤m∧i = .int .i64 j∧(∃cc:Int,wr.cell? ⟨r,0,none⟩=some (.int .i64 cc)∧(0≤cc∧cc≤mN)∧Hid (sc=Tm.scans (ts.drop j) nt mN mD (deep+1) cc))∧Chg [r] w wr∧wr.frozen? ⟨r,0,none⟩=false) (fun i _=>m-(intOf i).toNat)
     case atStart=>exact⟨0,by omega,rfl,⟨_,hc,(by have h:=q1;simp only[decide_eq_false_iff_not] at h;omega),HSC0.out⟩,hB,hf⟩
     case round=>
      obtain⟨j,hj,rfl,⟨cc,cc_x,cc_0,cc_1⟩,hB,z0⟩:=hrel
      by_cases hlt:j<m
      ·have hjt:j<ts.length:=by have:=HN.out;omega
       obtain⟨b,off,k0,nm0,u0,tk0,ta0,tn0,tq0,fk0,fa0,fn0,fq0,l0,a0,m0,q0,rfl,lb,e0,e1,e2,e3,e4,e5,e6,e7,e8,ht⟩:=(hks.chgA hB).at (Below.refl _ _) hjt;have lb_1:=Nat.lt_succ_of_lt lb;have hdm:deep≤mD:=by have h:=q2;simp only[decide_eq_false_iff_not] at h;omega
       have hcall:=IHH.out ts[j] (List.getElem_mem hjt) (deep+1) cc (by omega) (by omega) (by omega);obtain⟨xb,xc,hx⟩ : ∃a b,ts[j].scan nt mN mD (deep+1) cc=(a,b):=⟨_,_,rfl⟩
       have hstep:=cc_1.out.trans (Tm.scans_drop ts nt mN mD (deep+1) cc j hjt hx);have hle:xb=true→cc≤xc∧xc≤mN:=fun h=>Tm.scan_le (by omega) (h▸hx);rw[hx] at hcall;have HC:=zq hcall;have HS:=zq hstep;have HL:=zq hle;clear hcall hstep hle hx cc_1;have hwr:=IntWalk.i64_in (deep+1) (by omega)
       go_wp2_with fail
       refine(HC.out _ _ (ht.below aj) (af aj (cc_x)) (az aj (cc_x) (z0)) (by have:=hB.size;simp;omega)).mono ?_;rintro e w2 ⟨rfl,hb2,hc2,hf2⟩;replace hB:=((hB.trans (Chg.of_below aj)).trans hb2)
       have zw2:=hB.size
       rcases Bool.eq_false_or_eq_true (xb) with q5 | q5
       ·(try rw[q5])
        have Hq5:=zq q5;clear q5;have hwr:=IntWalk.i64_in ((j:Int)+1) (by omega)
        go_wp2_with fail
        go_roundw
        case rel=>exact⟨j+1,by omega,by go_num,⟨_,hc2,(by have h:=HL.out Hq5.out;omega),(by rw[Hid,HS.out,Hq5.out];rfl)⟩,hB,hf2⟩
        case measure=>simp[intOf];omega
       ·(try rw[q5])
        have Hq5:=zq q5;clear q5
        go_wp2_with fail
        have hfin:rr=(false,xc):=HT.out.symm.trans (sd k nt mN mD deep c0 0 xc nb sc q1 q2 q3 Hq4.out (by rw[HS.out,Hq5.out];rfl));rw[hfin];refine bodyPost_ret (v:=.bool (false)) (by simp[results,Tryz.results37,go_sem,bne]) rfl ?_
        exact⟨rfl,hB,hc2,hf2⟩
      ·skip
       have HSC:Hid (sc=(true,cc)):=zq (by rw[cc_1.out,List.drop_eq_nil_of_le (by have:=HN.out;omega)];unfold Tm.scans;rfl)
       go_wp2_with fail
       have hfin:rr=(true,cc):=HT.out.symm.trans (se k nt mN mD deep c0 cc 0 nb sc q1 q2 q3 Hq4.out HSC.out);rw[hfin];refine bodyPost_ret (v:=.bool (true)) (by simp[results,Tryz.results37,go_sem,bne]) rfl ?_
       exact⟨rfl,hB,cc_x,z0⟩
    ·(try rw[q4])
     have Hq4:=zq q4;clear q4
     go_wp2_with fail
     have hfin:rr=(false,c0+1):=HT.out.symm.trans (sf k nt mN mD deep c0 0 0 nb sc q1 q2 q3 Hq4.out);rw[hfin];refine bodyPost_ret (v:=.bool (false)) (by simp[results,Tryz.results37,go_sem,bne]) rfl ?_
     exact⟨rfl,hB,hc,hf⟩
termination_by SizeOf.sizeOf t
decreasing_by exact Tm.kid_lt ht
mutual
def Tm.same:Tm→Tm→Bool
 | .mk k s u t f l ts,.mk k' s' u' t' f' l' us=>k==k'&&s.toList==s'.toList&&u==u'&&t.same t'&&f.same f'&&l==l'&&Tm.sames ts us
def Tm.sames:List Tm→List Tm→Bool
 | [],[]=>true
 | t :: ts,u :: us=>t.same u&&Tm.sames ts us
 | _,_=>false
end
def ej (R:Tm→Tm→Bool):List Tm→List Tm→Bool
 | [],[]=>true
 | t :: ts,u :: us=>R t u&&ej R ts us
 | _,_=>false
theorem ti (R:Tm→Tm→Bool)(ts us:List Tm)(k:Nat)(h:k<ts.length)(h':k<us.length):ej R (ts.drop k) (us.drop k)=(R ts[k] us[k]&&ej R (ts.drop (k+1)) (us.drop (k+1))):=by
 rw[List.drop_eq_getElem_cons h,List.drop_eq_getElem_cons h'];rfl
theorem nk (R:Tm→Tm→Bool) : ∀(ts us:List Tm),ts.length≠us.length→ej R ts us=false
 | [],[],h=>absurd rfl h
 | [],_ :: _,_=>rfl
 | _ :: _,[],_=>rfl
 | t :: ts,u :: us,h=>by
  have:=nk R ts us (fun e=>h (by simp[e]))
  simp[ej,this]
theorem tL (R:Tm→Tm→Bool)(ts us:List Tm)(k:Nat)(h:ts.length≤k)(h':us.length≤k):ej R (ts.drop k) (us.drop k)=true:=by
 rw[List.drop_eq_nil_of_le h,List.drop_eq_nil_of_le h'];rfl
theorem Tm.sames_all2 : ∀ts us:List Tm,ej Tm.same ts us=Tm.sames ts us
 | [],[]=>by unfold Tm.sames;rfl
 | [],_ :: _=>by unfold Tm.sames;rfl
 | _ :: _,[]=>by unfold Tm.sames;rfl
 | t :: ts,u :: us=>by unfold Tm.sames ej;rw[Tm.sames_all2 ts us]
mutual
theorem Tm.same_refl : ∀t:Tm,t.same t=true
 | .mk k s u t f l ts=>by unfold Tm.same;rw[Tm.sames_refl ts,t.same_refl,f.same_refl];simp
theorem Tm.sames_refl : ∀ts:List Tm,Tm.sames ts ts=true
 | []=>by unfold Tm.sames;rfl
 | t :: ts=>by unfold Tm.sames;rw[Tm.same_refl t,Tm.sames_refl ts];rfl
end
theorem nZ (g:FuncId)(R:Tm→Tm→Bool)(F G:Nat→Prop)(ts us:List Tm)(ys zs:Value)(w:World)(hy:aS F w ts ys)(hz:aS G w us zs)
  (hcf : ∀xs W,(callFunc g xs).run Tryz.prog W = .ok (.enter g xs) W)
  (hg : ∀t∈ts,∀u∈us,∀(W:World) (y z:Value),aA F W t y→aA G W u z→Calls Tryz.prog g #[y,z] W fun e W'=>e = .returned (.bool (R t u))∧Below W.heap.size W W') :
  Calls Tryz.prog 36 #[ys,zs,.func (.func g) #[] #[]] w fun e w'=>e = .returned (.bool (ej R ts us))∧Below w.heap.size w w':=by
 have HG:=zq hg;clear hg;obtain⟨a,cap,rfl,h2,h3,-⟩:=hy.open;obtain⟨c,cap',rfl,g2,g3,-⟩:=hz.open;unfold maxLen at h3 g3
 by_cases hl:ts.length=us.length
 ·obtain⟨n,hn⟩ : ∃n,ts.length=n:=⟨_,rfl⟩
  rw[hn] at hl h2 hy;rw[←hl] at g2 hz;have HN:=zq hn;have HL:=zq hl;rw[hn,←hl];clear hn hl
  go_enter Tryz.func36,Tryz.ntmps36
  go_wp2_with fail
  go_loopw [17] (fun i wr=>∃k:Nat,k≤n∧i = .int .i64 k∧Below w.heap.size w wr∧Hid (ej R ts us=ej R (ts.drop k) (us.drop k))) (fun i _=>n-(intOf i).toNat)
  case atStart=>exact⟨0,by omega,rfl,Below.refl _ _,rfl⟩
  case round=>
   obtain⟨j,hk,rfl,hbw,hR⟩:=hrel
   by_cases hlt:j<n
   ·have hkt:j<ts.length:=by rw[HN.out];exact hlt
    have hku:j<us.length:=by rw[←HL.out];exact hlt
    obtain⟨b,off,k0,nm0,u0,tk0,ta0,tn0,tq0,fk0,fa0,fn0,fq0,l0,a0,m0,q0,rfl,lb,e0,e1,e2,e3,e4,e5,e6,e7,e8,ht⟩:=hy.at hbw hkt;obtain⟨b',off',k0',nm0',u0',tk0',ta0',tn0',tq0',fk0',fa0',fn0',fq0',l0',a0',m0',q0',rfl,lb',e0',e1',e2',e3',e4',e5',e6',e7',e8',hu⟩:=hz.at hbw hku;have hcall:=HG.out ts[j] (List.getElem_mem hkt) us[j] (List.getElem_mem hku);have hstep:=hR.out.trans (ti R ts us j hkt hku);generalize R ts[j] us[j]=r at hcall hstep;have HC:=zq hcall;have HS:=zq hstep;clear hcall hstep hR
    cases r
    all_goals
     go_wp2_with fail
     refine(HC.out _ _ _ (ht.below aH) (hu.below aH)).mono ?_;rintro e w1 ⟨rfl,hb1⟩
     go_wp2_with fail
    ·go_ret
     exact⟨ax (by rw[HS.out];rfl),al (al hbw aH) hb1⟩
    ·go_roundw
     case rel=>exact⟨j+1,by omega,by go_num,al (al hbw aH) hb1,by rw[Hid,HS.out];rfl⟩
     case measure=>simp[intOf];omega
   ·go_wp2_with fail
    go_ret
    exact⟨ax (by rw[hR.out,tL _ _ _ _ (by rw[HN.out];omega) (by rw[←HL.out];omega)]),hbw⟩
 ·have HL:=zq hl
  go_enter Tryz.func36,Tryz.ntmps36
  go_wp2_with fail
  go_ret
  exact⟨ax (nk R ts us HL.out).symm,Below.refl _ _⟩
theorem kB (k u l k' u' l':Int)(nm nm':ByteArray)(r1 r2 r3:Bool)(h0:(k==k')=true)(h1:(nm.toList==nm'.toList)=true)(h2:(u==u')=true)(h3:(r1)=true)(h4:(r2)=true)(h5:(l==l')=true):(r3:Bool)=(k==k'&&nm.toList==nm'.toList&&u==u'&&r1&&r2&&l==l'&&r3):=by
 simp_all
theorem kC (k u l k' u' l':Int)(nm nm':ByteArray)(r1 r2 r3:Bool)(h0:(k==k')=true)(h1:(nm.toList==nm'.toList)=true)(h2:(u==u')=true)(h3:(r1)=true)(h4:(r2)=true)(h5:(l==l')=false):(false:Bool)=(k==k'&&nm.toList==nm'.toList&&u==u'&&r1&&r2&&l==l'&&r3):=by
 simp_all
theorem kD (k u l k' u' l':Int)(nm nm':ByteArray)(r1 r2 r3:Bool)(h0:(k==k')=true)(h1:(nm.toList==nm'.toList)=true)(h2:(u==u')=true)(h3:(r1)=true)(h4:(r2)=false):(false:Bool)=(k==k'&&nm.toList==nm'.toList&&u==u'&&r1&&r2&&l==l'&&r3):=by
 simp_all
theorem kE (k u l k' u' l':Int)(nm nm':ByteArray)(r1 r2 r3:Bool)(h0:(k==k')=true)(h1:(nm.toList==nm'.toList)=true)(h2:(u==u')=true)(h3:(r1)=false):(false:Bool)=(k==k'&&nm.toList==nm'.toList&&u==u'&&r1&&r2&&l==l'&&r3):=by
 simp_all
theorem kF (k u l k' u' l':Int)(nm nm':ByteArray)(r1 r2 r3:Bool)(h0:(k==k')=true)(h1:(nm.toList==nm'.toList)=true)(h2:(u==u')=false):(false:Bool)=(k==k'&&nm.toList==nm'.toList&&u==u'&&r1&&r2&&l==l'&&r3):=by
 simp_all
theorem kG (k u l k' u' l':Int)(nm nm':ByteArray)(r1 r2 r3:Bool)(h0:(k==k')=true)(h1:(nm.toList==nm'.toList)=false):(false:Bool)=(k==k'&&nm.toList==nm'.toList&&u==u'&&r1&&r2&&l==l'&&r3):=by
 simp_all
theorem kH (k u l k' u' l':Int)(nm nm':ByteArray)(r1 r2 r3:Bool)(h0:(k==k')=false):(false:Bool)=(k==k'&&nm.toList==nm'.toList&&u==u'&&r1&&r2&&l==l'&&r3):=by
 simp_all
theorem dA (F G:Nat→Prop)(t:Tm) : ∀(v:Tm) (y z:Value) (w:World),aA F w t y→aA G w v z →
  Calls Tryz.prog 14 #[y,z] w fun e w'=>e = .returned (.bool (t.same v))∧Below w.heap.size w w':=by
 intro v y z w hy hz;have IH : ∀t'∈t.kids,∀v'∈v.kids,∀(W:World) (y z:Value),aA F W t' y→aA G W v' z→Calls Tryz.prog 14 #[y,z] W fun e W'=>e = .returned (.bool (t'.same v'))∧Below W.heap.size W W':=
  fun t' ht v' _ W y z a b=>dA F G t' v' y z W a b
 obtain⟨k,nm,u,tk,ta,tn,tq,fk,fa,fn,fq,l,c,m,q,rfl⟩:=hy.shape;obtain⟨k',nm',u',tk',ta',tn',tq',fk',fa',fn',fq',l',c',m',q',rfl⟩:=hz.shape;obtain⟨r1,r2,r3,r4,r5,r6,r7,r8,r9,rn,rm,rq,hty,hsr,hks⟩:=hy.parts;obtain⟨s1,s2,s3,s4,s5,s6,s7,s8,s9,sn,sm,sq,hty',hsr',hks'⟩:=hz.parts
 cases t with | mk kk nn uu tt ff ll ts=>cases v with | mk kk' nn' uu' tt' ff' ll' ts'=>
 simp only[Tm.kind,Tm.name,Tm.num,Tm.type,Tm.src,Tm.label,Tm.kids] at *;subst r1 r2 r3 r8 s1 s2 s3 s8;have h1:=fun W (h:Below w.heap.size w W)=>eN F G tt tt' _ _ W (hty.below h) (hty'.below h);have h2:=fun W (h:Below w.heap.size w W)=>eN F G ff ff' _ _ W (hsr.below h) (hsr'.below h);have h3:=fun W (h:Below w.heap.size w W)=>nZ _ _ F G ts ts' _ _ W (hks.below h) (hks'.below h) Tryz.call14 IH;simp only[Tm.sames_all2] at h3;unfold Tm.same;generalize tt.same tt'=r1 at h1 ⊢;generalize ff.same ff'=r2 at h2 ⊢;generalize Tm.sames ts ts'=r3 at h3 ⊢;have H1:=zq h1;have H2:=zq h2;have H3:=zq h3;clear h1 h2 h3 IH hty hty' hsr hsr' hks hks' hy hz;clear r9 r4 r5 r6 r7 s4 s5 s6 s7 s9;obtain⟨rr,hrr⟩ : ∃r:Bool,(k==k'&&nm.toList==nm'.toList&&u==u'&&r1&&r2&&l==l'&&r3)=r:=⟨_,rfl⟩
 rw[hrr];have HT:=zq hrr;clear hrr
 go_enter Tryz.func14,Tryz.ntmps14
 rcases Bool.eq_false_or_eq_true (k==k') with q1 | q1
 ·skip
  have nq1:(k != k')=false:=by simp only[bne,q1];rfl
  rcases Bool.eq_false_or_eq_true (nm.toList==nm'.toList) with q2 | q2
  ·skip
   have nq2:(nm.toList != nm'.toList)=false:=by simp only[bne,q2];rfl
   rcases Bool.eq_false_or_eq_true (u==u') with q3 | q3
   ·skip
    have nq3:(u != u')=false:=by simp only[bne,q3];rfl
    rcases Bool.eq_false_or_eq_true (r1) with q4 | q4
    ·have Hq4:=zq q4
     clear q4
     rcases Bool.eq_false_or_eq_true (r2) with q5 | q5
     ·have Hq5:=zq q5
      clear q5
      rcases Bool.eq_false_or_eq_true (l==l') with q6 | q6
      ·skip
       have nq6:(l != l')=false:=by simp only[bne,q6];rfl
       go_wp2_with fail
       refine(H1.out _ aH).mono ?_;rintro e w1 ⟨rfl,hb1⟩;rw[Hq4.out];have hB:=(al aH hb1)
       have zw1:=hB.size;have c0_5:w1.cell? ⟨w.heap.size,5,none⟩=some (.int .i64 fk):=af hb1 (af aj (au (by simp) 5));have c0_6:w1.cell? ⟨w.heap.size,6,none⟩=some (.slice fa fn fq):=af hb1 (af aj (au (by simp) 6));have c1_5:w1.cell? ⟨w.heap.size+1,5,none⟩=some (.int .i64 fk'):=af hb1 (au (by simp) 5);have c1_6:w1.cell? ⟨w.heap.size+1,6,none⟩=some (.slice fa' fn' fq'):=af hb1 (au (by simp) 6);have c0_7:w1.cell? ⟨w.heap.size,7,none⟩=some (.int .i64 l):=af hb1 (af aj (au (by simp) 7));have c1_7:w1.cell? ⟨w.heap.size+1,7,none⟩=some (.int .i64 l'):=af hb1 (au (by simp) 7);have c0_8:w1.cell? ⟨w.heap.size,8,none⟩=some (.slice c m q):=af hb1 (af aj (au (by simp) 8));have c1_8:w1.cell? ⟨w.heap.size+1,8,none⟩=some (.slice c' m' q'):=af hb1 (au (by simp) 8);have d0_w1:=World.block_lt_of_cell? _ _ c0_5;have d1_w1:=World.block_lt_of_cell? _ _ c1_5
       go_wp2_with fail
       refine(H2.out _ hB).mono ?_;rintro e w2 ⟨rfl,hb2⟩;rw[Hq5.out];replace hB:=(al hB hb2)
       have zw2:=hB.size;replace c0_7:=af hb2 c0_7;replace c1_7:=af hb2 c1_7;replace c0_8:=af hb2 c0_8;replace c1_8:=af hb2 c1_8;have d0_w2:=World.block_lt_of_cell? _ _ c0_7;have d1_w2:=World.block_lt_of_cell? _ _ c1_7
       go_wp2_with fail
       refine(H3.out _ hB).mono ?_;rintro e w3 ⟨rfl,hb3⟩;replace hB:=(al hB hb3)
       have zw3:=hB.size
       go_wp2_with fail
       refine bodyPost_ret (v:=.bool (r3)) (by simp[results,Tryz.results14,go_sem,bne]) rfl ?_
       exact⟨ax ((kB k u l k' u' l' nm nm' r1 r2 r3 q1 q2 q3 Hq4.out Hq5.out q6).trans HT.out),hB⟩
      ·skip
       have nq6:(l != l')=true:=by simp only[bne,q6];rfl
       go_wp2_with fail
       refine(H1.out _ aH).mono ?_;rintro e w4 ⟨rfl,hb4⟩;rw[Hq4.out];have hB:=(al aH hb4)
       have zw4:=hB.size;have c0_5:w4.cell? ⟨w.heap.size,5,none⟩=some (.int .i64 fk):=af hb4 (af aj (au (by simp) 5));have c0_6:w4.cell? ⟨w.heap.size,6,none⟩=some (.slice fa fn fq):=af hb4 (af aj (au (by simp) 6));have c1_5:w4.cell? ⟨w.heap.size+1,5,none⟩=some (.int .i64 fk'):=af hb4 (au (by simp) 5);have c1_6:w4.cell? ⟨w.heap.size+1,6,none⟩=some (.slice fa' fn' fq'):=af hb4 (au (by simp) 6);have c0_7:w4.cell? ⟨w.heap.size,7,none⟩=some (.int .i64 l):=af hb4 (af aj (au (by simp) 7));have c1_7:w4.cell? ⟨w.heap.size+1,7,none⟩=some (.int .i64 l'):=af hb4 (au (by simp) 7);have d0_w4:=World.block_lt_of_cell? _ _ c0_5;have d1_w4:=World.block_lt_of_cell? _ _ c1_5
       go_wp2_with fail
       refine(H2.out _ hB).mono ?_;rintro e w5 ⟨rfl,hb5⟩;rw[Hq5.out];replace hB:=(al hB hb5)
       have zw5:=hB.size;replace c0_7:=af hb5 c0_7;replace c1_7:=af hb5 c1_7;have d0_w5:=World.block_lt_of_cell? _ _ c0_7;have d1_w5:=World.block_lt_of_cell? _ _ c1_7
       go_wp2_with fail
       refine bodyPost_ret (v:=.bool (false)) (by simp[results,Tryz.results14,go_sem,bne]) rfl ?_
       exact⟨ax ((kC k u l k' u' l' nm nm' r1 r2 r3 q1 q2 q3 Hq4.out Hq5.out q6).trans HT.out),hB⟩
     ·have Hq5:=zq q5
      clear q5
      go_wp2_with fail
      refine(H1.out _ aH).mono ?_;rintro e w6 ⟨rfl,hb6⟩;rw[Hq4.out];have hB:=(al aH hb6)
      have zw6:=hB.size;have c0_5:w6.cell? ⟨w.heap.size,5,none⟩=some (.int .i64 fk):=af hb6 (af aj (au (by simp) 5));have c0_6:w6.cell? ⟨w.heap.size,6,none⟩=some (.slice fa fn fq):=af hb6 (af aj (au (by simp) 6));have c1_5:w6.cell? ⟨w.heap.size+1,5,none⟩=some (.int .i64 fk'):=af hb6 (au (by simp) 5);have c1_6:w6.cell? ⟨w.heap.size+1,6,none⟩=some (.slice fa' fn' fq'):=af hb6 (au (by simp) 6);have d0_w6:=World.block_lt_of_cell? _ _ c0_5;have d1_w6:=World.block_lt_of_cell? _ _ c1_5
      go_wp2_with fail
      refine(H2.out _ hB).mono ?_;rintro e w7 ⟨rfl,hb7⟩;rw[Hq5.out];replace hB:=(al hB hb7)
      have zw7:=hB.size
      go_wp2_with fail
      refine bodyPost_ret (v:=.bool (false)) (by simp[results,Tryz.results14,go_sem,bne]) rfl ?_
      exact⟨ax ((kD k u l k' u' l' nm nm' r1 r2 r3 q1 q2 q3 Hq4.out Hq5.out).trans HT.out),hB⟩
    ·have Hq4:=zq q4
     clear q4
     go_wp2_with fail
     refine(H1.out _ aH).mono ?_;rintro e w8 ⟨rfl,hb8⟩;rw[Hq4.out];have hB:=(al aH hb8)
     have zw8:=hB.size
     go_wp2_with fail
     refine bodyPost_ret (v:=.bool (false)) (by simp[results,Tryz.results14,go_sem,bne]) rfl ?_
     exact⟨ax ((kE k u l k' u' l' nm nm' r1 r2 r3 q1 q2 q3 Hq4.out).trans HT.out),hB⟩
   ·skip
    have nq3:(u != u')=true:=by simp only[bne,q3];rfl
    go_wp2_with fail
    refine bodyPost_ret (v:=.bool (false)) (by simp[results,Tryz.results14,go_sem,bne]) rfl ?_
    exact⟨ax ((kF k u l k' u' l' nm nm' r1 r2 r3 q1 q2 q3).trans HT.out),aH⟩
  ·skip
   have nq2:(nm.toList != nm'.toList)=true:=by simp only[bne,q2];rfl
   go_wp2_with fail
   refine bodyPost_ret (v:=.bool (false)) (by simp[results,Tryz.results14,go_sem,bne]) rfl ?_
   exact⟨ax ((kG k u l k' u' l' nm nm' r1 r2 r3 q1 q2).trans HT.out),aH⟩
 ·skip
  have nq1:(k != k')=true:=by simp only[bne,q1];rfl
  go_wp2_with fail
  refine bodyPost_ret (v:=.bool (false)) (by simp[results,Tryz.results14,go_sem,bne]) rfl ?_
  exact⟨ax ((kH k u l k' u' l' nm nm' r1 r2 r3 q1).trans HT.out),aH⟩
termination_by SizeOf.sizeOf t
decreasing_by exact Tm.kid_lt ht
end Go.Proofs.YtfahhonmiimmdaaGreat

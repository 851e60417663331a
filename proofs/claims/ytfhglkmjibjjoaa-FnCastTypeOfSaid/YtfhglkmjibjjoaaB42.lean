/- Terms are drawn. -/
import Derived.Test.YtfhglkmjibjjoaaB23
import Derived.Deep.DeepCutAuto
set_option linter.unusedSimpArgs false
set_option linter.unusedVariables false
set_option maxRecDepth 100000
set_option maxHeartbeats 16000000
namespace Go.Proofs.Ytfhglkmjibjjoaa
open Go.RowKit
theorem jJ (d:Nat)(r p:Nat)(l:List UInt8)(w:World)(hd1:1<=d)(hd8:d<=8)(hl:l.length+d<=20)(hrd0:aR w r p)(hp:p+5*4 ^ d<=1125899906842000)
  (IH:2<=d->∀(l':List UInt8) (p:Nat) (W:World),l'.length+(d-1)<=20->aR W r p->p+5*4 ^ (d-1)<=1125899906842000->Calls Try.prog 88 #[.pointer (some ⟨r,0,none⟩),.string (bs l'),.int .i64 ((d:Int)-1)] W (DTm r p (5*4 ^ (d-1)) (5*4 ^ (d-1)) W)) :
  Calls Try.prog 88 #[.pointer (some ⟨r,0,none⟩),.string (bs l),.int .i64 (d:Int)] w (DTm r p (5*4 ^ d) (5*4 ^ d) w):=by
 have hpw:2<=d->4 ^ d=4*4 ^ (d-1):=fun h=>by
  obtain⟨e,rfl⟩ : ∃e,d=e+1:=⟨d-1,by omega⟩
  simp[Nat.pow_succ];omega
 have hp1:2<=d->4<=4 ^ (d-1):=fun h=>by have:4 ^ 1<=4 ^ (d-1):=Nat.pow_le_pow_right (by omega) (by omega);omega
 have hp2:4<=4 ^ d:=by have:4 ^ 1<=4 ^ d:=Nat.pow_le_pow_right (by omega) hd1;omega
 have hp8:4 ^ d<=65536:=by have:4 ^ d<=4 ^ 8:=Nat.pow_le_pow_right (by omega) (by omega);omega
 generalize 4 ^ (d-1)=m at *;generalize 4 ^ d=M at *;have IHH:=zq IH;have HPW:=zq hpw;have HP1:=zq hp1;clear IH hpw hp1;obtain⟨i0,hi,hz0,hz1,hz2⟩:=info_parts Try.infoTm2;have Z0:=zq hz0;have Z1:=zq hz1;have Z2:=zq hz2;have HI:=zq hi;clear hz0 hz1 hz2 hi;have hrl0:=hrd0.1;obtain⟨S0,hS0⟩ : ∃S,bs l=S:=⟨_,rfl⟩
 have hSz:S0.size<=20:=by rw[<-hS0,jo];omega
 have HS0:=zq hS0;rw[hS0];clear hS0
 by_cases h2:d<2
 ·have hd2:decide ((d:Int)<2)=true:=by simp;omega
  go_enter Try.func88,Try.ntmps88
  go_wp2_with fail
  refine(iZ r p S0 _ (hrd0.below ag) (by omega) (by omega)).mono ?_;rintro e w1 ⟨t,v,q,rfl,hcn,hv,hq,hrd1,hc1⟩;obtain⟨kt,nm0,ut,tkt,tat,tnt,tqt,fkt,fat,fnt,fqt,lt,ct,mt,qt,rfl⟩:=hv.shape;have f0:w1.frozen? ⟨w.heap.size,0,none⟩=false:=aO hc1 (by omega) (aF 0) (b9 0);have x0:w1.cell? ⟨w.heap.size,0,none⟩=some (.int .i64 0):=aH hc1 (by omega) (aF 0);have f1:w1.frozen? ⟨w.heap.size,1,none⟩=false:=aO hc1 (by omega) (aF 1) (b9 1);have x1:w1.cell? ⟨w.heap.size,1,none⟩=some (.string {data:=#[]}):=aH hc1 (by omega) (aF 1);have f2:w1.frozen? ⟨w.heap.size,2,none⟩=false:=aO hc1 (by omega) (aF 2) (b9 2);have x2:w1.cell? ⟨w.heap.size,2,none⟩=some (.int .i64 0):=aH hc1 (by omega) (aF 2);have f3:w1.frozen? ⟨w.heap.size,3,none⟩=false:=aO hc1 (by omega) (aF 3) (b9 3);have x3:w1.cell? ⟨w.heap.size,3,none⟩=some (.int .i64 0):=aH hc1 (by omega) (aF 3);have f4:w1.frozen? ⟨w.heap.size,4,none⟩=false:=aO hc1 (by omega) (aF 4) (b9 4);have x4:w1.cell? ⟨w.heap.size,4,none⟩=some (.slice none 0 0):=aH hc1 (by omega) (aF 4);have f5:w1.frozen? ⟨w.heap.size,5,none⟩=false:=aO hc1 (by omega) (aF 5) (b9 5);have x5:w1.cell? ⟨w.heap.size,5,none⟩=some (.int .i64 0):=aH hc1 (by omega) (aF 5);have f6:w1.frozen? ⟨w.heap.size,6,none⟩=false:=aO hc1 (by omega) (aF 6) (b9 6);have x6:w1.cell? ⟨w.heap.size,6,none⟩=some (.slice none 0 0):=aH hc1 (by omega) (aF 6);have f7:w1.frozen? ⟨w.heap.size,7,none⟩=false:=aO hc1 (by omega) (aF 7) (b9 7);have x7:w1.cell? ⟨w.heap.size,7,none⟩=some (.int .i64 0):=aH hc1 (by omega) (aF 7);have f8:w1.frozen? ⟨w.heap.size,8,none⟩=false:=aO hc1 (by omega) (aF 8) (b9 8);have x8:w1.cell? ⟨w.heap.size,8,none⟩=some (.slice none 0 0):=aH hc1 (by omega) (aF 8)
  go_wp2_with fail
  refine bq (.agg (nv kt nm0 ut tkt tat tnt tqt fkt fat fnt fqt lt ct mt qt)) (by simp[results,Try.results88,go_sem,x0,x1,x2,x3,x4,x5,x6,x7,x8]) ?_
  exact DTm.stored (q:=q) (R:=w.heap.size) (B:=w.heap.size+1) (hv.lower (by simp)) (by omega) (by omega) (by omega) hrd1 ((Chg.of_below ag).trans hc1) (Nat.le_refl _) (by omega) hrl0
 have hd2:decide ((d:Int)<2)=false:=by simp;omega
 have HM4:=zq (HP1.out (by omega));have HMM:=zq (HPW.out (by omega));have IH2:=zq (IHH.out (by omega));clear IHH HPW HP1
 go_enter Try.func88,Try.ntmps88
 go_wp2_with fail
 refine(bH r p 6 _ (hrd0.below ag) (by omega) (by omega)).mono ?_;rintro e w1 ⟨j1,rfl,j10,j11,hrd1,hc1⟩;have hw1:=hc1.size;simp only[World.size_alloc] at hw1;have hch1:=(Chg.of_below ag).trans hc1;have hR1:w1.heap[w.heap.size]?=some (.cells (nz 0) 28 (0,0)):=ay (aA rfl) hc1 (by omega);clear hc1
 rcases Bool.eq_false_or_eq_true (j1==0) with q0 | q0
 ·go_wp2_with fail
  refine(iZ r (p+1) S0 _ hrd1 (by omega) (by omega)).mono ?_;rintro e w2 ⟨t,v,q,rfl,hcn,hv,hq,hrd2,hc2⟩;obtain⟨kt,nm0,ut,tkt,tat,tnt,tqt,fkt,fat,fnt,fqt,lt,ct,mt,qt,rfl⟩:=hv.shape;have hR2:=ay hR1 hc2;have x0:=ah hR2 (o:=0) rfl;have f0:=aj hR2 0;have x1:=ah hR2 (o:=1) rfl;have f1:=aj hR2 1;have x2:=ah hR2 (o:=2) rfl;have f2:=aj hR2 2;have x3:=ah hR2 (o:=3) rfl;have f3:=aj hR2 3;have x4:=ah hR2 (o:=4) rfl;have f4:=aj hR2 4;have x5:=ah hR2 (o:=5) rfl;have f5:=aj hR2 5;have x6:=ah hR2 (o:=6) rfl;have f6:=aj hR2 6;have x7:=ah hR2 (o:=7) rfl;have f7:=aj hR2 7;have x8:=ah hR2 (o:=8) rfl;have f8:=aj hR2 8
  go_wp2_with fail
  refine bq (.agg (nv kt nm0 ut tkt tat tnt tqt fkt fat fnt fqt lt ct mt qt)) (by simp[results,Try.results88,go_sem,x0,x1,x2,x3,x4,x5,x6,x7,x8]) ?_
  exact DTm.stored (q:=q) (R:=w.heap.size) (B:=w1.heap.size) hv (by omega) (by omega) (by omega) hrd2 (hch1.trans hc2) (Nat.le_refl _) (by omega) hrl0
 go_wp2_with fail
 refine(bY (fun k=>5<=k∧k<=13) r (p+1) _ 11 11 _ (hrd1.below ag) (by omega) (by omega) (by omega) (Nat.le_refl _) (by omega) (bJ [6,5,7,9,13,10,11,8,12,5,6] rfl _ (by decide))).mono ?_;rintro e w2 ⟨k,rfl,⟨k5,k13⟩,hrd2,hc2⟩;have hw2:=hc2.size;simp only[World.size_alloc] at hw2;have hch2:=(hch1.trans (Chg.of_below ag)).trans hc2;have hR2:=ay (a9 hR1 ag) hc2 (by omega);clear hch1 hR1 hc2 hrd1 q0
 go_upto_if 26 with fail
 go_cut [1] (fun s1 wx=>∃(l':List UInt8) (nm:ByteArray) (q:Nat),s1 = .string (bs l')∧l'.length<=l.length+1∧nm.size<=1∧q<=p+3∧aR wx r q∧Chg [r] w wx∧w2.heap.size<wx.heap.size∧wx.heap[w.heap.size]?=some (.cells (nz 0) 28 (0,0))∧wx.heap[w2.heap.size]?=some (.cells (nv k nm 0 0 none 0 0 0 none 0 0 0 none 0 0) 28 (0,0)))
 case first=>
  have hch3:=hch2.trans (Chg.of_below (ag (o:=.cells (nz k) 28)));have hR3:=a9 hR2 (ag (o:=.cells (nz k) 28));have hE3:(w2.alloc (.cells (nz k) 28)).heap[w2.heap.size]?=some (.cells (nz k) 28 (0,0)):=aA rfl;have hrd3:=hrd2.below (ag (o:=.cells (nz k) 28))
  rcases Bool.eq_false_or_eq_true (k==5) with q5 | q5
  ·go_wp2_with fail
   refine(mA (fun s=>∃x,s=bs [x]) r (p+2) _ 4 4 _ (hrd3.below ag) (by omega) (by omega) (by omega) (Nat.le_refl _) (by omega) (gQ [⟨#[120]⟩,⟨#[121]⟩,⟨#[122]⟩,⟨#[102]⟩] (by simp) _ (by intro s hs;simp only[List.mem_cons,List.not_mem_nil,or_false] at hs;rcases hs with rfl | rfl | rfl | rfl<;>exact⟨_,rfl⟩))).mono ?_;rintro e w4 ⟨nm,rfl,⟨x,hx⟩,hrd4,hc4⟩;have hnm:nm.size<=1:=by rw[hx,jo];simp
   have hadd:=fun W=>oc l x W (by omega);rw[<-hx,HS0.out] at hadd;have hins:=lw x l;obtain⟨S1,hS1⟩ : ∃S,bs (dX x l)=S:=⟨_,rfl⟩
   rw[hS1] at hadd;have HS1:=zq hS1;have HADD:=zq hadd;clear hadd hS1 hx;have hw4:=hc4.size;simp only[World.size_alloc] at hw4;have hch4:=(hch3.trans (Chg.of_below ag)).trans hc4;have hR4:=ay (a9 hR3 ag) hc4 (by omega);have hE4:=ay (a9 hE3 ag) hc4 (by omega);clear hch3 hR3 hE3 hrd3 hc4;have e1:=ah hE4 (o:=1) rfl;have g1:=aj hE4 1
   go_wp2_with fail
   refine(HADD.out _).mono ?_;rintro e w5 ⟨rfl,hb5⟩;have hw5:=hb5.size;have hrd5:=(hrd4.setCell (a:=⟨w2.heap.size,1,none⟩) (by show r<w2.heap.size;omega) (.string nm)).below hb5;have hch5:=(hch4.trans' (p:=⟨w2.heap.size,1,none⟩) (by show w.heap.size<=w2.heap.size;omega) (.string nm)).trans (Chg.of_below hb5);have hR5:=a9 (cf (p:=⟨w2.heap.size,1,none⟩) (v:=.string nm) hR4 (by show w.heap.size≠w2.heap.size;omega)) hb5;have hE5:=a9 (az (o:=1) (v:=.string nm) (cs':=(nv k nm 0 0 none 0 0 0 none 0 0 0 none 0 0)) hE4 rfl) hb5;have hlt5:=aw hE5;clear e1 g1 hch4 hR4 hE4 hrd4 hb5
   go_wp2_with fail
   go_meet
   case rel=>exact⟨dX x l,nm,p+3,by rw[HS1.out],hins,hnm,by omega,hrd5,hch5,hlt5,hR5,hE5⟩
  ·go_wp2_with fail
   go_meet
   case rel=>exact⟨l,{data:=#[]},p+2,by rw[HS0.out],by omega,by decide,by omega,hrd3,hch3,aw hE3,hR3,hE3⟩
 case rest=>
 obtain⟨l',nm,q3,rfl,hl',hnm,hq3,hrd3,hch3,hw3,hR3,hE3⟩:=hcut;clear hch2 hR2 hrd2
 go_upto_region 8 with fail
 go_cut [40] (fun s wx=>(∃bb:Bool,s = .bool bb)∧wx=wc)
 case first=>
  rcases Bool.eq_false_or_eq_true (k==5) with q5 | q5
  ·go_wp2_with fail
   go_meet
   case rel=>exact⟨⟨_,rfl⟩,rfl⟩
  ·go_wp2_with fail
   go_meet
   case rel=>exact⟨⟨_,rfl⟩,rfl⟩
 case rest=>
 obtain⟨⟨bb,rfl⟩,hwc⟩:=hcut;subst hwc
 go_upto_if 40 with fail
 go_cut [8] (fun s8 wx=>s8 = .pointer (some ⟨w2.heap.size,0,none⟩)∧∃(ty:Ty) (tk:Int) (tc:Option Addr) (tn tq q:Nat),ty.cnt<=6∧ai (w2.heap.size+1 <= ·) wx ty (.agg #[.int .i64 tk,.slice tc tn tq])∧q<=p+11∧aR wx r q∧Chg [r] w wx∧w2.heap.size<wx.heap.size∧wx.heap[w.heap.size]?=some (.cells (nz 0) 28 (0,0))∧wx.heap[w2.heap.size]?=some (.cells (nv k nm 0 tk tc tn tq 0 none 0 0 0 none 0 0) 28 (0,0)))
 case first=>
  cases bb
  rotate_left
  ·go_wp2_with fail
   refine(bY (fun k=>1<=k∧k<=3) r q3 _ 4 4 _ (hrd3.below ag) (by omega) (by omega) (by omega) (Nat.le_refl _) (by omega) (bJ [2,1,3,2] rfl _ (by decide))).mono ?_;rintro e w4 ⟨z,rfl,⟨z1,z3⟩,hrd4,hc4⟩;have hw4:=hc4.size;simp only[World.size_alloc] at hw4;have hch4:=(hch3.trans (Chg.of_below ag)).trans hc4;have hR4:=ay (a9 hR3 ag) hc4 (by omega);have hE4:=ay (a9 hE3 ag) hc4 (by omega);clear hch3 hR3 hE3 hrd3 hc4;obtain⟨z',rfl⟩:=Int.eq_ofNat_of_zero_le (show 0<=z by omega);have hz23:2 ^ z'<=2 ^ 3:=Nat.pow_le_pow_right (by omega) (by omega);have HZ:=zq hz23;clear hz23
   go_wp2_with fail
   refine(eB z' r (q3+1) _ (by omega) (by omega) hrd4 (by have:=HZ.out;omega)).mono ?_;intro e w5 hd5;obtain⟨ty,v,q5',rfl,hcn,hv,hq5,hrd5,hc5⟩:=hd5.mono (show 2 ^ z'-1<=7 by have:=HZ.out;omega) (show 2 ^ z'<=8 by have:=HZ.out;omega);obtain⟨tk,tc,tn,tq,rfl⟩:=hv.shape;have hvr:=hv.rep;have hw5:=hc5.size;have hch5:=hch4.trans hc5;have hR5:=ay hR4 hc5;have hE5:=ay hE4 hc5;clear hch4 hR4 hE4 hrd4 hc5 hd5 hv;have e3:=ah hE5 (o:=3) rfl;have e4:=ah hE5 (o:=4) rfl;have g3:=aj hE5 3;have g4:=aj hE5 4
   go_wp2_with fail
   go_meet
   case rel=>
    refine⟨rfl,ty,tk,tc,tn,tq,q5',by omega,((hvr.lower (by omega)).setB (p:=⟨w2.heap.size,3,none⟩) (by show w2.heap.size<_;omega) _).setB (p:=⟨w2.heap.size,4,none⟩) (by show w2.heap.size<_;omega) _,by omega,(hrd5.setCell (a:=⟨w2.heap.size,3,none⟩) (by show r<w2.heap.size;omega) _).setCell (a:=⟨w2.heap.size,4,none⟩) (by show r<w2.heap.size;omega) _,
      (hch5.trans' (p:=⟨w2.heap.size,3,none⟩) (by show w.heap.size<=w2.heap.size;omega) _).trans' (p:=⟨w2.heap.size,4,none⟩) (by show w.heap.size<=w2.heap.size;omega) _,by simp[World.setCell];omega,
      cf (cf hR5 (by show w.heap.size≠w2.heap.size;omega)) (by show w.heap.size≠w2.heap.size;omega),az (az hE5 rfl) rfl⟩
  ·go_wp2_with fail
   go_meet
   case rel=>exact⟨rfl,.mk 0 [],0,none,0,0,q3,by simp[Ty.cnt,Ty.cnts],⟨_,rfl,av.nil0⟩,by omega,hrd3,hch3,hw3,hR3,hE3⟩
 case rest=>
 obtain⟨rfl,ty,tk,tc,tn,tq,q4,hcty,hty,hq4,hrd4,hch4,hw4,hR4,hE4⟩:=hcut;clear hch3 hR3 hE3 hrd3 hw3;obtain⟨n,hn⟩ : ∃n:Nat,aD k=n:=⟨(aD k).toNat,by unfold aD;(repeat' split)<;>omega⟩
 have hn3:n<=3:=by have:=jV k;omega
 have HTK:=zq hn;have HL':=zq hl';clear hn;obtain⟨B2,hB2⟩ : ∃x,wc.heap.size=x:=⟨_,rfl⟩
 have hE2:w2.heap.size<B2:=by omega
 have htyb:ai (fun b=>w2.heap.size+1<=b∧b<B2) wc ty (.agg #[.int .i64 tk,.slice tc tn tq]):=hty.move (.weaken fun b hb hl=>⟨hb,by omega⟩);have HTY:=zq htyb;have HCH:=zq hch4;have HRR:=zq hR4;have HCTY:=zq hcty;have hBle:B2<=wc.heap.size:=by omega
 clear htyb hty hch4 hR4 hcty hB2;obtain⟨SS0,hSS⟩ : ∃S,bs l'=S:=⟨_,rfl⟩
 rw[hSS];have HSS:=zq hSS;clear hSS
 go_wp2_with fail
 go_loopw [9] (fun i wr=>∃j:Nat,j<=n∧i = .int .i64 j∧Hid (Chg [r] w wr)∧B2<=wr.heap.size∧Hid (wr.heap[w.heap.size]?=some (.cells (nz 0) 28 (0,0)))∧Hid (ai (fun b=>w2.heap.size+1<=b∧b<B2) wr ty (.agg #[.int .i64 tk,.slice tc tn tq])) ∧
     ∃(ts:List Tm) (q cnt:Nat) (cv:Option Addr) (qv:Nat),Hid (Tm.cnts ts+j<=cnt)∧cnt<=j*(5*m+1)∧q<=q4+j*(5*m)∧aR wr r q∧Hid (wr.heap[w2.heap.size]?=some (.cells (nv k nm 0 tk tc tn tq 0 none 0 0 0 cv j qv) 28 (0,0)))∧Hid (bR B2 28 9 wr (.slice cv j qv) j (Tm.rows ts))) (fun i _=>n-(intOf i).toNat)
 case atStart=>exact⟨0,by omega,rfl,HCH.out,by omega,HRR.out,HTY.out,[],q4,0,none,0,by simp[Hid,Tm.cnts],by omega,by omega,hrd4,hE4,by unfold Hid;rw[Tm.rows];exact bR.nil⟩
 case round=>
  obtain⟨j,hj,rfl,hcw,hsz,hRr,htyr,ts,q,cnt,cv,qv,hcs,hcb,hq,hrd,hE,hrow⟩:=hrel;clear hrd4 hE4
  go_wp2_with fail
  refine(cH k _).mono ?_;rintro e wk ⟨rfl,hbk⟩;rw[HTK.out];have hszk:B2<=wk.heap.size:=by have:=hbk.size;omega
  replace hrd:=hrd.below hbk;have hEk:=a9 hE.out hbk;have HRK:=zq (a9 hRr.out hbk);have HTYK:=zq (htyr.out.below hbk);have HCK:=zqb hcw hbk;have hrowk:=hrow.out.below hbk;have hrl:=hrd.1;clear hcw hRr htyr hE hrow hbk;have v8:=ah hEk (o:=8) rfl;have f8:=aj hEk 8;have HEK:=zq hEk;clear hEk
  by_cases hlt:j<n
  ·have hjm:j*(5*m)<=2*(5*m):=Nat.mul_le_mul_right _ (by omega)
   have HQB:=zq (show q+5*m<=1125899906842000 by have:=HMM.out;have:=HM4.out;omega);have hwr:IntKind.i64.wrap ((d:Int)-1)=(d:Int)-1:=IntWalk.i64_in _ (by omega);have hc:=fun W (h:Below wk.heap.size wk W)=>IH2.out l' q W (by have:=HL'.out;omega) (hrd.below h) HQB.out;rw[HSS.out] at hc;have HC:=zq hc;clear hc;obtain⟨hlen,xs,ho,hvals⟩:=hrowk;have HLEN:=zq hlen;have HO:=zq ho;have HV:=zq hvals;have HCAP:=zq hn3;clear hlen ho hvals;clear hjm
   go_wp2_with fail
   go_region_law (first
     | (go_simp;go_at_call 88;(with_reducible refine(HC.out _ bdr).mono ?_);rintro e wc1 ⟨s1,v1,q1,rfl,hsc,hv1,hq1,hrd1,hch1⟩;obtain⟨kt,nm0,ut,tkt,tat,tnt,tqt,fkt,fat,fnt,fqt,lt,ct,mt,qt,rfl⟩:=hv1.shape;have hC1:=(Chg.of_below bdr).trans hch1;have hbz:=hch1.size;have hq1c:wc1.cell? ⟨w2.heap.size,8,none⟩=some (.slice cv j qv):=hC1.cellne (by show w2.heap.size≠r;omega) v8;have hl1:w2.heap.size<wc1.heap.size:=World.block_lt_of_cell? _ _ hq1c)
     | (refine step_append_lies _ (by rfl) (.tmp 54) (.tmp 60) 26 (by rfl) B2 28 i0 _ 9 128 Try.underlying26 HI.out Z0.out Z1.out Z2.out rfl (by omega) (.slice cv j qv) j xs (by rfl) (ck HO.out (hC1.trans (Chg.of_below ag)) (by omega))
         ⟨wc1.heap.size,0,none⟩ 1 1 [.int .i64 kt,.string nm0,.int .i64 ut,.int .i64 tkt,.slice tat tnt tqt,.int .i64 fkt,.slice fat fnt fqt,.int .i64 lt,.slice ct mt qt] (by rfl) (by rfl) (World.news_of_block (cs:=(nv kt nm0 ut tkt tat tnt tqt fkt fat fnt fqt lt ct mt qt)) (t:=28) (fr:=(0,0)) (heap_alloc_new wc1 _)) (by simp[Value.oneCell'])
         (by omega) (by have:=HCAP.out;unfold maxLen;omega) (by have:=HCAP.out;omega) (by simp at hbz ⊢;omega) _ rfl ?_
        intro gg cap2 w6 hown2 hgrow hat hlt2;have hC2:=hC1.trans (Chg.of_below (ag (o:=.cells (nv kt nm0 ut tkt tat tnt tqt fkt fat fnt fqt lt ct mt qt) 28)));have hfar:=dk hC2 HO.out hgrow;have hq:w6.cell? ⟨w2.heap.size,8,none⟩=some (.slice cv j qv):=(World.cell?_of_block (a:=⟨w2.heap.size,8,none⟩) (hfar (w2.heap.size) (by omega) (by omega) (by omega))).trans v8;have hqf:w6.frozen? ⟨w2.heap.size,8,none⟩=false:=(World.frozen?_of_block (a:=⟨w2.heap.size,8,none⟩) (hfar (w2.heap.size) (by omega) (by omega) (by omega))).trans f8;have HFAR:=zq hfar;have HROW:=zq (bR.push (r:=r) HLEN.out HO.out HV.out (by omega) hC2 (aB.srep ((hv1.lower (by simp)).below (ag (o:=.cells (nv kt nm0 ut tkt tat tnt tqt fkt fat fnt fqt lt ct mt qt) 28)))) hszk hown2 hgrow (by simpa using hat));have HCW:=zq (dg HCK.out hC2 HO.out (by omega) hgrow);have HRD:=zq (aR.grown (hrd1.below (ag (o:=.cells (nv kt nm0 ut tkt tat tnt tqt fkt fat fnt fqt lt ct mt qt) 28))) HO.out (by omega) hgrow);have hsz6:wk.heap.size<=w6.heap.size:=Nat.le_trans hC2.size hgrow.size;clear hfar hown2 hgrow hat hq1c hC1 hC2 hrd1 hv1))
   all_goals
    have HW1:=zq hq1;have HW2:=zq hsc;clear hq1 hsc
    go_wp2_with fail
    go_roundw
    case rel=>
     have K:bU (fun b=>w2.heap.size+1<=b∧b<B2) (fun b=>w2.heap.size+1<=b∧b<B2) wk (w6.setCell ⟨w2.heap.size,8,none⟩ (.slice (some ⟨gg,0,none⟩) (j+1) cap2)):=
      ⟨by simp[World.setCell];exact hsz6,fun _ h _=>h,fun b hb hl=>(Below.heap_setCell w6 ⟨w2.heap.size,8,none⟩ _ b (by show b≠w2.heap.size;omega)).trans (HFAR.out b hl hb.2 (by omega))⟩
     have hE6:w6.heap[w2.heap.size]?=_:=(HFAR.out w2.heap.size (by omega) (by omega) (by omega)).trans HEK.out
     exact⟨j+1,by omega,by go_num,HCW.out.trans' (by show w.heap.size<=w2.heap.size;omega) _,by simp[World.setCell];omega,cf ((HFAR.out w.heap.size (by omega) (by omega) (by omega)).trans HRK.out) (by show w.heap.size≠w2.heap.size;omega),HTYK.out.move K,
       ts ++ [s1],q1,cnt+(5*m+1),some ⟨gg,0,none⟩,cap2,by unfold Hid;have:=hcs.out;have:=HW2.out;rw[Tm.cnts_append];simp only[Tm.cnts];omega,by rw[Nat.add_mul];omega,by have:=HW1.out;rw[Nat.add_mul];omega,HRD.out.setCell (by show r<w2.heap.size;omega) _,
       az hE6 rfl,by
         have h:=HROW.out.setCell (p:=⟨w2.heap.size,8,none⟩) (by show w2.heap.size<B2;omega) (.slice (some ⟨gg,0,none⟩) (j+1) cap2);unfold Hid;rw[Tm.rows_eq,List.map_append,<-Tm.rows_eq]
         exact h⟩
    case measure=>simp[intOf];omega
  ·skip
   have e0:=ah HEK.out (o:=0) rfl;have e1:=ah HEK.out (o:=1) rfl;have e2:=ah HEK.out (o:=2) rfl;have e3:=ah HEK.out (o:=3) rfl;have e4:=ah HEK.out (o:=4) rfl;have e5:=ah HEK.out (o:=5) rfl;have e6:=ah HEK.out (o:=6) rfl;have e7:=ah HEK.out (o:=7) rfl;have hR9:=HRK.out;have x0:=ah hR9 (o:=0) rfl;have f0:=aj hR9 0;have x1:=ah hR9 (o:=1) rfl;have f1:=aj hR9 1;have x2:=ah hR9 (o:=2) rfl;have f2:=aj hR9 2;have x3:=ah hR9 (o:=3) rfl;have f3:=aj hR9 3;have x4:=ah hR9 (o:=4) rfl;have f4:=aj hR9 4;have x5:=ah hR9 (o:=5) rfl;have f5:=aj hR9 5;have x6:=ah hR9 (o:=6) rfl;have f6:=aj hR9 6;have x7:=ah hR9 (o:=7) rfl;have f7:=aj hR9 7;have x8:=ah hR9 (o:=8) rfl;have f8:=aj hR9 8;have hlR:=aw hR9;have hlE:=World.block_lt_of_cell? _ _ e0;have hrep:=aB.mk (k:=k) (u:=0) (l:=0) (nm:=nm) (fk:=0) (f:=.mk 0 []) (s2:=.slice none 0 0) (F:=(w2.heap.size+1 <= ·)) (show nm.size<=maxLen by unfold maxLen;omega) (HTYK.out.move (.weaken fun b hb _=>hb.1)) ⟨_,rfl,av.nil0⟩ (show aN (w2.heap.size+1 <= ·) wk ts (.slice cv j qv) from aL.move (.weaken fun b hb _=>by have:B2<=b:=hb;omega) _ _ hrowk.rep);have hcnt:(Tm.mk k nm 0 ty (.mk 0 []) 0 ts).cnt<=5*M:=by
    have h1:=hcs.out;have h2:=HCTY.out;have h3:=HMM.out;have h4:=HM4.out;have h5:j*(5*m+1)<=3*(5*m+1):=Nat.mul_le_mul_right _ (by omega);have h6:=hrowk.1;rw[Tm.rows_length] at h6;simp only[Tm.cnt,Ty.cnt,Ty.cnts,List.length_nil]
    omega
   have hq5:q<=p+5*M:=by
    have h3:=HMM.out;have h4:=HM4.out;have h5:j*(5*m)<=3*(5*m):=Nat.mul_le_mul_right _ (by omega)
    omega
   have HEND:=zq (DTm.stored (r:=r) (p:=p) (c:=5*M) (m:=5*M) (w:=w) (q:=q) (R:=w.heap.size) (B:=w2.heap.size+1) (v0:=.int .i64 k) (v1:=.string nm) (v2:=.int .i64 0) (v3:=.int .i64 tk) (v4:=.slice tc tn tq) (v5:=.int .i64 0) (v6:=.slice none 0 0) (v7:=.int .i64 0) (v8:=.slice cv j qv) hrep hcnt (by omega) hq5 hrd HCK.out (Nat.le_refl _) (by omega) hrl0);clear hrep hcnt hq5 hrowk
   go_upto_region 14 with fail
   go_wp2_with fail
   refine bq (.agg (nv k nm 0 tk tc tn tq 0 none 0 0 0 cv j qv)) (by simp[results,Try.results88,go_sem,x0,x1,x2,x3,x4,x5,x6,x7,x8]) ?_
   exact HEND.out
theorem j4 (d:Nat) : ∀(r p:Nat) (l:List UInt8) (w:World),1<=d->d<=8->l.length+d<=20->aR w r p->p+5*4 ^ d<=1125899906842000 ->
  Calls Try.prog 88 #[.pointer (some ⟨r,0,none⟩),.string (bs l),.int .i64 (d:Int)] w (DTm r p (5*4 ^ d) (5*4 ^ d) w):=
 fun r p l w hd1 hd8 hl hrd0 hp=>jJ d r p l w hd1 hd8 hl hrd0 hp fun h2 l' p W a b c=>by
  have h:=j4 (d-1) r p l' W (by omega) (by omega) a b c;rw[show((d-1:Nat):Int)=(d:Int)-1 from by omega] at h
  exact h
termination_by d
end Go.Proofs.Ytfhglkmjibjjoaa

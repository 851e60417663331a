/- Terms are drawn. And what else its parts name. -/
import Derived.Test.YtfahhonmiimmdaaGreatB26
set_option linter.unusedSimpArgs false
set_option linter.unusedVariables false
set_option maxRecDepth 100000
set_option maxHeartbeats 16000000
namespace Go.Proofs.YtfahhonmiimmdaaGreat
open Go.RowKit
theorem nP (d:Nat)(r p:Nat)(l:List UInt8)(w:World)(hd1:1≤d)(hd8:d≤8)(hl:l.length+d≤20)(hrd0:aQ w r p)(hp:p+5*4 ^ d≤1125899906842000)
  (IH:2≤d→∀(l':List UInt8) (p:Nat) (W:World),l'.length+(d-1)≤20→aQ W r p→p+5*4 ^ (d-1)≤1125899906842000→Calls Tryz.prog 90 #[.pointer (some ⟨r,0,none⟩),.string (bs l'),.int .i64 ((d:Int)-1)] W (DTm r p (5*4 ^ (d-1)) (5*4 ^ (d-1)) W)) :
  Calls Tryz.prog 90 #[.pointer (some ⟨r,0,none⟩),.string (bs l),.int .i64 (d:Int)] w (DTm r p (5*4 ^ d) (5*4 ^ d) w):=by
 have hpw:2≤d→4 ^ d=4*4 ^ (d-1):=fun h=>by
  obtain⟨e,rfl⟩ : ∃e,d=e+1:=⟨d-1,by omega⟩
  simp[Nat.pow_succ];omega
 have hp1:2≤d→4≤4 ^ (d-1):=fun h=>by have:4 ^ 1≤4 ^ (d-1):=Nat.pow_le_pow_right (by omega) (by omega);omega
 have hp2:4≤4 ^ d:=by have:4 ^ 1≤4 ^ d:=Nat.pow_le_pow_right (by omega) hd1;omega
 have hp8:4 ^ d≤65536:=by have:4 ^ d≤4 ^ 8:=Nat.pow_le_pow_right (by omega) (by omega);omega
 generalize 4 ^ (d-1)=m at *;generalize 4 ^ d=M at *;have IHH:=zq IH;have HPW:=zq hpw;have HP1:=zq hp1;clear IH hpw hp1;obtain⟨i0,hi,hz0,hz1,hz2⟩:=info_parts Tryz.infoTm2;have Z0:=zq hz0;have Z1:=zq hz1;have Z2:=zq hz2;have HI:=zq hi;clear hz0 hz1 hz2 hi;have hrl0:=hrd0.1;obtain⟨S0,hS0⟩ : ∃S,bs l=S:=⟨_,rfl⟩
 have hSz:S0.size≤20:=by rw[←hS0,bs_size];omega
 have HS0:=zq hS0;rw[hS0];clear hS0
 by_cases h2:d<2
 ·have hd2:decide ((d:Int)<2)=true:=by simp;omega
  go_enter Tryz.func90,Tryz.ntmps90
  go_wp2_with fail
  refine(lO r p S0 _ (hrd0.below ai) (by omega) (by omega)).mono ?_;rintro e w1 ⟨t,v,q,rfl,hcn,hv,hq,hrd1,hc1⟩;obtain⟨kt,nm0,ut,tkt,tat,tnt,tqt,fkt,fat,fnt,fqt,lt,ct,mt,qt,rfl⟩:=hv.shape;have f0:w1.frozen? ⟨w.heap.size,0,none⟩=false:=aR hc1 (by omega) (az 0) (aV 0);have x0:w1.cell? ⟨w.heap.size,0,none⟩=some (.int .i64 0):=aK hc1 (by omega) (az 0);have f1:w1.frozen? ⟨w.heap.size,1,none⟩=false:=aR hc1 (by omega) (az 1) (aV 1);have x1:w1.cell? ⟨w.heap.size,1,none⟩=some (.string {data:=#[]}):=aK hc1 (by omega) (az 1);have f2:w1.frozen? ⟨w.heap.size,2,none⟩=false:=aR hc1 (by omega) (az 2) (aV 2);have x2:w1.cell? ⟨w.heap.size,2,none⟩=some (.int .i64 0):=aK hc1 (by omega) (az 2);have f3:w1.frozen? ⟨w.heap.size,3,none⟩=false:=aR hc1 (by omega) (az 3) (aV 3);have x3:w1.cell? ⟨w.heap.size,3,none⟩=some (.int .i64 0):=aK hc1 (by omega) (az 3);have f4:w1.frozen? ⟨w.heap.size,4,none⟩=false:=aR hc1 (by omega) (az 4) (aV 4);have x4:w1.cell? ⟨w.heap.size,4,none⟩=some (.slice none 0 0):=aK hc1 (by omega) (az 4);have f5:w1.frozen? ⟨w.heap.size,5,none⟩=false:=aR hc1 (by omega) (az 5) (aV 5);have x5:w1.cell? ⟨w.heap.size,5,none⟩=some (.int .i64 0):=aK hc1 (by omega) (az 5);have f6:w1.frozen? ⟨w.heap.size,6,none⟩=false:=aR hc1 (by omega) (az 6) (aV 6);have x6:w1.cell? ⟨w.heap.size,6,none⟩=some (.slice none 0 0):=aK hc1 (by omega) (az 6);have f7:w1.frozen? ⟨w.heap.size,7,none⟩=false:=aR hc1 (by omega) (az 7) (aV 7);have x7:w1.cell? ⟨w.heap.size,7,none⟩=some (.int .i64 0):=aK hc1 (by omega) (az 7);have f8:w1.frozen? ⟨w.heap.size,8,none⟩=false:=aR hc1 (by omega) (az 8) (aV 8);have x8:w1.cell? ⟨w.heap.size,8,none⟩=some (.slice none 0 0):=aK hc1 (by omega) (az 8)
  go_wp2_with fail
  refine bodyPost_ret (v:=.agg #[.int .i64 kt,.string nm0,.int .i64 ut,.int .i64 tkt,.slice tat tnt tqt,.int .i64 fkt,.slice fat fnt fqt,.int .i64 lt,.slice ct mt qt]) (by simp[results,Tryz.results90,go_sem,x0,x1,x2,x3,x4,x5,x6,x7,x8]) rfl ?_
  exact DTm.stored (q:=q) (R:=w.heap.size) (B:=w.heap.size+1) (hv.lower (by simp)) (by omega) (by omega) (by omega) hrd1 ((Chg.of_below ai).trans hc1) (Nat.le_refl _) (by omega) hrl0
 have hd2:decide ((d:Int)<2)=false:=by simp;omega
 have HM4:=zq (HP1.out (by omega));have HMM:=zq (HPW.out (by omega));have IH2:=zq (IHH.out (by omega));clear IHH HPW HP1
 go_enter Tryz.func90,Tryz.ntmps90
 go_wp2_with fail
 refine(bo r p 6 _ (hrd0.below ai) (by omega) (by omega)).mono ?_;rintro e w1 ⟨j1,rfl,j10,j11,hrd1,hc1⟩;have hw1:=hc1.size;simp only[World.size_alloc] at hw1;have hch1:=(Chg.of_below ai).trans hc1;have hR1:w1.heap[w.heap.size]?=some (.cells #[.int .i64 0,.string {data:=#[]},.int .i64 0,.int .i64 0,.slice none 0 0,.int .i64 0,.slice none 0 0,.int .i64 0,.slice none 0 0] 28 (0,0)):=aw (aB rfl) hc1 (by omega);clear hc1
 rcases Bool.eq_false_or_eq_true (j1==0) with q0 | q0
 ·go_wp2_with fail
  refine(lO r (p+1) S0 _ hrd1 (by omega) (by omega)).mono ?_;rintro e w2 ⟨t,v,q,rfl,hcn,hv,hq,hrd2,hc2⟩;obtain⟨kt,nm0,ut,tkt,tat,tnt,tqt,fkt,fat,fnt,fqt,lt,ct,mt,qt,rfl⟩:=hv.shape;have hR2:=aw hR1 hc2;have x0:=ag hR2 (o:=0) rfl;have f0:=al hR2 0;have x1:=ag hR2 (o:=1) rfl;have f1:=al hR2 1;have x2:=ag hR2 (o:=2) rfl;have f2:=al hR2 2;have x3:=ag hR2 (o:=3) rfl;have f3:=al hR2 3;have x4:=ag hR2 (o:=4) rfl;have f4:=al hR2 4;have x5:=ag hR2 (o:=5) rfl;have f5:=al hR2 5;have x6:=ag hR2 (o:=6) rfl;have f6:=al hR2 6;have x7:=ag hR2 (o:=7) rfl;have f7:=al hR2 7;have x8:=ag hR2 (o:=8) rfl;have f8:=al hR2 8
  go_wp2_with fail
  refine bodyPost_ret (v:=.agg #[.int .i64 kt,.string nm0,.int .i64 ut,.int .i64 tkt,.slice tat tnt tqt,.int .i64 fkt,.slice fat fnt fqt,.int .i64 lt,.slice ct mt qt]) (by simp[results,Tryz.results90,go_sem,x0,x1,x2,x3,x4,x5,x6,x7,x8]) rfl ?_
  exact DTm.stored (q:=q) (R:=w.heap.size) (B:=w1.heap.size) hv (by omega) (by omega) (by omega) hrd2 (hch1.trans hc2) (Nat.le_refl _) (by omega) hrl0
 go_wp2_with fail
 refine(bJ (fun k=>5≤k∧k≤13) r (p+1) _ 11 11 _ (hrd1.below ai) (by omega) (by omega) (by omega) (Nat.le_refl _) (by omega) (bp [6,5,7,9,13,10,11,8,12,5,6] rfl _ (by decide))).mono ?_;rintro e w2 ⟨k,rfl,⟨k5,k13⟩,hrd2,hc2⟩;have hw2:=hc2.size;simp only[World.size_alloc] at hw2;have hch2:=(hch1.trans (Chg.of_below ai)).trans hc2;have hR2:=aw (af hR1 ai) hc2 (by omega);clear hch1 hR1 hc2 hrd1 q0
 go_upto_if 26 with fail
 go_cut [1] (fun s1 wx=>∃(l':List UInt8) (nm:ByteArray) (q:Nat),s1 = .string (bs l')∧l'.length≤l.length+1∧nm.size≤1∧q≤p+3∧aQ wx r q∧Chg [r] w wx∧w2.heap.size<wx.heap.size∧wx.heap[w.heap.size]?=some (.cells #[.int .i64 0,.string {data:=#[]},.int .i64 0,.int .i64 0,.slice none 0 0,.int .i64 0,.slice none 0 0,.int .i64 0,.slice none 0 0] 28 (0,0))∧wx.heap[w2.heap.size]?=some (.cells #[.int .i64 k,.string nm,.int .i64 0,.int .i64 0,.slice none 0 0,.int .i64 0,.slice none 0 0,.int .i64 0,.slice none 0 0] 28 (0,0)))
 case first=>
  have hch3:=hch2.trans (Chg.of_below (ai (o:=.cells #[.int .i64 k,.string {data:=#[]},.int .i64 0,.int .i64 0,.slice none 0 0,.int .i64 0,.slice none 0 0,.int .i64 0,.slice none 0 0] 28)));have hR3:=af hR2 (ai (o:=.cells #[.int .i64 k,.string {data:=#[]},.int .i64 0,.int .i64 0,.slice none 0 0,.int .i64 0,.slice none 0 0,.int .i64 0,.slice none 0 0] 28));have hE3:(w2.alloc (.cells #[.int .i64 k,.string {data:=#[]},.int .i64 0,.int .i64 0,.slice none 0 0,.int .i64 0,.slice none 0 0,.int .i64 0,.slice none 0 0] 28)).heap[w2.heap.size]?=some (.cells #[.int .i64 k,.string {data:=#[]},.int .i64 0,.int .i64 0,.slice none 0 0,.int .i64 0,.slice none 0 0,.int .i64 0,.slice none 0 0] 28 (0,0)):=aB rfl;have hrd3:=hrd2.below (ai (o:=.cells #[.int .i64 k,.string {data:=#[]},.int .i64 0,.int .i64 0,.slice none 0 0,.int .i64 0,.slice none 0 0,.int .i64 0,.slice none 0 0] 28))
  rcases Bool.eq_false_or_eq_true (k==5) with q5 | q5
  ·go_wp2_with fail
   refine(td (fun s=>∃x,s=bs [x]) r (p+2) _ 4 4 _ (hrd3.below ai) (by omega) (by omega) (by omega) (Nat.le_refl _) (by omega) (jK [⟨#[120]⟩,⟨#[121]⟩,⟨#[122]⟩,⟨#[102]⟩] (by simp) _ (by intro s hs;simp only[List.mem_cons,List.not_mem_nil,or_false] at hs;rcases hs with rfl | rfl | rfl | rfl<;>exact⟨_,rfl⟩))).mono ?_;rintro e w4 ⟨nm,rfl,⟨x,hx⟩,hrd4,hc4⟩;have hnm:nm.size≤1:=by rw[hx,bs_size];simp
   have hadd:=fun W=>uR l x W (by omega);rw[←hx,HS0.out] at hadd;have hins:=pc x l;obtain⟨S1,hS1⟩ : ∃S,bs (fs x l)=S:=⟨_,rfl⟩
   rw[hS1] at hadd;have HS1:=zq hS1;have HADD:=zq hadd;clear hadd hS1 hx;have hw4:=hc4.size;simp only[World.size_alloc] at hw4;have hch4:=(hch3.trans (Chg.of_below ai)).trans hc4;have hR4:=aw (af hR3 ai) hc4 (by omega);have hE4:=aw (af hE3 ai) hc4 (by omega);clear hch3 hR3 hE3 hrd3 hc4;have e1:=ag hE4 (o:=1) rfl;have g1:=al hE4 1
   go_wp2_with fail
   refine(HADD.out _).mono ?_;rintro e w5 ⟨rfl,hb5⟩;have hw5:=hb5.size;have hrd5:=(hrd4.setCell (a:=⟨w2.heap.size,1,none⟩) (by show r<w2.heap.size;omega) (.string nm)).below hb5;have hch5:=(hch4.trans' (p:=⟨w2.heap.size,1,none⟩) (by show w.heap.size≤w2.heap.size;omega) (.string nm)).trans (Chg.of_below hb5);have hR5:=af (cy (p:=⟨w2.heap.size,1,none⟩) (v:=.string nm) hR4 (by show w.heap.size≠w2.heap.size;omega)) hb5;have hE5:=af (aI (o:=1) (v:=.string nm) (cs':=#[.int .i64 k,.string nm,.int .i64 0,.int .i64 0,.slice none 0 0,.int .i64 0,.slice none 0 0,.int .i64 0,.slice none 0 0]) hE4 rfl) hb5;have hlt5:=aC hE5;clear e1 g1 hch4 hR4 hE4 hrd4 hb5
   go_wp2_with fail
   go_meet
   case rel=>exact⟨fs x l,nm,p+3,by rw[HS1.out],hins,hnm,by omega,hrd5,hch5,hlt5,hR5,hE5⟩
  ·go_wp2_with fail
   go_meet
   case rel=>exact⟨l,{data:=#[]},p+2,by rw[HS0.out],by omega,by decide,by omega,hrd3,hch3,aC hE3,hR3,hE3⟩
 case rest=>
 obtain⟨l',nm,q3,rfl,hl',hnm,hq3,hrd3,hch3,hw3,hR3,hE3⟩:=hcut;clear hch2 hR2 hrd2
 go_upto_region 8 with fail
 go_cut [40] (fun s wx=>(∃bb:Bool,s = .bool bb)∧wx=wc)
 case first=>
  rcases Bool.eq_false_or_eq_true (k==5) with q5 | q5
  ·go_wp2_with fail
   go_meet
   case rel=>exact⟨⟨_,rfl⟩,rfl⟩
  ·go_wp2_with fail
   go_meet
   case rel=>exact⟨⟨_,rfl⟩,rfl⟩
 case rest=>
 obtain⟨⟨bb,rfl⟩,hwc⟩:=hcut;subst hwc
 go_upto_if 40 with fail
 go_cut [8] (fun s8 wx=>s8 = .pointer (some ⟨w2.heap.size,0,none⟩)∧∃(ty:Ty) (tk:Int) (tc:Option Addr) (tn tq q:Nat),ty.cnt≤6∧ao (w2.heap.size+1 ≤ ·) wx ty (.agg #[.int .i64 tk,.slice tc tn tq])∧q≤p+11∧aQ wx r q∧Chg [r] w wx∧w2.heap.size<wx.heap.size∧wx.heap[w.heap.size]?=some (.cells #[.int .i64 0,.string {data:=#[]},.int .i64 0,.int .i64 0,.slice none 0 0,.int .i64 0,.slice none 0 0,.int .i64 0,.slice none 0 0] 28 (0,0))∧wx.heap[w2.heap.size]?=some (.cells #[.int .i64 k,.string nm,.int .i64 0,.int .i64 tk,.slice tc tn tq,.int .i64 0,.slice none 0 0,.int .i64 0,.slice none 0 0] 28 (0,0)))
 case first=>
  cases bb
  rotate_left
  ·go_wp2_with fail
   refine(bJ (fun k=>1≤k∧k≤3) r q3 _ 4 4 _ (hrd3.below ai) (by omega) (by omega) (by omega) (Nat.le_refl _) (by omega) (bp [2,1,3,2] rfl _ (by decide))).mono ?_;rintro e w4 ⟨z,rfl,⟨z1,z3⟩,hrd4,hc4⟩;have hw4:=hc4.size;simp only[World.size_alloc] at hw4;have hch4:=(hch3.trans (Chg.of_below ai)).trans hc4;have hR4:=aw (af hR3 ai) hc4 (by omega);have hE4:=aw (af hE3 ai) hc4 (by omega);clear hch3 hR3 hE3 hrd3 hc4;obtain⟨z',rfl⟩:=Int.eq_ofNat_of_zero_le (show 0≤z by omega);have hz23:2 ^ z'≤2 ^ 3:=Nat.pow_le_pow_right (by omega) (by omega);have HZ:=zq hz23;clear hz23
   go_wp2_with fail
   refine(i4 z' r (q3+1) _ (by omega) (by omega) hrd4 (by have:=HZ.out;omega)).mono ?_;intro e w5 hd5;obtain⟨ty,v,q5',rfl,hcn,hv,hq5,hrd5,hc5⟩:=hd5.mono (show 2 ^ z'-1≤7 by have:=HZ.out;omega) (show 2 ^ z'≤8 by have:=HZ.out;omega);obtain⟨tk,tc,tn,tq,rfl⟩:=hv.shape;have hvr:=hv.rep;have hw5:=hc5.size;have hch5:=hch4.trans hc5;have hR5:=aw hR4 hc5;have hE5:=aw hE4 hc5;clear hch4 hR4 hE4 hrd4 hc5 hd5 hv;have e3:=ag hE5 (o:=3) rfl;have e4:=ag hE5 (o:=4) rfl;have g3:=al hE5 3;have g4:=al hE5 4
   go_wp2_with fail
   go_meet
   case rel=>
    refine⟨rfl,ty,tk,tc,tn,tq,q5',by omega,((hvr.lower (by omega)).setB (p:=⟨w2.heap.size,3,none⟩) (by show w2.heap.size<_;omega) _).setB (p:=⟨w2.heap.size,4,none⟩) (by show w2.heap.size<_;omega) _,by omega,(hrd5.setCell (a:=⟨w2.heap.size,3,none⟩) (by show r<w2.heap.size;omega) _).setCell (a:=⟨w2.heap.size,4,none⟩) (by show r<w2.heap.size;omega) _,
      (hch5.trans' (p:=⟨w2.heap.size,3,none⟩) (by show w.heap.size≤w2.heap.size;omega) _).trans' (p:=⟨w2.heap.size,4,none⟩) (by show w.heap.size≤w2.heap.size;omega) _,by simp[World.setCell];omega,
      cy (cy hR5 (by show w.heap.size≠w2.heap.size;omega)) (by show w.heap.size≠w2.heap.size;omega),aI (aI hE5 rfl) rfl⟩
  ·go_wp2_with fail
   go_meet
   case rel=>exact⟨rfl,.mk 0 [],0,none,0,0,q3,by simp[Ty.cnt,Ty.cnts],⟨_,rfl,aA.nil0⟩,by omega,hrd3,hch3,hw3,hR3,hE3⟩
 case rest=>
 obtain⟨rfl,ty,tk,tc,tn,tq,q4,hcty,hty,hq4,hrd4,hch4,hw4,hR4,hE4⟩:=hcut;clear hch3 hR3 hE3 hrd3 hw3;obtain⟨n,hn⟩ : ∃n:Nat,aD k=n:=⟨(aD k).toNat,by unfold aD;(repeat' split)<;>omega⟩
 have hn3:n≤3:=by have:=nV k;omega
 have HTK:=zq hn;have HL':=zq hl';clear hn;obtain⟨B2,hB2⟩ : ∃x,wc.heap.size=x:=⟨_,rfl⟩
 have hE2:w2.heap.size<B2:=by omega
 have htyb:ao (fun b=>w2.heap.size+1≤b∧b<B2) wc ty (.agg #[.int .i64 tk,.slice tc tn tq]):=hty.move (.weaken fun b hb hl=>⟨hb,by omega⟩);have HTY:=zq htyb;have HCH:=zq hch4;have HRR:=zq hR4;have HCTY:=zq hcty;have hBle:B2≤wc.heap.size:=by omega
 clear htyb hty hch4 hR4 hcty hB2;obtain⟨SS0,hSS⟩ : ∃S,bs l'=S:=⟨_,rfl⟩
 rw[hSS];have HSS:=zq hSS;clear hSS
 go_wp2_with fail
 go_loopw [9] (fun i wr=>∃j:Nat,j≤n∧i = .int .i64 j∧Hid (Chg [r] w wr)∧B2≤wr.heap.size∧Hid (wr.heap[w.heap.size]?=some (.cells #[.int .i64 0,.string {data:=#[]},.int .i64 0,.int .i64 0,.slice none 0 0,.int .i64 0,.slice none 0 0,.int .i64 0,.slice none 0 0] 28 (0,0)))∧Hid (ao (fun b=>w2.heap.size+1≤b∧b<B2) wr ty (.agg #[.int .i64 tk,.slice tc tn tq])) ∧
     ∃(ts:List Tm) (q cnt:Nat) (cv:Option Addr) (qv:Nat),Hid (Tm.cnts ts+j≤cnt)∧cnt≤j*(5*m+1)∧q≤q4+j*(5*m)∧aQ wr r q∧Hid (wr.heap[w2.heap.size]?=some (.cells #[.int .i64 k,.string nm,.int .i64 0,.int .i64 tk,.slice tc tn tq,.int .i64 0,.slice none 0 0,.int .i64 0,.slice cv j qv] 28 (0,0)))∧Hid (bG B2 28 9 wr (.slice cv j qv) j (Tm.rows ts))) (fun i _=>n-(intOf i).toNat)
 case atStart=>exact⟨0,by omega,rfl,HCH.out,by omega,HRR.out,HTY.out,[],q4,0,none,0,by simp[Hid,Tm.cnts],by omega,by omega,hrd4,hE4,by unfold Hid;rw[Tm.rows];exact bG.nil⟩
 case round=>
  obtain⟨j,hj,rfl,hcw,hsz,hRr,htyr,ts,q,cnt,cv,qv,hcs,hcb,hq,hrd,hE,hrow⟩:=hrel;clear hrd4 hE4
  go_wp2_with fail
  refine(cD k _).mono ?_;rintro e wk ⟨rfl,hbk⟩;rw[HTK.out];have hszk:B2≤wk.heap.size:=by have:=hbk.size;omega
  replace hrd:=hrd.below hbk;have hEk:=af hE.out hbk;have HRK:=zq (af hRr.out hbk);have HTYK:=zq (htyr.out.below hbk);have HCK:=zqb hcw hbk;have hrowk:=hrow.out.below hbk;have hrl:=hrd.1;clear hcw hRr htyr hE hrow hbk;have v8:=ag hEk (o:=8) rfl;have f8:=al hEk 8;have HEK:=zq hEk;clear hEk
  by_cases hlt:j<n
  ·have hjm:j*(5*m)≤2*(5*m):=Nat.mul_le_mul_right _ (by omega)
   have HQB:=zq (show q+5*m≤1125899906842000 by have:=HMM.out;have:=HM4.out;omega);have hwr:IntKind.i64.wrap ((d:Int)-1)=(d:Int)-1:=IntWalk.i64_in _ (by omega);have hc:=fun W (h:Below wk.heap.size wk W)=>IH2.out l' q W (by have:=HL'.out;omega) (hrd.below h) HQB.out;rw[HSS.out] at hc;have HC:=zq hc;clear hc;obtain⟨hlen,xs,ho,hvals⟩:=hrowk;have HLEN:=zq hlen;have HO:=zq ho;have HV:=zq hvals;have HCAP:=zq hn3;clear hlen ho hvals;clear hjm
   go_wp2_with fail
   go_region_law (first
     | (go_simp;go_at_call 90;(with_reducible refine(HC.out _ bdr).mono ?_);rintro e wc1 ⟨s1,v1,q1,rfl,hsc,hv1,hq1,hrd1,hch1⟩;obtain⟨kt,nm0,ut,tkt,tat,tnt,tqt,fkt,fat,fnt,fqt,lt,ct,mt,qt,rfl⟩:=hv1.shape;have hC1:=(Chg.of_below bdr).trans hch1;have hbz:=hch1.size;have hq1c:wc1.cell? ⟨w2.heap.size,8,none⟩=some (.slice cv j qv):=hC1.cellne (by show w2.heap.size≠r;omega) v8;have hl1:w2.heap.size<wc1.heap.size:=World.block_lt_of_cell? _ _ hq1c)
     | (refine step_append_lies _ (by rfl) (.tmp 54) (.tmp 60) 26 (by rfl) B2 28 i0 _ 9 128 Tryz.underlying26 HI.out Z0.out Z1.out Z2.out rfl (by omega) (.slice cv j qv) j xs (by rfl) (bZ HO.out (hC1.trans (Chg.of_below ai)) (by omega))
         ⟨wc1.heap.size,0,none⟩ 1 1 [.int .i64 kt,.string nm0,.int .i64 ut,.int .i64 tkt,.slice tat tnt tqt,.int .i64 fkt,.slice fat fnt fqt,.int .i64 lt,.slice ct mt qt] (by rfl) (by rfl) (World.news_of_block (cs:=#[.int .i64 kt,.string nm0,.int .i64 ut,.int .i64 tkt,.slice tat tnt tqt,.int .i64 fkt,.slice fat fnt fqt,.int .i64 lt,.slice ct mt qt]) (t:=28) (fr:=(0,0)) (heap_alloc_new wc1 _)) (by simp[Value.oneCell'])
         (by omega) (by have:=HCAP.out;unfold maxLen;omega) (by have:=HCAP.out;omega) (by simp at hbz ⊢;omega) _ rfl ?_
        intro gg cap2 w6 hown2 hgrow hat hlt2;have hC2:=hC1.trans (Chg.of_below (ai (o:=.cells #[.int .i64 kt,.string nm0,.int .i64 ut,.int .i64 tkt,.slice tat tnt tqt,.int .i64 fkt,.slice fat fnt fqt,.int .i64 lt,.slice ct mt qt] 28)));have hfar:=dQ hC2 HO.out hgrow;have hq:w6.cell? ⟨w2.heap.size,8,none⟩=some (.slice cv j qv):=(World.cell?_of_block (a:=⟨w2.heap.size,8,none⟩) (hfar (w2.heap.size) (by omega) (by omega) (by omega))).trans v8;have hqf:w6.frozen? ⟨w2.heap.size,8,none⟩=false:=(World.frozen?_of_block (a:=⟨w2.heap.size,8,none⟩) (hfar (w2.heap.size) (by omega) (by omega) (by omega))).trans f8;have HFAR:=zq hfar;have HROW:=zq (bG.push (r:=r) HLEN.out HO.out HV.out (by omega) hC2 (ax.srep ((hv1.lower (by simp)).below (ai (o:=.cells #[.int .i64 kt,.string nm0,.int .i64 ut,.int .i64 tkt,.slice tat tnt tqt,.int .i64 fkt,.slice fat fnt fqt,.int .i64 lt,.slice ct mt qt] 28)))) hszk hown2 hgrow (by simpa using hat));have HCW:=zq (dC HCK.out hC2 HO.out (by omega) hgrow);have HRD:=zq (aQ.grown (hrd1.below (ai (o:=.cells #[.int .i64 kt,.string nm0,.int .i64 ut,.int .i64 tkt,.slice tat tnt tqt,.int .i64 fkt,.slice fat fnt fqt,.int .i64 lt,.slice ct mt qt] 28))) HO.out (by omega) hgrow);have hsz6:wk.heap.size≤w6.heap.size:=Nat.le_trans hC2.size hgrow.size;clear hfar hown2 hgrow hat hq1c hC1 hC2 hrd1 hv1))
   all_goals
    have HW1:=zq hq1;have HW2:=zq hsc;clear hq1 hsc
    go_wp2_with fail
    go_roundw
    case rel=>
     have K:bl (fun b=>w2.heap.size+1≤b∧b<B2) (fun b=>w2.heap.size+1≤b∧b<B2) wk (w6.setCell ⟨w2.heap.size,8,none⟩ (.slice (some ⟨gg,0,none⟩) (j+1) cap2)):=
      ⟨by simp[World.setCell];exact hsz6,fun _ h _=>h,fun b hb hl=>(Below.heap_setCell w6 ⟨w2.heap.size,8,none⟩ _ b (by show b≠w2.heap.size;omega)).trans (HFAR.out b hl hb.2 (by omega))⟩
     have hE6:w6.heap[w2.heap.size]?=_:=(HFAR.out w2.heap.size (by omega) (by omega) (by omega)).trans HEK.out
     exact⟨j+1,by omega,by go_num,HCW.out.trans' (by show w.heap.size≤w2.heap.size;omega) _,by simp[World.setCell];omega,cy ((HFAR.out w.heap.size (by omega) (by omega) (by omega)).trans HRK.out) (by show w.heap.size≠w2.heap.size;omega),HTYK.out.move K,
       ts ++ [s1],q1,cnt+(5*m+1),some ⟨gg,0,none⟩,cap2,by unfold Hid;have:=hcs.out;have:=HW2.out;rw[Tm.cnts_append];simp only[Tm.cnts];omega,by rw[Nat.add_mul];omega,by have:=HW1.out;rw[Nat.add_mul];omega,HRD.out.setCell (by show r<w2.heap.size;omega) _,
       aI hE6 rfl,by
         have h:=HROW.out.setCell (p:=⟨w2.heap.size,8,none⟩) (by show w2.heap.size<B2;omega) (.slice (some ⟨gg,0,none⟩) (j+1) cap2);unfold Hid;rw[Tm.rows_eq,List.map_append,←Tm.rows_eq]
         exact h⟩
    case measure=>simp[intOf];omega
  ·skip
   have e0:=ag HEK.out (o:=0) rfl;have e1:=ag HEK.out (o:=1) rfl;have e2:=ag HEK.out (o:=2) rfl;have e3:=ag HEK.out (o:=3) rfl;have e4:=ag HEK.out (o:=4) rfl;have e5:=ag HEK.out (o:=5) rfl;have e6:=ag HEK.out (o:=6) rfl;have e7:=ag HEK.out (o:=7) rfl;have hR9:=HRK.out;have x0:=ag hR9 (o:=0) rfl;have f0:=al hR9 0;have x1:=ag hR9 (o:=1) rfl;have f1:=al hR9 1;have x2:=ag hR9 (o:=2) rfl;have f2:=al hR9 2;have x3:=ag hR9 (o:=3) rfl;have f3:=al hR9 3;have x4:=ag hR9 (o:=4) rfl;have f4:=al hR9 4;have x5:=ag hR9 (o:=5) rfl;have f5:=al hR9 5;have x6:=ag hR9 (o:=6) rfl;have f6:=al hR9 6;have x7:=ag hR9 (o:=7) rfl;have f7:=al hR9 7;have x8:=ag hR9 (o:=8) rfl;have f8:=al hR9 8;have hlR:=aC hR9;have hlE:=World.block_lt_of_cell? _ _ e0;have hrep:=ax.mk (k:=k) (u:=0) (l:=0) (nm:=nm) (fk:=0) (f:=.mk 0 []) (s2:=.slice none 0 0) (F:=(w2.heap.size+1 ≤ ·)) (show nm.size≤maxLen by unfold maxLen;omega) (HTYK.out.move (.weaken fun b hb _=>hb.1)) ⟨_,rfl,aA.nil0⟩ (show aN (w2.heap.size+1 ≤ ·) wk ts (.slice cv j qv) from aH.move (.weaken fun b hb _=>by have:B2≤b:=hb;omega) _ _ hrowk.rep);have hcnt:(Tm.mk k nm 0 ty (.mk 0 []) 0 ts).cnt≤5*M:=by
    have h1:=hcs.out;have h2:=HCTY.out;have h3:=HMM.out;have h4:=HM4.out;have h5:j*(5*m+1)≤3*(5*m+1):=Nat.mul_le_mul_right _ (by omega);have h6:=hrowk.1;rw[Tm.rows_length] at h6;simp only[Tm.cnt,Ty.cnt,Ty.cnts,List.length_nil]
    omega
   have hq5:q≤p+5*M:=by
    have h3:=HMM.out;have h4:=HM4.out;have h5:j*(5*m)≤3*(5*m):=Nat.mul_le_mul_right _ (by omega)
    omega
   have HEND:=zq (DTm.stored (r:=r) (p:=p) (c:=5*M) (m:=5*M) (w:=w) (q:=q) (R:=w.heap.size) (B:=w2.heap.size+1) (v0:=.int .i64 k) (v1:=.string nm) (v2:=.int .i64 0) (v3:=.int .i64 tk) (v4:=.slice tc tn tq) (v5:=.int .i64 0) (v6:=.slice none 0 0) (v7:=.int .i64 0) (v8:=.slice cv j qv) hrep hcnt (by omega) hq5 hrd HCK.out (Nat.le_refl _) (by omega) hrl0);clear hrep hcnt hq5 hrowk
   go_upto_region 14 with fail
   go_wp2_with fail
   refine bodyPost_ret (v:=.agg #[.int .i64 k,.string nm,.int .i64 0,.int .i64 tk,.slice tc tn tq,.int .i64 0,.slice none 0 0,.int .i64 0,.slice cv j qv]) (by simp[results,Tryz.results90,go_sem,x0,x1,x2,x3,x4,x5,x6,x7,x8]) rfl ?_
   exact HEND.out
theorem lP (d:Nat) : ∀(r p:Nat) (l:List UInt8) (w:World),1≤d→d≤8→l.length+d≤20→aQ w r p→p+5*4 ^ d≤1125899906842000 →
  Calls Tryz.prog 90 #[.pointer (some ⟨r,0,none⟩),.string (bs l),.int .i64 (d:Int)] w (DTm r p (5*4 ^ d) (5*4 ^ d) w):=
 fun r p l w hd1 hd8 hl hrd0 hp=>nP d r p l w hd1 hd8 hl hrd0 hp fun h2 l' p W a b c=>by
  have h:=lP (d-1) r p l' W (by omega) (by omega) a b c;rw[show((d-1:Nat):Int)=(d:Int)-1 from by omega] at h
  exact h
termination_by d
def RetAcc (k:Int)(ts:List Ty)(w:World)(e:Ending)(w':World):Prop:=∃(v:Value) (B:Nat),e = .returned (.agg #[.int .i64 k,v])∧w.heap.size≤B∧B≤w'.heap.size∧aL B 25 2 w' v ts.length (Ty.rows ts)∧Below w.heap.size w w'
theorem tU (F:Nat→Prop)(k:Int)(ts:List Ty) : ∀(y:Value) (w:World),ao F w (.mk k ts) y→(Ty.mk k ts).cnt≤1048576 →
  Calls Tryz.prog 81 #[y] w (RetAcc k ts w):=by
 intro y w hy hcnt;have IH : ∀t'∈ts,∀(y:Value) (W:World),ao F W t' y→Calls Tryz.prog 81 #[y] W (eP t' W):=
  fun t' ht y W h=>be F t' y W h (by have:=Ty.cnt_kid (t:=Ty.mk k ts) ht;omega)
 obtain⟨a,cap,rfl,h2,h3,hr⟩:=hy.open;simp only[Ty.kind,Ty.kids] at *;unfold maxLen at h3;have IHH:=zq IH;have HCN:=zq (show ts.length≤1048576 by simp only[Ty.cnt] at hcnt;omega);clear IH hy hcnt;unfold RetAcc;obtain⟨n,hn⟩ : ∃n,ts.length=n:=⟨_,rfl⟩
 rw[hn] at h2 hr HCN;rw[hn];have HN:=zq hn;clear hn;obtain⟨i0,hi,hz0,hz1,hz2⟩:=info_parts Tryz.infoTy;have Z0:=zq hz0;have Z1:=zq hz1;have Z2:=zq hz2;have HI:=zq hi;clear hz0 hz1 hz2 hi
 go_enter Tryz.func81,Tryz.ntmps81
 go_wp2_with fail
 go_loopw [4] (fun i wr=>∃j:Nat,j≤n∧i = .int .i64 j∧Below w.heap.size w wr∧w.heap.size+1+1<wr.heap.size∧(∃u,wr.cell? ⟨w.heap.size+1,0,none⟩=some u)∧(∃u,wr.cell? ⟨w.heap.size+1,1,none⟩=some u) ∧
     (∀o,wr.frozen? ⟨w.heap.size+1,o,none⟩=false)∧(∀o,wr.frozen? ⟨w.heap.size+1+1,o,none⟩=false)∧wr.cell? ⟨w.heap.size+1+1,0,none⟩=some (.int .i64 k)∧wr.cell? ⟨w.heap.size,1,none⟩=some (.slice a n cap) ∧
     ∃v,wr.cell? ⟨w.heap.size+1+1,1,none⟩=some v∧aL (w.heap.size+1+1+1) 25 2 wr v j (Ty.rows (ts.take j))) (fun i _=>n-(intOf i).toNat)
 case atStart=>exact⟨0,by omega,rfl,cB,by simp,⟨.int .i64 0,ah ai (bX 0)⟩,⟨.slice none 0 0,ah ai (bX 1)⟩,fun o=>cC ai (by simp) (fo o),fun o=>eQ o,cN 0,ah ai (ah ai (az 1)),.slice none 0 0,cN 1,by simpa [Ty.rows] using aL.nil _ _ _ _⟩
 case round=>
  obtain⟨j,hj,rfl,hbw,hsz,⟨u0,hu0⟩,⟨u1,hu1⟩,hf1,hf2,hk0,hlb0,v,hv,hacc⟩:=hrel
  by_cases hlt:j<n
  ·have hjt:j<ts.length:=by rw[HN.out];exact hlt
   obtain⟨b,off,k0,a0,m0,q0,rfl,l0,e0,e1,ht⟩:=hr.at hbw hjt;have HC:=zq (fun W (h:Below wr.heap.size wr W)=>IHH.out ts[j] (List.getElem_mem hjt) _ W (ht.below h));obtain⟨xs,fps,ho,hl,hs,hd,hfp⟩:=hacc;have HO:=zq ho;have HS:=zq hs;have HD:=zq hd;have HFP:=zq hfp;have HL:=zq hl;clear ho hs hd hfp hl;obtain⟨cv,qv,rfl⟩ : ∃c q,v = .slice c j q:=by
    rcases HO.out.2 with ⟨h,h0⟩ | ⟨g,cap,cur,h,_⟩
    ·exact⟨none,0,by rw[h,h0]⟩
    ·exact⟨_,cap,h⟩
   go_wp2_with fail
   have hB3:w.heap.size+1+1+1≤wr.heap.size:=by omega
   go_region_law (first
     | (go_simp;go_at_call 81;refine(HC.out _ bdr).mono ?_;rintro e w1 ⟨v1,rfl,hv1,hb1⟩;obtain⟨k1,c1,m1,q1,fp1,rfl,-,-,hs1,hd1,hx1⟩:=hv1.open;have hq1:w1.cell? ⟨w.heap.size+1+1,1,none⟩=some (.slice cv j qv):=ah (aj bdr hb1) hv;have hbz:=hb1.size;have hl1:w.heap.size+1+1<w1.heap.size:=World.block_lt_of_cell? _ _ hq1)
     | (refine step_append_lies _ (by rfl) (.tmp 16) (.tmp 23) 23 (by rfl) (w.heap.size+1+1+1) 25 i0 _ 2 32 Tryz.underlying23 HI.out Z0.out Z1.out Z2.out rfl (by omega) (.slice cv j qv) j xs (by rfl) (aP HO.out (aj (aj bdr hb1) ai))
         ⟨w1.heap.size,0,none⟩ 1 1 [.int .i64 k1,.slice c1 m1 q1] (by rfl) (by rfl) (World.news_of_block (cs:=#[.int .i64 k1,.slice c1 m1 q1]) (t:=25) (fr:=(0,0)) (heap_alloc_new w1 _)) (by simp[Value.oneCell'])
         (by omega) (by have:=HCN.out;unfold maxLen;omega) (by have:=HCN.out;omega) (by simp at hbz ⊢;omega) _ rfl ?_
        intro gg cap2 w2 hown2 hgrow hat hlt2;have hfar:=cr (aj (aj bdr hb1) ai) HO.out hgrow;have hq:w2.cell? ⟨w.heap.size+1+1,1,none⟩=some (.slice cv j qv):=(World.cell?_of_block (a:=⟨w.heap.size+1+1,1,none⟩) (hfar (w.heap.size+1+1) (by omega) (by omega))).trans hv;have hqf:w2.frozen? ⟨w.heap.size+1+1,1,none⟩=false:=(World.frozen?_of_block (a:=⟨w.heap.size+1+1,1,none⟩) (hfar (w.heap.size+1+1) (by omega) (by omega))).trans (hf2 _);have HFAR:=zq hfar;have hacc2:=aL.push HL.out HO.out HS.out HD.out HFP.out hB3 (aj (aj bdr hb1) ai) (by simp) (hs1.move _ _ _ fun b hb=>heap_alloc_old w1 _ (bf.lt _ _ _ hs1 b hb)) hd1 hx1 hown2 hgrow hat;have HACC:=zq hacc2;have hbel:=bj hbw (aj (aj bdr hb1) ai) HO.out (by omega) hgrow;have hsz2:wr.heap.size≤w2.heap.size:=Nat.le_trans (aj (aj bdr hb1) ai).size hgrow.size;clear hfar hacc2 hown2 hgrow hat hq1))
   all_goals
    go_wp2_with fail
    go_roundw
    case rel=>
     have c1:(w2.setCell ⟨w.heap.size+1+1,1,none⟩ (.slice (some ⟨gg,0,none⟩) (j+1) cap2)).heap[w.heap.size+1]?=wr.heap[w.heap.size+1]?:=
      (Below.heap_setCell w2 ⟨w.heap.size+1+1,1,none⟩ _ _ (by show w.heap.size+1≠w.heap.size+1+1;omega)).trans (HFAR.out (w.heap.size+1) (by omega) (by omega))
     have hk2:=(World.cell?_of_block (a:=⟨w.heap.size+1+1,0,none⟩) (HFAR.out (w.heap.size+1+1) (by omega) (by omega))).trans hk0;have hf4:=fun o=>(World.frozen?_of_block (a:=⟨w.heap.size+1+1,o,none⟩) (HFAR.out (w.heap.size+1+1) (by omega) (by omega))).trans (hf2 o);refine⟨j+1,by omega,by go_num,hbel.setCell (by show w.heap.size≤w.heap.size+1+1;omega) _,by simp[World.setCell];omega,⟨u0,(World.cell?_of_block (a:=⟨w.heap.size+1,0,none⟩) c1).trans hu0⟩,⟨u1,(World.cell?_of_block (a:=⟨w.heap.size+1,1,none⟩) c1).trans hu1⟩,
       fun o=>(World.frozen?_of_block (a:=⟨w.heap.size+1,o,none⟩) c1).trans (hf1 o),fun o=>(dK _ _ _ _).trans (hf4 o),cA hk2 (by simp),(World.cell?_of_block (a:=⟨w.heap.size,1,none⟩) ((Below.heap_setCell w2 ⟨w.heap.size+1+1,1,none⟩ _ _ (by show w.heap.size≠w.heap.size+1+1;omega)).trans (HFAR.out (w.heap.size) (by omega) (by omega)))).trans hlb0,_,bE hq,?_⟩
     have h:=HACC.out.setCell (p:=⟨w.heap.size+1+1,1,none⟩) (by show w.heap.size+1+1<w.heap.size+1+1+1;omega) (.slice (some ⟨gg,0,none⟩) (j+1) cap2);rw[Ty.rows_eq] at h ⊢;rw[List.take_succ_eq_append_getElem hjt,List.map_append]
     exact h
    case measure=>simp[intOf];omega
  ·obtain⟨cv,qv,rfl⟩:=hacc.shape
   have f0:=hf1 0;have f1:=hf1 1
   go_wp2_with fail
   refine bodyPost_ret (v:=.agg #[.int .i64 k,.slice cv j qv]) (by simp[results,Tryz.results81,go_sem,hu0,hu1]) rfl ?_;have hjn:j=n:=by omega
   rw[List.take_of_length_le (by rw[HN.out];omega)] at hacc;subst hjn;refine⟨_,w.heap.size+1+1+1,rfl,by omega,by simp[World.setCell];omega,(hacc.setCell (p:=⟨w.heap.size+1,0,none⟩) (by show w.heap.size+1<w.heap.size+1+1+1;omega) _).setCell (p:=⟨w.heap.size+1,1,none⟩) (by show w.heap.size+1<w.heap.size+1+1+1;omega) _,?_⟩
   exact(hbw.setCell (by show w.heap.size≤w.heap.size+1;omega) _).setCell (by show w.heap.size≤w.heap.size+1;omega) _
theorem aL.chg {B r:Nat}{e:TypeId}{size n:Nat}{w w':World}{v:Value}{rows:List (List C)}(h:aL B e size w v n rows)(k:Chg [r] w w')(hr:r<B):aL B e size w' v n rows:=by
 obtain⟨xs,fps,h1,h2,h3,h4,h5⟩:=h
 exact⟨xs,fps,bZ h1 k hr,h2,h3.move _ _ _ (fun b hx=>k.block b (b5.lt _ _ _ h3 b hx) (by have:=(h5 b hx).1;simp;omega)),h4,h5⟩
def Off (B o:Nat)(b:Nat):Prop:=B≤b∧b≠o
theorem ao.offSet {B o:Nat}{w:World}{t:Ty}{y:Value}(h:ao (Off B o) w t y){p:Addr}(hp:p.block<B∨p.block=o)(v:Value):ao (Off B o) (w.setCell p v) t y:=
 h.move ⟨by simp[World.setCell],fun _ h _=>h,fun b hb _=>Below.heap_setCell w p v b (fun e=>by rcases hp with hp | hp;exact absurd hb.1 (by omega);exact hb.2 (e.trans hp))⟩
theorem ao.offTwo {B o:Nat}{w:World}{b cap:Nat}{k:Int}{t u:Ty}{k1 k2:Int}{c1 c2:Value}(hF:Off B o b)(hc:2≤cap)(hm:cap≤maxLen)
  (e0:w.cell? ⟨b,0,none⟩=some (.int .i64 k1)) (e1:w.cell? ⟨b,1,none⟩=some c1) (e2:w.cell? ⟨b,2,none⟩=some (.int .i64 k2)) (e3:w.cell? ⟨b,3,none⟩=some c2)
  (ht:ao (Off B o) w t (.agg #[.int .i64 k1,c1])) (hu:ao (Off B o) w u (.agg #[.int .i64 k2,c2])):ao (Off B o) w (Ty.mk k [t,u]) (.agg #[.int .i64 k,.slice (some ⟨b,0,none⟩) 2 cap]):=ao.two_mk hF hc hm e0 e1 e2 e3 ht hu
theorem jQ {r p q m B o R:Nat}{w w0:World}{u:Ty}{k:Int}{c:Value}(hch:Chg [r] w w0)(hrd:aQ w0 r q)(hq:q≤p+200)(hu:ao (Off B o) w0 u (.agg #[.int .i64 k,c]))(hm:u.cnt≤m)(hB:w.heap.size≤B)(hR:w.heap.size≤R)(hRB:R<B)(hrR:r<R) :
  DT r p m w (.returned (.agg #[.int .i64 k,c])) ((w0.setCell ⟨R,0,none⟩ (.int .i64 k)).setCell ⟨R,1,none⟩ c):=
 ⟨u,_,q,rfl,hm,ao.move ((hu.offSet (.inl hRB) _).offSet (.inl hRB) _) (.weaken fun b hb _=>Nat.le_trans hB hb.1),hq,(hrd.setCell (by exact hrR) _).setCell (by exact hrR) _,(hch.trans' hR _).trans' hR _⟩
theorem bg.off {B o:Nat}{w:World}{ts:List Ty}{y:Value}(k:Int)(h:bg B w ts y)(ho:o<B):ao (Off B o) w (.mk k ts) (.agg #[.int .i64 k,y]):=
 (bg.ty (k:=k) h).rep.move (.weaken fun b hb _=>⟨hb,by show b≠o;have:B≤b:=hb;omega⟩)
theorem tT {P:Nat→Prop}{B:Nat}{e:TypeId}{size n:Nat}{w:World}{v:Value}{xs:List Value}{rows:List (List C)}{fps:List Nat}(h:w.ownsRow B e size v n xs)(h2:rows.length=n)(h3:b5 w rows xs fps)
  (hP : ∀x∈fps,P x) (hg : ∀g,v.ownBlock=some g→P g):aH P w (.sl rows) v:=by
 obtain⟨hl,h1⟩:=h
 rcases h1 with ⟨rfl,rfl⟩ | ⟨g,cap,cur,rfl,hb,hgb,hn,hc,hs,ht⟩
 ·obtain rfl:rows = []:=List.eq_nil_of_length_eq_zero h2
  unfold aH
  exact⟨none,0,rfl,Nat.le_refl _,by unfold maxLen;omega,.inl rfl⟩
 ·have hr:aG w g 0 rows fps:=h3.rows _ _ _ 0 (fun i hi=>by
     rw[←ht] at hi ⊢;simp only[World.cell?,hgb];simp only[List.length_take] at hi
     simp
     rw[List.getElem?_take_of_lt (by omega),Array.getElem?_toList])
  unfold aH
  exact⟨_,cap,by rw[h2],by omega,hc,.inr ⟨g,0,rfl,hg g rfl,(Array.getElem?_eq_some_iff.1 hgb).1,aG.rep 0 rows fps hP hr⟩⟩
theorem jF (r p m:Nat)(t:Ty)(y:Value)(w:World)(h:aQ w r p)(ht:ao (· ≠ r) w t y)(hm:t.cnt≤m)(hm2:m≤100)(hp:p≤1000000000) :
  Calls Tryz.prog 48 #[.pointer (some ⟨r,0,none⟩),y] w (DT r p (m+10) w):=by
 obtain⟨k0,a0,n0,q0,rfl⟩:=ht.shape;have hrl:=h.1
 cases t with | mk kt ts=>
 obtain⟨i0,hi,hz0,hz1,hz2⟩:=info_parts Tryz.infoTy;have Z0:=zq hz0;have Z1:=zq hz1;have Z2:=zq hz2;have HI:=zq hi;clear hz0 hz1 hz2 hi;have hcn:ts.length+Ty.cnts ts≤m:=by simpa only[Ty.cnt] using hm
 go_enter Tryz.func48,Tryz.ntmps48
 go_wp2_with fail
 refine(tU _ kt ts _ _ (ht.below aT) (by omega)).mono ?_;rintro e w1 ⟨v,B,rfl,hB1,hB2,hacc,hb1⟩;clear ht hm;simp only[World.size_alloc] at hB1;obtain⟨cv,qv,rfl⟩:=hacc.shape;have hz1:=hb1.size;simp only[World.size_alloc] at hz1;have x0:w1.cell? ⟨w.heap.size+1,0,none⟩=some (.int .i64 0):=ah hb1 (bX 0);have x1:w1.cell? ⟨w.heap.size+1,1,none⟩=some (.slice none 0 0):=ah hb1 (bX 1);have f0:w1.frozen? ⟨w.heap.size+1,0,none⟩=false:=cC hb1 (by simp) (fo 0);have f1:w1.frozen? ⟨w.heap.size+1,1,none⟩=false:=cC hb1 (by simp) (fo 1);have hrd1:=(h.below aT).below hb1;have hch1:Chg [r] w w1:=Chg.of_below (aj aT hb1);clear h
 go_wp2_with fail
 refine(bo r p 40 _ (hrd1.below ai) (by omega) (by omega)).mono ?_;rintro e w2 ⟨pk,rfl,pk0,pk4,hrd2,hc2⟩;have hch2:Chg [r] w w2:=(hch1.trans (Chg.of_below ai)).trans hc2;have hz2:=hc2.size;simp only[World.size_alloc] at hz2;have o0:w2.cell? ⟨w1.heap.size,0,none⟩=some (.int .i64 kt):=aK hc2 (by omega) (az 0);have o1:w2.cell? ⟨w1.heap.size,1,none⟩=some (.slice cv ts.length qv):=aK hc2 (by omega) (az 1);have g0:w2.frozen? ⟨w1.heap.size,0,none⟩=false:=aR hc2 (by omega) (az 0) (aV 0);have g1:w2.frozen? ⟨w1.heap.size,1,none⟩=false:=aR hc2 (by omega) (az 1) (aV 1);replace f0:w2.frozen? ⟨w.heap.size+1,0,none⟩=false:=aR hc2 (by omega) (ah ai x0) (aO ai x0 f0);replace f1:w2.frozen? ⟨w.heap.size+1,1,none⟩=false:=aR hc2 (by omega) (ah ai x1) (aO ai x1 f1);replace x0:w2.cell? ⟨w.heap.size+1,0,none⟩=some (.int .i64 0):=aK hc2 (by omega) (ah ai x0);replace x1:w2.cell? ⟨w.heap.size+1,1,none⟩=some (.slice none 0 0):=aK hc2 (by omega) (ah ai x1);have hlto:w1.heap.size<w2.heap.size:=by omega
 have hreps:ao (Off B w1.heap.size) w2 (.mk kt ts) (.agg #[.int .i64 kt,.slice cv ts.length qv]):=by
  have h1:ao (Off B w1.heap.size) w1 (.mk kt ts) (.agg #[.int .i64 kt,.slice cv ts.length qv]):=by
   obtain⟨fp,e1,e2,e3⟩:=hacc.own
   exact⟨_,rfl,aF.rep _ _ _ (fun b hb=>⟨e3 b hb,fun e=>by have:=aF.lt _ _ _ e1 b hb;omega⟩) e1⟩
  exact(h1.below ai).move (hc2.keeps (fun b hb=>by have:=hb.1;simp;omega))
 have HREP:=zq (fun(k':Int)=>(show ao (Off B w1.heap.size) w2 (.mk k' ts) (.agg #[.int .i64 k',.slice cv ts.length qv]) from⟨_,rfl,hreps.parts.2⟩));clear hreps
 by_cases h1:pk=0
 ·subst h1
  clear pk0 pk4 hacc
  go_wp2_with fail
  refine(bJ (fun _=>True) r (p+1) _ 5 5 _ (hrd2.below ai) (by omega) (by omega) (by omega) (Nat.le_refl _) (by omega) (bp [0,6,1,4,-1] rfl _ (fun _ _=>trivial))).mono ?_;rintro e w3 ⟨kn,rfl,-,hrd3,hc3⟩;have hrep3:=((HREP.out kn).below ai).move (hc3.keeps (fun b hb=>by have:=hb.1;simp;omega));have hch3:=(hch2.trans (Chg.of_below ai)).trans hc3;replace g0:w3.frozen? ⟨w1.heap.size,0,none⟩=false:=aR hc3 (by omega) (ah ai o0) (aO ai o0 g0);replace o0:w3.cell? ⟨w1.heap.size,0,none⟩=some (.int .i64 kt):=aK hc3 (by omega) (ah ai o0);replace o1:w3.cell? ⟨w1.heap.size,1,none⟩=some (.slice cv ts.length qv):=aK hc3 (by omega) (ah ai o1);replace f0:w3.frozen? ⟨w.heap.size+1,0,none⟩=false:=aR hc3 (by omega) (ah ai x0) (aO ai x0 f0);replace f1:w3.frozen? ⟨w.heap.size+1,1,none⟩=false:=aR hc3 (by omega) (ah ai x1) (aO ai x1 f1);replace x0:w3.cell? ⟨w.heap.size+1,0,none⟩=some (.int .i64 0):=aK hc3 (by omega) (ah ai x0);replace x1:w3.cell? ⟨w.heap.size+1,1,none⟩=some (.slice none 0 0):=aK hc3 (by omega) (ah ai x1);have HEND:=zq (jQ (R:=w.heap.size+1) (m:=m+10) (p:=p) (hch3.trans' (p:=⟨w1.heap.size,0,none⟩) (by show w.heap.size≤w1.heap.size;omega) (.int .i64 kn)) (hrd3.setCell (a:=⟨w1.heap.size,0,none⟩) (by show r<w1.heap.size;omega) (.int .i64 kn)) (by omega) (hrep3.offSet (p:=⟨w1.heap.size,0,none⟩) (.inr rfl) (.int .i64 kn)) (by simp only[Ty.cnt];omega) (by omega) (by omega) (by omega) (by omega));have hne:w1.heap.size≠w.heap.size+1:=by omega
  have hne':w.heap.size+1≠w1.heap.size:=by omega
  go_wp2_with fail
  refine bodyPost_ret (v:=.agg #[.int .i64 kn,.slice cv ts.length qv]) (by simp[results,Tryz.results48,go_sem,x0,x1]) rfl ?_
  exact HEND.out
 by_cases h2:pk=1
 ·subst h2
  clear pk0 pk4 HREP h1;obtain⟨xs,fps,ho1,hl,hs1,hd,hfp⟩:=hacc;obtain⟨n,hn⟩ : ∃n,ts.length=n:=⟨_,rfl⟩
  rw[hn] at o1 ho1 hl hcn hc2 hfp;have HN:=zq hn;clear hn;have HOLT:=zq (fun(g:Nat) (hg:(Value.slice cv n qv).ownBlock=some g)=>ho1.lt g hg);have HFPL:=zq (fun(b:Nat) (hb:b∈fps)=>b5.lt _ _ _ hs1 b hb);have HO:=zq (bZ (aP ho1 (ai (o:=.cells #[.int .i64 kt,.slice cv n qv] 25))) hc2 (show r<B by omega));have HS:=zq ((hs1.move (w':=w1.alloc (.cells #[.int .i64 kt,.slice cv n qv] 25)) _ _ _ (fun b hx=>heap_alloc_old w1 _ (b5.lt _ _ _ hs1 b hx))).move (w':=w2) _ _ _ (fun b hx=>hc2.block b (by have:=b5.lt _ _ _ hs1 b hx;simp;omega) (by have:=(hfp b hx).1;simp;omega)));have HFP:=zq hfp;have HL:=zq hl;have HLEN:=zq (show n≤100 by omega);clear ho1 hs1 hd hfp hl;have hB3:B≤w2.heap.size:=by omega
  go_wp2_with fail
  go_region_law (first
    | (go_simp;go_at_call 50;refine(cZ _).mono ?_;rintro e w3 ⟨v3,rfl,hv3,hb3⟩;obtain⟨k3,c3,m3,q3,fp3,rfl,-,-,hs3,hd3,hx3⟩:=hv3.open;have hqq:w3.cell? ⟨w1.heap.size,1,none⟩=some (.slice cv n qv):=ah (aj bdr hb3) o1;have hbz:=hb3.size;have hl3:=World.block_lt_of_cell? _ _ hqq)
    | (refine step_append_lies _ (by rfl) (.tmp 20) (.tmp 22) 23 (by rfl) (B) 25 i0 _ 2 32 Tryz.underlying23 HI.out Z0.out Z1.out Z2.out rfl (by omega) (.slice cv n qv) n xs (by rfl) (aP HO.out (aj (aj bdr hb3) ai))
        ⟨w3.heap.size,0,none⟩ 1 1 [.int .i64 k3,.slice c3 m3 q3] (by rfl) (by rfl) (World.news_of_block (cs:=#[.int .i64 k3,.slice c3 m3 q3]) (t:=25) (fr:=(0,0)) (heap_alloc_new w3 _)) (by simp[Value.oneCell'])
        (by omega) (by have:=HLEN.out;unfold maxLen;omega) (by have:=HLEN.out;omega) (by simp at hbz ⊢;omega) _ rfl ?_
       intro gg cap2 w4 hown2 hgrow hat hlt2;have hW:=aj (aj bdr hb3) (ai (o:=.cells #[.int .i64 k3,.slice c3 m3 q3] 25));have hfar : ∀b,b<w2.heap.size→(Value.slice cv n qv).ownBlock≠some b→w4.heap[b]?=w2.heap[b]?:=fun b hl hn=>(hgrow.block b (Nat.lt_of_lt_of_le hl hW.size) (fun e=>hn e.symm)).trans (hW.block b hl);have hno : ∀b,w1.heap.size≤b∨b<B→(Value.slice cv n qv).ownBlock≠some b:=fun b hb e=>by have:=HOLT.out b e;omega
       have hq:w4.cell? ⟨w1.heap.size,1,none⟩=some (.slice cv n qv):=(World.cell?_of_block (a:=⟨w1.heap.size,1,none⟩) (hfar (w1.heap.size) (by omega) (hno _ (.inl (Nat.le_refl _))))).trans o1;have hqf:w4.frozen? ⟨w1.heap.size,1,none⟩=false:=(World.frozen?_of_block (a:=⟨w1.heap.size,1,none⟩) (hfar (w1.heap.size) (by omega) (hno _ (.inl (Nat.le_refl _))))).trans g1;have HFAR:=zq hfar;have HNO:=zq hno;have hS4:=b5.snoc (HS.out.move (w':=w4) _ _ _ fun b hb=>hfar b (by have:=HFPL.out b hb;omega) (HFP.out b hb).2)
          ((hs3.move _ _ _ fun b hb=>heap_alloc_old w3 (.cells #[.int .i64 k3,.slice c3 m3 q3] 25) (bf.lt _ _ _ hs3 b hb)).move (w':=w4) _ _ _ fun b hb=>hgrow.block b (by have:=bf.lt _ _ _ hs3 b hb;simp;omega) (fun e=>hno b (.inl (by have:=hx3 b hb;simp at this;omega)) e.symm))
       have hP4 : ∀x∈fps++fp3,Off B w1.heap.size x:=fun x hx=>by
         rcases List.mem_append.1 hx with hx | hx
         · exact⟨(HFP.out x hx).1,by have:=HFPL.out x hx;omega⟩
         · have:=hx3 x hx;simp at this;exact⟨by omega,by omega⟩
       have hG4 : ∀g,(Value.slice (some ⟨gg,0,none⟩) (n+1) cap2).ownBlock=some g→Off B w1.heap.size g:=fun g hg=>by
         simp only[Value.ownBlock,Option.some.injEq] at hg;subst hg
         rcases hat with hat | hat
         · have:=HOLT.out _ hat;exact⟨this.1,by omega⟩
         · simp at hat hbz;exact⟨by omega,by omega⟩
       have HREP:=zq (tT hown2 (by simp[HL.out]) hS4 hP4 hG4);have HBEL:=zq (dC hch2 (Chg.of_below hW) HO.out (by omega) hgrow);have HRD:=zq (aQ.grown (((hrd2.below bdr).below hb3).below ai) HO.out (by omega) hgrow);have hsz4:w2.heap.size≤w4.heap.size:=Nat.le_trans hW.size hgrow.size;clear hfar hno hS4 hP4 hG4 hown2 hgrow hat hqq hW hs3 hx3 hd3))
  all_goals
   have HR2:=zq (show ao (Off B w1.heap.size) w4 (.mk kt (ts ++ [.mk 1 []])) (.agg #[.int .i64 kt,.slice (some ⟨gg,0,none⟩) (n+1) cap2]) from⟨_,rfl,by
     have h:=HREP.out
     show aH _ _ (.sl (Ty.rows (ts ++ [.mk 1 []]))) _
     rw[Ty.rows_eq] at h ⊢
     simpa using h⟩)
   clear HREP;have HEND:=zq (jQ (R:=w.heap.size+1) (m:=m+10) (p:=p) (HBEL.out.trans' (p:=⟨w1.heap.size,1,none⟩) (by show w.heap.size≤w1.heap.size;omega) (.slice (some ⟨gg,0,none⟩) (n+1) cap2)) (HRD.out.setCell (a:=⟨w1.heap.size,1,none⟩) (by show r<w1.heap.size;omega) (.slice (some ⟨gg,0,none⟩) (n+1) cap2)) (by omega) (HR2.out.offSet (p:=⟨w1.heap.size,1,none⟩) (.inr rfl) (.slice (some ⟨gg,0,none⟩) (n+1) cap2)) (by simp[Ty.cnt,Ty.cnts_append,Ty.cnts,HN.out];omega) (by omega) (by omega) (by omega) (by omega));have hq0:w4.cell? ⟨w1.heap.size,0,none⟩=some (.int .i64 kt):=(World.cell?_of_block (a:=⟨w1.heap.size,0,none⟩) (HFAR.out (w1.heap.size) (by omega) (HNO.out _ (.inl (Nat.le_refl _))))).trans o0;replace f0:w4.frozen? ⟨w.heap.size+1,0,none⟩=false:=(World.frozen?_of_block (a:=⟨w.heap.size+1,0,none⟩) (HFAR.out (w.heap.size+1) (by omega) (HNO.out (w.heap.size+1) (.inr (by omega))))).trans f0;replace f1:w4.frozen? ⟨w.heap.size+1,1,none⟩=false:=(World.frozen?_of_block (a:=⟨w.heap.size+1,1,none⟩) (HFAR.out (w.heap.size+1) (by omega) (HNO.out (w.heap.size+1) (.inr (by omega))))).trans f1;replace x0:w4.cell? ⟨w.heap.size+1,0,none⟩=some (.int .i64 0):=(World.cell?_of_block (a:=⟨w.heap.size+1,0,none⟩) (HFAR.out (w.heap.size+1) (by omega) (HNO.out (w.heap.size+1) (.inr (by omega))))).trans x0;replace x1:w4.cell? ⟨w.heap.size+1,1,none⟩=some (.slice none 0 0):=(World.cell?_of_block (a:=⟨w.heap.size+1,1,none⟩) (HFAR.out (w.heap.size+1) (by omega) (HNO.out (w.heap.size+1) (.inr (by omega))))).trans x1;have hne:w1.heap.size≠w.heap.size+1:=by omega
   have hne':w.heap.size+1≠w1.heap.size:=by omega
   go_wp2_with fail
   refine bodyPost_ret (v:=.agg #[.int .i64 kt,.slice (some ⟨gg,0,none⟩) (n+1) cap2]) (by simp[results,Tryz.results48,go_sem,x0,x1]) rfl ?_
   exact HEND.out
 by_cases h3:pk=2
 ·subst h3
  clear pk0 pk4 hacc h1 h2
  go_wp2_with fail
  go_loopw [6] (fun i wr=>∃j:Nat,j≤4∧i = .int .i64 j∧Chg [r] w wr∧w1.heap.size<wr.heap.size∧aQ wr r (p+1)∧wr.cell? ⟨w.heap.size+1,0,none⟩=some (.int .i64 0)∧wr.cell? ⟨w.heap.size+1,1,none⟩=some (.slice none 0 0) ∧
      wr.frozen? ⟨w.heap.size+1,0,none⟩=false∧wr.frozen? ⟨w.heap.size+1,1,none⟩=false∧wr.frozen? ⟨w1.heap.size,0,none⟩=false∧wr.frozen? ⟨w1.heap.size,1,none⟩=false ∧
      ∃(u:Ty) (k:Int) (a:Option Addr) (n q:Nat),u.cnt≤m+2*j∧wr.cell? ⟨w1.heap.size,0,none⟩=some (.int .i64 k)∧wr.cell? ⟨w1.heap.size,1,none⟩=some (.slice a n q)∧ao (Off B w1.heap.size) wr u (.agg #[.int .i64 k,.slice a n q])) (fun i _=>4-(intOf i).toNat)
  case atStart=>exact⟨0,by omega,rfl,hch2,hlto,hrd2,x0,x1,f0,f1,g0,g1,.mk kt ts,kt,cv,ts.length,qv,by simp only[Ty.cnt];omega,o0,o1,HREP.out kt⟩
  case round=>
   obtain⟨j,hj,rfl,hcr,hlr,hrdr,y0,y1,fy0,fy1,go0,go1,u,k,a,n,q,hcu,c0,c1,hu⟩:=hrel
   by_cases hlt:j<4
   ·go_wp2_with fail
    go_region_law (go_simp;go_at_call 50;refine(cZ _).mono ?_;rintro e w3 ⟨v3,rfl,hv3,hb3⟩;obtain⟨k3,a3,n3,q3,rfl⟩:=hv3.shape;have fo0:w3.frozen? ⟨w1.heap.size,0,none⟩=false:=aO hb3 (av c0) (dfro go0);have fo1:w3.frozen? ⟨w1.heap.size,1,none⟩=false:=aO hb3 (av c1) (dfro go1);have co0:w3.cell? ⟨w1.heap.size,0,none⟩=some (.int .i64 k):=ah hb3 (av c0);have co1:w3.cell? ⟨w1.heap.size,1,none⟩=some (.slice a n q):=ah hb3 (av c1);have d0:=World.block_lt_of_cell? _ _ co0;have hbz:=hb3.size)
    all_goals
     go_wp2_with fail
     go_roundw
     case rel=>
      have hu3:=(hu.below bdr).below hb3;have hv3':ao (Off B w1.heap.size) w3 (.mk 1 []) (.agg #[.int .i64 k3,.slice a3 n3 q3]):=
       hv3.rep.move (.weaken fun b hb _=>⟨by have:wr.drew.heap.size≤b:=hb;simp at this;omega,by show b≠w1.heap.size;have:wr.drew.heap.size≤b:=hb;simp at this;omega⟩)
      simp only[World.size_drew] at hbz;have hB3:B≤w3.heap.size:=by omega
      have ho3:w3.heap.size≠w1.heap.size:=by omega
      have hO:w.heap.size≤w1.heap.size:=by omega
      have hR:w.heap.size+1≠w1.heap.size:=by omega
      have hrO:r<w1.heap.size:=by omega
      have st : ∀(t':Ty) (v':Value),ao (Off B w1.heap.size) w3 t' v'→ao (Off B w1.heap.size) (((w3.setCell ⟨w1.heap.size,0,none⟩ (.int .i64 4)).setCell ⟨w1.heap.size,1,none⟩ (.slice (some ⟨w3.heap.size,0,none⟩) 2 2)).alloc (.cells #[.int .i64 k3,.slice a3 n3 q3,.int .i64 k,.slice a n q] 25)) t' v':=
       fun t' v' h=>((h.offSet (.inr rfl) _).offSet (.inr rfl) _).below ai
      have htwo:=ao.offTwo (k:=4) (B:=B) (o:=w1.heap.size) (b:=w3.heap.size) (cap:=2) ⟨hB3,ho3⟩ (Nat.le_refl _) (by unfold maxLen;omega) (ap (by simp[World.setCell]) 0) (ap (by simp[World.setCell]) 1) (ap (by simp[World.setCell]) 2) (ap (by simp[World.setCell]) 3) (st _ _ hv3') (st _ _ hu3);have e0:=ah hb3 (av y0);have e1:=ah hb3 (av y1)
      exact⟨j+1,by omega,by go_num,((((hcr.trans (Chg.of_below bdr)).trans (Chg.of_below hb3)).trans' hO _).trans' hO _).trans (Chg.of_below ai),by simp[World.setCell];omega,
        ((((hrdr.below bdr).below hb3).setCell (a:=⟨w1.heap.size,0,none⟩) hrO _).setCell (a:=⟨w1.heap.size,1,none⟩) hrO _).below ai,
        ah ai (b8 (b8 e0 hR) hR),ah ai (b8 (b8 e1 hR) hR),
        aO ai (b8 (b8 e0 hR) hR) (eN (eN (aO hb3 (av y0) (dfro fy0)))),aO ai (b8 (b8 e1 hR) hR) (eN (eN (aO hb3 (av y1) (dfro fy1)))),
        aO ai (cA (bE co0) (by simp)) (eN (eN fo0)),aO ai (bE (cA co1 (by simp))) (eN (eN fo1)),
        .mk 4 [.mk 1 [],u],4,_,_,_,by simp[Ty.cnt,Ty.cnts];omega,ah ai (cA (bE co0) (by simp)),ah ai (bE (cA co1 (by simp))),htwo⟩
     case measure=>simp[intOf];omega
   ·have HEND:=zq (jQ (R:=w.heap.size+1) (m:=m+10) (p:=p) hcr hrdr (by omega) hu (by omega) (by omega) (by omega) (by omega) (by omega))
    have hne':w.heap.size+1≠w1.heap.size:=by omega
    go_wp2_with fail
    refine bodyPost_ret (v:=.agg #[.int .i64 k,.slice a n q]) (by simp[results,Tryz.results48,go_sem,y0,y1]) rfl ?_
    exact HEND.out
 ·have e0:(pk==0)=false:=by simpa using h1
  have e1:(pk==1)=false:=by simpa using h2
  have e2:(pk==2)=false:=by simpa using h3
  clear h1 h2 h3 pk0 pk4 hacc;have HEND:=zq (jQ (R:=w.heap.size+1) (m:=m+10) (p:=p) hch2 hrd2 (by omega) (HREP.out kt) (by simp only[Ty.cnt];omega) (by omega) (by omega) (by omega) (by omega));have hne':w.heap.size+1≠w1.heap.size:=by omega
  go_wp2_with fail
  refine bodyPost_ret (v:=.agg #[.int .i64 kt,.slice cv ts.length qv]) (by simp[results,Tryz.results48,go_sem,x0,x1]) rfl ?_
  exact HEND.out
end Go.Proofs.YtfahhonmiimmdaaGreat

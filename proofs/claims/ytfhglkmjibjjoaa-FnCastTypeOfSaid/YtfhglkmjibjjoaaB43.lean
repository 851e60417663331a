/- spec.l4Random. -/
import Derived.Test.YtfhglkmjibjjoaaB36
set_option linter.unusedSimpArgs false
set_option linter.unusedVariables false
set_option maxRecDepth 100000
set_option maxHeartbeats 16000000
namespace Go.Proofs.Ytfhglkmjibjjoaa
open Go.RowKit
theorem mo (r p:Nat)(w:World)(hrd0:aR w r p)(hp:p<=700000000):Calls Try.prog 24 #[.pointer (some ⟨r,0,none⟩)] w (DTm r p 5002000 7000 w):=by
 have hrl:=hrd0.1;have HRD:=zq hrd0;clear hrd0
 go_enter Try.func24,Try.ntmps24
 go_wp2_with fail
 refine(nB r p _ (HRD.out.below ag) (by omega)).mono ?_;rintro e w1 ⟨t1,v,q1,rfl,hc1,hv,hq1,hrd,hb⟩;obtain⟨kt1,nm1,ut1,tk1,ta1,tn1,tq1,fk1,fa1,fn1,fq1,lt1,ct1,mt1,qt1,rfl⟩:=hv.shape;have z1:=hb.size;simp only[World.size_alloc] at z1;have fR:w1.heap[w.heap.size]?=some (.cells (nz 0) 28 (0,0)):=ay (aA rfl) hb (by omega);have fC:Hid (Chg [r] w w1):=zq ((Chg.of_below ag).trans hb);have rd:Hid (aR w1 r (q1)):=zq hrd;have h1_:=zq hv;clear hb hrd hv HRD hc1
 go_wp2_with fail
 refine(iX _ t1 _ _ h1_.out).mono ?_;rintro e w2 (⟨rfl,hb⟩ | ⟨t2,s2,v,yv,rfl,hc2,hvs2,hv,hy2,hb⟩)
 ·have z2:=hb.size
  replace fR:=a9 fR hb;replace fC:=zqb fC hb;replace rd:=mh hb rd;clear hb h1_
  go_upto_region 3 with fail
  generalize hXq:World.alloc w2 _=w3;obtain⟨hb,fE,zw3a,zw3b⟩:=alE hXq;replace fR:=a9 fR hb;replace fC:=zqb fC hb;replace rd:=mh hb rd;clear hb hXq;generalize hXq:World.alloc w3 _=w4;obtain⟨hb,fT,zw4a,zw4b⟩:=alE hXq;replace fR:=a9 fR hb;replace fC:=zqb fC hb;replace rd:=mh hb rd;replace fE:=a9 fE hb;clear hb hXq;clear fE fT
  go_wp2_with fail
  refine(cQ 6 _).mono ?_;rintro e w5 ⟨rfl,hb⟩;have zw5:=hb.size;(try simp only[World.size_alloc] at zw5);replace fR:=a9 fR hb;replace fC:=zqb fC hb;replace rd:=mh hb rd;clear hb;obtain⟨x0,x1,x2,x3,x4,x5,x6,x7,x8⟩:=blk9 fR;have xf0:=aj fR 0;have xf1:=aj fR 1;have xf2:=aj fR 2;have xf3:=aj fR 3;have xf4:=aj fR 4;have xf5:=aj fR 5;have xf6:=aj fR 6;have xf7:=aj fR 7;have xf8:=aj fR 8;have xl:=aw fR
  go_wp2_with fail
  clear x0 x1 x2 x3 x4 x5 x6 x7 x8 xf0 xf1 xf2 xf3 xf4 xf5 xf6 xf7 xf8 xl;obtain⟨wz,hXq,hsq,fR_,zwza,zwzb⟩:=c7 fR (.int .i64 2) (.string {data:=#[]}) (.int .i64 6) (.int .i64 0) (.slice none 0 0) (.int .i64 0) (.slice none 0 0) (.int .i64 0) (.slice none 0 0);rw[hXq];replace fC:=zq (hsq.chg fC.out (by omega));replace rd:=zq (hsq.rd rd.out (by omega));clear fR hsq hXq;have fR:=fR_;clear fR_;obtain⟨rc0,rc1,rc2,rc3,rc4,rc5,rc6,rc7,rc8⟩:=blk9 fR;refine bq (.agg (nv 2 {data:=#[]} 6 0 none 0 0 0 none 0 0 0 none 0 0)) (by simp[results,Try.results24,go_sem,rc0,rc1,rc2,rc3,rc4,rc5,rc6,rc7,rc8]) ?_
  exact⟨.mk 2 {data:=#[]} 6 (.mk 0 []) (.mk 0 []) 0 [],_,q1,rfl,by decide,aB.leaf0 2 6 bD,by omega,rd.out,fC.out⟩
 ·have z2:=hb.size
  obtain⟨kt2,nm2,ut2,tk2,ta2,tn2,tq2,fk2,fa2,fn2,fq2,lt2,ct2,mt2,qt2,rfl⟩:=hv.shape;obtain⟨k2,a2,n2,q2_,rfl⟩:=hy2.shape;have hE':Hid (aB (fun b=>w.heap.size+1<=b∧b≠w2.heap.size∧b≠w2.heap.size+1) w2 t2 (.agg (nv kt2 nm2 ut2 tk2 ta2 tn2 tq2 fk2 fa2 fn2 fq2 lt2 ct2 mt2 qt2))):=zq (hv.move (.weaken fun b h1 h2=>by have h3:w1.heap.size<=b:=h1;exact⟨by omega,by omega,by omega⟩));have hT':Hid (ai (fun b=>w.heap.size+1<=b∧b≠w2.heap.size∧b≠w2.heap.size+1) w2 s2.ty (.agg #[.int .i64 k2,.slice a2 n2 q2_])):=zq (hy2.move (.weaken fun b h1 h2=>by have h3:w1.heap.size<=b:=h1;exact⟨by omega,by omega,by omega⟩));have HC2:=zq hc2;have HV2:=zq hvs2;clear hv hy2 hc2 hvs2 h1_;replace fR:=a9 fR hb;replace fC:=zqb fC hb;replace rd:=mh hb rd;clear hb;have hE:=hE';have hT:=hT';clear hE' hT'
  go_upto_region 4 with fail
  generalize hXq:World.alloc w2 _=w3;obtain⟨hb,fE,zw3a,zw3b⟩:=alE hXq;replace fR:=a9 fR hb;replace fC:=zqb fC hb;replace rd:=mh hb rd;replace hE:=mh hb hE;replace hT:=mh hb hT;clear hb hXq;generalize hXq:World.alloc w3 _=w4;obtain⟨hb,fT,zw4a,zw4b⟩:=alE hXq;replace fR:=a9 fR hb;replace fC:=zqb fC hb;replace rd:=mh hb rd;replace hE:=mh hb hE;replace hT:=mh hb hT;replace fE:=a9 fE hb;clear hb hXq;rw[show w3.heap.size=w2.heap.size+1 by omega] at fT
  go_wp2_with fail
  refine(bH r q1 3 _ rd.out (by omega) (by omega)).mono ?_;rintro e w5 ⟨jk,rfl,hjk0,hjk1,hrd,hb⟩;have zw5:=hb.size;(try simp only[World.size_alloc] at zw5);replace fR:=ay fR hb;replace fC:=zqc fC hb;replace hE:=zq (hE.out.move (kpN hb (fun b hb=>by have h1:=hb;omega)));replace hT:=zq (hT.out.move (kpN hb (fun b hb=>by have h1:=hb;omega)));replace fE:=ay fE hb;replace fT:=ay fT hb;replace rd:=zq hrd;clear hrd;clear hb;obtain⟨j0,rfl⟩ : ∃n:Nat,jk=n:=⟨jk.toNat,by omega⟩
  go_wp2_with fail
  go_loopw [6] (fun s6 wr=>∃(j q:Nat) (t9:Tm) (s9:S) (kt9:Int) (nm9:ByteArray) (ut9 tk9:Int) (ta9:Option Addr) (tn9 tq9:Nat) (fk9:Int) (fa9:Option Addr) (fn9 fq9:Nat) (lt9:Int) (ct9:Option Addr) (mt9 qt9:Nat) (k8:Int) (a8:Option Addr) (n8 q8:Nat),j<=2∧s6 = .int .i64 (j:Int)∧q+500*j<=q1+1001∧w2.heap.size+2<=wr.heap.size∧Hid (wr.heap[w.heap.size]?=some (.cells (nz 0) 28 (0,0)))∧Hid (wr.heap[w2.heap.size]?=some (.cells (nv kt9 nm9 ut9 tk9 ta9 tn9 tq9 fk9 fa9 fn9 fq9 lt9 ct9 mt9 qt9) 28 (0,0)))∧Hid (wr.heap[w2.heap.size+1]?=some (.cells #[.int .i64 k8,.slice a8 n8 q8] 25 (0,0)))∧Hid (Chg [r] w wr)∧Hid (aR wr r (q))∧Hid (aB (fun b=>w.heap.size+1<=b∧b≠w2.heap.size∧b≠w2.heap.size+1) wr t9 (.agg (nv kt9 nm9 ut9 tk9 ta9 tn9 tq9 fk9 fa9 fn9 fq9 lt9 ct9 mt9 qt9)))∧Hid (ai (fun b=>w.heap.size+1<=b∧b≠w2.heap.size∧b≠w2.heap.size+1) wr s9.ty (.agg #[.int .i64 k8,.slice a8 n8 q8]))∧Hid (s9.vd=true∧t9.cnt+60*j<=6200)) (fun i _=>(intOf i).toNat)
  case atStart=>exact⟨j0,q1+1,t2,s2,_,_,_,_,_,_,_,_,_,_,_,_,_,_,_,_,_,_,_,by omega,rfl,by omega,by omega,zq fR,zq fE,zq fT,fC,rd,hE,hT,zq ⟨HV2.out,by have:=HC2.out;omega⟩⟩
  case round=>
   clear fR fE fT fC rd hE hT;obtain⟨j,q,t9,s9,kt9,nm9,ut9,tk9,ta9,tn9,tq9,fk9,fa9,fn9,fq9,lt9,ct9,mt9,qt9,k8,a8,n8,q8,hj,rfl,hq,hsz,fR0,fE0,fT0,fC0,rd0,hE0,hT0,HVC⟩:=hrel;have fR:=fR0.out;have fE:=fE0.out;have fT:=fT0.out;have fC:=fC0;have rd:=rd0;have hE:=hE0;have hT:=hT0;clear fR0 fE0 fT0 fC0 rd0 hE0 hT0
   cases j with
   | zero=>
    have h0:decide (((0:Nat):Int)>0)=false:=by simp
    obtain⟨y0,y1,y2,y3,y4,y5,y6,y7,y8⟩:=blk9 fE;have yl:=aw fE;obtain⟨x0,x1,x2,x3,x4,x5,x6,x7,x8⟩:=blk9 fR;have xf0:=aj fR 0;have xf1:=aj fR 1;have xf2:=aj fR 2;have xf3:=aj fR 3;have xf4:=aj fR 4;have xf5:=aj fR 5;have xf6:=aj fR 6;have xf7:=aj fR 7;have xf8:=aj fR 8;have xl:=aw fR
    go_wp2_with fail
    clear y0 y1 y2 y3 y4 y5 y6 y7 y8 yl x0 x1 x2 x3 x4 x5 x6 x7 x8 xf0 xf1 xf2 xf3 xf4 xf5 xf6 xf7 xf8 xl;obtain⟨wz,hXq,hsq,fR_,zwza,zwzb⟩:=c7 fR (.int .i64 kt9) (.string nm9) (.int .i64 ut9) (.int .i64 tk9) (.slice ta9 tn9 tq9) (.int .i64 fk9) (.slice fa9 fn9 fq9) (.int .i64 lt9) (.slice ct9 mt9 qt9);rw[hXq];replace fC:=zq (hsq.chg fC.out (by omega));replace rd:=zq (hsq.rd rd.out (by omega));replace hE:=zq (hE.out.move (hsq.keeps (fun b hb=>by have h1:=hb;omega)));replace hT:=zq (hsq.rep (fun b hb=>by have h1:=hb;omega) hT.out);replace fE:=hsq.bk fE;replace fT:=hsq.bk fT;clear fR hsq hXq;have fR:=fR_;clear fR_;obtain⟨rc0,rc1,rc2,rc3,rc4,rc5,rc6,rc7,rc8⟩:=blk9 fR;refine bq (.agg (nv kt9 nm9 ut9 tk9 ta9 tn9 tq9 fk9 fa9 fn9 fq9 lt9 ct9 mt9 qt9)) (by simp[results,Try.results24,go_sem,rc0,rc1,rc2,rc3,rc4,rc5,rc6,rc7,rc8]) ?_
    exact⟨t9,_,q,rfl,by have:=HVC.out.2;omega,hE.out.move (.weaken fun b h _=>by have h1:=h.1;show w.heap.size<=b;omega),by omega,rd.out,fC.out⟩
   | succ j=>
    obtain⟨jj,hjj⟩ : ∃x:Int,((j+1:Nat):Int)=x:=⟨_,rfl⟩
    rw[hjj];have hjp:0<jj:=by omega
    have hj3:jj<=2:=by omega
    have HJJ:=zq hjj;clear hjj;have h0:decide (jj>0)=true:=decide_eq_true hjp;have hdec:wrap64 (jj-1)=jj-1:=by unfold wrap64;omega
    have h50:wrap64 (50+jj)=50+jj:=by unfold wrap64;omega
    have hng:wrap64 (-(50+jj)) = -(50+jj):=by unfold wrap64;omega
    replace hE:=zq (hE.out.move (.weaken (G:=(fun b=>(w.heap.size+1<=b∧b≠w2.heap.size∧b≠w2.heap.size+1)∧b<wr.heap.size)) fun b h hl=>⟨h,hl⟩));replace hT:=zq (hT.out.move (.weaken (G:=(fun b=>(w.heap.size+1<=b∧b≠w2.heap.size∧b≠w2.heap.size+1)∧b<wr.heap.size)) fun b h hl=>⟨h,hl⟩));obtain⟨y0,y1⟩:=blk2 fT;have yl:=aw fT
    go_wp2_with fail
    clear y0 y1 yl;refine(dL r q s9 _ _ rd.out (hT.out.move (.weaken fun b h _=>by have h1:=h.1.1;intro z;omega)) HVC.out.1 (by omega)).mono ?_;rintro e w6 ⟨s3,v,q3,rfl,hvs3,hv,hq3,hrd,hb⟩;obtain⟨k3,a3,n3,q3_,rfl⟩:=hv.shape;have hU_':Hid (ai (fun b=>wr.heap.size<=b∧b≠w6.heap.size) w6 s3.ty (.agg #[.int .i64 k3,.slice a3 n3 q3_])):=zq (hv.move (.weaken fun b h1 h2=>⟨h1,by omega⟩));have HV3:=zq hvs3;clear hv hvs3;have zw6:=hb.size;(try simp only[World.size_alloc] at zw6);replace fR:=ay fR hb;replace fC:=zqc fC hb;replace hE:=zq (hE.out.move (kpN hb (fun b hb=>by have h1:=hb;omega)));replace hT:=zq (hT.out.move (kpN hb (fun b hb=>by have h1:=hb;omega)));replace fE:=ay fE hb;replace fT:=ay fT hb;replace rd:=zq hrd;clear hrd;clear hb;have hU_:=hU_';clear hU_'
    go_upto_region 8 with fail
    generalize hXq:World.alloc w6 _=w7;obtain⟨hb,fU,zw7a,zw7b⟩:=alE hXq;replace fR:=a9 fR hb;replace fC:=zqb fC hb;replace rd:=mh hb rd;replace hE:=mh hb hE;replace hT:=mh hb hT;replace fE:=a9 fE hb;replace fT:=a9 fT hb;replace hU_:=mh hb hU_;clear hb hXq
    go_wp2_with fail
    refine(bH r q3 2 _ rd.out (by omega) (by omega)).mono ?_;rintro e w8 ⟨jz,rfl,hjk0,hjk1,hrd,hb⟩;have zw8:=hb.size;(try simp only[World.size_alloc] at zw8);replace fR:=ay fR hb;replace fC:=zqc fC hb;replace hE:=zq (hE.out.move (kpN hb (fun b hb=>by have h1:=hb;omega)));replace hT:=zq (hT.out.move (kpN hb (fun b hb=>by have h1:=hb;omega)));replace fE:=ay fE hb;replace fT:=ay fT hb;replace hU_:=zq (hU_.out.move (kpN hb (fun b hb=>by have h1:=hb.1;omega)));replace fU:=ay fU hb;replace rd:=zq hrd;clear hrd;clear hb;clear hjk0 hjk1
    go_upto_if 30 with fail
    go_cut [] (fun wx=>∃(q4:Nat) (s4:S) (k4:Int) (a4:Option Addr) (n4 q4_:Nat),q4<=q3+201∧w8.heap.size<=wx.heap.size∧wx.heap[w.heap.size]?=some (.cells (nz 0) 28 (0,0))∧wx.heap[w2.heap.size]?=some (.cells (nv kt9 nm9 ut9 tk9 ta9 tn9 tq9 fk9 fa9 fn9 fq9 lt9 ct9 mt9 qt9) 28 (0,0))∧wx.heap[w2.heap.size+1]?=some (.cells #[.int .i64 k8,.slice a8 n8 q8] 25 (0,0))∧Hid (Chg [r] w wx)∧Hid (aR wx r (q4))∧Hid (aB (fun b=>(w.heap.size+1<=b∧b≠w2.heap.size∧b≠w2.heap.size+1)∧b<wr.heap.size) wx t9 (.agg (nv kt9 nm9 ut9 tk9 ta9 tn9 tq9 fk9 fa9 fn9 fq9 lt9 ct9 mt9 qt9)))∧Hid (ai (fun b=>(w.heap.size+1<=b∧b≠w2.heap.size∧b≠w2.heap.size+1)∧b<wr.heap.size) wx s9.ty (.agg #[.int .i64 k8,.slice a8 n8 q8]))∧wx.heap[w6.heap.size]?=some (.cells #[.int .i64 k4,.slice a4 n4 q4_] 25 (0,0))∧Hid (ai (fun b=>wr.heap.size<=b∧b≠w6.heap.size) wx s4.ty (.agg #[.int .i64 k4,.slice a4 n4 q4_]))∧Hid (s4.vd=true))
    case first=>
     rcases Bool.eq_false_or_eq_true (jz==0) with hz0 | hz0
     ·go_wp2_with fail
      refine(nq r (q3+1) _ rd.out (by omega)).mono ?_;rintro e w9 ⟨t4,v,q4,rfl,hv4,hv,hq4,hrd,hb⟩;obtain⟨k4,a4,n4,q4_,rfl⟩:=hv.shape;obtain⟨s4,rfl,hs4⟩:=Ty.valid_S hv4;have h4':Hid (ai (fun b=>wr.heap.size<=b∧b≠w6.heap.size) w9 s4.ty (.agg #[.int .i64 k4,.slice a4 n4 q4_])):=zq (hv.move (.weaken fun b h1 h2=>by have h3:w8.heap.size<=b:=h1;exact⟨by omega,by omega⟩));clear hv hv4;clear hU_;have zw9:=hb.size;(try simp only[World.size_alloc] at zw9);replace fR:=ay fR hb;replace fC:=zqc fC hb;replace hE:=zq (hE.out.move (kpN hb (fun b hb=>by have h1:=hb;omega)));replace hT:=zq (hT.out.move (kpN hb (fun b hb=>by have h1:=hb;omega)));replace fE:=ay fE hb;replace fT:=ay fT hb;replace fU:=ay fU hb;replace rd:=zq hrd;clear hrd;clear hb;have hU_:=h4';clear h4';obtain⟨y0,y1⟩:=blk2 fU;have yf0:=aj fU 0;have yf1:=aj fU 1;have yl:=aw fU
      go_wp2_with fail
      clear y0 y1 yf0 yf1 yl;obtain⟨w10,hXq,hsq,fU_,zw10a,zw10b⟩:=aJ fU (.int .i64 k4) (.slice a4 n4 q4_);rw[hXq];replace fR:=hsq.bk fR;replace fC:=zq (hsq.chg fC.out (by omega));replace rd:=zq (hsq.rd rd.out (by omega));replace hE:=zq (hE.out.move (hsq.keeps (fun b hb=>by have h1:=hb;omega)));replace hT:=zq (hsq.rep (fun b hb=>by have h1:=hb;omega) hT.out);replace fE:=hsq.bk fE;replace fT:=hsq.bk fT;replace hU_:=zq (hsq.rep (fun b hb=>by have h1:=hb;omega) hU_.out);clear fU hsq hXq;have fU:=fU_;clear fU_;(try go_meet)
      exact⟨q4,s4,_,_,_,_,by omega,by omega,fR,fE,fT,fC,rd,hE,hT,fU,hU_,zq hs4⟩
     ·go_wp2_with fail
      (try go_meet)
      exact⟨q3+1,s3,_,_,_,_,by omega,by omega,fR,fE,fT,fC,rd,hE,hT,fU,hU_,HV3⟩
    case rest=>
     clear fR fE fT fC rd hE hT fU hU_ HV3;obtain⟨q4,s4,k4,a4,n4,q4_,hq4,hszc,fR,fE,fT,fC,rd,hE,hT,fU,hU_,HV4⟩:=hcut;obtain⟨wd,hwdx⟩ : ∃x,wc=x:=⟨_,rfl⟩
     clear hwdx wd;obtain⟨cv,hcv⟩ : ∃cv,s9.cons s4=cv:=⟨_,rfl⟩
     have HCC:=zq (hcv▸cj _ _ s9 s4 _ _ wc hT.out hU_.out HVC.out.1 HV4.out);clear hcv;obtain⟨y0,y1⟩:=blk2 fT;have yl:=aw fT;obtain⟨x0,x1⟩:=blk2 fU;have xl:=aw fU
     go_wp2_with fail
     refine HCC.out.mono ?_;rintro e w11 ⟨rfl,hb⟩;clear HCC y0 y1 yl x0 x1 xl;have zw11:=hb.size;(try simp only[World.size_alloc] at zw11);replace fR:=a9 fR hb;replace fC:=zqb fC hb;replace rd:=mh hb rd;replace hE:=mh hb hE;replace hT:=mh hb hT;replace fE:=a9 fE hb;replace fT:=a9 fT hb;replace hU_:=mh hb hU_;replace fU:=a9 fU hb;clear hb
     cases cv with
     | false=>
      go_wp2_with fail
      go_roundw
      case rel=>exact⟨j,q4,t9,s9,_,_,_,_,_,_,_,_,_,_,_,_,_,_,_,_,_,_,_,by omega,by rw[show jj-1=(j:Int) by have:=HJJ.out;omega],by omega,by omega,zq fR,zq fE,zq fT,fC,rd,zq (hE.out.move (.weaken fun b h _=>h.1)),zq (hT.out.move (.weaken fun b h _=>h.1)),zq ⟨HVC.out.1,by have:=HVC.out.2;omega⟩⟩
      case measure=>simp[intOf];omega
     | true=>
      go_wp2_with fail
      refine(bH r q4 3 _ rd.out (by omega) (by omega)).mono ?_;rintro e w12 ⟨jy,rfl,hjk0,hjk1,hrd,hb⟩;have zw12:=hb.size;(try simp only[World.size_alloc] at zw12);replace fR:=ay fR hb;replace fC:=zqc fC hb;replace hE:=zq (hE.out.move (kpN hb (fun b hb=>by have h1:=hb;omega)));replace hT:=zq (hT.out.move (kpN hb (fun b hb=>by have h1:=hb;omega)));replace fE:=ay fE hb;replace fT:=ay fT hb;replace hU_:=zq (hU_.out.move (kpN hb (fun b hb=>by have h1:=hb.1;omega)));replace fU:=ay fU hb;replace rd:=zq hrd;clear hrd;clear hb;clear hjk0 hjk1
      go_upto_if 40 with fail
      go_cut [8] (fun s8 wx=>∃l8:Int,s8 = .int .i64 l8 ∧ -100<=l8∧l8<=100∧w12.heap.size<=wx.heap.size∧wx.heap[w.heap.size]?=some (.cells (nz 0) 28 (0,0))∧wx.heap[w2.heap.size]?=some (.cells (nv kt9 nm9 ut9 tk9 ta9 tn9 tq9 fk9 fa9 fn9 fq9 lt9 ct9 mt9 qt9) 28 (0,0))∧wx.heap[w2.heap.size+1]?=some (.cells #[.int .i64 k8,.slice a8 n8 q8] 25 (0,0))∧Hid (Chg [r] w wx)∧Hid (aR wx r (q4+1))∧Hid (aB (fun b=>(w.heap.size+1<=b∧b≠w2.heap.size∧b≠w2.heap.size+1)∧b<wr.heap.size) wx t9 (.agg (nv kt9 nm9 ut9 tk9 ta9 tn9 tq9 fk9 fa9 fn9 fq9 lt9 ct9 mt9 qt9)))∧Hid (ai (fun b=>(w.heap.size+1<=b∧b≠w2.heap.size∧b≠w2.heap.size+1)∧b<wr.heap.size) wx s9.ty (.agg #[.int .i64 k8,.slice a8 n8 q8]))∧wx.heap[w6.heap.size]?=some (.cells #[.int .i64 k4,.slice a4 n4 q4_] 25 (0,0))∧Hid (ai (fun b=>wr.heap.size<=b∧b≠w6.heap.size) wx s4.ty (.agg #[.int .i64 k4,.slice a4 n4 q4_])))
      case first=>
       rcases Bool.eq_false_or_eq_true (jy==0) with hy0 | hy0
       ·go_wp2_with fail
        (try go_meet)
        exact⟨_,rfl,by omega,by omega,by omega,fR,fE,fT,fC,rd,hE,hT,fU,hU_⟩
       ·go_wp2_with fail
        (try go_meet)
        exact⟨_,rfl,by omega,by omega,by omega,fR,fE,fT,fC,rd,hE,hT,fU,hU_⟩
      case rest=>
       clear fR fE fT fC rd hE hT fU hU_;obtain⟨l8,rfl,hl8a,hl8b,hszd,fR,fE,fT,fC,rd,hE,hT,fU,hU_⟩:=hcut;obtain⟨y0,y1,y2,y3,y4,y5,y6,y7,y8⟩:=blk9 fE;have yl:=aw fE;obtain⟨x0,x1⟩:=blk2 fT;have xl:=aw fT;obtain⟨v0,v1⟩:=blk2 fU;have vl:=aw fU
       go_wp2_with fail
       clear y0 y1 y2 y3 y4 y5 y6 y7 y8 yl x0 x1 xl v0 v1 vl;refine(jd _ _ _ t9 s9.ty s4.ty l8 _ _ _ _ hE.out hT.out hU_.out (cx HVC.out.1) (cx HV4.out) (by omega) (by omega)).mono ?_;rintro e w13 ⟨t6,v,lb6,rfl,hc6,-,-,hv,hb⟩;obtain⟨kt6,nm6,ut6,tk6,ta6,tn6,tq6,fk6,fa6,fn6,fq6,lt6,ct6,mt6,qt6,rfl⟩:=hv.shape;have h6':Hid (aB (fun b=>w.heap.size+1<=b∧b≠w2.heap.size∧b≠w2.heap.size+1) w13 t6 (.agg (nv kt6 nm6 ut6 tk6 ta6 tn6 tq6 fk6 fa6 fn6 fq6 lt6 ct6 mt6 qt6))):=zq (hv.move (.weaken fun b h1 h2=>by rcases h1 with h1 | h1;exact h1.1;exact⟨by omega,by omega,by omega⟩));have HC6:=zq hc6;clear hv hc6 hE hT;have zw13:=hb.size;(try simp only[World.size_alloc] at zw13);replace fR:=a9 fR hb;replace fC:=zqb fC hb;replace rd:=mh hb rd;replace fE:=a9 fE hb;replace fT:=a9 fT hb;replace hU_:=mh hb hU_;replace fU:=a9 fU hb;clear hb;have h6_:=h6';clear h6';obtain⟨y0,y1,y2,y3,y4,y5,y6,y7,y8⟩:=blk9 fE;have yf0:=aj fE 0;have yf1:=aj fE 1;have yf2:=aj fE 2;have yf3:=aj fE 3;have yf4:=aj fE 4;have yf5:=aj fE 5;have yf6:=aj fE 6;have yf7:=aj fE 7;have yf8:=aj fE 8;have yl:=aw fE
       go_upto_region 15 with fail
       clear y0 y1 y2 y3 y4 y5 y6 y7 y8 yf0 yf1 yf2 yf3 yf4 yf5 yf6 yf7 yf8 yl;obtain⟨w14,hXq,hsq,fE_,zw14a,zw14b⟩:=c7 fE (.int .i64 kt6) (.string nm6) (.int .i64 ut6) (.int .i64 tk6) (.slice ta6 tn6 tq6) (.int .i64 fk6) (.slice fa6 fn6 fq6) (.int .i64 lt6) (.slice ct6 mt6 qt6);rw[hXq];replace fR:=hsq.bk fR;replace fC:=zq (hsq.chg fC.out (by omega));replace rd:=zq (hsq.rd rd.out (by omega));replace fT:=hsq.bk fT;replace hU_:=zq (hsq.rep (fun b hb=>by have h1:=hb;omega) hU_.out);replace fU:=hsq.bk fU;replace h6_:=zq (h6_.out.move (hsq.keeps (fun b hb=>by have h1:=hb;omega)));clear fE hsq hXq;have fE:=fE_;clear fE_;obtain⟨y0,y1⟩:=blk2 fT;have yf0:=aj fT 0;have yf1:=aj fT 1;have yl:=aw fT;obtain⟨v0,v1⟩:=blk2 fU;have vl:=aw fU
       go_wp2_with fail
       clear y0 y1 yf0 yf1 yl v0 v1 vl;obtain⟨w15,hXq,hsq,fT_,zw15a,zw15b⟩:=aJ fT (.int .i64 k4) (.slice a4 n4 q4_);rw[hXq];replace fR:=hsq.bk fR;replace fC:=zq (hsq.chg fC.out (by omega));replace rd:=zq (hsq.rd rd.out (by omega));replace fE:=hsq.bk fE;replace hU_:=zq (hU_.out.move (hsq.keeps (fun b hb=>by have h1:=hb;omega)));replace fU:=hsq.bk fU;replace h6_:=zq (h6_.out.move (hsq.keeps (fun b hb=>by have h1:=hb;omega)));clear fT hsq hXq;have fT:=fT_;clear fT_
       go_roundw
       case rel=>exact⟨j,q4+1,t6,s4,_,_,_,_,_,_,_,_,_,_,_,_,_,_,_,_,_,_,_,by omega,by rw[show jj-1=(j:Int) by have:=HJJ.out;omega],by omega,by omega,zq fR,zq fE,zq fT,fC,rd,h6_,zq (hU_.out.move (.weaken fun b h _=>by have h1:=h.1;exact⟨by omega,by omega,by omega⟩)),zq ⟨HV4.out,by have:=HVC.out.2;have:=HC6.out;omega⟩⟩
       case measure=>simp[intOf];omega
end Go.Proofs.Ytfhglkmjibjjoaa

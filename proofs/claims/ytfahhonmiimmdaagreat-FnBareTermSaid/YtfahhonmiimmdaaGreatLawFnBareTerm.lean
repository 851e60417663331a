/- The law FnBareTerm. -/
import Derived.Test.YtfahhonmiimmdaaGreatB28
set_option linter.unusedSimpArgs false
set_option linter.unusedVariables false
set_option maxRecDepth 100000
set_option maxHeartbeats 16000000
namespace Go.Proofs.YtfahhonmiimmdaaGreat
open Go.RowKit
theorem Tm.bareT_cntL (t:Tm)(h:t.cnt≤1048576):t.bareT.cnt≤1048576:=by
 unfold Tm.bareT
 split
 ·exact Nat.le_trans t.bare_cnt h
 ·decide
theorem walk_FnBareTerm (y0:Value)(w:World)(r0:cz w w.heap.size y0):Calls Tryz.prog 4 #[y0] w fun e w'=>e = .returned (.bool true)∧Below w.heap.size w w':=by
 have HD:=zq (jY y0 w r0);obtain⟨a0,n0,q0,rfl⟩:=r0.shape;clear r0
 rcases Bool.eq_false_or_eq_true (decide ((n0:Int)>1048576)) with hq | hq
 ·go_enter Tryz.func4,Tryz.ntmps4
  go_wp2_with fail
  go_ret
  exact⟨rfl,Below.refl _ _⟩
 go_enter Tryz.func4,Tryz.ntmps4
 go_wp2_with fail
 refine HD.out.mono ?_;rintro e w1 ⟨t1,v1,rfl,hc1,hv1,hb1⟩;obtain⟨kt1,nm1,ut1,tk1,ta1,tn1,tq1,fk1,fa1,fn1,fq1,lt1,ct1,mt1,qt1,rfl⟩:=hv1.shape;have HB1:=zq hb1;have HI:=zq (fun W (k:Below w1.heap.size w1 W)=>ii _ t1 _ W (hv1.below k) (by omega));have HS:=zq (fun W (k:Below w1.heap.size w1 W)=>rz _ t1 _ W (hv1.below k) (by omega));have hlaw:=Tm.bare_law t1;have hcx:=Tm.bareT_cntL t1 (by omega);generalize t1.bareT=tx at HI HS hlaw hcx;generalize t1.bareB=b at HI HS hlaw;have HLAW:=zq hlaw;have HCX:=zq hcx;clear hv1 hb1 hc1 hq HD hlaw hcx;have hB0:Below w1.heap.size w1 (w1.alloc (.cells #[.int .i64 kt1,.string nm1,.int .i64 ut1,.int .i64 tk1,.slice ta1 tn1 tq1,.int .i64 fk1,.slice fa1 fn1 fq1,.int .i64 lt1,.slice ct1 mt1 qt1] 28)):=aj
 go_wp2_with fail
 refine(HI.out _ hB0).mono ?_;rintro e w2 ⟨v,rfl,hv,hb⟩;obtain⟨kt2,nm2,ut2,tk2,ta2,tn2,tq2,fk2,fa2,fn2,fq2,lt2,ct2,mt2,qt2,rfl⟩:=hv.shape;have z2:=hb.size;simp only[World.size_alloc] at z2;have fA:w2.heap[w1.heap.size]?=some (.cells #[.int .i64 kt1,.string nm1,.int .i64 ut1,.int .i64 tk1,.slice ta1 tn1 tq1,.int .i64 fk1,.slice fa1 fn1 fq1,.int .i64 lt1,.slice ct1 mt1 qt1] 28 (0,0)):=ag (aF rfl) hb;have fB:Hid (Below w1.heap.size w1 w2):=zq (al hB0 hb);have hX:Hid (aA (fun _=>True) w2 tx (.agg #[.int .i64 kt2,.string nm2,.int .i64 ut2,.int .i64 tk2,.slice ta2 tn2 tq2,.int .i64 fk2,.slice fa2 fn2 fq2,.int .i64 lt2,.slice ct2 mt2 qt2])):=zq (hv.rep.move (.weaken fun _ _ _=>trivial));clear hv hb hB0 HI
 go_upto_region 5 with fail
 obtain⟨w3,hXq,hb,fX,zw3a,zw3b⟩:=aZ w2 (.cells #[.int .i64 kt2,.string nm2,.int .i64 ut2,.int .i64 tk2,.slice ta2 tn2 tq2,.int .i64 fk2,.slice fa2 fn2 fq2,.int .i64 lt2,.slice ct2 mt2 qt2] 28);rw[hXq];replace fA:=ag fA hb;replace fB:=zq (al fB.out hb);replace hX:=zq (hX.out.below hb);clear hb hXq;obtain⟨y0,y1,y2,y3,y4,y5,y6,y7,y8⟩:=blk9 fA;have yl:=aD fA
 go_wp2_with fail
 clear y0 y1 y2 y3 y4 y5 y6 y7 y8 yl;refine(HS.out _ fB.out).mono ?_;rintro e w4 ⟨v,rfl,hv,hb⟩;obtain⟨kt3,nm3,ut3,tk3,ta3,tn3,tq3,fk3,fa3,fn3,fq3,lt3,ct3,mt3,qt3,rfl⟩:=hv.shape;have z4:=hb.size;have hW':Hid (aA (fun _=>True) w4 tx (.agg #[.int .i64 kt3,.string nm3,.int .i64 ut3,.int .i64 tk3,.slice ta3 tn3 tq3,.int .i64 fk3,.slice fa3 fn3 fq3,.int .i64 lt3,.slice ct3 mt3 qt3])):=zq (hv.rep.move (.weaken fun _ _ _=>trivial));clear hv HS;replace fA:=ag fA hb;replace fB:=zq (al fB.out hb);replace hX:=zq (hX.out.below hb);replace fX:=ag fX hb;clear hb;have hW:=hW';clear hW'
 go_upto_region 6 with fail
 obtain⟨w5,hXq,hb,fW,zw5a,zw5b⟩:=aZ w4 (.cells #[.int .i64 kt3,.string nm3,.int .i64 ut3,.int .i64 tk3,.slice ta3 tn3 tq3,.int .i64 fk3,.slice fa3 fn3 fq3,.int .i64 lt3,.slice ct3 mt3 qt3] 28);rw[hXq];replace fA:=ag fA hb;replace fB:=zq (al fB.out hb);replace hX:=zq (hX.out.below hb);replace fX:=ag fX hb;replace hW:=zq (hW.out.below hb);clear hb hXq
 cases b with
 | false=>
  have HSM:=dA _ _ tx tx _ _ w5 hX.out hW.out;rw[Tm.same_refl] at HSM;have HSH:=zq HSM;clear HSM;obtain⟨y0,y1,y2,y3,y4,y5,y6,y7,y8⟩:=blk9 fX;have yl:=aD fX;obtain⟨x0,x1,x2,x3,x4,x5,x6,x7,x8⟩:=blk9 fW;have xl:=aD fW
  go_wp2_with fail
  refine HSH.out.mono ?_;rintro e w6 ⟨rfl,hb⟩;clear HSH y0 y1 y2 y3 y4 y5 y6 y7 y8 yl x0 x1 x2 x3 x4 x5 x6 x7 x8 xl;have zw6:=hb.size;(try simp only[World.size_alloc] at zw6);replace fA:=ag fA hb;replace fB:=zq (al fB.out hb);replace hX:=zq (hX.out.below hb);replace fX:=ag fX hb;replace hW:=zq (hW.out.below hb);replace fW:=ag fW hb;clear hb;have HSM:=dA _ _ tx tx _ _ w6 hX.out hW.out;rw[Tm.same_refl] at HSM;have HSH:=zq HSM;clear HSM;obtain⟨y0,y1,y2,y3,y4,y5,y6,y7,y8⟩:=blk9 fX;have yl:=aD fX;obtain⟨x0,x1,x2,x3,x4,x5,x6,x7,x8⟩:=blk9 fW;have xl:=aD fW
  go_wp2_with fail
  refine HSH.out.mono ?_;rintro e w7 ⟨rfl,hb⟩;clear HSH y0 y1 y2 y3 y4 y5 y6 y7 y8 yl x0 x1 x2 x3 x4 x5 x6 x7 x8 xl;have zw7:=hb.size;(try simp only[World.size_alloc] at zw7);replace fA:=ag fA hb;replace fB:=zq (al fB.out hb);replace hX:=zq (hX.out.below hb);replace fX:=ag fX hb;replace hW:=zq (hW.out.below hb);replace fW:=ag fW hb;clear hb
  go_wp2_with fail
  go_ret
  exact⟨rfl,al HB1.out fB.out⟩
 | true=>
  obtain⟨l1,l2,l3,l4⟩:=HLAW.out rfl;have HSM:=dA _ _ tx tx _ _ w5 hX.out hW.out;rw[Tm.same_refl] at HSM;have HSH:=zq HSM;clear HSM;obtain⟨y0,y1,y2,y3,y4,y5,y6,y7,y8⟩:=blk9 fX;have yl:=aD fX;obtain⟨x0,x1,x2,x3,x4,x5,x6,x7,x8⟩:=blk9 fW;have xl:=aD fW
  go_wp2_with fail
  refine HSH.out.mono ?_;rintro e w6 ⟨rfl,hb⟩;clear HSH y0 y1 y2 y3 y4 y5 y6 y7 y8 yl x0 x1 x2 x3 x4 x5 x6 x7 x8 xl;have zw6:=hb.size;(try simp only[World.size_alloc] at zw6);replace fA:=ag fA hb;replace fB:=zq (al fB.out hb);replace hX:=zq (hX.out.below hb);replace fX:=ag fX hb;replace hW:=zq (hW.out.below hb);replace fW:=ag fW hb;clear hb;have HB2:=ii _ tx _ w6 hX.out HCX.out;rw[l1] at HB2;generalize tx.bareT=ty at HB2 l2;have HB2':=zq HB2;have HL2:=zq l2;have HL3:=zq l3;have HL4:=zq l4;clear HB2 l1 l2 l3 l4 HLAW hW fW;obtain⟨y0,y1,y2,y3,y4,y5,y6,y7,y8⟩:=blk9 fX;have yl:=aD fX
  go_wp2_with fail
  clear y0 y1 y2 y3 y4 y5 y6 y7 y8 yl;refine HB2'.out.mono ?_;rintro e w7 ⟨v,rfl,hv,hb⟩;obtain⟨kt4,nm4,ut4,tk4,ta4,tn4,tq4,fk4,fa4,fn4,fq4,lt4,ct4,mt4,qt4,rfl⟩:=hv.shape;have z7:=hb.size;have hY':Hid (aA (fun _=>True) w7 ty (.agg #[.int .i64 kt4,.string nm4,.int .i64 ut4,.int .i64 tk4,.slice ta4 tn4 tq4,.int .i64 fk4,.slice fa4 fn4 fq4,.int .i64 lt4,.slice ct4 mt4 qt4])):=zq (hv.rep.move (.weaken fun _ _ _=>trivial));clear hv HB2';replace fA:=ag fA hb;replace fB:=zq (al fB.out hb);replace hX:=zq (hX.out.below hb);replace fX:=ag fX hb;clear hb;have hY:=hY';clear hY'
  go_upto_region 9 with fail
  obtain⟨w8,hXq,hb,fY,zw8a,zw8b⟩:=aZ w7 (.cells #[.int .i64 kt4,.string nm4,.int .i64 ut4,.int .i64 tk4,.slice ta4 tn4 tq4,.int .i64 fk4,.slice fa4 fn4 fq4,.int .i64 lt4,.slice ct4 mt4 qt4] 28);rw[hXq];replace fA:=ag fA hb;replace fB:=zq (al fB.out hb);replace hX:=zq (hX.out.below hb);replace fX:=ag fX hb;replace hY:=zq (hY.out.below hb);clear hb hXq;have HSM:=dA _ _ ty tx _ _ w8 hY.out hX.out;rw[HL2.out] at HSM;have HSH:=zq HSM;clear HSM;obtain⟨y0,y1,y2,y3,y4,y5,y6,y7,y8⟩:=blk9 fY;have yl:=aD fY;obtain⟨x0,x1,x2,x3,x4,x5,x6,x7,x8⟩:=blk9 fX;have xl:=aD fX
  go_wp2_with fail
  refine HSH.out.mono ?_;rintro e w9 ⟨rfl,hb⟩;clear HSH y0 y1 y2 y3 y4 y5 y6 y7 y8 yl x0 x1 x2 x3 x4 x5 x6 x7 x8 xl;have zw9:=hb.size;(try simp only[World.size_alloc] at zw9);replace fA:=ag fA hb;replace fB:=zq (al fB.out hb);replace hX:=zq (hX.out.below hb);replace fX:=ag fX hb;replace hY:=zq (hY.out.below hb);replace fY:=ag fY hb;clear hb;have HCV:=et _ tx _ w9 hX.out;rw[HL3.out] at HCV;have HCVH:=zq HCV;clear HCV;obtain⟨y0,y1,y2,y3,y4,y5,y6,y7,y8⟩:=blk9 fY;have yl:=aD fY;obtain⟨x0,x1,x2,x3,x4,x5,x6,x7,x8⟩:=blk9 fX;have xl:=aD fX
  go_wp2_with fail
  refine HCVH.out.mono ?_;rintro e w10 ⟨rfl,hb⟩;clear HCVH y0 y1 y2 y3 y4 y5 y6 y7 y8 yl x0 x1 x2 x3 x4 x5 x6 x7 x8 xl;have zw10:=hb.size;(try simp only[World.size_alloc] at zw10);replace fA:=ag fA hb;replace fB:=zq (al fB.out hb);replace hX:=zq (hX.out.below hb);replace fX:=ag fX hb;replace hY:=zq (hY.out.below hb);replace fY:=ag fY hb;clear hb;have HLB:=lo _ tx _ w10 hX.out;rw[HL4.out] at HLB;have HLBH:=zq HLB;clear HLB;obtain⟨y0,y1,y2,y3,y4,y5,y6,y7,y8⟩:=blk9 fY;have yl:=aD fY;obtain⟨x0,x1,x2,x3,x4,x5,x6,x7,x8⟩:=blk9 fX;have xl:=aD fX
  go_wp2_with fail
  refine HLBH.out.mono ?_;rintro e w11 ⟨v,rfl,⟨fp,⟨ai,ci,rfl,-⟩,-,-⟩,hb⟩;clear HLBH y0 y1 y2 y3 y4 y5 y6 y7 y8 yl x0 x1 x2 x3 x4 x5 x6 x7 x8 xl;have zw11:=hb.size;(try simp only[World.size_alloc] at zw11);replace fA:=ag fA hb;replace fB:=zq (al fB.out hb);replace hX:=zq (hX.out.below hb);replace fX:=ag fX hb;replace hY:=zq (hY.out.below hb);replace fY:=ag fY hb;clear hb
  go_wp2_with fail
  go_ret
  exact⟨rfl,al HB1.out fB.out⟩
end Go.Proofs.YtfahhonmiimmdaaGreat

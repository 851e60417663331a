/- The law FnCastTypeOf. -/
import Derived.Test.YtfhglkmjibjjoaaB45
set_option linter.unusedSimpArgs false
set_option linter.unusedVariables false
set_option maxRecDepth 100000
set_option maxHeartbeats 16000000
namespace Go.Proofs.Ytfhglkmjibjjoaa
open Go.RowKit
theorem walk_FnCastTypeOf (y0 y1:Value)(w:World)(r0:cl w w.heap.size y0)(r1:cl w w.heap.size y1):Calls Try.prog 3 #[y0,y1] w fun e w'=>e = .returned (.bool true)∧Below w.heap.size w w':=by
 have HD:=zq (gI y0 w r0);have HM:=zq (fun W (k:Below w.heap.size w W)=>ir w.heap.size y1 W (r1.below k) k.size);obtain⟨a0,n0,q0,rfl⟩:=r0.shape;obtain⟨a1,n1,q1,rfl⟩:=r1.shape;clear r0 r1
 rcases Bool.eq_false_or_eq_true (decide ((n0:Int)>1048576)) with hq | hq
 ·go_enter Try.func3,Try.ntmps3
  go_wp2_with fail
  go_ret
  exact⟨rfl,Below.refl _ _⟩
 rcases Bool.eq_false_or_eq_true (decide ((n1:Int)>1048576)) with hq1 | hq1
 ·go_enter Try.func3,Try.ntmps3
  go_wp2_with fail
  go_ret
  exact⟨rfl,Below.refl _ _⟩
 go_enter Try.func3,Try.ntmps3
 go_wp2_with fail
 refine HD.out.mono ?_;rintro e w1 ⟨t1,v1,rfl,hc1,hv1,hb1⟩;obtain⟨kt1,nm1,ut1,tk1,ta1,tn1,tq1,fk1,fa1,fn1,fq1,lt1,ct1,mt1,qt1,rfl⟩:=hv1.shape;have HI:=zq (fun W (k:Below w1.heap.size w1 W)=>ei _ t1 _ W (hv1.below k));have HS:=zq (fun W (k:Below w1.heap.size w1 W)=>jG _ t1 _ W (hv1.below k));have HLAW:=zq (fun u t (h:cM t1=some t)=>nO (u:=u) h);have HZ:=zq (show dQ t1=(cM t1).getD (.mk 0 []) from rfl);have hE0:Hid (aB (fun _=>True) w1 t1 (.agg (nv kt1 nm1 ut1 tk1 ta1 tn1 tq1 fk1 fa1 fn1 fq1 lt1 ct1 mt1 qt1))):=zq (hv1.move (.weaken fun _ _ _=>trivial));generalize cM t1=O at HI HS HLAW HZ;generalize dQ t1=T at HI HZ;have HB1:=zq hb1;clear hv1 hc1 HD hb1 hq hq1
 go_upto_region 4 with fail
 have fB:Hid (Below w1.heap.size w1 w1):=zq (Below.refl _ _);generalize hXq:World.alloc w1 _=w2;obtain⟨hb,fA,zw2a,zw2b⟩:=alE hXq;replace hE0:=mh hb hE0;replace fB:=mh hb fB;clear hb hXq
 go_wp2_with fail
 refine(HM.out _ (HB1.out.trans (fB.out.mono HB1.out.size))).mono ?_;rintro e w3 ⟨t2,v2,rfl,hv,hb⟩;obtain⟨kv2,av2,nv2,qv2,rfl⟩:=hv.shape;have z3:=hb.size;have hU':Hid (ai (fun _=>True) w3 t2 (.agg #[.int .i64 kv2,.slice av2 nv2 qv2])):=zq (hv.move (.weaken fun _ _ _=>trivial));clear hv HM;replace hE0:=mh hb hE0;replace fB:=mh hb fB;replace fA:=a9 fA hb;clear hb;have hU:=hU';clear hU'
 go_upto_region 5 with fail
 generalize hXq:World.alloc w3 _=w4;obtain⟨hb,fU,zw4a,zw4b⟩:=alE hXq;replace hE0:=mh hb hE0;replace fB:=mh hb fB;replace fA:=a9 fA hb;replace hU:=mh hb hU;clear hb hXq;obtain⟨y0,y1,y2,y3,y4,y5,y6,y7,y8⟩:=blk9 fA;have yl:=aw fA
 go_wp2_with fail
 clear y0 y1 y2 y3 y4 y5 y6 y7 y8 yl;refine(HI.out _ fB.out).mono ?_;rintro e w5 ⟨v,rfl,hv,hb⟩;obtain⟨kv3,av3,nv3,qv3,rfl⟩:=hv.rep.shape;have z5:=hb.size;have hT':Hid (ai (fun _=>True) w5 T (.agg #[.int .i64 kv3,.slice av3 nv3 qv3])):=zq (hv.rep.move (.weaken fun _ _ _=>trivial));clear hv HI;replace hE0:=mh hb hE0;replace fB:=mh hb fB;replace fA:=a9 fA hb;replace hU:=mh hb hU;replace fU:=a9 fU hb;clear hb;have hT:=hT';clear hT';obtain⟨ok,hok⟩ : ∃b,O.isSome=b:=⟨_,rfl⟩
 simp only[hok];have HOK:=zq hok;clear hok
 go_upto_region 6 with fail
 generalize hXq:World.alloc w5 _=w6;obtain⟨hb,fT,zw6a,zw6b⟩:=alE hXq;replace hE0:=mh hb hE0;replace fB:=mh hb fB;replace fA:=a9 fA hb;replace hU:=mh hb hU;replace fU:=a9 fU hb;replace hT:=mh hb hT;clear hb hXq;obtain⟨y0,y1,y2,y3,y4,y5,y6,y7,y8⟩:=blk9 fA;have yl:=aw fA
 go_wp2_with fail
 clear y0 y1 y2 y3 y4 y5 y6 y7 y8 yl;refine(HS.out _ fB.out).mono ?_;rintro e w7 ⟨kv4,av4,nv4,qv4,rfl,hv,hb⟩;rw[<-HZ.out] at hv;have z7:=hb.size;have hW':Hid (ai (fun _=>True) w7 T (.agg #[.int .i64 kv4,.slice av4 nv4 qv4])):=zq (hv.move (.weaken fun _ _ _=>trivial));clear hv HS;replace hE0:=mh hb hE0;replace fB:=mh hb fB;replace fA:=a9 fA hb;replace hU:=mh hb hU;replace fU:=a9 fU hb;replace hT:=mh hb hT;replace fT:=a9 fT hb;clear hb;have hW:=hW';clear hW';simp only[HOK.out]
 go_upto_region 7 with fail
 generalize hXq:World.alloc w7 _=w8;obtain⟨hb,fW,zw8a,zw8b⟩:=alE hXq;replace hE0:=mh hb hE0;replace fB:=mh hb fB;replace fA:=a9 fA hb;replace hU:=mh hb hU;replace fU:=a9 fU hb;replace hT:=mh hb hT;replace fT:=a9 fT hb;replace hW:=mh hb hW;clear hb hXq;obtain⟨y0,y1,y2,y3,y4,y5,y6,y7,y8⟩:=blk9 fA;have yl:=aw fA;obtain⟨u0,u1⟩:=blk2 fU;have ul:=aw fU;obtain⟨t0,t1⟩:=blk2 fT;have tl:=aw fT
 go_upto_region 8 with fail
 clear y0 y1 y2 y3 y4 y5 y6 y7 y8 yl u0 u1 ul t0 t1 tl;generalize hXq:World.alloc w8 _=w9;obtain⟨hb,fL,zw9a,zw9b⟩:=alE hXq;replace hE0:=mh hb hE0;replace fB:=mh hb fB;replace fA:=a9 fA hb;replace hU:=mh hb hU;replace fU:=a9 fU hb;replace hT:=mh hb hT;replace fT:=a9 fT hb;replace hW:=mh hb hW;replace fW:=a9 fW hb;clear hb hXq;generalize hXq:World.alloc w9 _=w10;obtain⟨hb,fX,zw10a,zw10b⟩:=alE hXq;replace hE0:=mh hb hE0;replace fB:=mh hb fB;replace fA:=a9 fA hb;replace hU:=mh hb hU;replace fU:=a9 fU hb;replace hT:=mh hb hT;replace fT:=a9 fT hb;replace hW:=mh hb hW;replace fW:=a9 fW hb;replace fL:=a9 fL hb;clear hb hXq;have hz9:w9.heap.size=w8.heap.size+1:=by omega
 rw[hz9] at fX;clear hz9;have hks:aN (fun _=>True) w10 [t1] (.slice (some ⟨w8.heap.size,0,none⟩) 1 1):=aN.blk trivial fL rfl (by unfold maxLen;omega) (aV.c1 hE0.out.srep);have hX:Hid (aB (fun _=>True) w10 (cy t1 T t2) (.agg (nv 14 {data:=#[]} 0 kv2 av2 nv2 qv2 kv3 av3 nv3 qv3 9 (some ⟨w8.heap.size,0,none⟩) 1 1))):=zq (aB.mk bD hU.out hT.out hks);clear hks;clear fL;clear hE0;clear fA
 cases ok with
 | false=>
  have HSM:=cA _ _ _ _ _ _ w10 hT.out hW.out;rw[Ty.same_refl] at HSM;have HSH:=zq HSM;clear HSM;obtain⟨t0,t1⟩:=blk2 fT;have tl:=aw fT;obtain⟨x0,x1⟩:=blk2 fW;have xl:=aw fW
  go_wp2_with fail
  refine HSH.out.mono ?_;rintro e w11 ⟨rfl,hb⟩;clear HSH t0 t1 tl x0 x1 xl;have zw11:=hb.size;(try simp only[World.size_alloc] at zw11);replace fB:=mh hb fB;replace hU:=mh hb hU;replace fU:=a9 fU hb;replace hT:=mh hb hT;replace fT:=a9 fT hb;replace hW:=mh hb hW;replace fW:=a9 fW hb;replace fX:=a9 fX hb;replace hX:=mh hb hX;clear hb;have HSM:=cA _ _ _ _ _ _ w11 hT.out hW.out;rw[Ty.same_refl] at HSM;have HSH:=zq HSM;clear HSM;obtain⟨t0,t1⟩:=blk2 fT;have tl:=aw fT;obtain⟨x0,x1⟩:=blk2 fW;have xl:=aw fW
  go_wp2_with fail
  refine HSH.out.mono ?_;rintro e w12 ⟨rfl,hb⟩;clear HSH t0 t1 tl x0 x1 xl;have zw12:=hb.size;(try simp only[World.size_alloc] at zw12);replace fB:=mh hb fB;replace hU:=mh hb hU;replace fU:=a9 fU hb;replace hT:=mh hb hT;replace fT:=a9 fT hb;replace hW:=mh hb hW;replace fW:=a9 fW hb;replace fX:=a9 fX hb;replace hX:=mh hb hX;clear hb
  go_wp2_with fail
  go_ret
  exact⟨rfl,HB1.out.trans (fB.out.mono HB1.out.size)⟩
 | true=>
  obtain⟨T',hT'⟩:=Option.isSome_iff_exists.1 HOK.out;have hz:=HZ.out;rw[hT'] at hz;have hz2:T=T':=hz;subst hz2;have hl:=HLAW.out t2 T hT';have HL:=zq hl;have HO:=zq (fun h=>(ig (e:=t1) (t:=T) (u:=t2) h).2);have HV:=zq (eG (fun _=>True) (cy t1 T t2));clear hz hT' hl HLAW HZ HOK;have HI2:=zq (fun W h=>ei (fun _=>True) (cy t1 T t2) (.agg (nv 14 {data:=#[]} 0 kv2 av2 nv2 qv2 kv3 av3 nv3 qv3 9 (some ⟨w8.heap.size,0,none⟩) 1 1)) W h);have HZ2:=zq (show dQ (cy t1 T t2)=(cM (cy t1 T t2)).getD (.mk 0 []) from rfl);simp only[HL.out] at HI2 HZ2;have HSM:=cA _ _ _ _ _ _ w10 hT.out hW.out;rw[Ty.same_refl] at HSM;have HSH:=zq HSM;clear HSM;obtain⟨t0,t1⟩:=blk2 fT;have tl:=aw fT;obtain⟨x0,x1⟩:=blk2 fW;have xl:=aw fW
  go_wp2_with fail
  refine HSH.out.mono ?_;rintro e w11 ⟨rfl,hb⟩;clear HSH t0 t1 tl x0 x1 xl;have zw11:=hb.size;(try simp only[World.size_alloc] at zw11);replace fB:=mh hb fB;replace hU:=mh hb hU;replace fU:=a9 fU hb;replace hT:=mh hb hT;replace fT:=a9 fT hb;replace hW:=mh hb hW;replace fW:=a9 fW hb;replace fX:=a9 fX hb;replace hX:=mh hb hX;clear hb;clear hW;clear fW;generalize (cy t1 T t2).castValid=cv at HI2 HZ2 HV HO HL;generalize dQ (cy t1 T t2)=S2 at HI2 HZ2;clear HL;generalize cy t1 T t2=x at HI2 HV hX;have HIX:=zq (HI2.out w11 hX.out);clear HI2;obtain⟨y0,y1,y2,y3,y4,y5,y6,y7,y8⟩:=blk9 fX;have yl:=aw fX
  cases cv with
  | false=>
   go_wp2_with fail
   clear y0 y1 y2 y3 y4 y5 y6 y7 y8 yl;refine HIX.out.mono ?_;rintro e w12 ⟨v,rfl,hv,hb⟩;obtain⟨kv5,av5,nv5,qv5,rfl⟩:=hv.rep.shape;have z12:=hb.size;have hS':Hid (ai (fun _=>True) w12 S2 (.agg #[.int .i64 kv5,.slice av5 nv5 qv5])):=zq (hv.rep.move (.weaken fun _ _ _=>trivial));clear hv HIX;replace fB:=mh hb fB;replace hU:=mh hb hU;replace fU:=a9 fU hb;replace hT:=mh hb hT;replace fT:=a9 fT hb;replace fX:=a9 fX hb;replace hX:=mh hb hX;clear hb;have hS:=hS';clear hS';simp only[if_true,if_false,Option.isSome_some,Option.isSome_none,Bool.false_eq_true]
   go_upto_region 11 with fail
   generalize hXq:World.alloc w12 _=w13;obtain⟨hb,fS,zw13a,zw13b⟩:=alE hXq;replace fB:=mh hb fB;replace hU:=mh hb hU;replace fU:=a9 fU hb;replace hT:=mh hb hT;replace fT:=a9 fT hb;replace fX:=a9 fX hb;replace hX:=mh hb hX;replace hS:=mh hb hS;clear hb hXq;have HVV:=zq (HV.out _ w13 hX.out);obtain⟨y0,y1,y2,y3,y4,y5,y6,y7,y8⟩:=blk9 fX;have yl:=aw fX
   go_wp2_with fail
   refine HVV.out.mono ?_;rintro e w14 ⟨rfl,hb⟩;clear HVV y0 y1 y2 y3 y4 y5 y6 y7 y8 yl;have zw14:=hb.size;(try simp only[World.size_alloc] at zw14);replace fB:=mh hb fB;replace hU:=mh hb hU;replace fU:=a9 fU hb;replace hT:=mh hb hT;replace fT:=a9 fT hb;replace fX:=a9 fX hb;replace hX:=mh hb hX;replace hS:=mh hb hS;replace fS:=a9 fS hb;clear hb
   go_wp2_with fail
   go_ret
   exact⟨rfl,HB1.out.trans (fB.out.mono HB1.out.size)⟩
  | true=>
   have hS2:t2=S2:=HZ2.out.symm;subst hS2;have HCO:=zq (HO.out rfl)
   go_wp2_with fail
   clear y0 y1 y2 y3 y4 y5 y6 y7 y8 yl;refine HIX.out.mono ?_;rintro e w12 ⟨v,rfl,hv,hb⟩;obtain⟨kv5,av5,nv5,qv5,rfl⟩:=hv.rep.shape;have z12:=hb.size;have hS':Hid (ai (fun _=>True) w12 t2 (.agg #[.int .i64 kv5,.slice av5 nv5 qv5])):=zq (hv.rep.move (.weaken fun _ _ _=>trivial));clear hv HIX;replace fB:=mh hb fB;replace hU:=mh hb hU;replace fU:=a9 fU hb;replace hT:=mh hb hT;replace fT:=a9 fT hb;replace fX:=a9 fX hb;replace hX:=mh hb hX;clear hb;have hS:=hS';clear hS';simp only[if_true,if_false,Option.isSome_some,Option.isSome_none,Bool.false_eq_true]
   go_upto_region 11 with fail
   generalize hXq:World.alloc w12 _=w13;obtain⟨hb,fS,zw13a,zw13b⟩:=alE hXq;replace fB:=mh hb fB;replace hU:=mh hb hU;replace fU:=a9 fU hb;replace hT:=mh hb hT;replace fT:=a9 fT hb;replace fX:=a9 fX hb;replace hX:=mh hb hX;replace hS:=mh hb hS;clear hb hXq;have HVV:=zq (HV.out _ w13 hX.out);obtain⟨y0,y1,y2,y3,y4,y5,y6,y7,y8⟩:=blk9 fX;have yl:=aw fX
   go_wp2_with fail
   refine HVV.out.mono ?_;rintro e w14 ⟨rfl,hb⟩;clear HVV y0 y1 y2 y3 y4 y5 y6 y7 y8 yl;have zw14:=hb.size;(try simp only[World.size_alloc] at zw14);replace fB:=mh hb fB;replace hU:=mh hb hU;replace fU:=a9 fU hb;replace hT:=mh hb hT;replace fT:=a9 fT hb;replace fX:=a9 fX hb;replace hX:=mh hb hX;replace hS:=mh hb hS;replace fS:=a9 fS hb;clear hb;have HSM:=cA _ _ _ _ _ _ w14 hS.out hU.out;rw[Ty.same_refl] at HSM;have HSH:=zq HSM;clear HSM;obtain⟨t0,t1⟩:=blk2 fS;have tl:=aw fS;obtain⟨x0,x1⟩:=blk2 fU;have xl:=aw fU
   go_wp2_with fail
   refine HSH.out.mono ?_;rintro e w15 ⟨rfl,hb⟩;clear HSH t0 t1 tl x0 x1 xl;have zw15:=hb.size;(try simp only[World.size_alloc] at zw15);replace fB:=mh hb fB;replace hU:=mh hb hU;replace fU:=a9 fU hb;replace hT:=mh hb hT;replace fT:=a9 fT hb;replace fX:=a9 fX hb;replace hX:=mh hb hX;replace hS:=mh hb hS;replace fS:=a9 fS hb;clear hb;have HCC:=ej _ _ _ _ _ _ w15 hT.out hU.out;rw[HCO.out] at HCC;have HCH:=zq HCC;clear HCC;obtain⟨t0,t1⟩:=blk2 fT;have tl:=aw fT;obtain⟨x0,x1⟩:=blk2 fU;have xl:=aw fU
   go_wp2_with fail
   refine HCH.out.mono ?_;rintro e w16 ⟨rfl,hb⟩;clear HCH t0 t1 tl x0 x1 xl;have zw16:=hb.size;(try simp only[World.size_alloc] at zw16);replace fB:=mh hb fB;replace hU:=mh hb hU;replace fU:=a9 fU hb;replace hT:=mh hb hT;replace fT:=a9 fT hb;replace fX:=a9 fX hb;replace hX:=mh hb hX;replace hS:=mh hb hS;replace fS:=a9 fS hb;clear hb
   go_wp2_with fail
   go_ret
   exact⟨rfl,HB1.out.trans (fB.out.mono HB1.out.size)⟩
end Go.Proofs.Ytfhglkmjibjjoaa

/- spec.l3Make: the way of the kind bool. And what else its parts name. -/
import Derived.Test.YtfahhonmiimmdaaGreatMkH
import Derived.Test.YtfahhonmiimmdaaGreatB27
set_option linter.unusedSimpArgs false
set_option linter.unusedVariables false
set_option maxRecDepth 100000
set_option maxHeartbeats 16000000
namespace Go.Proofs.YtfahhonmiimmdaaGreat
open Go.RowKit
theorem mkWbool (dd:Int)(r p:Nat)(l:List Bd)(w:World)(kt:Int)(ta:Option Addr)(tn tq:Nat)(xa:Option Addr)(xn xq:Nat):(dS dd S.bool r p l w kt ta tn tq xa xn xq).1.2.2.2.2:=by
 intro _ _ _ _ _ _ _ _ _ _ _ _ HNL HCV HOK HSV HIH _ HKT _ MB _ _ HMB _ _ _ _ _ _ _ _ _ _ _ _ _ _ _ _ _ _ _ _ _ _ _ _ _ _ _ _ _ _ _ _ _ _ _ _ _ _ _ _ _ _ wc _ _ _ _ _ _ _ _ _ _ _ _ _ _ _ _ _ _ _ _ _ _ _ _ _ _ _ _ _ _ _ _ _ _ _ _ _ _ _ _ _ _ _ _ _ _ _ _ _ _ _ _ _ _ _ _ _ _ _ _ _ _ _ _ _ _ _ _ _ _ _ _ _ _ _ _ _ _ _ _ _ _ _ _ _ _ _ _ _ _ _ _ _ _ _ _ _ _ _ _ _ _ _ _ _ _ _ _ _ _ _ _ _ _ _ _ _ _ _ _ _ _ _ _ _ _ _ _ _ _ _ _ _ _ _ _ _ _ _ _ _ _ _ _ _ _ _ _ _ _ _ _ _ _ _ _ _ _ _ _ _ _ _ _ _ _ _ _ _ _ _ _ _ _ _ _ _ _ _ _ _ _ _ _ _ _ _ _ _ _ _ _ _ _ _ _ _ _ _ _ _ _ _ _ _ _ _ _ _ _ _ _ _ _ _ _ _ _ q _ _ fC rd fT fR hX hT;obtain rfl:kt=3:=HKT.out;obtain⟨y0,y1⟩:=blk2 fT;have lyT:=aD fT
 by_cases hd1:1<dd
 ·have hdb:decide (dd>1)=true:=by simpa using hd1
  have HD2:=zq (show 2≤dd by omega);have hU4:MB=4*mkU dd:=HMB.out.symm.trans (eP _ (by omega));have hU0:=eI dd;obtain⟨U,hU⟩ : ∃U,mkU dd=U:=⟨_,rfl⟩
  rw[hU] at hU4 hU0;have HUU:=zq hU;have hMB1:4*U≤MB:=by omega
  have hMB2:MB≤4*U:=by omega
  clear hU hU4;have HLB:=zq (bN (s:=S.bool) HD2.out rfl);have HLI:=zq (bN (s:=S.int) HD2.out rfl);have HLS:=zq (bN HD2.out HSV.out)
  go_wp2_with fail
  refine(bw r (q) 2 _ rd.out (by omega) (by omega)).mono ?_;rintro e w2 ⟨jz,rfl,hjk0,hjk1,hrd,hb⟩;have zw2:=hb.size;(try simp only[World.size_alloc] at zw2);replace fT:=aB fT hb;replace fR:=aB fR hb;replace fC:=zqc fC hb;replace hX:=zq (hX.out.move (kpN hb (fun b hb=>hb.1)));replace hT:=zq (hT.out.move (kpN hb (fun b hb=>hb.1)));replace rd:=zq hrd;clear hrd;clear hb;clear hjk0 hjk1
  rcases Bool.eq_false_or_eq_true (jz==0) with hz0 | hz0
  ·go_wp2_with fail
   refine(bB _).mono ?_;rintro e w3 ⟨rfl,hb⟩;have zw3:=hb.size;(try simp only[World.size_alloc] at zw3);replace fT:=ag fT hb;replace fR:=ag fR hb;replace fC:=zqb fC hb;replace rd:=zq (rd.out.below hb);replace hX:=zq (hX.out.below hb);replace hT:=zq (hT.out.below hb);clear hb
   go_wp2_with fail
   refine(HIH.out (S.int) l (cL HD2.out HSV.out rfl) rfl HOK.out (by omega) HNL.out _ _ _ _ rd.out (hX.out.move (.weaken fun b h _=>h.1)) HCV.out (ap.leafG 2) (by have h1:=HLB.out;have h2:=HLS.out;have h3:=HLI.out;have h0:=HUU.out;omega)).mono ?_;rintro e w4 ⟨t2,v,q2,rfl,hcn2,hv,hq2,hrd,hb⟩;obtain⟨kt2,nm2,ut2,tk2,ta2,tn2,tq2,fk2,fa2,fn2,fq2,lt2,ct2,mt2,qt2,rfl⟩:=hv.shape;have HC2:=zq hcn2;have h2_':=hv.rg;clear hv hcn2;have zw4:=hb.size;(try simp only[World.size_alloc] at zw4);replace fT:=aB fT hb;replace fR:=aB fR hb;replace fC:=zqc fC hb;replace hX:=zq (hX.out.move (kpN hb (fun b hb=>hb.1)));replace hT:=zq (hT.out.move (kpN hb (fun b hb=>hb.1)));replace rd:=zq hrd;clear hrd;clear hb;have h2_:=h2_';clear h2_'
   go_wp2_with fail
   refine(bB _).mono ?_;rintro e w5 ⟨rfl,hb⟩;have zw5:=hb.size;(try simp only[World.size_alloc] at zw5);replace fT:=ag fT hb;replace fR:=ag fR hb;replace fC:=zqb fC hb;replace rd:=zq (rd.out.below hb);replace hX:=zq (hX.out.below hb);replace hT:=zq (hT.out.below hb);replace h2_:=zq (h2_.out.below hb);clear hb
   go_wp2_with fail
   refine(HIH.out (S.int) l (cL HD2.out HSV.out rfl) rfl HOK.out (by omega) HNL.out _ _ _ _ rd.out (hX.out.move (.weaken fun b h _=>h.1)) HCV.out (ap.leafG 2) (by have h1:=HLB.out;have h2:=HLS.out;have h3:=HLI.out;have h0:=HUU.out;omega)).mono ?_;rintro e w6 ⟨t3,v,q3,rfl,hcn3,hv,hq3,hrd,hb⟩;obtain⟨kt3,nm3,ut3,tk3,ta3,tn3,tq3,fk3,fa3,fn3,fq3,lt3,ct3,mt3,qt3,rfl⟩:=hv.shape;have HC3:=zq hcn3;have h3_':=hv.rg;clear hv hcn3;have zw6:=hb.size;(try simp only[World.size_alloc] at zw6);replace fT:=aB fT hb;replace fR:=aB fR hb;replace fC:=zqc fC hb;replace hX:=zq (hX.out.move (kpN hb (fun b hb=>hb.1)));replace hT:=zq (hT.out.move (kpN hb (fun b hb=>hb.1)));replace h2_:=zq (h2_.out.move (kpN hb (fun b hb=>by have h1:=hb.1;have h2:=hb.2;omega)));replace rd:=zq hrd;clear hrd;clear hb;have h3_:=h3_';clear h3_'
   go_wp2_with fail
   obtain⟨w7,hXq,hb,fL,zw7a,zw7b⟩:=aZ w6 (.cells #[.int .i64 kt2,.string nm2,.int .i64 ut2,.int .i64 tk2,.slice ta2 tn2 tq2,.int .i64 fk2,.slice fa2 fn2 fq2,.int .i64 lt2,.slice ct2 mt2 qt2,.int .i64 kt3,.string nm3,.int .i64 ut3,.int .i64 tk3,.slice ta3 tn3 tq3,.int .i64 fk3,.slice fa3 fn3 fq3,.int .i64 lt3,.slice ct3 mt3 qt3] 28);rw[hXq];replace fT:=ag fT hb;replace fR:=ag fR hb;replace fC:=zqb fC hb;replace rd:=zq (rd.out.below hb);replace hX:=zq (hX.out.below hb);replace hT:=zq (hT.out.below hb);replace h2_:=zq (h2_.out.below hb);replace h3_:=zq (h3_.out.below hb);clear hb hXq;refine(cN 8 _ _ _ _).mono ?_;rintro e w8 ⟨rfl,hb⟩;have zw8:=hb.size;(try simp only[World.size_alloc] at zw8);replace fT:=ag fT hb;replace fR:=ag fR hb;replace fC:=zqb fC hb;replace rd:=zq (rd.out.below hb);replace hX:=zq (hX.out.below hb);replace hT:=zq (hT.out.below hb);replace h2_:=zq (h2_.out.below hb);replace h3_:=zq (h3_.out.below hb);replace fL:=ag fL hb;clear hb;obtain⟨x0,f0,x1,f1,x2,f2,x3,f3,x4,f4,x5,f5,x6,f6,x7,f7,x8,f8⟩:=blk9f fR;have lxR:=aD fR;have h1:=HLB.out;have h2:=HLS.out;have h3:=HLI.out;have h0:=HUU.out;have hks:aS (w.heap.size+1+1 ≤ ·) w8 [t2,t3] (.slice (some ⟨w6.heap.size,0,none⟩) 2 2):=aS.blk (by show w.heap.size+1+1≤_;omega) fL rfl (by unfold maxLen;omega) (aW.c2 (h2_.out.move (.weaken fun b h _=>by have h1:=h.1;show w.heap.size+1+1≤b;omega)).srep (h3_.out.move (.weaken fun b h _=>by have h1:=h.1;show w.heap.size+1+1≤b;omega)).srep);have hRR:aA (w.heap.size+1+1 ≤ ·) w8 (Tm.mk 8 {data:=#[]} 0 (.mk 0 []) (.mk 0 []) 0 [t2,t3]) (.agg #[.int .i64 8,.string {data:=#[]},.int .i64 0,.int .i64 0,.slice none 0 0,.int .i64 0,.slice none 0 0,.int .i64 0,.slice (some ⟨w6.heap.size,0,none⟩) 2 2]):=aA.mk bp ⟨_,rfl,aE.nil0⟩ ⟨_,rfl,aE.nil0⟩ hks;have hcc:(Tm.mk 8 {data:=#[]} 0 (.mk 0 []) (.mk 0 []) 0 [t2,t3]).cnt≤MB:=by
    have g1:=HC2.out;have g2:=HC3.out;(try simp only[Tm.cnt,Tm.cnts,Ty.cnt,Ty.cnts,List.length_cons,List.length_nil,show({data:=#[]}:ByteArray).size=0 from rfl])
    omega
   have HEND:=zq (DTm.stored (p:=p) (r:=r) (w:=w) (R:=w.heap.size+1) (B:=w.heap.size+1+1) (c:=MB) (m:=MB) (v0:=.int .i64 8) (v1:=.string {data:=#[]}) (v2:=.int .i64 0) (v3:=.int .i64 0) (v4:=.slice none 0 0) (v5:=.int .i64 0) (v6:=.slice none 0 0) (v7:=.int .i64 0) (v8:=.slice (some ⟨w6.heap.size,0,none⟩) 2 2) hRR hcc (by omega) (by omega) rd.out fC.out (by omega) (by omega) (by omega));clear hRR hcc;(try clear hks);(try clear hN);(try clear fL)
   go_wp2_with fail
   refine bodyPost_ret (v:=.agg #[.int .i64 8,.string {data:=#[]},.int .i64 0,.int .i64 0,.slice none 0 0,.int .i64 0,.slice none 0 0,.int .i64 0,.slice (some ⟨w6.heap.size,0,none⟩) 2 2]) (by simp[results,Tryz.results51,go_sem,x0,x1,x2,x3,x4,x5,x6,x7,x8]) rfl ?_
   exact HEND.out
  ·skip
   obtain⟨x0,f0,x1,f1,x2,f2,x3,f3,x4,f4,x5,f5,x6,f6,x7,f7,x8,f8⟩:=blk9f fR;have lxR:=aD fR;have hRR:aA (w.heap.size+1+1 ≤ ·) w2 (Tm.mk 3 {data:=#[]} 0 (.mk 0 []) (.mk 0 []) 0 []) (.agg #[.int .i64 3,.string {data:=#[]},.int .i64 0,.int .i64 0,.slice none 0 0,.int .i64 0,.slice none 0 0,.int .i64 0,.slice none 0 0]):=aA.leaf0 3 0 bp;have hcc:(Tm.mk 3 {data:=#[]} 0 (.mk 0 []) (.mk 0 []) 0 []).cnt≤MB:=by
    (try simp only[Tm.cnt,Tm.cnts,Ty.cnt,Ty.cnts,List.length_cons,List.length_nil,show({data:=#[]}:ByteArray).size=0 from rfl])
    omega
   have HEND:=zq (DTm.stored (p:=p) (r:=r) (w:=w) (R:=w.heap.size+1) (B:=w.heap.size+1+1) (c:=MB) (m:=MB) (v0:=.int .i64 3) (v1:=.string {data:=#[]}) (v2:=.int .i64 0) (v3:=.int .i64 0) (v4:=.slice none 0 0) (v5:=.int .i64 0) (v6:=.slice none 0 0) (v7:=.int .i64 0) (v8:=.slice none 0 0) hRR hcc (by omega) (by omega) rd.out fC.out (by omega) (by omega) (by omega));clear hRR hcc;(try clear hks);(try clear hN);(try clear fL)
   go_wp2_with fail
   refine bodyPost_ret (v:=.agg #[.int .i64 3,.string {data:=#[]},.int .i64 0,.int .i64 0,.slice none 0 0,.int .i64 0,.slice none 0 0,.int .i64 0,.slice none 0 0]) (by simp[results,Tryz.results51,go_sem,x0,x1,x2,x3,x4,x5,x6,x7,x8]) rfl ?_
   exact HEND.out
 ·have hdb:decide (dd>1)=false:=by simpa using hd1
  obtain⟨x0,f0,x1,f1,x2,f2,x3,f3,x4,f4,x5,f5,x6,f6,x7,f7,x8,f8⟩:=blk9f fR;have lxR:=aD fR;have hRR:aA (w.heap.size+1+1 ≤ ·) wc (Tm.mk 3 {data:=#[]} 0 (.mk 0 []) (.mk 0 []) 0 []) (.agg #[.int .i64 3,.string {data:=#[]},.int .i64 0,.int .i64 0,.slice none 0 0,.int .i64 0,.slice none 0 0,.int .i64 0,.slice none 0 0]):=aA.leaf0 3 0 bp;have hcc:(Tm.mk 3 {data:=#[]} 0 (.mk 0 []) (.mk 0 []) 0 []).cnt≤MB:=by
   (try simp only[Tm.cnt,Tm.cnts,Ty.cnt,Ty.cnts,List.length_cons,List.length_nil,show({data:=#[]}:ByteArray).size=0 from rfl])
   omega
  have HEND:=zq (DTm.stored (p:=p) (r:=r) (w:=w) (R:=w.heap.size+1) (B:=w.heap.size+1+1) (c:=MB) (m:=MB) (v0:=.int .i64 3) (v1:=.string {data:=#[]}) (v2:=.int .i64 0) (v3:=.int .i64 0) (v4:=.slice none 0 0) (v5:=.int .i64 0) (v6:=.slice none 0 0) (v7:=.int .i64 0) (v8:=.slice none 0 0) hRR hcc (by omega) (by omega) rd.out fC.out (by omega) (by omega) (by omega));clear hRR hcc;(try clear hks);(try clear hN);(try clear fL)
  go_wp2_with fail
  refine bodyPost_ret (v:=.agg #[.int .i64 3,.string {data:=#[]},.int .i64 0,.int .i64 0,.slice none 0 0,.int .i64 0,.slice none 0 0,.int .i64 0,.slice none 0 0]) (by simp[results,Tryz.results51,go_sem,x0,x1,x2,x3,x4,x5,x6,x7,x8]) rfl ?_
  exact HEND.out
def pV:Oper:=⟨some 150,.move (.tmp 0),46,"l3_typing.go:216",#[],none⟩
def pW:Oper:=⟨some 151,.move (.tmp 1),96,"l3_typing.go:216",#[],none⟩
def pX:Oper:=⟨some 152,.fieldAddr 25 (.tmp 6) 1,0,"l3_typing.go:216",#[],none⟩
def pY:Oper:=⟨some 153,.load 23 (.tmp 152),23,"l3_typing.go:216",#[⟨2,.data⟩],none⟩
def pZ:Oper:=⟨some 154,.indexAddr 23 (.tmp 153) (.const (.int .i64 0)),0,"l3_typing.go:216",#[⟨3,.data⟩],none⟩
def qa:Oper:=⟨some 155,.load 25 (.tmp 154),25,"l3_typing.go:216",#[⟨4,.data⟩],none⟩
def qf:Oper:=⟨some 156,.fieldAddr 25 (.tmp 6) 1,0,"l3_typing.go:216",#[],none⟩
def qg:Oper:=⟨some 157,.load 23 (.tmp 156),23,"l3_typing.go:216",#[⟨6,.data⟩],none⟩
def qh:Oper:=⟨some 158,.indexAddr 23 (.tmp 157) (.const (.int .i64 1)),0,"l3_typing.go:216",#[⟨7,.data⟩],none⟩
def qi:Oper:=⟨some 159,.load 25 (.tmp 158),25,"l3_typing.go:216",#[⟨8,.data⟩],none⟩
def ms:Oper:=⟨some 160,.move (.tmp 3),3,"l3_typing.go:216",#[],none⟩
def mu:Oper:=⟨some 161,.binOp .sub 3 (.tmp 160) (.const (.int .i64 1)) 3,3,"l3_typing.go:216",#[⟨10,.data⟩],none⟩
def mv:Oper:=⟨some 162,.call {callee:=.value (.func 86),args:=#[.tmp 150,.tmp 151,.tmp 155,.tmp 159,.tmp 161],argTypes:=#[46,96,25,25,3]},28,"l3_typing.go:216",#[⟨0,.data⟩,⟨1,.data⟩,⟨5,.data⟩,⟨9,.data⟩,⟨11,.data⟩],none⟩
def mw:Oper:=⟨none,.store 28 (.tmp 8) (.tmp 162),0,"l3_typing.go:216",#[⟨12,.data⟩,⟨12,.chain⟩,⟨0,.phase⟩,⟨1,.phase⟩,⟨2,.phase⟩,⟨3,.phase⟩,⟨4,.phase⟩,⟨5,.phase⟩,⟨6,.phase⟩,⟨7,.phase⟩,⟨8,.phase⟩,⟨9,.phase⟩,⟨10,.phase⟩,⟨11,.phase⟩,⟨12,.phase⟩],none⟩
theorem mkWfn (dd:Int)(r p:Nat)(l:List Bd)(w:World)(kt:Int)(ta:Option Addr)(tn tq:Nat)(xa:Option Addr)(xn xq:Nat)(a b:S):(dS dd (S.fn a b) r p l w kt ta tn tq xa xn xq).1.2.2.2.2:=by
 intro _ _ _ _ _ _ _ _ HWK _ _ _ HNL HCV HOK HSV HIH _ HKT HL60 MB _ _ HMB _ _ _ _ _ _ _ _ _ _ _ _ _ _ _ _ _ _ _ _ _ _ _ _ _ _ _ _ _ _ _ _ _ _ _ _ _ _ _ _ _ _ wc _ _ _ _ _ _ _ _ _ _ _ _ _ _ _ _ _ _ _ _ _ _ _ _ _ _ _ _ _ _ _ _ _ _ _ _ _ _ _ _ _ _ _ _ _ _ _ _ _ _ _ _ _ _ _ _ _ _ _ _ _ _ _ _ _ _ _ _ _ _ _ _ _ _ _ _ _ _ _ _ _ _ _ _ _ _ _ _ _ _ _ _ _ _ _ _ _ _ _ _ _ _ _ _ _ _ _ _ _ _ _ _ _ _ _ _ _ _ _ _ _ _ _ _ _ _ _ _ _ _ _ _ _ _ _ _ _ _ _ _ _ _ _ _ _ _ _ _ _ _ _ _ _ _ _ _ _ _ _ _ _ _ _ _ _ _ _ _ _ _ _ _ _ _ _ _ _ _ _ _ _ _ _ _ _ _ _ _ _ _ _ _ _ _ _ _ _ _ _ _ _ _ _ _ _ _ _ _ _ _ _ _ _ _ _ _ _ _ _ _ _ fC rd fT fR hX hT;obtain rfl:kt=4:=HKT.out;have hT0:=hT.out;obtain⟨-,hks0⟩:=ap.pairK hT0;obtain⟨b2,off2,cap2,k5,c5,m5,q5,k6,c6,m6,q6,hsl,-,-,hlb2,e5a,e5b,e6a,e6b,ht5,ht6⟩:=hks0.two;simp only[Value.slice.injEq] at hsl;obtain⟨rfl,rfl,rfl⟩:=hsl;have hbF:=hks0.blkT (by simp);have hbr:b2≠r:=hbF.1;have hbw:b2<w.heap.size:=hbF.2;have HVA:=zq (show a.vd=true∧b.vd=true from j8 HSV.out);have HB0:=zq (mkB_fn (d:=dd) HSV.out);have h5_:=zq ht5;have h6_:=zq ht6;clear hT0 hks0 hbF ht5 ht6;have c5a_:=e5a;have c5b_:=e5b;have c6a_:=e6a;have c6b_:=e6b;clear e5a e5b e6a e6b;obtain⟨y0,y1⟩:=blk2 fT;have lyT:=aD fT
 go_wp2_with fail
 clear y0 y1 lyT;refine wp_region_noPanic ?_;refine wp_region_held_drew (S:=fun w'=>w'.cell? ⟨w.heap.size,1,none⟩=some (.slice (some ⟨b2,off2,none⟩) 2 tq)∧w'.cell? ⟨b2,off2,none⟩=some (.int .i64 k5)∧w'.cell? ⟨b2,off2+1,none⟩=some (.slice c5 m5 q5)∧w'.cell? ⟨b2,off2+2,none⟩=some (.int .i64 k6)∧w'.cell? ⟨b2,off2+3,none⟩=some (.slice c6 m6 q6)) (by kernel_rfl) ?_ (fun hH0=>?_)
 ·exact⟨ah fT rfl,c5a_,c5b_,c6a_,c6b_⟩
 obtain⟨U4,hU,hb,zU4a,zU4b⟩:=bK wc;rw[hU] at hH0 ⊢;replace fT:=ag fT hb;replace fR:=ag fR hb;replace fC:=zqb fC hb;replace rd:=zq (rd.out.below hb);replace hX:=zq (hX.out.below hb);replace hT:=zq (hT.out.below hb);replace c5a_:=af hb c5a_;replace c5b_:=af hb c5b_;replace h5_:=zq (h5_.out.below hb);replace c6a_:=af hb c6a_;replace c6b_:=af hb c6b_;replace h6_:=zq (h6_.out.below hb);(try simp only[World.size_alloc] at zU4a zU4b);clear hU hb;refine hwt 0 pV (.pointer (some ⟨r,0,none⟩)) hH0 ?_ ?_
 ·intro w' hSw;dsimp only[pV];go_simp
 try simp only[pV,hwA]
 refine hwt 1 pW (.slice xa xn xq) hH0 ?_ ?_
 ·intro w' hSw;dsimp only[pW];go_simp
 try simp only[pW,hwA]
 refine hwt 2 pX (.pointer (some ⟨w.heap.size,1,none⟩)) hH0 ?_ ?_
 ·intro w' hSw;dsimp only[pX];go_simp
 try simp only[pX,hwA]
 refine hwt 3 pY (.slice (some ⟨b2,off2,none⟩) 2 tq) hH0 ?_ ?_
 ·intro w' hSw;dsimp only[pY];go_simp
 try simp only[pY,hwA]
 refine hwt 4 pZ (.pointer (some ⟨b2,off2,none⟩)) hH0 ?_ ?_
 ·intro w' hSw;dsimp only[pZ];go_simp
 try simp only[pZ,hwA]
 refine hwt 5 qa (.agg #[.int .i64 k5,.slice c5 m5 q5]) hH0 ?_ ?_
 ·intro w' hSw;dsimp only[qa];go_simp
 try simp only[qa,hwA]
 refine hwt 6 qf (.pointer (some ⟨w.heap.size,1,none⟩)) hH0 ?_ ?_
 ·intro w' hSw;dsimp only[qf];go_simp
 try simp only[qf,hwA]
 refine hwt 7 qg (.slice (some ⟨b2,off2,none⟩) 2 tq) hH0 ?_ ?_
 ·intro w' hSw;dsimp only[qg];go_simp
 try simp only[qg,hwA]
 refine hwt 8 qh (.pointer (some ⟨b2,off2+2,none⟩)) hH0 ?_ ?_
 ·intro w' hSw;dsimp only[qh];go_simp
 try simp only[qh,hwA]
 refine hwt 9 qi (.agg #[.int .i64 k6,.slice c6 m6 q6]) hH0 ?_ ?_
 ·intro w' hSw;dsimp only[qi];go_simp
 try simp only[qi,hwA]
 refine hwt 10 ms (.int .i64 dd) hH0 ?_ ?_
 ·intro w' hSw;dsimp only[ms];go_simp
 try simp only[ms,hwA]
 refine hwt 11 mu (.int .i64 (dd-1)) hH0 ?_ ?_
 ·intro w' hSw;dsimp only[mu];go_simp;exact HWK.out
 try simp only[mu,hwA]
 refine hwr 12 mv (fun K hK=>?_)
 dsimp only[mv];go_simp
 go_at_call 86
 refine(nj r _ (dd-1) a b l _ _ _ _ rd.out (hX.out.move (.weaken fun b h _=>h.1)) HCV.out (by have:=HL60.out;omega) (h5_.out.move (.weaken fun b h _=>h.1)) (h6_.out.move (.weaken fun b h _=>h.1)) HVA.out.1 (fun nm hnm=>HIH.out b (l ++ [⟨nm,S.ty a⟩]) (lA (by simp[S.dep];omega)) HVA.out.2 (HOK.out.snoc ((S.valid a).trans HVA.out.1)) (by simp) (fun b hb=>(List.mem_append.1 hb).elim (HNL.out b) (fun h=>by simp at h;subst h;exact hnm))) (by have h1:=HB0.out;have h2:=HMB.out;omega)).mono ?_;rintro e X1701 ⟨t2,v,q2,rfl,hcn2,hv,hq2,hrd,hb⟩;obtain⟨kt2,nm2,ut2,tk2,ta2,tn2,tq2,fk2,fa2,fn2,fq2,lt2,ct2,mt2,qt2,rfl⟩:=hv.shape;have HC2:=zq hcn2;clear hcn2;have h2_':=hv.rg;have rd':Hid (aT X1701 r q2):=zq hrd;clear hv hrd
 go_wp2_with fail
 have zX1701:U4.heap.size≤X1701.heap.size:=hb.size;replace fT:=aB fT hb;replace fR:=aB fR hb;replace fC:=zqc fC hb;replace hX:=zq (hX.out.move (kpN hb (fun b hb=>hb.1)));replace hT:=zq (hT.out.move (kpN hb (fun b hb=>hb.1)));replace c5a_:=aP hb (by omega) c5a_;replace c5b_:=aP hb (by omega) c5b_;replace h5_:=zq (h5_.out.move (kpN hb (fun b hb=>hb.1)));replace c6a_:=aP hb (by omega) c6a_;replace c6b_:=aP hb (by omega) c6b_;replace h6_:=zq (h6_.out.move (kpN hb (fun b hb=>hb.1)));have h2_:=h2_';clear h2_';clear rd;have rd:=rd';clear rd';refine hK.out _ _ ⟨ah fT rfl,c5a_,c5b_,c6a_,c6b_⟩ (fun hH1701=>?_);clear hK K hH0 hb
 try simp only[mv,hwA]
 refine hwr 13 mw (fun K hK=>?_);obtain⟨r0,rf0,r1,rf1,r2,rf2,r3,rf3,r4,rf4,r5,rf5,r6,rf6,r7,rf7,r8,rf8⟩:=blk9f fR
 dsimp only[mw];go_simp
 (try go_wp2_with fail);have hQq:=bQ fR (.int .i64 kt2) (.string nm2) (.int .i64 ut2) (.int .i64 tk2) (.slice ta2 tn2 tq2) (.int .i64 fk2) (.slice fa2 fn2 fq2) (.int .i64 lt2) (.slice ct2 mt2 qt2);clear fR r0 rf0 r1 rf1 r2 rf2 r3 rf3 r4 rf4 r5 rf5 r6 rf6 r7 rf7 r8 rf8;obtain⟨X1702,hXq,hsq,fR,zX1702a,zX1702b⟩:=hQq;rw[hXq];replace fT:=hsq.blk (by omega) fT;replace fC:=zq (hsq.chg fC.out (by omega));replace rd:=zq (hsq.rd rd.out (by omega));replace hX:=zq (hX.out.move (hsq.keeps (fun b hb=>by have:=hb.2;omega)));replace hT:=zq (hsq.rep (fun b hb=>by have:=hb.2;omega) hT.out);replace c5a_:=hsq.cell (by show b2≠w.heap.size+1;omega) c5a_;replace c5b_:=hsq.cell (by show b2≠w.heap.size+1;omega) c5b_;replace h5_:=zq (hsq.rep (fun b hb=>by have:=hb.2;omega) h5_.out);replace c6a_:=hsq.cell (by show b2≠w.heap.size+1;omega) c6a_;replace c6b_:=hsq.cell (by show b2≠w.heap.size+1;omega) c6b_;replace h6_:=zq (hsq.rep (fun b hb=>by have:=hb.2;omega) h6_.out);replace h2_:=zq (h2_.out.move (hsq.keeps (fun b hb=>by have h1:=hb.1;have h2:=hb.2;omega)));refine hK.out _ _ ⟨ah fT rfl,c5a_,c5b_,c6a_,c6b_⟩ (fun hH1702=>?_);clear hK K hH1701 hsq hXq
 try simp only[mw,hwA]
 refine wpAnyH_done (by kernel_rfl) ?_ _;refine NoPanic.normal ?_;clear hH1702;obtain⟨rc0,rc1,rc2,rc3,rc4,rc5,rc6,rc7,rc8⟩:=blk9 fR
 go_wp2_with fail
 refine bodyPost_ret (v:=.agg #[.int .i64 kt2,.string nm2,.int .i64 ut2,.int .i64 tk2,.slice ta2 tn2 tq2,.int .i64 fk2,.slice fa2 fn2 fq2,.int .i64 lt2,.slice ct2 mt2 qt2]) (by simp[results,Tryz.results51,go_sem,rc0,rc1,rc2,rc3,rc4,rc5,rc6,rc7,rc8]) rfl ?_;have h1:=HB0.out;have h2:=HMB.out;have hcc:(t2).cnt≤MB:=by
  have g1:=HC2.out;(try simp only[Tm.cnt,Tm.cnts,Ty.cnt,Ty.cnts,List.length_cons,List.length_nil,show({data:=#[]}:ByteArray).size=0 from rfl])
  omega
 exact⟨t2,_,q2,rfl,hcc,h2_.out.move (.weaken fun b h _=>by have h1:=h.1;show w.heap.size≤b;omega),by omega,rd.out,fC.out⟩
theorem stLetL {W:World}{b:Nat}{a0 a1 a2 a3 a4 a5 a6 a7 a8:Value}{T:TypeId}(h:W.heap[b]?=some (.cells #[a0,a1,a2,a3,a4,a5,a6,a7,a8] T (0,0)))(v:Value) : ∃X,World.setCell W ⟨b,7,none⟩ v=X∧HSt b W X∧X.heap[b]?=some (.cells #[a0,a1,a2,a3,a4,a5,a6,v,a8] T (0,0))∧W.heap.size≤X.heap.size∧X.heap.size≤W.heap.size:=
 ⟨_,rfl,(HSt.refl b W).step,aN h rfl,by simp[World.setCell],by simp[World.setCell]⟩
theorem stLetS {W:World}{b:Nat}{a0 a1 a2 a3 a4 a5 a6 a7 a8:Value}{T:TypeId}(h:W.heap[b]?=some (.cells #[a0,a1,a2,a3,a4,a5,a6,a7,a8] T (0,0)))(v5 v6:Value) : ∃X,World.setCell (World.setCell W ⟨b,5,none⟩ v5) ⟨b,6,none⟩ v6=X∧HSt b W X∧X.heap[b]?=some (.cells #[a0,a1,a2,a3,a4,v5,v6,a7,a8] T (0,0))∧W.heap.size≤X.heap.size∧X.heap.size≤W.heap.size:=
 ⟨_,rfl,(HSt.refl b W).step.step,aN (aN h rfl) rfl,by simp[World.setCell],by simp[World.setCell]⟩
theorem rH (r p m:Nat)(t1:Tm)(y:Value)(w:World)(hrd0:aT w r p)(ht:aA (· ≠ r) w t1 y)(hm:t1.cnt≤m)(hm2:m≤90000)(hp:p≤800000000):Calls Tryz.prog 29 #[.pointer (some ⟨r,0,none⟩),y] w (DTm r p 1500 (m+80) w):=by
 obtain⟨kt1,nm1,ut1,tk1,ta1,tn1,tq1,fk1,fa1,fn1,fq1,lt1,ct1,mt1,qt1,rfl⟩:=ht.shape;have hrl:=hrd0.1;have HRD:=zq hrd0;have HT:=zq ht;have HM:=zq hm;clear hrd0 ht hm
 go_enter Tryz.func29,Tryz.ntmps29
 go_wp2_with fail
 refine(iV r p m t1 _ _ (HRD.out.below aH) (HT.out.below aH) HM.out (by omega) (by omega)).mono ?_;rintro e w1 ⟨t2,v,q2,rfl,hc2,hv,hq2,hrd,hb⟩;obtain⟨kt2,nm2,ut2,tk2,ta2,tn2,tq2,fk2,fa2,fn2,fq2,lt2,ct2,mt2,qt2,rfl⟩:=hv.shape;have z1:=hb.size;simp only[World.size_alloc] at z1;obtain⟨e1,e2,e3,-,-,-,-,e8,-,hnm2,-,-,hty,hsrc,hks⟩:=hv.parts
 cases t2 with | mk ke ne ue ty src le ts=>
 simp only[Tm.kind,Tm.name,Tm.num,Tm.label,Tm.type,Tm.src,Tm.kids] at e1 e2 e3 e8 hty hsrc hks;subst e1 e2 e3 e8;have HN2:=zq hnm2;have HC2:=zq hc2;have fR:w1.heap[w.heap.size+1]?=some (.cells #[.int .i64 0,.string {data:=#[]},.int .i64 0,.int .i64 0,.slice none 0 0,.int .i64 0,.slice none 0 0,.int .i64 0,.slice none 0 0] 28 (0,0)):=aB (aF (by simp)) hb (by omega);have fC:Hid (Chg [r] w w1):=zq ((Chg.of_below aH).trans hb);have rd:Hid (aT w1 r (q2)):=zq hrd;have hY:Hid (ap (fun b=>w.heap.size+1+1≤b∧b<w1.heap.size) w1 ty (.agg #[.int .i64 tk2,.slice ta2 tn2 tq2])):=zq (hty.move (.weaken fun b h1 h2=>⟨by simpa using h1,h2⟩));have hS:Hid (ap (fun b=>w.heap.size+1+1≤b∧b<w1.heap.size) w1 src (.agg #[.int .i64 fk2,.slice fa2 fn2 fq2])):=zq (hsrc.move (.weaken fun b h1 h2=>⟨by simpa using h1,h2⟩));have hK:Hid (aS (fun b=>w.heap.size+1+1≤b∧b<w1.heap.size) w1 ts (.slice ct2 mt2 qt2)):=zq (hks.move (.weaken fun b h1 h2=>⟨by simpa using h1,h2⟩));clear hb hv hrd hty hsrc hks hc2 hnm2 HRD HT
 go_upto_region 2 with fail
 obtain⟨w2,hXq,hb,fO,zw2a,zw2b⟩:=aZ w1 (.cells #[.int .i64 kt2,.string nm2,.int .i64 ut2,.int .i64 tk2,.slice ta2 tn2 tq2,.int .i64 fk2,.slice fa2 fn2 fq2,.int .i64 lt2,.slice ct2 mt2 qt2] 28);rw[hXq];replace fR:=ag fR hb;replace fC:=zqb fC hb;replace rd:=zq (rd.out.below hb);replace hY:=zq (hY.out.below hb);replace hS:=zq (hS.out.below hb);replace hK:=zq (hK.out.below hb);clear hb hXq
 go_wp2_with fail
 refine(bw r (q2) 40 _ rd.out (by omega) (by omega)).mono ?_;rintro e w3 ⟨jk,rfl,hjk0,hjk1,hrd,hb⟩;have zw3:=hb.size;(try simp only[World.size_alloc] at zw3);replace fR:=aB fR hb;replace fC:=zqc fC hb;replace hY:=zq (hY.out.move (kpN hb (fun b hb=>by have h1:=hb.1;have h2:=hb.2;omega)));replace hS:=zq (hS.out.move (kpN hb (fun b hb=>by have h1:=hb.1;have h2:=hb.2;omega)));replace hK:=zq (hK.out.move (kpN hb (fun b hb=>by have h1:=hb.1;have h2:=hb.2;omega)));replace fO:=aB fO hb;replace rd:=zq hrd;clear hrd;clear hb;clear hjk0 hjk1
 rcases Bool.eq_false_or_eq_true (jk==0) with hj0 | hj0
 ·go_wp2_with fail
  refine(bO (fun _=>True) r (q2+1) _ 4 4 _ (rd.out.below aj) (by omega) (by omega) (by omega) (Nat.le_refl _) (by omega) (bA [0,100,-9223372036854775808,3] rfl _ (fun _ _=>trivial))).mono ?_;rintro e w4 ⟨nn,rfl,-,hrd,hb0⟩;have hb:=Chg.trans (Chg.of_below (aj (w:=w3))) hb0;clear hb0;have zw4:=hb.size;(try simp only[World.size_alloc] at zw4);replace fR:=aB fR hb;replace fC:=zqc fC hb;replace hY:=zq (hY.out.move (kpN hb (fun b hb=>by have h1:=hb.1;have h2:=hb.2;omega)));replace hS:=zq (hS.out.move (kpN hb (fun b hb=>by have h1:=hb.1;have h2:=hb.2;omega)));replace hK:=zq (hK.out.move (kpN hb (fun b hb=>by have h1:=hb.1;have h2:=hb.2;omega)));replace fO:=aB fO hb;replace rd:=zq hrd;clear hrd;clear hb;have y7:=ah fO (o:=7) rfl;have yf7:=ao fO 7;have yl:=aD fO
  go_upto_region 7 with fail
  clear y7 yf7 yl;obtain⟨w5,hXq,hsq,fO_,zw5a,zw5b⟩:=stLetL fO (.int .i64 nn);rw[hXq];replace fR:=hsq.blk (by omega) fR;replace fC:=zq (hsq.chg fC.out (by omega));replace rd:=zq (hsq.rd rd.out (by omega));replace hY:=zq (hY.out.move (hsq.keeps (fun b hb=>by have h1:=hb.1;have h2:=hb.2;omega)));replace hS:=zq (hS.out.move (hsq.keeps (fun b hb=>by have h1:=hb.1;have h2:=hb.2;omega)));replace hK:=zq (hK.out.move (hsq.keeps (fun b hb=>by have h1:=hb.1;have h2:=hb.2;omega)));clear fO hsq hXq;have fO:=fO_;clear fO_;obtain⟨y0,y1,y2,y3,y4,y5,y6,y7,y8⟩:=blk9 fO;have yl:=aD fO;obtain⟨x0,x1,x2,x3,x4,x5,x6,x7,x8⟩:=blk9 fR;have xf0:=ao fR 0;have xf1:=ao fR 1;have xf2:=ao fR 2;have xf3:=ao fR 3;have xf4:=ao fR 4;have xf5:=ao fR 5;have xf6:=ao fR 6;have xf7:=ao fR 7;have xf8:=ao fR 8;have xl:=aD fR
  go_wp2_with fail
  clear y0 y1 y2 y3 y4 y5 y6 y7 y8 yl x0 x1 x2 x3 x4 x5 x6 x7 x8 xf0 xf1 xf2 xf3 xf4 xf5 xf6 xf7 xf8 xl;obtain⟨w9,hXq,hsq,fR_,zw9a,zw9b⟩:=bQ fR (.int .i64 kt2) (.string nm2) (.int .i64 ut2) (.int .i64 tk2) (.slice ta2 tn2 tq2) (.int .i64 fk2) (.slice fa2 fn2 fq2) (.int .i64 nn) (.slice ct2 mt2 qt2);rw[hXq];replace fC:=zq (hsq.chg fC.out (by omega));replace rd:=zq (hsq.rd rd.out (by omega));replace hY:=zq (hsq.rep (fun b hb=>by have h1:=hb.1;have h2:=hb.2;omega) hY.out);replace hS:=zq (hsq.rep (fun b hb=>by have h1:=hb.1;have h2:=hb.2;omega) hS.out);replace hK:=zq (hK.out.move (hsq.keeps (fun b hb=>by have h1:=hb.1;have h2:=hb.2;omega)));replace fO:=hsq.blk (by omega) fO;clear fR hsq hXq;have fR:=fR_;clear fR_;obtain⟨rc0,rc1,rc2,rc3,rc4,rc5,rc6,rc7,rc8⟩:=blk9 fR;refine bodyPost_ret (v:=.agg #[.int .i64 kt2,.string nm2,.int .i64 ut2,.int .i64 tk2,.slice ta2 tn2 tq2,.int .i64 fk2,.slice fa2 fn2 fq2,.int .i64 nn,.slice ct2 mt2 qt2]) (by simp[results,Tryz.results29,go_sem,rc0,rc1,rc2,rc3,rc4,rc5,rc6,rc7,rc8]) rfl ?_;have h1:=HC2.out;simp only[Tm.cnt] at h1
  exact⟨.mk kt2 nm2 ut2 ty src nn ts,_,_,rfl,by simp only[Tm.cnt];omega,aA.mk HN2.out (hY.out.move (.weaken fun b h _=>by have h1:=h.1;show w.heap.size≤b;omega)) (hS.out.move (.weaken fun b h _=>by have h1:=h.1;show w.heap.size≤b;omega)) (hK.out.move (.weaken fun b h _=>by have h1:=h.1;show w.heap.size≤b;omega)),by omega,rd.out,fC.out⟩
 rcases Bool.eq_false_or_eq_true (jk==1) with hj1 | hj1
 ·go_wp2_with fail
  refine(kX r (q2+1) _ rd.out (by omega)).mono ?_;rintro e w4 ⟨t4,v,q4,rfl,hc4,hv,hq4,hrd,hb⟩;obtain⟨k4,a4,n4,c4,rfl⟩:=hv.shape;have h4':=hv.rg;have HC4:=zq hc4;clear hv hc4;have zw4:=hb.size;(try simp only[World.size_alloc] at zw4);replace fR:=aB fR hb;replace fC:=zqc fC hb;replace hY:=zq (hY.out.move (kpN hb (fun b hb=>by have h1:=hb.1;have h2:=hb.2;omega)));replace hS:=zq (hS.out.move (kpN hb (fun b hb=>by have h1:=hb.1;have h2:=hb.2;omega)));replace hK:=zq (hK.out.move (kpN hb (fun b hb=>by have h1:=hb.1;have h2:=hb.2;omega)));replace fO:=aB fO hb;replace rd:=zq hrd;clear hrd;clear hb;have h4_:=h4';clear h4'
  go_wp2_with fail
  refine(iU r q4 14 t4 _ _ rd.out (h4_.out.move (.weaken fun b h _=>by have h1:=h.1;intro q;omega)) HC4.out (by omega) (by omega)).mono ?_;rintro e w5 ⟨t5,v,q5,rfl,hc5,hv,hq5,hrd,hb⟩;obtain⟨k5,a5,n5,c5,rfl⟩:=hv.shape;have h5':=hv.rg;have HC5:=zq hc5;clear hv hc5;have zw5:=hb.size;(try simp only[World.size_alloc] at zw5);replace fR:=aB fR hb;replace fC:=zqc fC hb;replace hY:=zq (hY.out.move (kpN hb (fun b hb=>by have h1:=hb.1;have h2:=hb.2;omega)));replace hS:=zq (hS.out.move (kpN hb (fun b hb=>by have h1:=hb.1;have h2:=hb.2;omega)));replace hK:=zq (hK.out.move (kpN hb (fun b hb=>by have h1:=hb.1;have h2:=hb.2;omega)));replace fO:=aB fO hb;replace h4_:=zq (h4_.out.move (kpN hb (fun b hb=>by have h1:=hb.1;have h2:=hb.2;omega)));replace rd:=zq hrd;clear hrd;clear hb;have h5_:=h5';clear h5';have y5:=ah fO (o:=5) rfl;have y6:=ah fO (o:=6) rfl;have yf5:=ao fO 5;have yf6:=ao fO 6;have yl:=aD fO
  go_upto_region 7 with fail
  clear y5 y6 yf5 yf6 yl;obtain⟨w6,hXq,hsq,fO_,zw6a,zw6b⟩:=stLetS fO (.int .i64 k5) (.slice a5 n5 c5);rw[hXq];replace fR:=hsq.blk (by omega) fR;replace fC:=zq (hsq.chg fC.out (by omega));replace rd:=zq (hsq.rd rd.out (by omega));replace hY:=zq (hY.out.move (hsq.keeps (fun b hb=>by have h1:=hb.1;have h2:=hb.2;omega)));replace hS:=zq (hS.out.move (hsq.keeps (fun b hb=>by have h1:=hb.1;have h2:=hb.2;omega)));replace hK:=zq (hK.out.move (hsq.keeps (fun b hb=>by have h1:=hb.1;have h2:=hb.2;omega)));replace h4_:=zq (h4_.out.move (hsq.keeps (fun b hb=>by have h1:=hb.1;have h2:=hb.2;omega)));replace h5_:=zq (h5_.out.move (hsq.keeps (fun b hb=>by have h1:=hb.1;have h2:=hb.2;omega)));clear fO hsq hXq;have fO:=fO_;clear fO_;obtain⟨y0,y1,y2,y3,y4,y5,y6,y7,y8⟩:=blk9 fO;have yl:=aD fO;obtain⟨x0,x1,x2,x3,x4,x5,x6,x7,x8⟩:=blk9 fR;have xf0:=ao fR 0;have xf1:=ao fR 1;have xf2:=ao fR 2;have xf3:=ao fR 3;have xf4:=ao fR 4;have xf5:=ao fR 5;have xf6:=ao fR 6;have xf7:=ao fR 7;have xf8:=ao fR 8;have xl:=aD fR
  go_wp2_with fail
  clear y0 y1 y2 y3 y4 y5 y6 y7 y8 yl x0 x1 x2 x3 x4 x5 x6 x7 x8 xf0 xf1 xf2 xf3 xf4 xf5 xf6 xf7 xf8 xl;obtain⟨w9,hXq,hsq,fR_,zw9a,zw9b⟩:=bQ fR (.int .i64 kt2) (.string nm2) (.int .i64 ut2) (.int .i64 tk2) (.slice ta2 tn2 tq2) (.int .i64 k5) (.slice a5 n5 c5) (.int .i64 lt2) (.slice ct2 mt2 qt2);rw[hXq];replace fC:=zq (hsq.chg fC.out (by omega));replace rd:=zq (hsq.rd rd.out (by omega));replace hY:=zq (hsq.rep (fun b hb=>by have h1:=hb.1;have h2:=hb.2;omega) hY.out);replace hS:=zq (hsq.rep (fun b hb=>by have h1:=hb.1;have h2:=hb.2;omega) hS.out);replace hK:=zq (hK.out.move (hsq.keeps (fun b hb=>by have h1:=hb.1;have h2:=hb.2;omega)));replace fO:=hsq.blk (by omega) fO;replace h4_:=zq (hsq.rep (fun b hb=>by have h1:=hb.1;have h2:=hb.2;omega) h4_.out);replace h5_:=zq (hsq.rep (fun b hb=>by have h1:=hb.1;have h2:=hb.2;omega) h5_.out);clear fR hsq hXq;have fR:=fR_;clear fR_;obtain⟨rc0,rc1,rc2,rc3,rc4,rc5,rc6,rc7,rc8⟩:=blk9 fR;refine bodyPost_ret (v:=.agg #[.int .i64 kt2,.string nm2,.int .i64 ut2,.int .i64 tk2,.slice ta2 tn2 tq2,.int .i64 k5,.slice a5 n5 c5,.int .i64 lt2,.slice ct2 mt2 qt2]) (by simp[results,Tryz.results29,go_sem,rc0,rc1,rc2,rc3,rc4,rc5,rc6,rc7,rc8]) rfl ?_;have h1:=HC2.out;simp only[Tm.cnt] at h1;have h5:=HC5.out
  exact⟨.mk kt2 nm2 ut2 ty t5 lt2 ts,_,_,rfl,by simp only[Tm.cnt];omega,aA.mk HN2.out (hY.out.move (.weaken fun b h _=>by have h1:=h.1;show w.heap.size≤b;omega)) (h5_.out.move (.weaken fun b h _=>by have h1:=h.1;show w.heap.size≤b;omega)) (hK.out.move (.weaken fun b h _=>by have h1:=h.1;show w.heap.size≤b;omega)),by omega,rd.out,fC.out⟩
 ·skip
  obtain⟨y0,y1,y2,y3,y4,y5,y6,y7,y8⟩:=blk9 fO;have yl:=aD fO;obtain⟨x0,x1,x2,x3,x4,x5,x6,x7,x8⟩:=blk9 fR;have xf0:=ao fR 0;have xf1:=ao fR 1;have xf2:=ao fR 2;have xf3:=ao fR 3;have xf4:=ao fR 4;have xf5:=ao fR 5;have xf6:=ao fR 6;have xf7:=ao fR 7;have xf8:=ao fR 8;have xl:=aD fR
  go_wp2_with fail
  clear y0 y1 y2 y3 y4 y5 y6 y7 y8 yl x0 x1 x2 x3 x4 x5 x6 x7 x8 xf0 xf1 xf2 xf3 xf4 xf5 xf6 xf7 xf8 xl;obtain⟨w9,hXq,hsq,fR_,zw9a,zw9b⟩:=bQ fR (.int .i64 kt2) (.string nm2) (.int .i64 ut2) (.int .i64 tk2) (.slice ta2 tn2 tq2) (.int .i64 fk2) (.slice fa2 fn2 fq2) (.int .i64 lt2) (.slice ct2 mt2 qt2);rw[hXq];replace fC:=zq (hsq.chg fC.out (by omega));replace rd:=zq (hsq.rd rd.out (by omega));replace hY:=zq (hsq.rep (fun b hb=>by have h1:=hb.1;have h2:=hb.2;omega) hY.out);replace hS:=zq (hsq.rep (fun b hb=>by have h1:=hb.1;have h2:=hb.2;omega) hS.out);replace hK:=zq (hK.out.move (hsq.keeps (fun b hb=>by have h1:=hb.1;have h2:=hb.2;omega)));replace fO:=hsq.blk (by omega) fO;clear fR hsq hXq;have fR:=fR_;clear fR_;obtain⟨rc0,rc1,rc2,rc3,rc4,rc5,rc6,rc7,rc8⟩:=blk9 fR;refine bodyPost_ret (v:=.agg #[.int .i64 kt2,.string nm2,.int .i64 ut2,.int .i64 tk2,.slice ta2 tn2 tq2,.int .i64 fk2,.slice fa2 fn2 fq2,.int .i64 lt2,.slice ct2 mt2 qt2]) (by simp[results,Tryz.results29,go_sem,rc0,rc1,rc2,rc3,rc4,rc5,rc6,rc7,rc8]) rfl ?_;have h1:=HC2.out;simp only[Tm.cnt] at h1
  exact⟨.mk kt2 nm2 ut2 ty src lt2 ts,_,_,rfl,by simp only[Tm.cnt];omega,aA.mk HN2.out (hY.out.move (.weaken fun b h _=>by have h1:=h.1;show w.heap.size≤b;omega)) (hS.out.move (.weaken fun b h _=>by have h1:=h.1;show w.heap.size≤b;omega)) (hK.out.move (.weaken fun b h _=>by have h1:=h.1;show w.heap.size≤b;omega)),by omega,rd.out,fC.out⟩
end Go.Proofs.YtfahhonmiimmdaaGreat

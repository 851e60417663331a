/- spec.l3Make: the way of the kind int. And what else its parts name. -/
import Derived.Test.YtfhglkmjibjjoaaB38
set_option linter.unusedSimpArgs false
set_option linter.unusedVariables false
set_option maxRecDepth 100000
set_option maxHeartbeats 16000000
namespace Go.Proofs.Ytfhglkmjibjjoaa
open Go.RowKit
theorem mkWint (dd:Int)(r p:Nat)(l:List Bd)(w:World)(kt:Int)(ta:Option Addr)(tn tq:Nat)(xa:Option Addr)(xn xq:Nat):(dn dd S.int r p l w kt ta tn tq xa xn xq).1.2.2.2.2:=by
 intro _ _ _ _ _ _ _ _ _ _ _ _ HNL HCV HOK HSV HIH _ HKT _ MB _ _ HMB _ _ _ _ _ _ _ _ _ _ _ _ _ _ _ _ _ _ _ _ _ _ _ _ _ _ _ _ _ _ _ _ _ _ _ _ _ _ _ _ _ _ wc _ _ _ _ _ _ _ _ _ _ _ _ _ _ _ _ _ _ _ _ _ _ _ _ _ _ _ _ _ _ _ _ _ _ _ _ _ _ _ _ _ _ _ _ _ _ _ _ _ _ _ _ _ _ _ _ _ _ _ _ _ _ _ _ _ _ _ _ _ _ _ _ _ _ _ _ _ _ _ _ _ _ _ _ _ _ _ _ _ _ _ _ _ _ _ _ _ _ _ _ _ _ _ _ _ _ _ _ _ _ _ _ _ _ _ _ _ _ _ _ _ _ _ _ _ _ _ _ _ _ _ _ _ _ _ _ _ _ _ _ _ _ _ _ _ _ _ _ _ _ _ _ _ _ _ _ _ _ _ _ _ _ _ _ _ _ _ _ _ _ _ _ _ _ _ _ _ _ _ _ _ _ _ _ _ _ _ _ _ _ _ _ _ _ _ _ _ _ _ _ _ _ _ _ _ _ _ _ _ _ _ _ _ _ _ _ _ _ q _ _ fC rd fT fR hX hT;obtain rfl:kt=2:=HKT.out;obtain⟨y0,y1⟩:=blk2 fT;have lyT:=aw fT
 by_cases hd1:1<dd
 ·have hdb:decide (dd>1)=true:=by simpa using hd1
  have HD2:=zq (show 2<=dd by omega);have hU4:MB=4*mkU dd:=HMB.out.symm.trans (dY _ (by omega));have hU0:=dS dd;obtain⟨U,hU⟩ : ∃U,mkU dd=U:=⟨_,rfl⟩
  rw[hU] at hU4 hU0;have HUU:=zq hU;have hMB1:4*U<=MB:=by omega
  have hMB2:MB<=4*U:=by omega
  clear hU hU4;have HLB:=zq (bV (s:=S.bool) HD2.out rfl);have HLI:=zq (bV (s:=S.int) HD2.out rfl);have HLS:=zq (bV HD2.out HSV.out)
  go_wp2_with fail
  refine(bH r (q) 2 _ rd.out (by omega) (by omega)).mono ?_;rintro e v1 ⟨jz,rfl,hjk0,hjk1,hrd,hb⟩;have zv1:=hb.size;(try simp only[World.size_alloc] at zv1);replace fT:=ay fT hb;replace fR:=ay fR hb;replace fC:=zqc fC hb;replace hX:=zq (hX.out.move (kpN hb (fun b hb=>hb.1)));replace hT:=zq (hT.out.move (kpN hb (fun b hb=>hb.1)));replace rd:=zq hrd;clear hrd;clear hb;clear hjk0 hjk1
  rcases Bool.eq_false_or_eq_true (jz==0) with hz0 | hz0
  ·go_wp2_with fail
   refine(b7 _).mono ?_;rintro e v2 ⟨rfl,hb⟩;have zv2:=hb.size;(try simp only[World.size_alloc] at zv2);replace fT:=a9 fT hb;replace fR:=a9 fR hb;replace fC:=zqb fC hb;replace rd:=mh hb rd;replace hX:=mh hb hX;replace hT:=mh hb hT;clear hb
   go_wp2_with fail
   refine(dL r _ S.int _ _ rd.out (ai.leafG 2) rfl (by omega)).mono ?_;rintro e v3 ⟨s2,v,qs,rfl,hvs2,hv,hqs,hrd,hb⟩;obtain⟨kb,ab,nb,qb,rfl⟩:=hv.shape;have hB_':=hv.rg;clear hv;have zv3:=hb.size;(try simp only[World.size_alloc] at zv3);replace fT:=ay fT hb;replace fR:=ay fR hb;replace fC:=zqc fC hb;replace hX:=zq (hX.out.move (kpN hb (fun b hb=>hb.1)));replace hT:=zq (hT.out.move (kpN hb (fun b hb=>hb.1)));replace rd:=zq hrd;clear hrd;clear hb;have hB_:=hB_';clear hB_';have HL2:=zq (bV HD2.out hvs2)
   go_wp2_with fail
   refine(HIH.out (s2) l (cO HD2.out HSV.out hvs2) hvs2 HOK.out (by omega) HNL.out _ _ _ _ rd.out (hX.out.move (.weaken fun b h _=>h.1)) HCV.out (hB_.out.move (.weaken fun b h _=>by have h1:=h.1;intro e;omega)) (by have h1:=HL2.out;have h0:=HUU.out;omega)).mono ?_;rintro e v4 ⟨t2,v,q2,rfl,hcn2,hv,hq2,hrd,hb⟩;obtain⟨kt2,nm2,ut2,tk2,ta2,tn2,tq2,fk2,fa2,fn2,fq2,lt2,ct2,mt2,qt2,rfl⟩:=hv.shape;have HC2:=zq hcn2;have h2_':=hv.rg;clear hv hcn2;have zv4:=hb.size;(try simp only[World.size_alloc] at zv4);replace fT:=ay fT hb;replace fR:=ay fR hb;replace fC:=zqc fC hb;replace hX:=zq (hX.out.move (kpN hb (fun b hb=>hb.1)));replace hT:=zq (hT.out.move (kpN hb (fun b hb=>hb.1)));replace hB_:=zq (hB_.out.move (kpN hb (fun b hb=>by have h1:=hb.1;have h2:=hb.2;omega)));replace rd:=zq hrd;clear hrd;clear hb;have h2_:=h2_';clear h2_'
   go_wp2_with fail
   refine(b7 _).mono ?_;rintro e v5 ⟨rfl,hb⟩;have zv5:=hb.size;(try simp only[World.size_alloc] at zv5);replace fT:=a9 fT hb;replace fR:=a9 fR hb;replace fC:=zqb fC hb;replace rd:=mh hb rd;replace hX:=mh hb hX;replace hT:=mh hb hT;replace hB_:=mh hb hB_;replace h2_:=mh hb h2_;clear hb
   go_wp2_with fail
   refine(HIH.out (S.int) l (cO HD2.out HSV.out rfl) rfl HOK.out (by omega) HNL.out _ _ _ _ rd.out (hX.out.move (.weaken fun b h _=>h.1)) HCV.out (ai.leafG 2) (by have h1:=HLB.out;have h2:=HLS.out;have h3:=HLI.out;have h0:=HUU.out;have h4:=HL2.out;omega)).mono ?_;rintro e v6 ⟨t3,v,q3,rfl,hcn3,hv,hq3,hrd,hb⟩;obtain⟨kt3,nm3,ut3,tk3,ta3,tn3,tq3,fk3,fa3,fn3,fq3,lt3,ct3,mt3,qt3,rfl⟩:=hv.shape;have HC3:=zq hcn3;have h3_':=hv.rg;clear hv hcn3;have zv6:=hb.size;(try simp only[World.size_alloc] at zv6);replace fT:=ay fT hb;replace fR:=ay fR hb;replace fC:=zqc fC hb;replace hX:=zq (hX.out.move (kpN hb (fun b hb=>hb.1)));replace hT:=zq (hT.out.move (kpN hb (fun b hb=>hb.1)));replace hB_:=zq (hB_.out.move (kpN hb (fun b hb=>by have h1:=hb.1;have h2:=hb.2;omega)));replace h2_:=zq (h2_.out.move (kpN hb (fun b hb=>by have h1:=hb.1;have h2:=hb.2;omega)));replace rd:=zq hrd;clear hrd;clear hb;have h3_:=h3_';clear h3_'
   go_wp2_with fail
   generalize hXq:World.alloc v6 _=v7;obtain⟨hb,fL,zv7a,zv7b⟩:=alE hXq;replace fT:=a9 fT hb;replace fR:=a9 fR hb;replace fC:=zqb fC hb;replace rd:=mh hb rd;replace hX:=mh hb hX;replace hT:=mh hb hT;replace hB_:=mh hb hB_;replace h2_:=mh hb h2_;replace h3_:=mh hb h3_;clear hb hXq;refine(cP 7 _ _ _ _).mono ?_;rintro e v8 ⟨rfl,hb⟩;have zv8:=hb.size;(try simp only[World.size_alloc] at zv8);replace fT:=a9 fT hb;replace fR:=a9 fR hb;replace fC:=zqb fC hb;replace rd:=mh hb rd;replace hX:=mh hb hX;replace hT:=mh hb hT;replace hB_:=mh hb hB_;replace h2_:=mh hb h2_;replace h3_:=mh hb h3_;replace fL:=a9 fL hb;clear hb;obtain⟨x0,f0,x1,f1,x2,f2,x3,f3,x4,f4,x5,f5,x6,f6,x7,f7,x8,f8⟩:=blk9f fR;have lxR:=aw fR;have h1:=HLB.out;have h2:=HLS.out;have h3:=HLI.out;have h0:=HUU.out;have h5:=HL2.out;have hks:aN (w.heap.size+1+1 <= ·) v8 [t2,t3] (.slice (some ⟨v6.heap.size,0,none⟩) 2 2):=aN.blk (by show w.heap.size+1+1<=_;omega) fL rfl (by unfold maxLen;omega) (aV.c2 (h2_.out.move (.weaken fun b h _=>by have h1:=h.1;show w.heap.size+1+1<=b;omega)).srep (h3_.out.move (.weaken fun b h _=>by have h1:=h.1;show w.heap.size+1+1<=b;omega)).srep);have hRR:aB (w.heap.size+1+1 <= ·) v8 (Tm.mk 7 {data:=#[]} 0 (.mk 0 []) (.mk 0 []) 0 [t2,t3]) (.agg (nv 7 {data:=#[]} 0 0 none 0 0 0 none 0 0 0 (some ⟨v6.heap.size,0,none⟩) 2 2)):=aB.mk bD ⟨_,rfl,av.nil0⟩ ⟨_,rfl,av.nil0⟩ hks;have hcc:(Tm.mk 7 {data:=#[]} 0 (.mk 0 []) (.mk 0 []) 0 [t2,t3]).cnt<=MB:=by
    have g1:=HC2.out;have g2:=HC3.out;(try simp only[Tm.cnt,Tm.cnts,Ty.cnt,Ty.cnts,List.length_cons,List.length_nil,show({data:=#[]}:ByteArray).size=0 from rfl])
    omega
   have HEND:=zq (DTm.stored (p:=p) (r:=r) (w:=w) (R:=w.heap.size+1) (B:=w.heap.size+1+1) (c:=MB) (m:=MB) (v0:=.int .i64 7) (v1:=.string {data:=#[]}) (v2:=.int .i64 0) (v3:=.int .i64 0) (v4:=.slice none 0 0) (v5:=.int .i64 0) (v6:=.slice none 0 0) (v7:=.int .i64 0) (v8:=.slice (some ⟨v6.heap.size,0,none⟩) 2 2) hRR hcc (by omega) (by omega) rd.out fC.out (by omega) (by omega) (by omega));clear hRR hcc;(try clear hks);(try clear hN);(try clear fL)
   go_wp2_with fail
   refine bq (.agg (nv 7 {data:=#[]} 0 0 none 0 0 0 none 0 0 0 (some ⟨v6.heap.size,0,none⟩) 2 2)) (by simp[results,Try.results74,go_sem,x0,x1,x2,x3,x4,x5,x6,x7,x8]) ?_
   exact HEND.out
  ·go_wp2_with fail
   refine(bY (fun _=>True) r (q+1) _ 5 5 _ (rd.out.below ag) (by omega) (by omega) (by omega) (Nat.le_refl _) (by omega) (bJ [1,2,0,999,5] rfl _ (fun _ _=>trivial))).mono ?_;rintro e v9 ⟨nn,rfl,-,hrd,hb0⟩;have hb:=Chg.trans (Chg.of_below (ag (w:=v1))) hb0;clear hb0;have zv9:=hb.size;(try simp only[World.size_alloc] at zv9);replace fT:=ay fT hb;replace fR:=ay fR hb;replace fC:=zqc fC hb;replace hX:=zq (hX.out.move (kpN hb (fun b hb=>hb.1)));replace hT:=zq (hT.out.move (kpN hb (fun b hb=>hb.1)));replace rd:=zq hrd;clear hrd;clear hb
   go_wp2_with fail
   refine(cQ nn _).mono ?_;rintro e v9n ⟨rfl,hb⟩;have zv9n:=hb.size;(try simp only[World.size_alloc] at zv9n);replace fT:=a9 fT hb;replace fR:=a9 fR hb;replace fC:=zqb fC hb;replace rd:=mh hb rd;replace hX:=mh hb hX;replace hT:=mh hb hT;clear hb;obtain⟨x0,f0,x1,f1,x2,f2,x3,f3,x4,f4,x5,f5,x6,f6,x7,f7,x8,f8⟩:=blk9f fR;have lxR:=aw fR;have hRR:aB (w.heap.size+1+1 <= ·) v9n (Tm.mk 2 {data:=#[]} nn (.mk 0 []) (.mk 0 []) 0 []) (.agg (nv 2 {data:=#[]} nn 0 none 0 0 0 none 0 0 0 none 0 0)):=aB.leaf0 2 nn bD;have hcc:(Tm.mk 2 {data:=#[]} nn (.mk 0 []) (.mk 0 []) 0 []).cnt<=MB:=by
    (try simp only[Tm.cnt,Tm.cnts,Ty.cnt,Ty.cnts,List.length_cons,List.length_nil,show({data:=#[]}:ByteArray).size=0 from rfl])
    omega
   have HEND:=zq (DTm.stored (p:=p) (r:=r) (w:=w) (R:=w.heap.size+1) (B:=w.heap.size+1+1) (c:=MB) (m:=MB) (v0:=.int .i64 2) (v1:=.string {data:=#[]}) (v2:=.int .i64 nn) (v3:=.int .i64 0) (v4:=.slice none 0 0) (v5:=.int .i64 0) (v6:=.slice none 0 0) (v7:=.int .i64 0) (v8:=.slice none 0 0) hRR hcc (by omega) (by omega) rd.out fC.out (by omega) (by omega) (by omega));clear hRR hcc;(try clear hks);(try clear hN);(try clear fL)
   go_wp2_with fail
   refine bq (.agg (nv 2 {data:=#[]} nn 0 none 0 0 0 none 0 0 0 none 0 0)) (by simp[results,Try.results74,go_sem,x0,x1,x2,x3,x4,x5,x6,x7,x8]) ?_
   exact HEND.out
 ·have hdb:decide (dd>1)=false:=by simpa using hd1
  go_wp2_with fail
  refine(bY (fun _=>True) r (q) _ 5 5 _ (rd.out.below ag) (by omega) (by omega) (by omega) (Nat.le_refl _) (by omega) (bJ [1,2,0,999,5] rfl _ (fun _ _=>trivial))).mono ?_;rintro e v9 ⟨nn,rfl,-,hrd,hb0⟩;have hb:=Chg.trans (Chg.of_below (ag (w:=wc))) hb0;clear hb0;have zv9:=hb.size;(try simp only[World.size_alloc] at zv9);replace fT:=ay fT hb;replace fR:=ay fR hb;replace fC:=zqc fC hb;replace hX:=zq (hX.out.move (kpN hb (fun b hb=>hb.1)));replace hT:=zq (hT.out.move (kpN hb (fun b hb=>hb.1)));replace rd:=zq hrd;clear hrd;clear hb
  go_wp2_with fail
  refine(cQ nn _).mono ?_;rintro e v9n ⟨rfl,hb⟩;have zv9n:=hb.size;(try simp only[World.size_alloc] at zv9n);replace fT:=a9 fT hb;replace fR:=a9 fR hb;replace fC:=zqb fC hb;replace rd:=mh hb rd;replace hX:=mh hb hX;replace hT:=mh hb hT;clear hb;obtain⟨x0,f0,x1,f1,x2,f2,x3,f3,x4,f4,x5,f5,x6,f6,x7,f7,x8,f8⟩:=blk9f fR;have lxR:=aw fR;have hRR:aB (w.heap.size+1+1 <= ·) v9n (Tm.mk 2 {data:=#[]} nn (.mk 0 []) (.mk 0 []) 0 []) (.agg (nv 2 {data:=#[]} nn 0 none 0 0 0 none 0 0 0 none 0 0)):=aB.leaf0 2 nn bD;have hcc:(Tm.mk 2 {data:=#[]} nn (.mk 0 []) (.mk 0 []) 0 []).cnt<=MB:=by
   (try simp only[Tm.cnt,Tm.cnts,Ty.cnt,Ty.cnts,List.length_cons,List.length_nil,show({data:=#[]}:ByteArray).size=0 from rfl])
   omega
  have HEND:=zq (DTm.stored (p:=p) (r:=r) (w:=w) (R:=w.heap.size+1) (B:=w.heap.size+1+1) (c:=MB) (m:=MB) (v0:=.int .i64 2) (v1:=.string {data:=#[]}) (v2:=.int .i64 nn) (v3:=.int .i64 0) (v4:=.slice none 0 0) (v5:=.int .i64 0) (v6:=.slice none 0 0) (v7:=.int .i64 0) (v8:=.slice none 0 0) hRR hcc (by omega) (by omega) rd.out fC.out (by omega) (by omega) (by omega));clear hRR hcc;(try clear hks);(try clear hN);(try clear fL)
  go_wp2_with fail
  refine bq (.agg (nv 2 {data:=#[]} nn 0 none 0 0 0 none 0 0 0 none 0 0)) (by simp[results,Try.results74,go_sem,x0,x1,x2,x3,x4,x5,x6,x7,x8]) ?_
  exact HEND.out
theorem mkWbool (dd:Int)(r p:Nat)(l:List Bd)(w:World)(kt:Int)(ta:Option Addr)(tn tq:Nat)(xa:Option Addr)(xn xq:Nat):(dn dd S.bool r p l w kt ta tn tq xa xn xq).1.2.2.2.2:=by
 intro _ _ _ _ _ _ _ _ _ _ _ _ HNL HCV HOK HSV HIH _ HKT _ MB _ _ HMB _ _ _ _ _ _ _ _ _ _ _ _ _ _ _ _ _ _ _ _ _ _ _ _ _ _ _ _ _ _ _ _ _ _ _ _ _ _ _ _ _ _ wc _ _ _ _ _ _ _ _ _ _ _ _ _ _ _ _ _ _ _ _ _ _ _ _ _ _ _ _ _ _ _ _ _ _ _ _ _ _ _ _ _ _ _ _ _ _ _ _ _ _ _ _ _ _ _ _ _ _ _ _ _ _ _ _ _ _ _ _ _ _ _ _ _ _ _ _ _ _ _ _ _ _ _ _ _ _ _ _ _ _ _ _ _ _ _ _ _ _ _ _ _ _ _ _ _ _ _ _ _ _ _ _ _ _ _ _ _ _ _ _ _ _ _ _ _ _ _ _ _ _ _ _ _ _ _ _ _ _ _ _ _ _ _ _ _ _ _ _ _ _ _ _ _ _ _ _ _ _ _ _ _ _ _ _ _ _ _ _ _ _ _ _ _ _ _ _ _ _ _ _ _ _ _ _ _ _ _ _ _ _ _ _ _ _ _ _ _ _ _ _ _ _ _ _ _ _ _ _ _ _ _ _ _ _ _ _ _ _ q _ _ fC rd fT fR hX hT;obtain rfl:kt=3:=HKT.out;obtain⟨y0,y1⟩:=blk2 fT;have lyT:=aw fT
 by_cases hd1:1<dd
 ·have hdb:decide (dd>1)=true:=by simpa using hd1
  have HD2:=zq (show 2<=dd by omega);have hU4:MB=4*mkU dd:=HMB.out.symm.trans (dY _ (by omega));have hU0:=dS dd;obtain⟨U,hU⟩ : ∃U,mkU dd=U:=⟨_,rfl⟩
  rw[hU] at hU4 hU0;have HUU:=zq hU;have hMB1:4*U<=MB:=by omega
  have hMB2:MB<=4*U:=by omega
  clear hU hU4;have HLB:=zq (bV (s:=S.bool) HD2.out rfl);have HLI:=zq (bV (s:=S.int) HD2.out rfl);have HLS:=zq (bV HD2.out HSV.out)
  go_wp2_with fail
  refine(bH r (q) 2 _ rd.out (by omega) (by omega)).mono ?_;rintro e w2 ⟨jz,rfl,hjk0,hjk1,hrd,hb⟩;have zw2:=hb.size;(try simp only[World.size_alloc] at zw2);replace fT:=ay fT hb;replace fR:=ay fR hb;replace fC:=zqc fC hb;replace hX:=zq (hX.out.move (kpN hb (fun b hb=>hb.1)));replace hT:=zq (hT.out.move (kpN hb (fun b hb=>hb.1)));replace rd:=zq hrd;clear hrd;clear hb;clear hjk0 hjk1
  rcases Bool.eq_false_or_eq_true (jz==0) with hz0 | hz0
  ·go_wp2_with fail
   refine(b7 _).mono ?_;rintro e w3 ⟨rfl,hb⟩;have zw3:=hb.size;(try simp only[World.size_alloc] at zw3);replace fT:=a9 fT hb;replace fR:=a9 fR hb;replace fC:=zqb fC hb;replace rd:=mh hb rd;replace hX:=mh hb hX;replace hT:=mh hb hT;clear hb
   go_wp2_with fail
   refine(HIH.out (S.int) l (cO HD2.out HSV.out rfl) rfl HOK.out (by omega) HNL.out _ _ _ _ rd.out (hX.out.move (.weaken fun b h _=>h.1)) HCV.out (ai.leafG 2) (by have h1:=HLB.out;have h2:=HLS.out;have h3:=HLI.out;have h0:=HUU.out;omega)).mono ?_;rintro e w4 ⟨t2,v,q2,rfl,hcn2,hv,hq2,hrd,hb⟩;obtain⟨kt2,nm2,ut2,tk2,ta2,tn2,tq2,fk2,fa2,fn2,fq2,lt2,ct2,mt2,qt2,rfl⟩:=hv.shape;have HC2:=zq hcn2;have h2_':=hv.rg;clear hv hcn2;have zw4:=hb.size;(try simp only[World.size_alloc] at zw4);replace fT:=ay fT hb;replace fR:=ay fR hb;replace fC:=zqc fC hb;replace hX:=zq (hX.out.move (kpN hb (fun b hb=>hb.1)));replace hT:=zq (hT.out.move (kpN hb (fun b hb=>hb.1)));replace rd:=zq hrd;clear hrd;clear hb;have h2_:=h2_';clear h2_'
   go_wp2_with fail
   refine(b7 _).mono ?_;rintro e w5 ⟨rfl,hb⟩;have zw5:=hb.size;(try simp only[World.size_alloc] at zw5);replace fT:=a9 fT hb;replace fR:=a9 fR hb;replace fC:=zqb fC hb;replace rd:=mh hb rd;replace hX:=mh hb hX;replace hT:=mh hb hT;replace h2_:=mh hb h2_;clear hb
   go_wp2_with fail
   refine(HIH.out (S.int) l (cO HD2.out HSV.out rfl) rfl HOK.out (by omega) HNL.out _ _ _ _ rd.out (hX.out.move (.weaken fun b h _=>h.1)) HCV.out (ai.leafG 2) (by have h1:=HLB.out;have h2:=HLS.out;have h3:=HLI.out;have h0:=HUU.out;omega)).mono ?_;rintro e w6 ⟨t3,v,q3,rfl,hcn3,hv,hq3,hrd,hb⟩;obtain⟨kt3,nm3,ut3,tk3,ta3,tn3,tq3,fk3,fa3,fn3,fq3,lt3,ct3,mt3,qt3,rfl⟩:=hv.shape;have HC3:=zq hcn3;have h3_':=hv.rg;clear hv hcn3;have zw6:=hb.size;(try simp only[World.size_alloc] at zw6);replace fT:=ay fT hb;replace fR:=ay fR hb;replace fC:=zqc fC hb;replace hX:=zq (hX.out.move (kpN hb (fun b hb=>hb.1)));replace hT:=zq (hT.out.move (kpN hb (fun b hb=>hb.1)));replace h2_:=zq (h2_.out.move (kpN hb (fun b hb=>by have h1:=hb.1;have h2:=hb.2;omega)));replace rd:=zq hrd;clear hrd;clear hb;have h3_:=h3_';clear h3_'
   go_wp2_with fail
   generalize hXq:World.alloc w6 _=w7;obtain⟨hb,fL,zw7a,zw7b⟩:=alE hXq;replace fT:=a9 fT hb;replace fR:=a9 fR hb;replace fC:=zqb fC hb;replace rd:=mh hb rd;replace hX:=mh hb hX;replace hT:=mh hb hT;replace h2_:=mh hb h2_;replace h3_:=mh hb h3_;clear hb hXq;refine(cP 8 _ _ _ _).mono ?_;rintro e w8 ⟨rfl,hb⟩;have zw8:=hb.size;(try simp only[World.size_alloc] at zw8);replace fT:=a9 fT hb;replace fR:=a9 fR hb;replace fC:=zqb fC hb;replace rd:=mh hb rd;replace hX:=mh hb hX;replace hT:=mh hb hT;replace h2_:=mh hb h2_;replace h3_:=mh hb h3_;replace fL:=a9 fL hb;clear hb;obtain⟨x0,f0,x1,f1,x2,f2,x3,f3,x4,f4,x5,f5,x6,f6,x7,f7,x8,f8⟩:=blk9f fR;have lxR:=aw fR;have h1:=HLB.out;have h2:=HLS.out;have h3:=HLI.out;have h0:=HUU.out;have hks:aN (w.heap.size+1+1 <= ·) w8 [t2,t3] (.slice (some ⟨w6.heap.size,0,none⟩) 2 2):=aN.blk (by show w.heap.size+1+1<=_;omega) fL rfl (by unfold maxLen;omega) (aV.c2 (h2_.out.move (.weaken fun b h _=>by have h1:=h.1;show w.heap.size+1+1<=b;omega)).srep (h3_.out.move (.weaken fun b h _=>by have h1:=h.1;show w.heap.size+1+1<=b;omega)).srep);have hRR:aB (w.heap.size+1+1 <= ·) w8 (Tm.mk 8 {data:=#[]} 0 (.mk 0 []) (.mk 0 []) 0 [t2,t3]) (.agg (nv 8 {data:=#[]} 0 0 none 0 0 0 none 0 0 0 (some ⟨w6.heap.size,0,none⟩) 2 2)):=aB.mk bD ⟨_,rfl,av.nil0⟩ ⟨_,rfl,av.nil0⟩ hks;have hcc:(Tm.mk 8 {data:=#[]} 0 (.mk 0 []) (.mk 0 []) 0 [t2,t3]).cnt<=MB:=by
    have g1:=HC2.out;have g2:=HC3.out;(try simp only[Tm.cnt,Tm.cnts,Ty.cnt,Ty.cnts,List.length_cons,List.length_nil,show({data:=#[]}:ByteArray).size=0 from rfl])
    omega
   have HEND:=zq (DTm.stored (p:=p) (r:=r) (w:=w) (R:=w.heap.size+1) (B:=w.heap.size+1+1) (c:=MB) (m:=MB) (v0:=.int .i64 8) (v1:=.string {data:=#[]}) (v2:=.int .i64 0) (v3:=.int .i64 0) (v4:=.slice none 0 0) (v5:=.int .i64 0) (v6:=.slice none 0 0) (v7:=.int .i64 0) (v8:=.slice (some ⟨w6.heap.size,0,none⟩) 2 2) hRR hcc (by omega) (by omega) rd.out fC.out (by omega) (by omega) (by omega));clear hRR hcc;(try clear hks);(try clear hN);(try clear fL)
   go_wp2_with fail
   refine bq (.agg (nv 8 {data:=#[]} 0 0 none 0 0 0 none 0 0 0 (some ⟨w6.heap.size,0,none⟩) 2 2)) (by simp[results,Try.results74,go_sem,x0,x1,x2,x3,x4,x5,x6,x7,x8]) ?_
   exact HEND.out
  ·skip
   obtain⟨x0,f0,x1,f1,x2,f2,x3,f3,x4,f4,x5,f5,x6,f6,x7,f7,x8,f8⟩:=blk9f fR;have lxR:=aw fR;have hRR:aB (w.heap.size+1+1 <= ·) w2 (Tm.mk 3 {data:=#[]} 0 (.mk 0 []) (.mk 0 []) 0 []) (.agg (nz 3)):=aB.leaf0 3 0 bD;have hcc:(Tm.mk 3 {data:=#[]} 0 (.mk 0 []) (.mk 0 []) 0 []).cnt<=MB:=by
    (try simp only[Tm.cnt,Tm.cnts,Ty.cnt,Ty.cnts,List.length_cons,List.length_nil,show({data:=#[]}:ByteArray).size=0 from rfl])
    omega
   have HEND:=zq (DTm.stored (p:=p) (r:=r) (w:=w) (R:=w.heap.size+1) (B:=w.heap.size+1+1) (c:=MB) (m:=MB) (v0:=.int .i64 3) (v1:=.string {data:=#[]}) (v2:=.int .i64 0) (v3:=.int .i64 0) (v4:=.slice none 0 0) (v5:=.int .i64 0) (v6:=.slice none 0 0) (v7:=.int .i64 0) (v8:=.slice none 0 0) hRR hcc (by omega) (by omega) rd.out fC.out (by omega) (by omega) (by omega));clear hRR hcc;(try clear hks);(try clear hN);(try clear fL)
   go_wp2_with fail
   refine bq (.agg (nz 3)) (by simp[results,Try.results74,go_sem,x0,x1,x2,x3,x4,x5,x6,x7,x8]) ?_
   exact HEND.out
 ·have hdb:decide (dd>1)=false:=by simpa using hd1
  obtain⟨x0,f0,x1,f1,x2,f2,x3,f3,x4,f4,x5,f5,x6,f6,x7,f7,x8,f8⟩:=blk9f fR;have lxR:=aw fR;have hRR:aB (w.heap.size+1+1 <= ·) wc (Tm.mk 3 {data:=#[]} 0 (.mk 0 []) (.mk 0 []) 0 []) (.agg (nz 3)):=aB.leaf0 3 0 bD;have hcc:(Tm.mk 3 {data:=#[]} 0 (.mk 0 []) (.mk 0 []) 0 []).cnt<=MB:=by
   (try simp only[Tm.cnt,Tm.cnts,Ty.cnt,Ty.cnts,List.length_cons,List.length_nil,show({data:=#[]}:ByteArray).size=0 from rfl])
   omega
  have HEND:=zq (DTm.stored (p:=p) (r:=r) (w:=w) (R:=w.heap.size+1) (B:=w.heap.size+1+1) (c:=MB) (m:=MB) (v0:=.int .i64 3) (v1:=.string {data:=#[]}) (v2:=.int .i64 0) (v3:=.int .i64 0) (v4:=.slice none 0 0) (v5:=.int .i64 0) (v6:=.slice none 0 0) (v7:=.int .i64 0) (v8:=.slice none 0 0) hRR hcc (by omega) (by omega) rd.out fC.out (by omega) (by omega) (by omega));clear hRR hcc;(try clear hks);(try clear hN);(try clear fL)
  go_wp2_with fail
  refine bq (.agg (nz 3)) (by simp[results,Try.results74,go_sem,x0,x1,x2,x3,x4,x5,x6,x7,x8]) ?_
  exact HEND.out
theorem mkWpr (dd:Int)(r p:Nat)(l:List Bd)(w:World)(kt:Int)(ta:Option Addr)(tn tq:Nat)(xa:Option Addr)(xn xq:Nat)(a b:S):(dn dd (S.pr a b) r p l w kt ta tn tq xa xn xq).1.2.2.2.2:=by
 intro _ _ _ _ _ _ _ _ HWK _ _ _ HNL HCV HOK HSV HIH _ HKT _ MB _ _ HMB _ _ _ _ _ _ _ _ _ _ _ _ _ _ _ _ _ _ _ _ _ _ _ _ _ _ _ _ _ _ _ _ _ _ _ _ _ _ _ _ _ _ wc _ _ _ _ _ _ _ _ _ _ _ _ _ _ _ _ _ _ _ _ _ _ _ _ _ _ _ _ _ _ _ _ _ _ _ _ _ _ _ _ _ _ _ _ _ _ _ _ _ _ _ _ _ _ _ _ _ _ _ _ _ _ _ _ _ _ _ _ _ _ _ _ _ _ _ _ _ _ _ _ _ _ _ _ _ _ _ _ _ _ _ _ _ _ _ _ _ _ _ _ _ _ _ _ _ _ _ _ _ _ _ _ _ _ _ _ _ _ _ _ _ _ _ _ _ _ _ _ _ _ _ _ _ _ _ _ _ _ _ _ _ _ _ _ _ _ _ _ _ _ _ _ _ _ _ _ _ _ _ _ _ _ _ _ _ _ _ _ _ _ _ _ _ _ _ _ _ _ _ _ _ _ _ _ _ _ _ _ _ _ _ _ _ _ _ _ _ _ _ _ _ _ _ _ _ _ _ _ _ _ _ _ _ _ _ _ _ _ _ _ _ fC rd fT fR hX hT;obtain rfl:kt=5:=HKT.out;have hT0:=hT.out;obtain⟨-,hks0⟩:=ai.pairK hT0;obtain⟨b2,off2,cap2,k5,c5,m5,q5,k6,c6,m6,q6,hsl,-,-,hlb2,e5a,e5b,e6a,e6b,ht5,ht6⟩:=hks0.two;simp only[Value.slice.injEq] at hsl;obtain⟨rfl,rfl,rfl⟩:=hsl;have hbF:=hks0.blkT (by simp);have hbr:b2≠r:=hbF.1;have hbw:b2<w.heap.size:=hbF.2;have HVA:=zq (show a.vd=true∧b.vd=true from dx HSV.out);have HB0:=zq (mkB_pr (d:=dd) HSV.out);have h5_:=zq ht5;have h6_:=zq ht6;clear hT0 hks0 hbF ht5 ht6;have c5a_:=e5a;have c5b_:=e5b;have c6a_:=e6a;have c6b_:=e6b;clear e5a e5b e6a e6b;obtain⟨y0,y1⟩:=blk2 fT;have lyT:=aw fT
 go_wp2_with fail
 clear y0 y1 lyT;refine wh5 (bc1 fT) c5a_ c5b_ c6a_ c6b_ (fun U5 hb zU5a zU5b hH0=>?_);replace fT:=a9 fT hb;replace fR:=a9 fR hb;replace fC:=zqb fC hb;replace rd:=mh hb rd;replace hX:=mh hb hX;replace hT:=mh hb hT;replace c5a_:=af hb c5a_;replace c5b_:=af hb c5b_;replace h5_:=mh hb h5_;replace c6a_:=af hb c6a_;replace c6b_:=af hb c6b_;replace h6_:=mh hb h6_;clear hb;refine hwq hx0 (.pointer (some ⟨r,0,none⟩)) hH0 ?_;refine hwq hx1 (.slice xa xn xq) hH0 ?_;refine hwq hx2 (.pointer (some ⟨w.heap.size,1,none⟩)) hH0 ?_;refine hwq hx3 (.slice (some ⟨b2,off2,none⟩) 2 tq) hH0 ?_;refine hwq hx4 (.pointer (some ⟨b2,off2,none⟩)) hH0 ?_;refine hwq hx5 (.agg #[.int .i64 k5,.slice c5 m5 q5]) hH0 ?_;refine hwq hx6 (.int .i64 dd) hH0 ?_;refine hwq hx7 (.int .i64 (dd-1)) hH0 ?_ (hy:=by intro w' hSw;go_simp;exact HWK.out);refine hwq hx9 (.pointer (some ⟨r,0,none⟩)) hH0 ?_;refine hwq bd (.slice xa xn xq) hH0 ?_;refine hwq bl (.pointer (some ⟨w.heap.size,1,none⟩)) hH0 ?_;refine hwq bz (.slice (some ⟨b2,off2,none⟩) 2 tq) hH0 ?_;refine hwq bA (.pointer (some ⟨b2,off2+2,none⟩)) hH0 ?_;refine hwq bB (.agg #[.int .i64 k6,.slice c6 m6 q6]) hH0 ?_;refine hwq bF (.int .i64 dd) hH0 ?_;refine hwq bI (.int .i64 (dd-1)) hH0 ?_ (hy:=by intro w' hSw;go_simp;exact HWK.out);refine hwe hx8 (fun K hK=>?_)
 go_simp
 go_at_call 74
 refine(HIH.out (a) l (jE (by simp[S.dep];omega)) HVA.out.1 HOK.out (by omega) HNL.out _ _ _ _ rd.out (hX.out.move (.weaken fun b h _=>h.1)) HCV.out (h5_.out.move (.weaken fun b h _=>h.1)) (by have h1:=HB0.out;have h2:=HMB.out;omega)).mono ?_;rintro e X1801 ⟨t2,v,q2,rfl,hcn2,hv,hq2,hrd,hb⟩;obtain⟨kt2,nm2,ut2,tk2,ta2,tn2,tq2,fk2,fa2,fn2,fq2,lt2,ct2,mt2,qt2,rfl⟩:=hv.shape;have HC2:=zq hcn2;clear hcn2;have h2_':=hv.rg;have rd':Hid (aR X1801 r q2):=zq hrd;clear hv hrd
 go_wp2_with fail
 have zX1801:=hb.size;replace fT:=ay fT hb;replace fR:=ay fR hb;replace fC:=zqc fC hb;replace hX:=zq (hX.out.move (kpN hb (fun b hb=>hb.1)));replace hT:=zq (hT.out.move (kpN hb (fun b hb=>hb.1)));replace c5a_:=aH hb (by omega) c5a_;replace c5b_:=aH hb (by omega) c5b_;replace h5_:=zq (h5_.out.move (kpN hb (fun b hb=>hb.1)));replace c6a_:=aH hb (by omega) c6a_;replace c6b_:=aH hb (by omega) c6b_;replace h6_:=zq (h6_.out.move (kpN hb (fun b hb=>hb.1)));have h2_:=h2_';clear h2_';clear rd;have rd:=rd';clear rd';refine hko hK (fun hH1801=>?_);clear hK K hH0 hb
 try simp only[hwA]
 refine hwe co (fun K hK=>?_)
 go_simp
 go_at_call 74
 refine(HIH.out (b) l (jE (by simp[S.dep];omega)) HVA.out.2 HOK.out (by omega) HNL.out _ _ _ _ rd.out (hX.out.move (.weaken fun b h _=>h.1)) HCV.out (h6_.out.move (.weaken fun b h _=>h.1)) (by have h1:=HB0.out;have h2:=HMB.out;omega)).mono ?_;rintro e X1802 ⟨t3,v,q3,rfl,hcn3,hv,hq3,hrd,hb⟩;obtain⟨kt3,nm3,ut3,tk3,ta3,tn3,tq3,fk3,fa3,fn3,fq3,lt3,ct3,mt3,qt3,rfl⟩:=hv.shape;have HC3:=zq hcn3;clear hcn3;have h3_':=hv.rg;have rd':Hid (aR X1802 r q3):=zq hrd;clear hv hrd
 go_wp2_with fail
 have zX1802:=hb.size;replace fT:=ay fT hb;replace fR:=ay fR hb;replace fC:=zqc fC hb;replace hX:=zq (hX.out.move (kpN hb (fun b hb=>hb.1)));replace hT:=zq (hT.out.move (kpN hb (fun b hb=>hb.1)));replace c5a_:=aH hb (by omega) c5a_;replace c5b_:=aH hb (by omega) c5b_;replace h5_:=zq (h5_.out.move (kpN hb (fun b hb=>hb.1)));replace c6a_:=aH hb (by omega) c6a_;replace c6b_:=aH hb (by omega) c6b_;replace h6_:=zq (h6_.out.move (kpN hb (fun b hb=>hb.1)));replace h2_:=zq (h2_.out.move (kpN hb (fun b hb=>by have h1:=hb.1;have h2:=hb.2;omega)));have h3_:=h3_';clear h3_';clear rd;have rd:=rd';clear rd';refine hko hK (fun hH1802=>?_);clear hK K hH1801 hb
 try simp only[hwA]
 refine hwe cD (fun K hK=>?_)
 go_simp
 (try go_wp2_with fail);generalize hXq:World.alloc X1802 _=X1803;obtain⟨hb,fL,zX1803a,zX1803b⟩:=alE hXq;replace fT:=a9 fT hb;replace fR:=a9 fR hb;replace fC:=zqb fC hb;replace rd:=mh hb rd;replace hX:=mh hb hX;replace hT:=mh hb hT;replace c5a_:=af hb c5a_;replace c5b_:=af hb c5b_;replace h5_:=mh hb h5_;replace c6a_:=af hb c6a_;replace c6b_:=af hb c6b_;replace h6_:=mh hb h6_;replace h2_:=mh hb h2_;replace h3_:=mh hb h3_;refine hko hK (fun hH1803=>?_);clear hK K hH1802 hb hXq
 try simp only[hwA]
 refine hwe dp (fun K hK=>?_)
 go_simp
 go_at_call 86
 refine(cP 10 _ _ _ _).mono ?_;rintro e X1804 ⟨rfl,hb⟩
 go_wp2_with fail
 have zX1804:=hb.size;replace fT:=a9 fT hb;replace fR:=a9 fR hb;replace fC:=zqb fC hb;replace rd:=mh hb rd;replace hX:=mh hb hX;replace hT:=mh hb hT;replace c5a_:=af hb c5a_;replace c5b_:=af hb c5b_;replace h5_:=mh hb h5_;replace c6a_:=af hb c6a_;replace c6b_:=af hb c6b_;replace h6_:=mh hb h6_;replace h2_:=mh hb h2_;replace h3_:=mh hb h3_;replace fL:=a9 fL hb;refine hko hK (fun hH1804=>?_);clear hK K hH1803 hb
 try simp only[hwA]
 refine hwe dM (fun K hK=>?_);obtain⟨r0,rf0,r1,rf1,r2,rf2,r3,rf3,r4,rf4,r5,rf5,r6,rf6,r7,rf7,r8,rf8⟩:=blk9f fR
 go_simp
 (try go_wp2_with fail);have hQq:=c7 fR (.int .i64 10) (.string {data:=#[]}) (.int .i64 0) (.int .i64 0) (.slice none 0 0) (.int .i64 0) (.slice none 0 0) (.int .i64 0) (.slice (some ⟨X1802.heap.size,0,none⟩) 2 2);clear fR r0 rf0 r1 rf1 r2 rf2 r3 rf3 r4 rf4 r5 rf5 r6 rf6 r7 rf7 r8 rf8;obtain⟨X1805,hXq,hsq,fR,zX1805a,zX1805b⟩:=hQq;rw[hXq];replace fT:=hsq.bk fT;replace fC:=zq (hsq.chg fC.out (by omega));replace rd:=zq (hsq.rd rd.out (by omega));replace hX:=zq (hX.out.move (hsq.keeps (fun b hb=>by have:=hb.2;omega)));replace hT:=zq (hsq.rep (fun b hb=>by have:=hb.2;omega) hT.out);replace c5a_:=hsq.cq c5a_;replace c5b_:=hsq.cq c5b_;replace h5_:=zq (hsq.rep (fun b hb=>by have:=hb.2;omega) h5_.out);replace c6a_:=hsq.cq c6a_;replace c6b_:=hsq.cq c6b_;replace h6_:=zq (hsq.rep (fun b hb=>by have:=hb.2;omega) h6_.out);replace h2_:=zq (h2_.out.move (hsq.keeps (fun b hb=>by have h1:=hb.1;have h2:=hb.2;omega)));replace h3_:=zq (h3_.out.move (hsq.keeps (fun b hb=>by have h1:=hb.1;have h2:=hb.2;omega)));replace fL:=hsq.bk fL;refine hko hK (fun hH1805=>?_);clear hK K hH1804 hsq hXq
 try simp only[hwA]
 refine hwd ?_;clear hH1805;obtain⟨rc0,rc1,rc2,rc3,rc4,rc5,rc6,rc7,rc8⟩:=blk9 fR
 go_wp2_with fail
 refine bq (.agg (nv 10 {data:=#[]} 0 0 none 0 0 0 none 0 0 0 (some ⟨X1802.heap.size,0,none⟩) 2 2)) (by simp[results,Try.results74,go_sem,rc0,rc1,rc2,rc3,rc4,rc5,rc6,rc7,rc8]) ?_;have h1:=HB0.out;have h2:=HMB.out;have hks:aN (w.heap.size <= ·) X1805 [t2,t3] (.slice (some ⟨X1802.heap.size,0,none⟩) 2 2):=aN.blk (by show w.heap.size<=_;omega) fL rfl (by unfold maxLen;omega) (aV.c2 (h2_.out.move (.weaken fun b h _=>by have h1:=h.1;show w.heap.size<=b;omega)).srep (h3_.out.move (.weaken fun b h _=>by have h1:=h.1;show w.heap.size<=b;omega)).srep);have hcc:(Tm.mk 10 {data:=#[]} 0 (.mk 0 []) (.mk 0 []) 0 [t2,t3]).cnt<=MB:=by
  have g1:=HC2.out;have g2:=HC3.out;(try simp only[Tm.cnt,Tm.cnts,Ty.cnt,Ty.cnts,List.length_cons,List.length_nil,show({data:=#[]}:ByteArray).size=0 from rfl])
  omega
 exact⟨Tm.mk 10 {data:=#[]} 0 (.mk 0 []) (.mk 0 []) 0 [t2,t3],_,q3,rfl,hcc,aB.mk bD ⟨_,rfl,av.nil0⟩ ⟨_,rfl,av.nil0⟩ hks,by omega,rd.out,fC.out⟩
end Go.Proofs.Ytfhglkmjibjjoaa

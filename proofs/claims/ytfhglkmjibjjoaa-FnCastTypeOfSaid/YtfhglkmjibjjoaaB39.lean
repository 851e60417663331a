/- spec.l3Make: way 0 of a deep term. And what else its parts name. -/
import Derived.Test.YtfhglkmjibjjoaaB38
set_option linter.unusedSimpArgs false
set_option linter.unusedVariables false
set_option maxRecDepth 100000
set_option maxHeartbeats 16000000
namespace Go.Proofs.Ytfhglkmjibjjoaa
open Go.RowKit
theorem mkW0 (dd:Int)(s:S)(r p:Nat)(l:List Bd)(w:World)(kt:Int)(ta:Option Addr)(tn tq:Nat)(xa:Option Addr)(xn xq:Nat):(dn dd s r p l w kt ta tn tq xa xn xq).1.1:=by
 intro _ _ _ _ _ _ _ _ HWK _ _ _ HNL HCV HOK HSV HIH _ _ _ MB _ _ _ _ _ _ _ _ _ _ _ _ _ _ _ _ _ _ _ _ _ _ _ _ _ _ _ _ _ _ _ _ _ _ _ _ _ _ _ _ _ _ _ h0 _ _ _ _ _ _ _ _ _ _ _ HD2 _ _ HUU _ _ _ _ _ _ w1 _ _ fT fR fC hX hT rd _ _ _;refine wh2 (bc0 fT) (bc1 fT) (fun U1 hb zU1a zU1b hH0=>?_);replace fT:=a9 fT hb;replace fR:=a9 fR hb;replace fC:=zqb fC hb;replace rd:=mh hb rd;replace hX:=mh hb hX;replace hT:=mh hb hT;clear hb;refine hwq hx0 (.agg #[.int .i64 kt,.slice ta tn tq]) hH0 ?_;refine hwq hx2 (.pointer (some ⟨r,0,none⟩)) hH0 ?_;refine hwq hx3 (.slice xa xn xq) hH0 ?_;refine hwq hx4 (.pointer (some ⟨r,0,none⟩)) hH0 ?_;refine hwq hx5 (.agg #[.int .i64 kt,.slice ta tn tq]) hH0 ?_;refine hwq hx7 (.int .i64 dd) hH0 ?_;refine hwq hx8 (.int .i64 (dd-1)) hH0 ?_ (hy:=by intro w' hSw;go_simp;exact HWK.out);refine hwe hx1 (fun K hK=>?_)
 go_simp
 go_at_call 46
 refine(b5 _ s.ty _ _ hT.out (S.cnt_ok HSV.out)).mono ?_;rintro e X1001 ⟨v,rfl,hv,hb⟩;obtain⟨kc,ac,nc,qc,rfl⟩:=hv.shape;have hN':=hv.rep.rg;clear hv
 go_wp2_with fail
 have zX1001:=hb.size;replace fT:=a9 fT hb;replace fR:=a9 fR hb;replace fC:=zqb fC hb;replace rd:=mh hb rd;replace hX:=mh hb hX;replace hT:=mh hb hT;have hN:=hN';clear hN';refine hko hK (fun hH1001=>?_);clear hK K hH0 hb
 try simp only[hwA]
 refine hwe hx6 (fun K hK=>?_)
 go_simp
 go_at_call 43
 refine(dL r _ s _ _ rd.out (hT.out.move (.weaken fun b h _=>h.1)) HSV.out (by omega)).mono ?_;rintro e X1002 ⟨s2,v,qs,rfl,hvs2,hv,hqs,hrd,hb⟩;obtain⟨kb,ab,nb,qb,rfl⟩:=hv.shape;have hB_':=hv.rg;have rd':Hid (aR X1002 r qs):=zq hrd;clear hv hrd
 go_wp2_with fail
 have zX1002:=hb.size;replace fT:=ay fT hb;replace fR:=ay fR hb;replace fC:=zqc fC hb;replace hX:=zq (hX.out.move (kpN hb (fun b hb=>hb.1)));replace hT:=zq (hT.out.move (kpN hb (fun b hb=>hb.1)));replace hN:=zq (hN.out.move (kpN hb (fun b hb=>by have h1:=hb.1;have h2:=hb.2;omega)));have hB_:=hB_';clear hB_';clear rd;have rd:=rd';clear rd';refine hko hK (fun hH1002=>?_);clear hK K hH1001 hb
 try simp only[hwA]
 refine hwe hx9 (fun K hK=>?_)
 go_simp
 go_at_call 74
 refine(HIH.out (s2) l (cO HD2.out HSV.out hvs2) hvs2 HOK.out (by omega) HNL.out _ _ _ _ rd.out (hX.out.move (.weaken fun b h _=>h.1)) HCV.out (hB_.out.move (.weaken fun b h _=>by have h1:=h.1;intro e;omega)) (by have h1:=bV HD2.out hvs2;have h0:=HUU.out;omega)).mono ?_;rintro e X1003 ⟨t2,v,q2,rfl,hcn2,hv,hq2,hrd,hb⟩;obtain⟨kt2,nm2,ut2,tk2,ta2,tn2,tq2,fk2,fa2,fn2,fq2,lt2,ct2,mt2,qt2,rfl⟩:=hv.shape;have HC2:=zq hcn2;clear hcn2;have h2_':=hv.rg;have rd':Hid (aR X1003 r q2):=zq hrd;clear hv hrd
 go_wp2_with fail
 have zX1003:=hb.size;replace fT:=ay fT hb;replace fR:=ay fR hb;replace fC:=zqc fC hb;replace hX:=zq (hX.out.move (kpN hb (fun b hb=>hb.1)));replace hT:=zq (hT.out.move (kpN hb (fun b hb=>hb.1)));replace hN:=zq (hN.out.move (kpN hb (fun b hb=>by have h1:=hb.1;have h2:=hb.2;omega)));replace hB_:=zq (hB_.out.move (kpN hb (fun b hb=>by have h1:=hb.1;have h2:=hb.2;omega)));have h2_:=h2_';clear h2_';clear rd;have rd:=rd';clear rd';refine hko hK (fun hH1003=>?_);clear hK K hH1002 hb
 try simp only[hwA]
 refine hwe bd (fun K hK=>?_)
 go_simp
 (try go_wp2_with fail);generalize hXq:World.alloc X1003 _=X1004;obtain⟨hb,fL,zX1004a,zX1004b⟩:=alE hXq;replace fT:=a9 fT hb;replace fR:=a9 fR hb;replace fC:=zqb fC hb;replace rd:=mh hb rd;replace hX:=mh hb hX;replace hT:=mh hb hT;replace hN:=mh hb hN;replace hB_:=mh hb hB_;replace h2_:=mh hb h2_;refine hko hK (fun hH1004=>?_);clear hK K hH1003 hb hXq
 try simp only[hwA]
 refine hwq bl (.agg (nv 13 {data:=#[]} 0 kc ac nc qc 0 none 0 0 0 (some ⟨X1003.heap.size,0,none⟩) 1 1)) hH1004 ?_;refine hwe bz (fun K hK=>?_);obtain⟨r0,rf0,r1,rf1,r2,rf2,r3,rf3,r4,rf4,r5,rf5,r6,rf6,r7,rf7,r8,rf8⟩:=blk9f fR
 go_simp
 (try go_wp2_with fail);have hQq:=c7 fR (.int .i64 13) (.string {data:=#[]}) (.int .i64 0) (.int .i64 kc) (.slice ac nc qc) (.int .i64 0) (.slice none 0 0) (.int .i64 0) (.slice (some ⟨X1003.heap.size,0,none⟩) 1 1);clear fR r0 rf0 r1 rf1 r2 rf2 r3 rf3 r4 rf4 r5 rf5 r6 rf6 r7 rf7 r8 rf8;obtain⟨X1005,hXq,hsq,fR,zX1005a,zX1005b⟩:=hQq;rw[hXq];replace fT:=hsq.bk fT;replace fC:=zq (hsq.chg fC.out (by omega));replace rd:=zq (hsq.rd rd.out (by omega));replace hX:=zq (hX.out.move (hsq.keeps (fun b hb=>by have:=hb.2;omega)));replace hT:=zq (hsq.rep (fun b hb=>by have:=hb.2;omega) hT.out);replace hN:=zq (hsq.rep (fun b hb=>by have h1:=hb.1;have h2:=hb.2;omega) hN.out);replace hB_:=zq (hsq.rep (fun b hb=>by have h1:=hb.1;have h2:=hb.2;omega) hB_.out);replace h2_:=zq (h2_.out.move (hsq.keeps (fun b hb=>by have h1:=hb.1;have h2:=hb.2;omega)));replace fL:=hsq.bk fL;refine hko hK (fun hH1005=>?_);clear hK K hH1004 hsq hXq
 try simp only[hwA]
 refine hwd ?_;clear hH1005;obtain⟨rc0,rc1,rc2,rc3,rc4,rc5,rc6,rc7,rc8⟩:=blk9 fR
 go_wp2_with fail
 refine bq (.agg (nv 13 {data:=#[]} 0 kc ac nc qc 0 none 0 0 0 (some ⟨X1003.heap.size,0,none⟩) 1 1)) (by simp[results,Try.results74,go_sem,rc0,rc1,rc2,rc3,rc4,rc5,rc6,rc7,rc8]) ?_;have hlo:=bV HD2.out hvs2;have hU2:=HUU.out;have hks:aN (w.heap.size <= ·) X1005 [t2] (.slice (some ⟨X1003.heap.size,0,none⟩) 1 1):=aN.blk (by show w.heap.size<=_;omega) fL rfl (by unfold maxLen;omega) (aV.c1 (h2_.out.move (.weaken fun b h _=>by have h1:=h.1;show w.heap.size<=b;omega)).srep);have hcc:(Tm.mk 13 {data:=#[]} 0 s.ty (.mk 0 []) 0 [t2]).cnt<=MB:=by
  have h1:=HC2.out;have h3:=zq (eF HSV.out);have h4:=h3.out;rw[<-S.ty_cnt] at h4;(try simp only[Tm.cnt,Tm.cnts,Ty.cnt,Ty.cnts,List.length_cons,List.length_nil,show({data:=#[]}:ByteArray).size=0 from rfl])
  omega
 exact⟨Tm.mk 13 {data:=#[]} 0 s.ty (.mk 0 []) 0 [t2],_,q2,rfl,hcc,aB.mk bD (hN.out.move (.weaken fun b h _=>by have h1:=h.1;show w.heap.size<=b;omega)) ⟨_,rfl,av.nil0⟩ hks,by omega,rd.out,fC.out⟩
theorem mkW2 (dd:Int)(s:S)(r p:Nat)(l:List Bd)(w:World)(kt:Int)(ta:Option Addr)(tn tq:Nat)(xa:Option Addr)(xn xq:Nat):(dn dd s r p l w kt ta tn tq xa xn xq).1.2.2.1:=by
 intro _ _ _ _ _ _ _ _ HWK _ _ _ HNL HCV HOK HSV HIH _ _ HL60 MB _ _ _ _ _ _ _ _ _ _ _ _ _ _ _ _ _ _ _ _ _ _ _ _ _ _ _ _ _ _ _ _ _ _ _ _ _ _ _ _ _ _ _ h0 _ _ _ _ _ _ _ _ _ _ _ HD2 _ _ HUU _ _ HLB HLI HLS _ w1 _ _ fT fR fC hX hT rd _ _ _ _ _ _ _;refine(gJ 1 r _ _ (by omega) (by omega) rd.out (by omega)).mono ?_;rintro e w2 ⟨s2,v,qs,rfl,hvs2,hv,hqs,hrd,hb⟩;obtain⟨kb,ab,nb,qb,rfl⟩:=hv.shape;have hA':=hv.rg;clear hv;have zw2:=hb.size;(try simp only[World.size_alloc] at zw2);replace fT:=ay fT hb;replace fR:=ay fR hb;replace fC:=zqc fC hb;replace hX:=zq (hX.out.move (kpN hb (fun b hb=>hb.1)));replace hT:=zq (hT.out.move (kpN hb (fun b hb=>hb.1)));replace rd:=zq hrd;clear hrd;clear hb;have hA:=hA';clear hA'
 go_wp2_with fail
 generalize hXq:World.alloc w2 _=w3;obtain⟨hb,fA,zw3a,zw3b⟩:=alE hXq;replace fT:=a9 fT hb;replace fR:=a9 fR hb;replace fC:=zqb fC hb;replace rd:=mh hb rd;replace hX:=mh hb hX;replace hT:=mh hb hT;replace hA:=mh hb hA;clear hb hXq;refine wh4 (bc0 fT) (bc1 fT) (bc0 fA) (bc1 fA) (fun U3 hb zU3a zU3b hH0=>?_);replace fT:=a9 fT hb;replace fR:=a9 fR hb;replace fC:=zqb fC hb;replace rd:=mh hb rd;replace hX:=mh hb hX;replace hT:=mh hb hT;replace hA:=mh hb hA;replace fA:=a9 fA hb;clear hb;refine hwq hx0 (.pointer (some ⟨r,0,none⟩)) hH0 ?_;refine hwq hx1 (.slice xa xn xq) hH0 ?_;refine hwq hx2 (.agg #[.int .i64 kb,.slice ab nb qb]) hH0 ?_;refine hwq hx3 (.agg #[.int .i64 kt,.slice ta tn tq]) hH0 ?_;refine hwq hx4 (.int .i64 dd) hH0 ?_;refine hwq hx5 (.int .i64 (dd-1)) hH0 ?_ (hy:=by intro w' hSw;go_simp;exact HWK.out);refine hwq hx7 (.pointer (some ⟨r,0,none⟩)) hH0 ?_;refine hwq hx8 (.slice xa xn xq) hH0 ?_;refine hwq hx9 (.pointer (some ⟨r,0,none⟩)) hH0 ?_;refine hwq bd (.agg #[.int .i64 kb,.slice ab nb qb]) hH0 ?_;refine hwq bz (.int .i64 dd) hH0 ?_;refine hwq bA (.int .i64 (dd-1)) hH0 ?_ (hy:=by intro w' hSw;go_simp;exact HWK.out);refine hwe hx6 (fun K hK=>?_)
 go_simp
 go_at_call 87
 refine(ki r _ (dd-1) s2 s l _ _ _ _ rd.out (hX.out.move (.weaken fun b h _=>h.1)) HCV.out (by have:=HL60.out;omega) (hA.out.move (.weaken fun b h _=>by have h1:=h.1;intro e;omega)) (hT.out.move (.weaken fun b h _=>h.1)) hvs2 (fun nm hnm=>HIH.out s (l ++ [⟨nm,S.ty s2⟩]) (cO HD2.out HSV.out HSV.out) HSV.out (HOK.out.snoc ((S.valid s2).trans hvs2)) (by simp) (fun b hb=>(List.mem_append.1 hb).elim (HNL.out b) (fun h=>by simp at h;subst h;exact hnm))) (by have h1:=HLB.out;have h2:=HLS.out;have h3:=HLI.out;have h0:=HUU.out;omega)).mono ?_;rintro e X1201 ⟨t2,v,q2,rfl,hcn2,hv,hq2,hrd,hb⟩;obtain⟨kt2,nm2,ut2,tk2,ta2,tn2,tq2,fk2,fa2,fn2,fq2,lt2,ct2,mt2,qt2,rfl⟩:=hv.shape;have HC2:=zq hcn2;clear hcn2;have h2_':=hv.rg;have rd':Hid (aR X1201 r q2):=zq hrd;clear hv hrd
 go_wp2_with fail
 have zX1201:=hb.size;replace fT:=ay fT hb;replace fR:=ay fR hb;replace fC:=zqc fC hb;replace hX:=zq (hX.out.move (kpN hb (fun b hb=>hb.1)));replace hT:=zq (hT.out.move (kpN hb (fun b hb=>hb.1)));replace hA:=zq (hA.out.move (kpN hb (fun b hb=>by have h1:=hb.1;have h2:=hb.2;omega)));replace fA:=ay fA hb;have h2_:=h2_';clear h2_';clear rd;have rd:=rd';clear rd';refine hko hK (fun hH1201=>?_);clear hK K hH0 hb
 try simp only[hwA]
 refine hwe bl (fun K hK=>?_)
 go_simp
 go_at_call 43
 refine(dL r _ s2 _ _ rd.out (hA.out.move (.weaken fun b h _=>by have h1:=h.1;intro e;omega)) hvs2 (by have h1:=HLB.out;have h2:=HLS.out;have h0:=HUU.out;omega)).mono ?_;rintro e X1202 ⟨s3,v,qt,rfl,hvs3,hv,hqt,hrd,hb⟩;obtain⟨kc,ac,nc,qc,rfl⟩:=hv.shape;have hB_':=hv.rg;have rd':Hid (aR X1202 r qt):=zq hrd;clear hv hrd
 go_wp2_with fail
 have zX1202:=hb.size;replace fT:=ay fT hb;replace fR:=ay fR hb;replace fC:=zqc fC hb;replace hX:=zq (hX.out.move (kpN hb (fun b hb=>hb.1)));replace hT:=zq (hT.out.move (kpN hb (fun b hb=>hb.1)));replace hA:=zq (hA.out.move (kpN hb (fun b hb=>by have h1:=hb.1;have h2:=hb.2;omega)));replace fA:=ay fA hb;replace h2_:=zq (h2_.out.move (kpN hb (fun b hb=>by have h1:=hb.1;have h2:=hb.2;omega)));have hB_:=hB_';clear hB_';clear rd;have rd:=rd';clear rd';refine hko hK (fun hH1202=>?_);clear hK K hH1201 hb
 try simp only[hwA]
 refine hwe bB (fun K hK=>?_)
 go_simp
 go_at_call 74
 refine(HIH.out (s3) l (cO HD2.out HSV.out hvs3) hvs3 HOK.out (by omega) HNL.out _ _ _ _ rd.out (hX.out.move (.weaken fun b h _=>h.1)) HCV.out (hB_.out.move (.weaken fun b h _=>by have h1:=h.1;intro e;omega)) (by have h1:=HLB.out;have h2:=HLS.out;have h0:=HUU.out;have h4:=bV HD2.out hvs3;omega)).mono ?_;rintro e X1203 ⟨t3,v,q3,rfl,hcn3,hv,hq3,hrd,hb⟩;obtain⟨kt3,nm3,ut3,tk3,ta3,tn3,tq3,fk3,fa3,fn3,fq3,lt3,ct3,mt3,qt3,rfl⟩:=hv.shape;have HC3:=zq hcn3;clear hcn3;have h3_':=hv.rg;have rd':Hid (aR X1203 r q3):=zq hrd;clear hv hrd
 go_wp2_with fail
 have zX1203:=hb.size;replace fT:=ay fT hb;replace fR:=ay fR hb;replace fC:=zqc fC hb;replace hX:=zq (hX.out.move (kpN hb (fun b hb=>hb.1)));replace hT:=zq (hT.out.move (kpN hb (fun b hb=>hb.1)));replace hA:=zq (hA.out.move (kpN hb (fun b hb=>by have h1:=hb.1;have h2:=hb.2;omega)));replace fA:=ay fA hb;replace h2_:=zq (h2_.out.move (kpN hb (fun b hb=>by have h1:=hb.1;have h2:=hb.2;omega)));replace hB_:=zq (hB_.out.move (kpN hb (fun b hb=>by have h1:=hb.1;have h2:=hb.2;omega)));have h3_:=h3_';clear h3_';clear rd;have rd:=rd';clear rd';refine hko hK (fun hH1203=>?_);clear hK K hH1202 hb
 try simp only[hwA]
 refine hwe bF (fun K hK=>?_)
 go_simp
 (try go_wp2_with fail);generalize hXq:World.alloc X1203 _=X1204;obtain⟨hb,fL,zX1204a,zX1204b⟩:=alE hXq;replace fT:=a9 fT hb;replace fR:=a9 fR hb;replace fC:=zqb fC hb;replace rd:=mh hb rd;replace hX:=mh hb hX;replace hT:=mh hb hT;replace hA:=mh hb hA;replace fA:=a9 fA hb;replace h2_:=mh hb h2_;replace hB_:=mh hb hB_;replace h3_:=mh hb h3_;refine hko hK (fun hH1204=>?_);clear hK K hH1203 hb hXq
 try simp only[hwA]
 refine hwe bI (fun K hK=>?_)
 go_simp
 go_at_call 86
 refine(cP 6 _ _ _ _).mono ?_;rintro e X1205 ⟨rfl,hb⟩
 go_wp2_with fail
 have zX1205:=hb.size;replace fT:=a9 fT hb;replace fR:=a9 fR hb;replace fC:=zqb fC hb;replace rd:=mh hb rd;replace hX:=mh hb hX;replace hT:=mh hb hT;replace hA:=mh hb hA;replace fA:=a9 fA hb;replace h2_:=mh hb h2_;replace hB_:=mh hb hB_;replace h3_:=mh hb h3_;replace fL:=a9 fL hb;refine hko hK (fun hH1205=>?_);clear hK K hH1204 hb
 try simp only[hwA]
 refine hwe co (fun K hK=>?_);obtain⟨r0,rf0,r1,rf1,r2,rf2,r3,rf3,r4,rf4,r5,rf5,r6,rf6,r7,rf7,r8,rf8⟩:=blk9f fR
 go_simp
 (try go_wp2_with fail);have hQq:=c7 fR (.int .i64 6) (.string {data:=#[]}) (.int .i64 0) (.int .i64 0) (.slice none 0 0) (.int .i64 0) (.slice none 0 0) (.int .i64 0) (.slice (some ⟨X1203.heap.size,0,none⟩) 2 2);clear fR r0 rf0 r1 rf1 r2 rf2 r3 rf3 r4 rf4 r5 rf5 r6 rf6 r7 rf7 r8 rf8;obtain⟨X1206,hXq,hsq,fR,zX1206a,zX1206b⟩:=hQq;rw[hXq];replace fT:=hsq.bk fT;replace fC:=zq (hsq.chg fC.out (by omega));replace rd:=zq (hsq.rd rd.out (by omega));replace hX:=zq (hX.out.move (hsq.keeps (fun b hb=>by have:=hb.2;omega)));replace hT:=zq (hsq.rep (fun b hb=>by have:=hb.2;omega) hT.out);replace hA:=zq (hsq.rep (fun b hb=>by have h1:=hb.1;have h2:=hb.2;omega) hA.out);replace fA:=hsq.bk fA;replace h2_:=zq (h2_.out.move (hsq.keeps (fun b hb=>by have h1:=hb.1;have h2:=hb.2;omega)));replace hB_:=zq (hsq.rep (fun b hb=>by have h1:=hb.1;have h2:=hb.2;omega) hB_.out);replace h3_:=zq (h3_.out.move (hsq.keeps (fun b hb=>by have h1:=hb.1;have h2:=hb.2;omega)));replace fL:=hsq.bk fL;refine hko hK (fun hH1206=>?_);clear hK K hH1205 hsq hXq
 try simp only[hwA]
 refine hwd ?_;clear hH1206;obtain⟨rc0,rc1,rc2,rc3,rc4,rc5,rc6,rc7,rc8⟩:=blk9 fR
 go_wp2_with fail
 refine bq (.agg (nv 6 {data:=#[]} 0 0 none 0 0 0 none 0 0 0 (some ⟨X1203.heap.size,0,none⟩) 2 2)) (by simp[results,Try.results74,go_sem,rc0,rc1,rc2,rc3,rc4,rc5,rc6,rc7,rc8]) ?_;have h1:=HLB.out;have h2:=HLS.out;have h3:=HLI.out;have h0:=HUU.out;have h4:=bV HD2.out hvs3;have hks:aN (w.heap.size <= ·) X1206 [t2,t3] (.slice (some ⟨X1203.heap.size,0,none⟩) 2 2):=aN.blk (by show w.heap.size<=_;omega) fL rfl (by unfold maxLen;omega) (aV.c2 (h2_.out.move (.weaken fun b h _=>by have h1:=h.1;show w.heap.size<=b;omega)).srep (h3_.out.move (.weaken fun b h _=>by have h1:=h.1;show w.heap.size<=b;omega)).srep);have hcc:(Tm.mk 6 {data:=#[]} 0 (.mk 0 []) (.mk 0 []) 0 [t2,t3]).cnt<=MB:=by
  have g1:=HC2.out;have g2:=HC3.out;(try simp only[Tm.cnt,Tm.cnts,Ty.cnt,Ty.cnts,List.length_cons,List.length_nil,show({data:=#[]}:ByteArray).size=0 from rfl])
  omega
 exact⟨Tm.mk 6 {data:=#[]} 0 (.mk 0 []) (.mk 0 []) 0 [t2,t3],_,q3,rfl,hcc,aB.mk bD ⟨_,rfl,av.nil0⟩ ⟨_,rfl,av.nil0⟩ hks,by omega,rd.out,fC.out⟩
end Go.Proofs.Ytfhglkmjibjjoaa

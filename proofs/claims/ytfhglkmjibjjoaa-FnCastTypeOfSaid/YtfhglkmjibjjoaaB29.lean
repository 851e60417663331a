/- spec.l4Cast. And what else its parts name. -/
import Derived.Test.YtfhglkmjibjjoaaB26
import Derived.Test.YtfhglkmjibjjoaaB28
import Derived.Test.YtfhglkmjibjjoaaB33
set_option linter.unusedSimpArgs false
set_option linter.unusedVariables false
set_option maxRecDepth 100000
set_option maxHeartbeats 16000000
namespace Go.Proofs.Ytfhglkmjibjjoaa
open Go.RowKit
def RetCa (F:Nat->Prop)(m:Nat)(lb:Int)(w:World)(e:Ending)(w':World):Prop:=∃(t:Tm) (v:Value) (lb':Int),e = .returned (.tuple #[v,.int .i64 lb'])∧t.cnt<=m∧lb<=lb'∧lb'<=lb+1∧aB (fun b=>F b∨w.heap.size<=b) w' t v∧Below w.heap.size w w'
theorem jd (F G1 G2:Nat->Prop)(t1:Tm)(s u:Ty)(lb:Int)(w:World)(ev fv tv:Value)(he:aB F w t1 ev)(hf:ai G1 w s fv)(ht:ai G2 w u tv)(hs:s.cnt<=14)(hu:u.cnt<=14)(hl1 : -1000000<=lb)(hl2:lb<=1000000) :
    Calls Try.prog 45 #[ev,fv,tv,.int .i64 lb] w (RetCa F (t1.cnt+60) lb w):=by
  obtain⟨kt1,nm1,ut1,tk1,ta1,tn1,tq1,fk1,fa1,fn1,fq1,lt1,ct1,mt1,qt1,rfl⟩:=he.shape;obtain⟨fk,fa,fn,fq,rfl⟩:=hf.shape;obtain⟨uk,ua,un,uq,rfl⟩:=ht.shape;have HWK:=zq (IntWalk.i64_in (lb+1) (by omega));obtain⟨sm,hsm⟩ : ∃b,s.same u=b:=⟨_,rfl⟩
  have HS:=zq (hsm▸bm _ _ s u _ _ _ (hf.below (bal4 (o:=.cells (nv kt1 nm1 ut1 tk1 ta1 tn1 tq1 fk1 fa1 fn1 fq1 lt1 ct1 mt1 qt1) 28) (o':=.cells #[.int .i64 fk,.slice fa fn fq] 25) (o2:=.cells #[.int .i64 uk,.slice ua un uq] 25) (o3:=.cells (nz 0) 28))) (ht.below bal4));have HE0:=zq (he.move (.weaken (G:=(fun x=>F x∧x<w.heap.size)) fun b h hl=>⟨h,hl⟩));have HF0:=zq (hf.move (.weaken (G:=(fun x=>G1 x∧x<w.heap.size)) fun b h hl=>⟨h,hl⟩));have HT0:=zq (ht.move (.weaken (G:=(fun x=>G2 x∧x<w.heap.size)) fun b h hl=>⟨h,hl⟩));have HCS:=zq hs;have HCU:=zq hu;have HL:=zq (And.intro hl1 hl2);clear he hf ht hs hu hl1 hl2 hsm
  go_enter Try.func45,Try.ntmps45
  go_wp2_with fail
  refine HS.out.mono ?_;rintro e w1 ⟨rfl,hb⟩;have z1:=hb.size;simp only[World.size_alloc] at z1;clear HS;have fE:w1.heap[w.heap.size]?=some (.cells (nv kt1 nm1 ut1 tk1 ta1 tn1 tq1 fk1 fa1 fn1 fq1 lt1 ct1 mt1 qt1) 28 (0,0)):=a9 (a9 (a9 (a9 (aA rfl) ag) ag) ag) hb;have fF:w1.heap[w.heap.size+1]?=some (.cells #[.int .i64 fk,.slice fa fn fq] 25 (0,0)):=a9 (a9 (a9 (aA (by simp)) ag) ag) hb;have fT:w1.heap[w.heap.size+1+1]?=some (.cells #[.int .i64 uk,.slice ua un uq] 25 (0,0)):=a9 (a9 (aA (by simp)) ag) hb;have fR:w1.heap[w.heap.size+1+1+1]?=some (.cells (nz 0) 28 (0,0)):=a9 (aA (by simp)) hb;have fB:Hid (Below w.heap.size w w1):=zq (al bal4 hb);have hE:Hid (aB (fun x=>F x∧x<w.heap.size) w1 t1 (.agg (nv kt1 nm1 ut1 tk1 ta1 tn1 tq1 fk1 fa1 fn1 fq1 lt1 ct1 mt1 qt1))):=zq ((HE0.out.below bal4).below hb);have hF:Hid (ai (fun x=>G1 x∧x<w.heap.size) w1 s (.agg #[.int .i64 fk,.slice fa fn fq])):=zq ((HF0.out.below bal4).below hb);have hT:Hid (ai (fun x=>G2 x∧x<w.heap.size) w1 u (.agg #[.int .i64 uk,.slice ua un uq])):=zq ((HT0.out.below bal4).below hb);clear hb HE0 HF0 HT0
  cases sm with
  | true=>
    obtain⟨y0,y1,y2,y3,y4,y5,y6,y7,y8⟩:=blk9 fE;have yl:=aw fE;obtain⟨x0,xf0,x1,xf1,x2,xf2,x3,xf3,x4,xf4,x5,xf5,x6,xf6,x7,xf7,x8,xf8⟩:=blk9f fR;have xl:=aw fR
    go_wp2_with fail
    obtain⟨X9,hXq,hsq,fR_,zX9a,zX9b⟩:=c7 fR (.int .i64 kt1) (.string nm1) (.int .i64 ut1) (.int .i64 tk1) (.slice ta1 tn1 tq1) (.int .i64 fk1) (.slice fa1 fn1 fq1) (.int .i64 lt1) (.slice ct1 mt1 qt1);rw[hXq];replace fE:=hsq.bk fE;replace fF:=hsq.bk fF;replace fT:=hsq.bk fT;replace fB:=hsq.be fB;replace hE:=zq (hE.out.move (hsq.keeps (fun b hb=>by have:=hb.2;omega)));replace hF:=zq (hF.out.move (hsq.keeps (fun b hb=>by have:=hb.2;omega)));replace hT:=zq (hT.out.move (hsq.keeps (fun b hb=>by have:=hb.2;omega)));clear fR hsq hXq;have fR:=fR_;clear fR_;obtain⟨rc0,rc1,rc2,rc3,rc4,rc5,rc6,rc7,rc8⟩:=blk9 fR;refine bq (.tuple #[.agg (nv kt1 nm1 ut1 tk1 ta1 tn1 tq1 fk1 fa1 fn1 fq1 lt1 ct1 mt1 qt1),.int .i64 lb]) (by simp[results,Try.results45,go_sem,rc0,rc1,rc2,rc3,rc4,rc5,rc6,rc7,rc8]) ?_
    exact⟨t1,_,lb,rfl,by omega,by omega,by omega,hE.out.move (.weaken fun b h _=>.inl h.1),fB.out⟩
  | false=>
    obtain⟨y0,y1⟩:=blk2 fF;have yl:=aw fF;clear y0 y1 yl
    go_wp2_with fail
    refine wh13 (bc0 fE) (bc1 fE) (bc2 fE) (bc3 fE) (bc4 fE) (bc5 fE) (bc6 fE) (bc7 fE) (bc8 fE) (bc0 fF) (bc1 fF) (bc0 fT) (bc1 fT) (fun U1 hb zU1a zU1b hH0=>?_);replace fE:=a9 fE hb;replace fF:=a9 fF hb;replace fT:=a9 fT hb;replace fR:=a9 fR hb;replace fB:=mh hb fB;replace hE:=mh hb hE;replace hF:=mh hb hF;replace hT:=mh hb hT;clear hb;refine hwq hx0 (.agg #[.int .i64 fk,.slice fa fn fq]) hH0 ?_;refine hwq hx2 (.agg #[.int .i64 uk,.slice ua un uq]) hH0 ?_;refine hwq hx4 (.int .i64 lb) hH0 ?_;refine hwq hx5 (.agg (nv kt1 nm1 ut1 tk1 ta1 tn1 tq1 fk1 fa1 fn1 fq1 lt1 ct1 mt1 qt1)) hH0 ?_;refine hwq hx8 (.int .i64 lb) hH0 ?_;refine hwq hx9 (.int .i64 (lb+1)) hH0 ?_ (hy:=by intro w' hSw;go_simp;exact HWK.out);refine wpAnyH_ready (rs:= [1,6]) (by kernel_rfl) (by simp) ?_;refine(AllReadyH.cons hx1 (fun K hK=>?_) (AllReadyH.cons hx6 (fun K hK=>?_) AllReadyH.nil))
    ·skip
     go_simp
     go_at_call 46
     refine(b5 _ s _ _ hF.out (by have:=HCS.out;omega)).mono ?_;rintro e X1 ⟨v,rfl,hv,hb⟩;obtain⟨kc,ac,nc,qc,rfl⟩:=hv.shape;have hN':=hv.rep.rg;clear hv
     go_wp2_with fail
     have zX1:=hb.size;replace fE:=a9 fE hb;replace fF:=a9 fF hb;replace fT:=a9 fT hb;replace fR:=a9 fR hb;replace fB:=mh hb fB;replace hE:=mh hb hE;replace hF:=mh hb hF;replace hT:=mh hb hT;have hN:=hN';clear hN';refine hko hK (fun hH1=>?_);clear hK K hH0 hb
     try simp only[hwA]
     refine wpAnyH_ready (rs:= [3,6]) (by kernel_rfl) (by simp) ?_;refine(AllReadyH.cons hx3 (fun K hK=>?_) (AllReadyH.cons hx6 (fun K hK=>?_) AllReadyH.nil))
     ·skip
      go_simp
      go_at_call 46
      refine(b5 _ u _ _ hT.out (by have:=HCU.out;omega)).mono ?_;rintro e X2 ⟨v,rfl,hv,hb⟩;obtain⟨kd,ad,nd,qd,rfl⟩:=hv.shape;have hM':=hv.rep.rg;clear hv
      go_wp2_with fail
      have zX2:=hb.size;replace fE:=a9 fE hb;replace fF:=a9 fF hb;replace fT:=a9 fT hb;replace fR:=a9 fR hb;replace fB:=mh hb fB;replace hE:=mh hb hE;replace hF:=mh hb hF;replace hT:=mh hb hT;replace hN:=mh hb hN;have hM:=hM';clear hM';refine hko hK (fun hH2=>?_);clear hK K hH1 hb
      try simp only[hwA]
      refine hwe hx6 (fun K hK=>?_)
      go_simp
      (try go_wp2_with fail);generalize hXq:World.alloc X2 _=X3;obtain⟨hb,fL,zX3a,zX3b⟩:=alE hXq;replace fE:=a9 fE hb;replace fF:=a9 fF hb;replace fT:=a9 fT hb;replace fR:=a9 fR hb;replace fB:=mh hb fB;replace hE:=mh hb hE;replace hF:=mh hb hF;replace hT:=mh hb hT;replace hN:=mh hb hN;replace hM:=mh hb hM;refine hko hK (fun hH3=>?_);clear hK K hH2 hb hXq
      try simp only[hwA]
      refine hwq hx7 (.agg (nv 14 {data:=#[]} 0 kd ad nd qd kc ac nc qc lb (some ⟨X2.heap.size,0,none⟩) 1 1)) hH3 ?_;refine hwe bd (fun K hK=>?_);obtain⟨r0,rf0,r1,rf1,r2,rf2,r3,rf3,r4,rf4,r5,rf5,r6,rf6,r7,rf7,r8,rf8⟩:=blk9f fR
      go_simp
      (try go_wp2_with fail);have hQq:=c7 fR (.int .i64 14) (.string {data:=#[]}) (.int .i64 0) (.int .i64 kd) (.slice ad nd qd) (.int .i64 kc) (.slice ac nc qc) (.int .i64 lb) (.slice (some ⟨X2.heap.size,0,none⟩) 1 1);clear fR r0 rf0 r1 rf1 r2 rf2 r3 rf3 r4 rf4 r5 rf5 r6 rf6 r7 rf7 r8 rf8;obtain⟨X4,hXq,hsq,fR,zX4a,zX4b⟩:=hQq;rw[hXq];replace fE:=hsq.bk fE;replace fF:=hsq.bk fF;replace fT:=hsq.bk fT;replace fB:=hsq.be fB;replace hE:=zq (hE.out.move (hsq.keeps (fun b hb=>by have:=hb.2;omega)));replace hF:=zq (hF.out.move (hsq.keeps (fun b hb=>by have:=hb.2;omega)));replace hT:=zq (hT.out.move (hsq.keeps (fun b hb=>by have:=hb.2;omega)));replace hN:=zq (hsq.rep (fun b hb=>by have h1:=hb.1;have h2:=hb.2;omega) hN.out);replace hM:=zq (hsq.rep (fun b hb=>by have h1:=hb.1;have h2:=hb.2;omega) hM.out);replace fL:=hsq.bk fL;refine hko hK (fun hH4=>?_);clear hK K hH3 hsq hXq
      try simp only[hwA]
      refine hwq bl (.int .i64 (lb+1)) hH4 ?_;refine hwd ?_;clear hH4;obtain⟨rc0,rc1,rc2,rc3,rc4,rc5,rc6,rc7,rc8⟩:=blk9 fR
      go_wp2_with fail
      refine bq (.tuple #[.agg (nv 14 {data:=#[]} 0 kd ad nd qd kc ac nc qc lb (some ⟨X2.heap.size,0,none⟩) 1 1),.int .i64 (lb+1)]) (by simp[results,Try.results45,go_sem,rc0,rc1,rc2,rc3,rc4,rc5,rc6,rc7,rc8]) ?_;have hks:aN (fun b=>F b∨w.heap.size<=b) X4 [t1] (.slice (some ⟨X2.heap.size,0,none⟩) 1 1):=aN.blk (by right;show w.heap.size<=_;omega) fL rfl (by unfold maxLen;omega) (aV.c1 (hE.out.move (.weaken fun b h _=>.inl h.1)).srep);refine⟨.mk 14 {data:=#[]} 0 u s lb [t1],_,lb+1,rfl,?_,by omega,by omega,aB.mk bD (hM.out.move (.weaken fun b h _=>.inr (by have h1:=h.1;omega))) (hN.out.move (.weaken fun b h _=>.inr (by have h1:=h.1;omega))) hks,fB.out⟩;have h1:=HCS.out;have h2:=HCU.out;simp only[Tm.cnt,Tm.cnts,List.length_cons,List.length_nil,show({data:=#[]}:ByteArray).size=0 from rfl]
      omega
     ·skip
      go_simp
      (try go_wp2_with fail);generalize hXq:World.alloc X1 _=X5;obtain⟨hb,fL,zX5a,zX5b⟩:=alE hXq;replace fE:=a9 fE hb;replace fF:=a9 fF hb;replace fT:=a9 fT hb;replace fR:=a9 fR hb;replace fB:=mh hb fB;replace hE:=mh hb hE;replace hF:=mh hb hF;replace hT:=mh hb hT;replace hN:=mh hb hN;refine hko hK (fun hH2=>?_);clear hK K hH1 hb hXq
      try simp only[hwA]
      refine hwe hx3 (fun K hK=>?_)
      go_simp
      go_at_call 46
      refine(b5 _ u _ _ hT.out (by have:=HCU.out;omega)).mono ?_;rintro e X6 ⟨v,rfl,hv,hb⟩;obtain⟨kd,ad,nd,qd,rfl⟩:=hv.shape;have hM':=hv.rep.rg;clear hv
      go_wp2_with fail
      have zX6:=hb.size;replace fE:=a9 fE hb;replace fF:=a9 fF hb;replace fT:=a9 fT hb;replace fR:=a9 fR hb;replace fB:=mh hb fB;replace hE:=mh hb hE;replace hF:=mh hb hF;replace hT:=mh hb hT;replace hN:=mh hb hN;replace fL:=a9 fL hb;have hM:=hM';clear hM';refine hko hK (fun hH5=>?_);clear hK K hH2 hb
      try simp only[hwA]
      refine hwq hx7 (.agg (nv 14 {data:=#[]} 0 kd ad nd qd kc ac nc qc lb (some ⟨X1.heap.size,0,none⟩) 1 1)) hH5 ?_;refine hwe bd (fun K hK=>?_);obtain⟨r0,rf0,r1,rf1,r2,rf2,r3,rf3,r4,rf4,r5,rf5,r6,rf6,r7,rf7,r8,rf8⟩:=blk9f fR
      go_simp
      (try go_wp2_with fail);have hQq:=c7 fR (.int .i64 14) (.string {data:=#[]}) (.int .i64 0) (.int .i64 kd) (.slice ad nd qd) (.int .i64 kc) (.slice ac nc qc) (.int .i64 lb) (.slice (some ⟨X1.heap.size,0,none⟩) 1 1);clear fR r0 rf0 r1 rf1 r2 rf2 r3 rf3 r4 rf4 r5 rf5 r6 rf6 r7 rf7 r8 rf8;obtain⟨X7,hXq,hsq,fR,zX7a,zX7b⟩:=hQq;rw[hXq];replace fE:=hsq.bk fE;replace fF:=hsq.bk fF;replace fT:=hsq.bk fT;replace fB:=hsq.be fB;replace hE:=zq (hE.out.move (hsq.keeps (fun b hb=>by have:=hb.2;omega)));replace hF:=zq (hF.out.move (hsq.keeps (fun b hb=>by have:=hb.2;omega)));replace hT:=zq (hT.out.move (hsq.keeps (fun b hb=>by have:=hb.2;omega)));replace hN:=zq (hsq.rep (fun b hb=>by have h1:=hb.1;have h2:=hb.2;omega) hN.out);replace fL:=hsq.bk fL;replace hM:=zq (hsq.rep (fun b hb=>by have h1:=hb.1;have h2:=hb.2;omega) hM.out);refine hko hK (fun hH6=>?_);clear hK K hH5 hsq hXq
      try simp only[hwA]
      refine hwq bl (.int .i64 (lb+1)) hH6 ?_;refine hwd ?_;clear hH6;obtain⟨rc0,rc1,rc2,rc3,rc4,rc5,rc6,rc7,rc8⟩:=blk9 fR
      go_wp2_with fail
      refine bq (.tuple #[.agg (nv 14 {data:=#[]} 0 kd ad nd qd kc ac nc qc lb (some ⟨X1.heap.size,0,none⟩) 1 1),.int .i64 (lb+1)]) (by simp[results,Try.results45,go_sem,rc0,rc1,rc2,rc3,rc4,rc5,rc6,rc7,rc8]) ?_;have hks:aN (fun b=>F b∨w.heap.size<=b) X7 [t1] (.slice (some ⟨X1.heap.size,0,none⟩) 1 1):=aN.blk (by right;show w.heap.size<=_;omega) fL rfl (by unfold maxLen;omega) (aV.c1 (hE.out.move (.weaken fun b h _=>.inl h.1)).srep);refine⟨.mk 14 {data:=#[]} 0 u s lb [t1],_,lb+1,rfl,?_,by omega,by omega,aB.mk bD (hM.out.move (.weaken fun b h _=>.inr (by have h1:=h.1;omega))) (hN.out.move (.weaken fun b h _=>.inr (by have h1:=h.1;omega))) hks,fB.out⟩;have h1:=HCS.out;have h2:=HCU.out;simp only[Tm.cnt,Tm.cnts,List.length_cons,List.length_nil,show({data:=#[]}:ByteArray).size=0 from rfl]
      omega
    ·skip
     go_simp
     (try go_wp2_with fail);generalize hXq:World.alloc U1 _=X8;obtain⟨hb,fL,zX8a,zX8b⟩:=alE hXq;replace fE:=a9 fE hb;replace fF:=a9 fF hb;replace fT:=a9 fT hb;replace fR:=a9 fR hb;replace fB:=mh hb fB;replace hE:=mh hb hE;replace hF:=mh hb hF;replace hT:=mh hb hT;refine hko hK (fun hH1=>?_);clear hK K hH0 hb hXq
     try simp only[hwA]
     refine hwe hx1 (fun K hK=>?_)
     go_simp
     go_at_call 46
     refine(b5 _ s _ _ hF.out (by have:=HCS.out;omega)).mono ?_;rintro e X9 ⟨v,rfl,hv,hb⟩;obtain⟨kc,ac,nc,qc,rfl⟩:=hv.shape;have hN':=hv.rep.rg;clear hv
     go_wp2_with fail
     have zX9:=hb.size;replace fE:=a9 fE hb;replace fF:=a9 fF hb;replace fT:=a9 fT hb;replace fR:=a9 fR hb;replace fB:=mh hb fB;replace hE:=mh hb hE;replace hF:=mh hb hF;replace hT:=mh hb hT;replace fL:=a9 fL hb;have hN:=hN';clear hN';refine hko hK (fun hH7=>?_);clear hK K hH1 hb
     try simp only[hwA]
     refine hwe hx3 (fun K hK=>?_)
     go_simp
     go_at_call 46
     refine(b5 _ u _ _ hT.out (by have:=HCU.out;omega)).mono ?_;rintro e X10 ⟨v,rfl,hv,hb⟩;obtain⟨kd,ad,nd,qd,rfl⟩:=hv.shape;have hM':=hv.rep.rg;clear hv
     go_wp2_with fail
     have zX10:=hb.size;replace fE:=a9 fE hb;replace fF:=a9 fF hb;replace fT:=a9 fT hb;replace fR:=a9 fR hb;replace fB:=mh hb fB;replace hE:=mh hb hE;replace hF:=mh hb hF;replace hT:=mh hb hT;replace fL:=a9 fL hb;replace hN:=mh hb hN;have hM:=hM';clear hM';refine hko hK (fun hH8=>?_);clear hK K hH7 hb
     try simp only[hwA]
     refine hwq hx7 (.agg (nv 14 {data:=#[]} 0 kd ad nd qd kc ac nc qc lb (some ⟨U1.heap.size,0,none⟩) 1 1)) hH8 ?_;refine hwe bd (fun K hK=>?_);obtain⟨r0,rf0,r1,rf1,r2,rf2,r3,rf3,r4,rf4,r5,rf5,r6,rf6,r7,rf7,r8,rf8⟩:=blk9f fR
     go_simp
     (try go_wp2_with fail);have hQq:=c7 fR (.int .i64 14) (.string {data:=#[]}) (.int .i64 0) (.int .i64 kd) (.slice ad nd qd) (.int .i64 kc) (.slice ac nc qc) (.int .i64 lb) (.slice (some ⟨U1.heap.size,0,none⟩) 1 1);clear fR r0 rf0 r1 rf1 r2 rf2 r3 rf3 r4 rf4 r5 rf5 r6 rf6 r7 rf7 r8 rf8;obtain⟨X11,hXq,hsq,fR,zX11a,zX11b⟩:=hQq;rw[hXq];replace fE:=hsq.bk fE;replace fF:=hsq.bk fF;replace fT:=hsq.bk fT;replace fB:=hsq.be fB;replace hE:=zq (hE.out.move (hsq.keeps (fun b hb=>by have:=hb.2;omega)));replace hF:=zq (hF.out.move (hsq.keeps (fun b hb=>by have:=hb.2;omega)));replace hT:=zq (hT.out.move (hsq.keeps (fun b hb=>by have:=hb.2;omega)));replace fL:=hsq.bk fL;replace hN:=zq (hsq.rep (fun b hb=>by have h1:=hb.1;have h2:=hb.2;omega) hN.out);replace hM:=zq (hsq.rep (fun b hb=>by have h1:=hb.1;have h2:=hb.2;omega) hM.out);refine hko hK (fun hH9=>?_);clear hK K hH8 hsq hXq
     try simp only[hwA]
     refine hwq bl (.int .i64 (lb+1)) hH9 ?_;refine hwd ?_;clear hH9;obtain⟨rc0,rc1,rc2,rc3,rc4,rc5,rc6,rc7,rc8⟩:=blk9 fR
     go_wp2_with fail
     refine bq (.tuple #[.agg (nv 14 {data:=#[]} 0 kd ad nd qd kc ac nc qc lb (some ⟨U1.heap.size,0,none⟩) 1 1),.int .i64 (lb+1)]) (by simp[results,Try.results45,go_sem,rc0,rc1,rc2,rc3,rc4,rc5,rc6,rc7,rc8]) ?_;have hks:aN (fun b=>F b∨w.heap.size<=b) X11 [t1] (.slice (some ⟨U1.heap.size,0,none⟩) 1 1):=aN.blk (by right;show w.heap.size<=_;omega) fL rfl (by unfold maxLen;omega) (aV.c1 (hE.out.move (.weaken fun b h _=>.inl h.1)).srep);refine⟨.mk 14 {data:=#[]} 0 u s lb [t1],_,lb+1,rfl,?_,by omega,by omega,aB.mk bD (hM.out.move (.weaken fun b h _=>.inr (by have h1:=h.1;omega))) (hN.out.move (.weaken fun b h _=>.inr (by have h1:=h.1;omega))) hks,fB.out⟩;have h1:=HCS.out;have h2:=HCU.out;simp only[Tm.cnt,Tm.cnts,List.length_cons,List.length_nil,show({data:=#[]}:ByteArray).size=0 from rfl]
     omega
def da (n:Nat)(F:Nat->Prop)(w:World)(e:Ending)(w':World):Prop:=∃(us:List Ty) (a:Option Addr) (q:Nat),e = .returned (.slice a n q)∧us.length=n∧(∀u∈us,u.cnt<=14)∧av (fun b=>F b∨w.heap.size<=b) w' us (.slice a n q)∧Below w.heap.size w w'
theorem fn_mat {s:S}(hs:s.vd=true)(h:(s.mat 4).2.2=true):(S.fn (s.mat 4).1 (s.mat 4).2.1).vd=true:=by
 cases s with
 | fn a b=>exact hs
 | any=>decide
 | zero=>exact absurd h (by decide)
 | int=>exact absurd h (by decide)
 | bool=>exact absurd h (by decide)
 | pr a b=>exact absurd h (by simp[S.mat])
theorem pr_mat {s:S}(hs:s.vd=true)(h:(s.mat 5).2.2=true):(S.pr (s.mat 5).1 (s.mat 5).2.1).vd=true:=by
 cases s with
 | pr a b=>exact hs
 | any=>decide
 | zero=>exact absurd h (by decide)
 | int=>exact absurd h (by decide)
 | bool=>exact absurd h (by decide)
 | fn a b=>exact absurd h (by simp[S.mat])
theorem cx {s:S}(h:s.vd=true):s.ty.cnt<=14:=by rw[S.ty_cnt];exact eF h
theorem mu (F1 F2:Nat->Prop)(s:S)(h0 h1:S)(hv0:h0.vd=true)(hm:(h0.mat 4).2.2=true)(nm:ByteArray)(u tk fk lb uk:Int)(ta fa ca xa ua:Option Addr)(tn tq fn fq cm cq xn xq un uq:Nat)(w:World)(hk:av F1 w [h0.ty,h1.ty] (.slice xa 2 xq))(ht:ai F2 w s.ty (.agg #[.int .i64 uk,.slice ua un uq]))(hs:s.vd=true) :
  Calls Try.prog 85 #[.agg (nv 6 nm u tk ta tn tq fk fa fn fq lb ca cm cq),.slice xa 2 xq,.agg #[.int .i64 uk,.slice ua un uq]] w (da 2 (fun b=>F1 b∨F2 b) w):=by
 obtain⟨b2,off2,k0,c0,m0_,q0,rfl,hlb,e0,e1,ht0⟩:=hk.at (Below.refl _ _) (i:=0) (by simp);simp only[List.getElem_cons_zero,Nat.zero_mul,Nat.add_zero] at e0 e1 ht0;have HVM:=zq (fn_mat hv0 hm);have H0:=zq ht0;have HCN:=zq (dq hv0);have HM:=zq (fun W (h:Below w.heap.size w W)=>di _ h0 4 (.inl rfl) HCN.out _ W (H0.out.below h));rw[hm] at HM;have HBV:=zq (show Below w.heap.size w ((w.alloc (.cells (nv 6 nm u tk ta tn tq fk fa fn fq lb ca cm cq) 28)).alloc (.cells #[.int .i64 uk,.slice ua un uq] 25)) from al ag ag);have m0:=af (ag (o:=.cells (nv 6 nm u tk ta tn tq fk fa fn fq lb ca cm cq) 28)) e0;have m1:=af (ag (o:=.cells (nv 6 nm u tk ta tn tq fk fa fn fq lb ca cm cq) 28)) e1;have lb1:b2<w.heap.size+1:=by omega
 have lb2:b2<w.heap.size+1+1:=by omega
 generalize hma:(h0.mat 4).1=ma at HM HVM;generalize hmb:(h0.mat 4).2.1=mb at HM HVM;clear hm hv0 ht0 hk ht hs hma hmb
 go_enter Try.func85,Try.ntmps85
 go_wp2_with fail
 refine(HM.out _ HBV.out).mono ?_;rintro e w3 ⟨ya,yb,rfl,hab,hst⟩;obtain⟨k3,a3,n3,q3,k4,a4,n4,q4,rfl,rfl⟩:=hab.shape;obtain⟨fa_,fb_,oa_,ob_,-,hBB⟩:=hab;have hsz:w.heap.size<=((w.alloc (.cells (nv 6 nm u tk ta tn tq fk fa fn fq lb ca cm cq) 28)).alloc (.cells #[.int .i64 uk,.slice ua un uq] 25)).heap.size:=by simp;omega
 obtain⟨VS,hVS⟩ : ∃x,((w.alloc (.cells (nv 6 nm u tk ta tn tq fk fa fn fq lb ca cm cq) 28)).alloc (.cells #[.int .i64 uk,.slice ua un uq] 25)).heap.size=x:=⟨_,rfl⟩
 skip
 have hA:Hid (ai (fun x=>w.heap.size<=x∧x<w3.heap.size) w3 ma.ty (.agg #[.int .i64 k3,.slice a3 n3 q3])):=zq (oa_.rep.move (.weaken fun b h hl=>⟨Nat.le_trans hsz (hBB b (by simp[h])),hl⟩));have hB:Hid (ai (fun x=>w.heap.size<=x∧x<w3.heap.size) w3 mb.ty (.agg #[.int .i64 k4,.slice a4 n4 q4])):=zq (ob_.rep.move (.weaken fun b h hl=>⟨Nat.le_trans hsz (hBB b (by simp[h])),hl⟩));have fB:Hid (Below w.heap.size w w3):=zq (al HBV.out hst);have zw3:w.heap.size<=w3.heap.size:=fB.out.size;clear oa_ ob_ hBB hst m0 m1 HM HBV hsz hVS
 go_wp2_with fail
 generalize hXq:World.alloc w3 _=w4;obtain⟨hb,fA,zw4a,zw4b⟩:=alE hXq;replace hA:=mh hb hA;replace hB:=mh hb hB;replace fB:=mh hb fB;clear hb hXq;generalize hXq:World.alloc w4 _=w5;obtain⟨hb,fD,zw5a,zw5b⟩:=alE hXq;replace hA:=mh hb hA;replace hB:=mh hb hB;replace fB:=mh hb fB;replace fA:=a9 fA hb;clear hb hXq;refine(cB _ _ 4 ma.ty mb.ty _ _ _ _ _ _ _ _ _ hA.out hB.out (by have:=cx (dJ HVM.out).1;omega) (by have:=cx (dJ HVM.out).2;omega)).mono ?_;rintro e w6 ⟨k6,a6,n6,q6,b6,t6,rfl,-,ht6,h6,hb⟩;have hval:(Ty.mk 4 [ma.ty,mb.ty]).valid=true:=(S.valid (S.fn ma mb)).trans HVM.out;obtain rfl:=h6 _ (if_pos hval);have hT6:Hid (ai (fun x=>w.heap.size<=x) w6 (.mk 4 [ma.ty,mb.ty]) (.agg #[.int .i64 k6,.slice a6 n6 q6])):=zq (ht6.move (.weaken fun b h _=>by have h1:=h.elim False.elim id;omega));have z6:=hb.size;clear ht6 h6;replace hA:=mh hb hA;replace hB:=mh hb hB;replace fB:=mh hb fB;replace fA:=a9 fA hb;replace fD:=a9 fD hb;clear hb;obtain⟨y0,y1⟩:=blk2 fA;have yl:=aw fA
 go_wp2_with fail
 clear y0 y1 yl;generalize hXq:World.alloc w6 _=w7;obtain⟨hb,fG,zw7a,zw7b⟩:=alE hXq;replace hA:=mh hb hA;replace hB:=mh hb hB;replace fB:=mh hb fB;replace fA:=a9 fA hb;replace fD:=a9 fD hb;replace hT6:=mh hb hT6;clear hb hXq;generalize hXq:World.alloc w7 _=w8;obtain⟨hb,fK,zw8a,zw8b⟩:=alE hXq;replace hA:=mh hb hA;replace hB:=mh hb hB;replace fB:=mh hb fB;replace fA:=a9 fA hb;replace fD:=a9 fD hb;replace hT6:=mh hb hT6;replace fG:=a9 fG hb;clear hb hXq;refine bq (.slice (some ⟨w7.heap.size,0,none⟩) 2 2) (by simp[results,Try.results85,go_sem]) ?_;have hc1:=cx HVM.out;have hc2:=cx (dJ HVM.out).1;refine⟨[.mk 4 [ma.ty,mb.ty],ma.ty],_,_,rfl,rfl,?_,av.two_mk (.inr (by omega)) (by omega) (by unfold maxLen;omega) (ah fK rfl) (ah fK rfl) (ah fK rfl) (ah fK rfl) (hT6.out.move (.weaken fun b h _=>.inr h)) (hA.out.move (.weaken fun b h _=>.inr h.1)),fB.out⟩;intro u hu;simp only[List.mem_cons,List.not_mem_nil,or_false] at hu
 rcases hu with rfl | rfl
 ·exact hc1
 ·exact hc2
theorem kX (F1 F2:Nat->Prop)(s:S)(h0:S)(hv0:h0.vd=true)(hm:(h0.mat 5).2.2=true)(nm:ByteArray)(u tk fk lb uk:Int)(ta fa ca xa ua:Option Addr)(tn tq fn fq cm cq xn xq un uq:Nat)(w:World)(hk:av F1 w [h0.ty] (.slice xa 1 xq))(ht:ai F2 w s.ty (.agg #[.int .i64 uk,.slice ua un uq]))(hs:s.vd=true) :
  Calls Try.prog 85 #[.agg (nv 11 nm u tk ta tn tq fk fa fn fq lb ca cm cq),.slice xa 1 xq,.agg #[.int .i64 uk,.slice ua un uq]] w (da 1 (fun b=>F1 b∨F2 b) w):=by
 obtain⟨b2,off2,k0,c0,m0_,q0,rfl,hlb,e0,e1,ht0⟩:=hk.at (Below.refl _ _) (i:=0) (by simp);simp only[List.getElem_cons_zero,Nat.zero_mul,Nat.add_zero] at e0 e1 ht0;have HVM:=zq (pr_mat hv0 hm);have H0:=zq ht0;have HCN:=zq (dq hv0);have HM:=zq (fun W (h:Below w.heap.size w W)=>di _ h0 5 (.inr rfl) HCN.out _ W (H0.out.below h));rw[hm] at HM;have HBV:=zq (show Below w.heap.size w ((w.alloc (.cells (nv 11 nm u tk ta tn tq fk fa fn fq lb ca cm cq) 28)).alloc (.cells #[.int .i64 uk,.slice ua un uq] 25)) from al ag ag);have m0:=af (ag (o:=.cells (nv 11 nm u tk ta tn tq fk fa fn fq lb ca cm cq) 28)) e0;have m1:=af (ag (o:=.cells (nv 11 nm u tk ta tn tq fk fa fn fq lb ca cm cq) 28)) e1;have lb1:b2<w.heap.size+1:=by omega
 have lb2:b2<w.heap.size+1+1:=by omega
 generalize hma:(h0.mat 5).1=ma at HM HVM;generalize hmb:(h0.mat 5).2.1=mb at HM HVM;clear hm hv0 ht0 hk ht hs hma hmb
 go_enter Try.func85,Try.ntmps85
 go_wp2_with fail
 refine(HM.out _ HBV.out).mono ?_;rintro e w3 ⟨ya,yb,rfl,hab,hst⟩;obtain⟨k3,a3,n3,q3,k4,a4,n4,q4,rfl,rfl⟩:=hab.shape;obtain⟨fa_,fb_,oa_,ob_,-,hBB⟩:=hab;have hsz:w.heap.size<=((w.alloc (.cells (nv 11 nm u tk ta tn tq fk fa fn fq lb ca cm cq) 28)).alloc (.cells #[.int .i64 uk,.slice ua un uq] 25)).heap.size:=by simp;omega
 obtain⟨VS,hVS⟩ : ∃x,((w.alloc (.cells (nv 11 nm u tk ta tn tq fk fa fn fq lb ca cm cq) 28)).alloc (.cells #[.int .i64 uk,.slice ua un uq] 25)).heap.size=x:=⟨_,rfl⟩
 skip
 have hA:Hid (ai (fun x=>w.heap.size<=x∧x<w3.heap.size) w3 ma.ty (.agg #[.int .i64 k3,.slice a3 n3 q3])):=zq (oa_.rep.move (.weaken fun b h hl=>⟨Nat.le_trans hsz (hBB b (by simp[h])),hl⟩));have hB:Hid (ai (fun x=>w.heap.size<=x∧x<w3.heap.size) w3 mb.ty (.agg #[.int .i64 k4,.slice a4 n4 q4])):=zq (ob_.rep.move (.weaken fun b h hl=>⟨Nat.le_trans hsz (hBB b (by simp[h])),hl⟩));have fB:Hid (Below w.heap.size w w3):=zq (al HBV.out hst);have zw3:w.heap.size<=w3.heap.size:=fB.out.size;clear oa_ ob_ hBB hst m0 m1 HM HBV hsz hVS
 go_wp2_with fail
 generalize hXq:World.alloc w3 _=w4;obtain⟨hb,fA,zw4a,zw4b⟩:=alE hXq;replace hA:=mh hb hA;replace hB:=mh hb hB;replace fB:=mh hb fB;clear hb hXq;generalize hXq:World.alloc w4 _=w5;obtain⟨hb,fD,zw5a,zw5b⟩:=alE hXq;replace hA:=mh hb hA;replace hB:=mh hb hB;replace fB:=mh hb fB;replace fA:=a9 fA hb;clear hb hXq;refine(cB _ _ 5 ma.ty mb.ty _ _ _ _ _ _ _ _ _ hA.out hB.out (by have:=cx (dx HVM.out).1;omega) (by have:=cx (dx HVM.out).2;omega)).mono ?_;rintro e w6 ⟨k6,a6,n6,q6,b6,t6,rfl,-,ht6,h6,hb⟩;have hval:(Ty.mk 5 [ma.ty,mb.ty]).valid=true:=(S.valid (S.pr ma mb)).trans HVM.out;obtain rfl:=h6 _ (if_pos hval);have hT6:Hid (ai (fun x=>w.heap.size<=x) w6 (.mk 5 [ma.ty,mb.ty]) (.agg #[.int .i64 k6,.slice a6 n6 q6])):=zq (ht6.move (.weaken fun b h _=>by have h1:=h.elim False.elim id;omega));have z6:=hb.size;clear ht6 h6;replace hA:=mh hb hA;replace hB:=mh hb hB;replace fB:=mh hb fB;replace fA:=a9 fA hb;replace fD:=a9 fD hb;clear hb
 go_wp2_with fail
 generalize hXq:World.alloc w6 _=w7;obtain⟨hb,fG,zw7a,zw7b⟩:=alE hXq;replace hA:=mh hb hA;replace hB:=mh hb hB;replace fB:=mh hb fB;replace fA:=a9 fA hb;replace fD:=a9 fD hb;replace hT6:=mh hb hT6;clear hb hXq;generalize hXq:World.alloc w7 _=w8;obtain⟨hb,fK,zw8a,zw8b⟩:=alE hXq;replace hA:=mh hb hA;replace hB:=mh hb hB;replace fB:=mh hb fB;replace fA:=a9 fA hb;replace fD:=a9 fD hb;replace hT6:=mh hb hT6;replace fG:=a9 fG hb;clear hb hXq;refine bq (.slice (some ⟨w7.heap.size,0,none⟩) 1 1) (by simp[results,Try.results85,go_sem]) ?_;have hc1:=cx HVM.out;refine⟨[.mk 5 [ma.ty,mb.ty]],_,_,rfl,rfl,?_,av.one_mk (.inr (by omega)) (by omega) (by unfold maxLen;omega) (ah fK rfl) (ah fK rfl) (hT6.out.move (.weaken fun b h _=>.inr h)),fB.out⟩;intro u hu;simp only[List.mem_cons,List.not_mem_nil,or_false] at hu;rw[hu];exact hc1
theorem kY (F1 F2:Nat->Prop)(s:S)(h0:S)(hv0:h0.vd=true)(hm:(h0.mat 5).2.2=true)(nm:ByteArray)(u tk fk lb uk:Int)(ta fa ca xa ua:Option Addr)(tn tq fn fq cm cq xn xq un uq:Nat)(w:World)(hk:av F1 w [h0.ty] (.slice xa 1 xq))(ht:ai F2 w s.ty (.agg #[.int .i64 uk,.slice ua un uq]))(hs:s.vd=true) :
  Calls Try.prog 85 #[.agg (nv 12 nm u tk ta tn tq fk fa fn fq lb ca cm cq),.slice xa 1 xq,.agg #[.int .i64 uk,.slice ua un uq]] w (da 1 (fun b=>F1 b∨F2 b) w):=by
 obtain⟨b2,off2,k0,c0,m0_,q0,rfl,hlb,e0,e1,ht0⟩:=hk.at (Below.refl _ _) (i:=0) (by simp);simp only[List.getElem_cons_zero,Nat.zero_mul,Nat.add_zero] at e0 e1 ht0;have HVM:=zq (pr_mat hv0 hm);have H0:=zq ht0;have HCN:=zq (dq hv0);have HM:=zq (fun W (h:Below w.heap.size w W)=>di _ h0 5 (.inr rfl) HCN.out _ W (H0.out.below h));rw[hm] at HM;have HBV:=zq (show Below w.heap.size w ((w.alloc (.cells (nv 12 nm u tk ta tn tq fk fa fn fq lb ca cm cq) 28)).alloc (.cells #[.int .i64 uk,.slice ua un uq] 25)) from al ag ag);have m0:=af (ag (o:=.cells (nv 12 nm u tk ta tn tq fk fa fn fq lb ca cm cq) 28)) e0;have m1:=af (ag (o:=.cells (nv 12 nm u tk ta tn tq fk fa fn fq lb ca cm cq) 28)) e1;have lb1:b2<w.heap.size+1:=by omega
 have lb2:b2<w.heap.size+1+1:=by omega
 generalize hma:(h0.mat 5).1=ma at HM HVM;generalize hmb:(h0.mat 5).2.1=mb at HM HVM;clear hm hv0 ht0 hk ht hs hma hmb
 go_enter Try.func85,Try.ntmps85
 go_wp2_with fail
 refine(HM.out _ HBV.out).mono ?_;rintro e w3 ⟨ya,yb,rfl,hab,hst⟩;obtain⟨k3,a3,n3,q3,k4,a4,n4,q4,rfl,rfl⟩:=hab.shape;obtain⟨fa_,fb_,oa_,ob_,-,hBB⟩:=hab;have hsz:w.heap.size<=((w.alloc (.cells (nv 12 nm u tk ta tn tq fk fa fn fq lb ca cm cq) 28)).alloc (.cells #[.int .i64 uk,.slice ua un uq] 25)).heap.size:=by simp;omega
 obtain⟨VS,hVS⟩ : ∃x,((w.alloc (.cells (nv 12 nm u tk ta tn tq fk fa fn fq lb ca cm cq) 28)).alloc (.cells #[.int .i64 uk,.slice ua un uq] 25)).heap.size=x:=⟨_,rfl⟩
 skip
 have hA:Hid (ai (fun x=>w.heap.size<=x∧x<w3.heap.size) w3 ma.ty (.agg #[.int .i64 k3,.slice a3 n3 q3])):=zq (oa_.rep.move (.weaken fun b h hl=>⟨Nat.le_trans hsz (hBB b (by simp[h])),hl⟩));have hB:Hid (ai (fun x=>w.heap.size<=x∧x<w3.heap.size) w3 mb.ty (.agg #[.int .i64 k4,.slice a4 n4 q4])):=zq (ob_.rep.move (.weaken fun b h hl=>⟨Nat.le_trans hsz (hBB b (by simp[h])),hl⟩));have fB:Hid (Below w.heap.size w w3):=zq (al HBV.out hst);have zw3:w.heap.size<=w3.heap.size:=fB.out.size;clear oa_ ob_ hBB hst m0 m1 HM HBV hsz hVS
 go_wp2_with fail
 generalize hXq:World.alloc w3 _=w4;obtain⟨hb,fA,zw4a,zw4b⟩:=alE hXq;replace hA:=mh hb hA;replace hB:=mh hb hB;replace fB:=mh hb fB;clear hb hXq;generalize hXq:World.alloc w4 _=w5;obtain⟨hb,fD,zw5a,zw5b⟩:=alE hXq;replace hA:=mh hb hA;replace hB:=mh hb hB;replace fB:=mh hb fB;replace fA:=a9 fA hb;clear hb hXq;refine(cB _ _ 5 ma.ty mb.ty _ _ _ _ _ _ _ _ _ hA.out hB.out (by have:=cx (dx HVM.out).1;omega) (by have:=cx (dx HVM.out).2;omega)).mono ?_;rintro e w6 ⟨k6,a6,n6,q6,b6,t6,rfl,-,ht6,h6,hb⟩;have hval:(Ty.mk 5 [ma.ty,mb.ty]).valid=true:=(S.valid (S.pr ma mb)).trans HVM.out;obtain rfl:=h6 _ (if_pos hval);have hT6:Hid (ai (fun x=>w.heap.size<=x) w6 (.mk 5 [ma.ty,mb.ty]) (.agg #[.int .i64 k6,.slice a6 n6 q6])):=zq (ht6.move (.weaken fun b h _=>by have h1:=h.elim False.elim id;omega));have z6:=hb.size;clear ht6 h6;replace hA:=mh hb hA;replace hB:=mh hb hB;replace fB:=mh hb fB;replace fA:=a9 fA hb;replace fD:=a9 fD hb;clear hb
 go_wp2_with fail
 generalize hXq:World.alloc w6 _=w7;obtain⟨hb,fG,zw7a,zw7b⟩:=alE hXq;replace hA:=mh hb hA;replace hB:=mh hb hB;replace fB:=mh hb fB;replace fA:=a9 fA hb;replace fD:=a9 fD hb;replace hT6:=mh hb hT6;clear hb hXq;generalize hXq:World.alloc w7 _=w8;obtain⟨hb,fK,zw8a,zw8b⟩:=alE hXq;replace hA:=mh hb hA;replace hB:=mh hb hB;replace fB:=mh hb fB;replace fA:=a9 fA hb;replace fD:=a9 fD hb;replace hT6:=mh hb hT6;replace fG:=a9 fG hb;clear hb hXq;refine bq (.slice (some ⟨w7.heap.size,0,none⟩) 1 1) (by simp[results,Try.results85,go_sem]) ?_;have hc1:=cx HVM.out;refine⟨[.mk 5 [ma.ty,mb.ty]],_,_,rfl,rfl,?_,av.one_mk (.inr (by omega)) (by omega) (by unfold maxLen;omega) (ah fK rfl) (ah fK rfl) (hT6.out.move (.weaken fun b h _=>.inr h)),fB.out⟩;intro u hu;simp only[List.mem_cons,List.not_mem_nil,or_false] at hu;rw[hu];exact hc1
theorem mv (F1 F2:Nat->Prop)(s:S)(h0 h1:S)(nm:ByteArray)(u tk fk lb uk:Int)(ta fa ca xa ua:Option Addr)(tn tq fn fq cm cq xn xq un uq:Nat)(w:World)(hk:av F1 w [h0.ty,h1.ty] (.slice xa 2 xq))(ht:ai F2 w s.ty (.agg #[.int .i64 uk,.slice ua un uq]))(hs:s.vd=true) :
  Calls Try.prog 85 #[.agg (nv 7 nm u tk ta tn tq fk fa fn fq lb ca cm cq),.slice xa 2 xq,.agg #[.int .i64 uk,.slice ua un uq]] w (da 2 (fun b=>F1 b∨F2 b) w):=by
 clear hk ht hs
 go_enter Try.func85,Try.ntmps85
 go_wp2_with fail
 refine(b7 _).mono ?_;rintro e w1 ⟨rfl,hb⟩;have hB:=zq (al (aZ (w:=w)) hb);clear hb
 go_wp2_with fail
 refine(b7 _).mono ?_;rintro e w2 ⟨rfl,hb⟩;have hB2:=zq (al hB.out hb);clear hb hB
 go_wp2_with fail
 have z2:=hB2.out.size;generalize hXq:World.alloc w2 _=w3;obtain⟨hb,fK,zw3a,zw3b⟩:=alE hXq;replace hB2:=mh hb hB2;clear hb hXq;refine bq (.slice (some ⟨w2.heap.size,0,none⟩) 2 2) (by simp[results,Try.results85,go_sem]) ?_;refine⟨[.mk 2 [],.mk 2 []],_,_,rfl,rfl,?_,av.two_mk (.inr (by omega)) (by omega) (by unfold maxLen;omega) (ah fK rfl) (ah fK rfl) (ah fK rfl) (ah fK rfl) (ai.leafG 2) (ai.leafG 2),hB2.out⟩;intro u hu;simp only[List.mem_cons,List.not_mem_nil,or_false] at hu
 rcases hu with rfl | rfl<;>decide
theorem mx (F1 F2:Nat->Prop)(s:S)(h0 h1:S)(nm:ByteArray)(u tk fk lb uk:Int)(ta fa ca xa ua:Option Addr)(tn tq fn fq cm cq xn xq un uq:Nat)(w:World)(hk:av F1 w [h0.ty,h1.ty] (.slice xa 2 xq))(ht:ai F2 w s.ty (.agg #[.int .i64 uk,.slice ua un uq]))(hs:s.vd=true) :
  Calls Try.prog 85 #[.agg (nv 8 nm u tk ta tn tq fk fa fn fq lb ca cm cq),.slice xa 2 xq,.agg #[.int .i64 uk,.slice ua un uq]] w (da 2 (fun b=>F1 b∨F2 b) w):=by
 clear hk ht hs
 go_enter Try.func85,Try.ntmps85
 go_wp2_with fail
 refine(b7 _).mono ?_;rintro e w1 ⟨rfl,hb⟩;have hB:=zq (al (aZ (w:=w)) hb);clear hb
 go_wp2_with fail
 refine(b7 _).mono ?_;rintro e w2 ⟨rfl,hb⟩;have hB2:=zq (al hB.out hb);clear hb hB
 go_wp2_with fail
 have z2:=hB2.out.size;generalize hXq:World.alloc w2 _=w3;obtain⟨hb,fK,zw3a,zw3b⟩:=alE hXq;replace hB2:=mh hb hB2;clear hb hXq;refine bq (.slice (some ⟨w2.heap.size,0,none⟩) 2 2) (by simp[results,Try.results85,go_sem]) ?_;refine⟨[.mk 2 [],.mk 2 []],_,_,rfl,rfl,?_,av.two_mk (.inr (by omega)) (by omega) (by unfold maxLen;omega) (ah fK rfl) (ah fK rfl) (ah fK rfl) (ah fK rfl) (ai.leafG 2) (ai.leafG 2),hB2.out⟩;intro u hu;simp only[List.mem_cons,List.not_mem_nil,or_false] at hu
 rcases hu with rfl | rfl<;>decide
theorem my (F1 F2:Nat->Prop)(s:S)(h0 h1 h2:S)(nm:ByteArray)(u tk fk lb uk:Int)(ta fa ca xa ua:Option Addr)(tn tq fn fq cm cq xn xq un uq:Nat)(w:World)(hk:av F1 w [h0.ty,h1.ty,h2.ty] (.slice xa 3 xq))(ht:ai F2 w s.ty (.agg #[.int .i64 uk,.slice ua un uq]))(hs:s.vd=true) :
  Calls Try.prog 85 #[.agg (nv 9 nm u tk ta tn tq fk fa fn fq lb ca cm cq),.slice xa 3 xq,.agg #[.int .i64 uk,.slice ua un uq]] w (da 3 (fun b=>F1 b∨F2 b) w):=by
 have HT0:=zq (ht.move (.weaken (G:=(fun x=>F2 x∧x<w.heap.size)) fun b h hl=>⟨h,hl⟩));have HCV:=zq (cx hs);clear hk ht hs
 go_enter Try.func85,Try.ntmps85
 go_wp2_with fail
 obtain⟨VV,hVV⟩ : ∃X,X=((w.alloc (.cells (nv 9 nm u tk ta tn tq fk fa fn fq lb ca cm cq) 28)).alloc (.cells #[.int .i64 uk,.slice ua un uq] 25)):=⟨_,rfl⟩
 have fT:VV.heap[w.heap.size+1]?=some (.cells #[.int .i64 uk,.slice ua un uq] 25 (0,0)):=by rw[hVV];exact aA (by simp)
 have fB:Hid (Below w.heap.size w VV):=by rw[hVV];exact zq aZ
 have hT:Hid (ai (fun x=>F2 x∧x<w.heap.size) VV s.ty (.agg #[.int .i64 uk,.slice ua un uq])):=by rw[hVV];exact zq (HT0.out.below aZ)
 clear HT0;rw[<-hVV];have zV:VV.heap.size=_:=congrArg (fun X:World=>X.heap.size) hVV;simp only[World.size_alloc] at zV;refine wh2 (bc0 fT) (bc1 fT) (fun U2 hb zU2a zU2b hH0=>?_);replace fT:=a9 fT hb;replace fB:=mh hb fB;replace hT:=mh hb hT;rw[zV] at zU2a zU2b;clear hb hVV zV;refine hwq hx1 (.agg #[.int .i64 uk,.slice ua un uq]) hH0 ?_;refine hwq hx2 (.agg #[.int .i64 uk,.slice ua un uq]) hH0 ?_;refine hwe hx0 (fun K hK=>?_)
 go_simp
 go_at_call 59
 refine(bX _).mono ?_;rintro e X1 ⟨rfl,hb⟩
 go_wp2_with fail
 have zX1:=hb.size;replace fT:=a9 fT hb;replace fB:=mh hb fB;replace hT:=mh hb hT;refine hko hK (fun hH1=>?_);clear hK K hH0 hb
 try simp only[hwA]
 refine hwe hx3 (fun K hK=>?_)
 go_simp
 (try go_wp2_with fail);generalize hXq:World.alloc X1 _=X2;obtain⟨hb,fK,zX2a,zX2b⟩:=alE hXq;replace fT:=a9 fT hb;replace fB:=mh hb fB;replace hT:=mh hb hT;refine hko hK (fun hH2=>?_);clear hK K hH1 hb hXq
 try simp only[hwA]
 refine hwq hx4 (.slice (some ⟨X1.heap.size,0,none⟩) 3 3) hH2 ?_;refine hwd ?_;clear hH2
 go_wp2_with fail
 refine bq (.slice (some ⟨X1.heap.size,0,none⟩) 3 3) (by simp[results,Try.results85,go_sem]) ?_;have hM:ai (fun b=>(F1 b∨F2 b)∨w.heap.size<=b) X2 s.ty (.agg #[.int .i64 uk,.slice ua un uq]):=hT.out.move (.weaken fun b h _=>.inl (.inr h.1));refine⟨[.mk 3 [],s.ty,s.ty],_,_,rfl,rfl,?_,av.three_mk (.inr (by omega)) (by omega) (by unfold maxLen;omega) (ah fK rfl) (ah fK rfl) (ah fK rfl) (ah fK rfl) (ah fK rfl) (ah fK rfl) (ai.leafG 3) hM hM,fB.out⟩;have hc:=HCV.out;intro u hu;simp only[List.mem_cons,List.not_mem_nil,or_false] at hu
 rcases hu with rfl | rfl | rfl
 ·decide
 ·exact hc
 ·exact hc
theorem kZ (F1 F2:Nat->Prop)(s:S)(h0:S)(nm:ByteArray)(u tk fk lb uk:Int)(ta fa ca xa ua:Option Addr)(tn tq fn fq cm cq xn xq un uq:Nat)(w:World)(hk:av F1 w [h0.ty] (.slice xa 1 xq))(ht:ai F2 w s.ty (.agg #[.int .i64 uk,.slice ua un uq]))(hs:s.vd=true) :
  Calls Try.prog 85 #[.agg (nv 13 nm u tk ta tn tq fk fa fn fq lb ca cm cq),.slice xa 1 xq,.agg #[.int .i64 uk,.slice ua un uq]] w (da 1 (fun b=>F1 b∨F2 b) w):=by
 have HT:=zq (ht.move (.weaken (G:=fun b=>(F1 b∨F2 b)∨w.heap.size<=b) fun b h _=>.inl (.inr h)));have HCV:=zq (cx hs);clear hk ht hs
 go_enter Try.func85,Try.ntmps85
 go_wp2_with fail
 have fK:=aA (w:=((w.alloc (.cells (nv 13 nm u tk ta tn tq fk fa fn fq lb ca cm cq) 28)).alloc (.cells #[.int .i64 uk,.slice ua un uq] 25))) (o:=.cells #[.int .i64 uk,.slice ua un uq] 25) rfl;refine bq (.slice (some ⟨w.heap.size+1+1,0,none⟩) 1 1) (by simp[results,Try.results85,go_sem]) ?_;have hlo:w.heap.size<=w.heap.size+1+1:=by omega
 simp only[World.size_alloc] at fK;refine⟨[s.ty],_,_,rfl,rfl,?_,av.one_mk (.inr hlo) (by omega) (by unfold maxLen;omega) (ah fK rfl) (ah fK rfl) (HT.out.below bG),bG⟩;intro u hu;simp only[List.mem_cons,List.not_mem_nil,or_false] at hu;rw[hu];exact HCV.out
theorem mz (F1 F2:Nat->Prop)(s:S)(xn_:Nat)(k:Int)(h6:(k==6)=false)(h7:(k==7)=false)(h8:(k==8)=false)(h9:(k==9)=false)(h11:(k==11)=false)(h12:(k==12)=false)(h13:(k==13)=false)(hs0:List S)(hvs : ∀h∈hs0,h.vd=true)(hl0:hs0.length=xn_)(nm:ByteArray)(u tk fk lb uk:Int)(ta fa ca xa ua:Option Addr)(tn tq fn fq cm cq xn xq un uq:Nat)(w:World)(hk:av F1 w (hs0.map S.ty) (.slice xa xn_ xq))(ht:ai F2 w s.ty (.agg #[.int .i64 uk,.slice ua un uq]))(hs:s.vd=true) :
  Calls Try.prog 85 #[.agg (nv k nm u tk ta tn tq fk fa fn fq lb ca cm cq),.slice xa xn_ xq,.agg #[.int .i64 uk,.slice ua un uq]] w (da xn_ (fun b=>F1 b∨F2 b) w):=by
 have HK:=zq hk;have HL:=zq (And.intro hvs hl0);clear hk ht hs hvs hl0
 go_enter Try.func85,Try.ntmps85
 go_wp2_with fail
 refine bq (.slice xa xn_ xq) (by simp[results,Try.results85,go_sem]) ?_;refine⟨hs0.map S.ty,_,_,rfl,by simp[HL.out.2],?_,(HK.out.below aZ).move (.weaken fun b h _=>.inl (.inl h)),aZ⟩;intro u hu;obtain⟨h,hh,rfl⟩:=List.mem_map.1 hu
 exact cx (HL.out.1 h hh)
theorem kf {k u l:Int}{s:ByteArray}{t f:Ty}{ts:List Tm}(h:(Tm.mk k s u t f l ts).ownB=true)(hk : ¬k=14):f.noneB=true∧l=0∧(((k==5||k==13)=true->t.valid=true)∧((k==5||k==13)=false->t.noneB=true)):=by
 have h1:Go.Proofs.Ytfhglkmjibjjoaa.ownB k u l s t.valid t.noneB f.noneB (f.valid&&t.valid&&f.cons t)=true:=h;unfold Go.Proofs.Ytfhglkmjibjjoaa.ownB at h1;have hk14:(k==14)=false:=by rw[beq_eq_false_iff_ne];exact hk
 rw[hk14] at h1;simp only[Bool.or_false,Bool.and_eq_true,if_neg (show ¬(false=true) by simp),beq_iff_eq] at h1;refine⟨h1.2.1,h1.2.2,fun e=>?_,fun e=>?_⟩
 ·have:=h1.1.2;rw[if_pos e] at this;exact this
 ·have:=h1.1.2;rw[if_neg (by rw[e];simp)] at this;exact this
theorem on {s:ByteArray}(h:s.toList = []):s.size<=1:=by
 have h1:s.data.toList = []:=by simpa [ByteArray.toList_eq] using h
 have e:s.data.toList.length=s.size:=by simp
 rw[h1] at e
 simp at e;omega
theorem me {k u l:Int}{s:ByteArray}{t f:Ty}{ts:List Tm}(h:(Tm.mk k s u t f l ts).ownB=true):s.size<=1:=by
 have h1:Go.Proofs.Ytfhglkmjibjjoaa.ownB k u l s t.valid t.noneB f.noneB (f.valid&&t.valid&&f.cons t)=true:=h;unfold Go.Proofs.Ytfhglkmjibjjoaa.ownB at h1;simp only[Bool.and_eq_true] at h1;have h2:=h1.1.1.1
 split at h2
 ·unfold aI at h2
  by_cases hz:s.size=1
  ·omega
  ·simp[hz] at h2
 ·have h3:s.toList = []:=by simpa using h2
  exact on h3
theorem eA {t:Ty}(h:t.noneB=true):t.cnt=0:=by
 cases t with | mk k ts=>
 unfold Ty.noneB Go.Proofs.Ytfhglkmjibjjoaa.noneB at h;simp only[Ty.kind,Ty.kids,Bool.and_eq_true,beq_iff_eq] at h;have e:ts = []:=List.length_eq_zero_iff.1 (by simpa using h.2);subst e
 simp[Ty.cnt,Ty.cnts]
theorem ko {t:Ty}(h:t.valid=true):t.cnt<=14:=by
 have:=Ty.cnt_shape t 4 h
 omega
mutual
theorem Tm.cnt_shape14 : ∀(t:Tm) (d:Int),t.shape 14 d=true->t.cnt+1<=17*t.size
 | .mk k s u t f l ts,d,h=>by
  obtain⟨-,hk,-,ho,hs⟩:=Tm.shape_parts h;obtain⟨n1,-,p1,c1⟩:=kf ho hk;have h1:=me ho;have h2:=eA n1;have h3:t.cnt<=14:=by
   cases hb:(k==5||k==13) with
   | true=>exact ko (p1 hb)
   | false=>rw[eA (c1 hb)];omega
  have h4:=Tm.cnts_shape14 ts (d-1) hs;simp only[Tm.cnt,Tm.size]
  omega
theorem Tm.cnts_shape14 : ∀(ts:List Tm) (d:Int),Tm.shapes ts 14 d=true->Tm.cnts ts+ts.length<=17*Tm.sizes ts
 | [],_,_=>by simp[Tm.cnts,Tm.sizes]
 | t::ts,d,h=>by
  unfold Tm.shapes at h;simp only[Bool.and_eq_true] at h;have h1:=Tm.cnt_shape14 t d h.1;have h2:=Tm.cnts_shape14 ts d h.2;simp only[Tm.cnts,Tm.sizes,List.length_cons]
  omega
end
theorem Tm.cnt_valid30 {t:Tm}(h:t.valid=true):t.cnt<=510:=by
 unfold Tm.valid at h;rw[Bool.and_eq_true] at h;have h1:=Tm.cnt_shape14 t 12 h.1;have h2:=of_decide_eq_true h.2
 omega
def iN (t:Tm)(s:S)(lb:Int)(w:World)(e:Ending)(w':World):Prop:=∃(t':Tm) (v y:Value) (lb':Int),e = .returned (.tuple #[v,y,.int .i64 lb'])∧(t'.cnt:Int)<=200*t.size∧lb<=lb'∧lb'<=lb+4*t.size∧aB (w.heap.size <= ·) w' t' v∧ai (w.heap.size <= ·) w' s.ty y∧Below w.heap.size w w'
def L4I (t:Tm)(d:Int):Prop:=∀(l:List Bd) (F G:Nat->Prop) (c y:Value) (lb:Int) (W:World) (s:S),t.shape 14 d=true->(l.length:Int)+d<=1000->cz l->dz l c->aE F W l c->aB G W t y->t.typS l=some s->0<=lb->lb+4*t.size<=100000 ->
 Calls Try.prog 73 #[c,y,.int .i64 lb] W (iN t s lb W)
def df (k:Int)(nm:ByteArray)(ty:Ty)(l:List Bd):List Bd:=if k=5 then l ++ [⟨nm,ty⟩] else l
theorem oK {k u lb:Int}{nm:ByteArray}{ty src:Ty}{ts:List Tm}{l:List Bd}{s:S}(hlen:aD k=(ts.length:Int))(h:(Tm.mk k nm u ty src lb ts).typS l=some s) :
  ∃hs:List S,Tm.typsS ts (df k nm ty l)=some hs∧(6<=k->bi k ty hs=some s):=by
 have hnil:aD k=0->ts = []:=fun e=>List.length_eq_zero_iff.1 (by omega);unfold Tm.typS at h
 by_cases h1:k=1
 ·subst h1;rw[hnil rfl];exact⟨[],rfl,fun h=>absurd h (by decide)⟩
 rw[if_neg h1] at h
 by_cases h2:k=2
 ·subst h2;rw[hnil rfl];exact⟨[],rfl,fun h=>absurd h (by decide)⟩
 rw[if_neg h2] at h
 by_cases h3:k=3∨k=4
 ·have e:aD k=0:=by rcases h3 with rfl | rfl<;>rfl
  rw[hnil e];exact⟨[],rfl,fun h=>absurd h (by omega)⟩
 rw[if_neg h3] at h
 by_cases h5:k=5
 ·rw[if_pos h5] at h
  unfold df;rw[if_pos h5]
  cases hq:Tm.typsS ts (l ++ [⟨nm,ty⟩]) with
  | none=>rw[hq] at h;cases h
  | some hs=>exact⟨hs,rfl,fun h=>by omega⟩
 ·rw[if_neg h5] at h
  unfold df;rw[if_neg h5]
  cases hq:Tm.typsS ts l with
  | none=>rw[hq] at h;cases h
  | some hs=>rw[hq] at h;exact⟨hs,rfl,fun _=>h⟩
theorem mH : ∀(ts:List Tm) (l:List Bd) (hs:List S),Tm.typsS ts l=some hs->hs.length=ts.length∧∀(j:Nat) (h1:j<ts.length) (h2:j<hs.length),ts[j].typS l=some hs[j]
 | [],l,hs,h=>by
  unfold Tm.typsS at h
  cases h
  exact⟨rfl,fun j h1 _=>absurd h1 (Nat.not_lt_zero _)⟩
 | t::ts,l,hs,h=>by
  unfold Tm.typsS at h
  cases ht:t.typS l with
  | none=>rw[ht] at h;cases h
  | some x=>
   rw[ht] at h
   cases hq:Tm.typsS ts l with
   | none=>rw[hq] at h;cases h
   | some xs=>
    rw[hq] at h
    cases h
    have ih:=mH ts l xs hq;refine⟨by simp[ih.1],fun j h1 h2=>?_⟩
    cases j with
    | zero=>exact ht
    | succ j=>exact ih.2 j (by simpa using h1) (by simpa using h2)
theorem own_cnt {k u lb:Int}{nm:ByteArray}{ty src:Ty}{ts:List Tm}(ho:(Tm.mk k nm u ty src lb ts).ownB=true)(hk : ¬k=14):nm.size+ty.cnt+src.cnt<=15:=by
 obtain⟨n1,-,p1,c1⟩:=kf ho hk;have h1:=me ho;have h2:=eA n1;have h3:ty.cnt<=14:=by
  cases hb:(k==5||k==13) with
  | true=>exact ko (p1 hb)
  | false=>rw[eA (c1 hb)];omega
 omega
theorem Tm.cnts_set : ∀(L:List Tm) (j:Nat) (h:j<L.length) (t:Tm) (m:Nat),t.cnt<=L[j].cnt+m->Tm.cnts (L.set j t)<=Tm.cnts L+m
 | [],j,h,_,_,_=>absurd h (Nat.not_lt_zero _)
 | u::L,0,h,t,m,e=>by simp only[List.set_cons_zero,Tm.cnts,List.getElem_cons_zero] at *;omega
 | u::L,j+1,h,t,m,e=>by
  have ih:=Tm.cnts_set L j (by simpa using h) t m e;simp only[List.set_cons_succ,Tm.cnts]
  omega
theorem len1 {α:Type}{l:List α}(h:l.length=1) : ∃a,l = [a]:=List.length_eq_one_iff.1 h
theorem len2 {α:Type}{l:List α}(h:l.length=2) : ∃a b,l = [a,b]:=by
 match l,h with
 | [a,b],_=>exact⟨a,b,rfl⟩
theorem len3 {α:Type}{l:List α}(h:l.length=3) : ∃a b c,l = [a,b,c]:=by
 match l,h with
 | [a,b,c],_=>exact⟨a,b,c,rfl⟩
theorem nQ (F1 F2:Nat->Prop)(k:Int)(ty:Ty)(hs0:List S)(s:S)(nm:ByteArray)(u tk fk lb uk:Int)(ta fa ca xa ua:Option Addr)(tn tq fn fq cm cq xn xq un uq:Nat)(w:World)(hv : ∀h∈hs0,h.vd=true)(hvs:s.vd=true)(hn:6<=k->bi k ty hs0=some s)(hlen:aD k=(hs0.length:Int))(hxn:xn=hs0.length)
  (hk:av F1 w (hs0.map S.ty) (.slice xa xn xq)) (ht:ai F2 w s.ty (.agg #[.int .i64 uk,.slice ua un uq])) :
  Calls Try.prog 85 #[.agg (nv k nm u tk ta tn tq fk fa fn fq lb ca cm cq),.slice xa xn xq,.agg #[.int .i64 uk,.slice ua un uq]] w (da xn (fun b=>F1 b∨F2 b) w):=by
 by_cases h6:k=6
 ·subst h6
  have e2:hs0.length=2:=by have:aD 6=2:=rfl;omega
  obtain⟨h0,h1,rfl⟩:=len2 e2;have hn':=hn (by decide);simp only[bi,if_true] at hn';have hm:(h0.mat 4).2.2=true:=by
   cases hb:(h0.mat 4).2.2 with
   | true=>rfl
   | false=>rw[hb] at hn';simp at hn'
  rw[e2] at hxn;subst hxn
  exact mu F1 F2 s h0 h1 (hv h0 (by simp)) hm nm u tk fk lb uk ta fa ca xa ua tn tq fn fq cm cq 0 xq un uq w hk ht hvs
 by_cases h7:k=7
 ·subst h7
  have e2:hs0.length=2:=by have:aD 7=2:=rfl;omega
  obtain⟨h0,h1,rfl⟩:=len2 e2;rw[e2] at hxn;subst hxn
  exact mv F1 F2 s h0 h1 nm u tk fk lb uk ta fa ca xa ua tn tq fn fq cm cq 0 xq un uq w hk ht hvs
 by_cases h8:k=8
 ·subst h8
  have e2:hs0.length=2:=by have:aD 8=2:=rfl;omega
  obtain⟨h0,h1,rfl⟩:=len2 e2;rw[e2] at hxn;subst hxn
  exact mx F1 F2 s h0 h1 nm u tk fk lb uk ta fa ca xa ua tn tq fn fq cm cq 0 xq un uq w hk ht hvs
 by_cases h9:k=9
 ·subst h9
  have e2:hs0.length=3:=by have:aD 9=3:=rfl;omega
  obtain⟨h0,h1,h2,rfl⟩:=len3 e2;rw[e2] at hxn;subst hxn
  exact my F1 F2 s h0 h1 h2 nm u tk fk lb uk ta fa ca xa ua tn tq fn fq cm cq 0 xq un uq w hk ht hvs
 have hpm:k=11∨k=12->∃h0,hs0 = [h0]∧(h0.mat 5).2.2=true:=by
  intro hk2;have e2:hs0.length=1:=by rcases hk2 with rfl | rfl<;>(have:aD 11=1:=rfl;have:aD 12=1:=rfl;omega)
  obtain⟨h0,rfl⟩:=len1 e2;have hn':=hn (by omega);simp only[bi,if_neg (show ¬k=5 by omega),if_neg (show ¬k=13 by omega)] at hn';refine⟨h0,rfl,?_⟩
  cases hb:(h0.mat 5).2.2 with
  | true=>rfl
  | false=>rw[hb] at hn';simp at hn'
 by_cases h11:k=11
 ·subst h11
  obtain⟨h0,rfl,hm⟩:=hpm (.inl rfl);obtain rfl:xn=1:=by simpa using hxn
  exact kX F1 F2 s h0 (hv h0 (by simp)) hm nm u tk fk lb uk ta fa ca xa ua tn tq fn fq cm cq 0 xq un uq w hk ht hvs
 by_cases h12:k=12
 ·subst h12
  obtain⟨h0,rfl,hm⟩:=hpm (.inr rfl);obtain rfl:xn=1:=by simpa using hxn
  exact kY F1 F2 s h0 (hv h0 (by simp)) hm nm u tk fk lb uk ta fa ca xa ua tn tq fn fq cm cq 0 xq un uq w hk ht hvs
 by_cases h13:k=13
 ·subst h13
  have e2:hs0.length=1:=by have:aD 13=1:=rfl;omega
  obtain⟨h0,rfl⟩:=len1 e2;rw[e2] at hxn;subst hxn
  exact kZ F1 F2 s h0 nm u tk fk lb uk ta fa ca xa ua tn tq fn fq cm cq 0 xq un uq w hk ht hvs
 exact mz F1 F2 s xn k (beq_eq_false_iff_ne.2 h6) (beq_eq_false_iff_ne.2 h7) (beq_eq_false_iff_ne.2 h8) (beq_eq_false_iff_ne.2 h9) (beq_eq_false_iff_ne.2 h11) (beq_eq_false_iff_ne.2 h12) (beq_eq_false_iff_ne.2 h13) hs0 hv hxn.symm nm u tk fk lb uk ta fa ca xa ua tn tq fn fq cm cq 0 xq un uq w hk ht hvs
end Go.Proofs.Ytfhglkmjibjjoaa

/- spec.l4Cast. And what else its parts name. -/
import Derived.Test.YtfahhonmiimmdaaGreatMkH
set_option linter.unusedSimpArgs false
set_option linter.unusedVariables false
set_option maxRecDepth 100000
set_option maxHeartbeats 16000000
namespace Go.Proofs.YtfahhonmiimmdaaGreat
open Go.RowKit
def oJ3_0:Oper:=⟨some 15,.load 25 (.tmp 5),25,"l4_casts.go:62",#[],none⟩
def ja:Oper:=⟨some 16,.call {callee:=.value (.func 81),args:=#[.tmp 15],argTypes:=#[25]},25,"l4_casts.go:62",#[⟨0,.data⟩],none⟩
def oJ3_2:Oper:=⟨some 17,.load 25 (.tmp 6),25,"l4_casts.go:62",#[],none⟩
def ey:Oper:=⟨some 18,.call {callee:=.value (.func 81),args:=#[.tmp 17],argTypes:=#[25]},25,"l4_casts.go:62",#[⟨2,.data⟩,⟨1,.chain⟩],none⟩
def oJ3_4:Oper:=⟨some 19,.move (.tmp 3),3,"l4_casts.go:62",#[],none⟩
def oJ3_5:Oper:=⟨some 20,.load 28 (.tmp 4),28,"l4_casts.go:62",#[],none⟩
def eA:Oper:=⟨some 21,.buildSlice 26 1 #[(0,.tmp 20)],26,"l4_casts.go:62",#[⟨5,.data⟩],none⟩
def eB:Oper:=⟨some 22,.build 28 #[(0,.const (.int .i64 14)),(4,.tmp 16),(3,.tmp 18),(5,.tmp 19),(6,.tmp 21)],28,"l4_casts.go:62",#[⟨1,.data⟩,⟨3,.data⟩,⟨4,.data⟩,⟨6,.data⟩],none⟩
def oJ3_8:Oper:=⟨some 23,.move (.tmp 3),3,"l4_casts.go:62",#[⟨10,.gcOnly .lateStores⟩],none⟩
def oJ3_9:Oper:=⟨some 24,.binOp .add 3 (.tmp 23) (.const (.int .i64 1)) 3,3,"l4_casts.go:62",#[⟨8,.data⟩,⟨10,.gcOnly .lateStores⟩],none⟩
def eh:Oper:=⟨none,.store 28 (.tmp 8) (.tmp 22),0,"l4_casts.go:62",#[⟨7,.data⟩,⟨3,.chain⟩,⟨0,.phase⟩,⟨1,.phase⟩,⟨2,.phase⟩,⟨3,.phase⟩,⟨4,.phase⟩,⟨5,.phase⟩,⟨6,.phase⟩,⟨7,.phase⟩,⟨8,.textOnly .lateStores⟩,⟨9,.textOnly .lateStores⟩],none⟩
def ei:Oper:=⟨some 9,.assign (.tmp 24),3,"l4_casts.go:62",#[⟨9,.data⟩,⟨10,.chain⟩,⟨0,.phase⟩,⟨1,.phase⟩,⟨2,.phase⟩,⟨3,.phase⟩,⟨4,.phase⟩,⟨5,.phase⟩,⟨6,.phase⟩,⟨7,.phase⟩,⟨8,.phase⟩,⟨9,.phase⟩,⟨10,.phase⟩],none⟩
def RetCa (F:Nat→Prop)(m:Nat)(lb:Int)(w:World)(e:Ending)(w':World):Prop:=∃(t:Tm) (v:Value) (lb':Int),e = .returned (.tuple #[v,.int .i64 lb'])∧t.cnt≤m∧lb≤lb'∧lb'≤lb+1∧aA (fun b=>F b∨w.heap.size≤b) w' t v∧Below w.heap.size w w'
theorem lk (F G1 G2:Nat→Prop)(t1:Tm)(s u:Ty)(lb:Int)(w:World)(ev fv tv:Value)(he:aA F w t1 ev)(hf:ap G1 w s fv)(ht:ap G2 w u tv)(hs:s.cnt≤14)(hu:u.cnt≤14)(hl1 : -1000000≤lb)(hl2:lb≤1000000) :
    Calls Tryz.prog 59 #[ev,fv,tv,.int .i64 lb] w (RetCa F (t1.cnt+60) lb w):=by
  obtain⟨kt1,nm1,ut1,tk1,ta1,tn1,tq1,fk1,fa1,fn1,fq1,lt1,ct1,mt1,qt1,rfl⟩:=he.shape;obtain⟨fk,fa,fn,fq,rfl⟩:=hf.shape;obtain⟨uk,ua,un,uq,rfl⟩:=ht.shape;have HWK:=zq (IntWalk.i64_in (lb+1) (by omega));obtain⟨sm,hsm⟩ : ∃b,s.same u=b:=⟨_,rfl⟩
  have HS:=zq (hsm▸iY _ _ s u _ _ _ (hf.below (bal4 (o:=.cells #[.int .i64 kt1,.string nm1,.int .i64 ut1,.int .i64 tk1,.slice ta1 tn1 tq1,.int .i64 fk1,.slice fa1 fn1 fq1,.int .i64 lt1,.slice ct1 mt1 qt1] 28) (o':=.cells #[.int .i64 fk,.slice fa fn fq] 25) (o2:=.cells #[.int .i64 uk,.slice ua un uq] 25) (o3:=.cells #[.int .i64 0,.string {data:=#[]},.int .i64 0,.int .i64 0,.slice none 0 0,.int .i64 0,.slice none 0 0,.int .i64 0,.slice none 0 0] 28))) (ht.below bal4));have HE0:=zq (he.move (.weaken (G:=(fun x=>F x∧x<w.heap.size)) fun b h hl=>⟨h,hl⟩));have HF0:=zq (hf.move (.weaken (G:=(fun x=>G1 x∧x<w.heap.size)) fun b h hl=>⟨h,hl⟩));have HT0:=zq (ht.move (.weaken (G:=(fun x=>G2 x∧x<w.heap.size)) fun b h hl=>⟨h,hl⟩));have HCS:=zq hs;have HCU:=zq hu;have HL:=zq (And.intro hl1 hl2);clear he hf ht hs hu hl1 hl2 hsm
  go_enter Tryz.func59,Tryz.ntmps59
  go_wp2_with fail
  refine HS.out.mono ?_;rintro e w1 ⟨rfl,hb⟩;have z1:=hb.size;simp only[World.size_alloc] at z1;clear HS;have fE:w1.heap[w.heap.size]?=some (.cells #[.int .i64 kt1,.string nm1,.int .i64 ut1,.int .i64 tk1,.slice ta1 tn1 tq1,.int .i64 fk1,.slice fa1 fn1 fq1,.int .i64 lt1,.slice ct1 mt1 qt1] 28 (0,0)):=ag (ag (ag (ag (aF rfl) aj) aj) aj) hb;have fF:w1.heap[w.heap.size+1]?=some (.cells #[.int .i64 fk,.slice fa fn fq] 25 (0,0)):=ag (ag (ag (aF (by simp)) aj) aj) hb;have fT:w1.heap[w.heap.size+1+1]?=some (.cells #[.int .i64 uk,.slice ua un uq] 25 (0,0)):=ag (ag (aF (by simp)) aj) hb;have fR:w1.heap[w.heap.size+1+1+1]?=some (.cells #[.int .i64 0,.string {data:=#[]},.int .i64 0,.int .i64 0,.slice none 0 0,.int .i64 0,.slice none 0 0,.int .i64 0,.slice none 0 0] 28 (0,0)):=ag (aF (by simp)) hb;have fB:Hid (Below w.heap.size w w1):=zq (al bal4 hb);have hE:Hid (aA (fun x=>F x∧x<w.heap.size) w1 t1 (.agg #[.int .i64 kt1,.string nm1,.int .i64 ut1,.int .i64 tk1,.slice ta1 tn1 tq1,.int .i64 fk1,.slice fa1 fn1 fq1,.int .i64 lt1,.slice ct1 mt1 qt1])):=zq ((HE0.out.below bal4).below hb);have hF:Hid (ap (fun x=>G1 x∧x<w.heap.size) w1 s (.agg #[.int .i64 fk,.slice fa fn fq])):=zq ((HF0.out.below bal4).below hb);have hT:Hid (ap (fun x=>G2 x∧x<w.heap.size) w1 u (.agg #[.int .i64 uk,.slice ua un uq])):=zq ((HT0.out.below bal4).below hb);clear hb HE0 HF0 HT0
  cases sm with
  | true=>
    obtain⟨y0,y1,y2,y3,y4,y5,y6,y7,y8⟩:=blk9 fE;have yl:=aD fE;obtain⟨x0,xf0,x1,xf1,x2,xf2,x3,xf3,x4,xf4,x5,xf5,x6,xf6,x7,xf7,x8,xf8⟩:=blk9f fR;have xl:=aD fR
    go_wp2_with fail
    obtain⟨X9,hXq,hsq,fR_,zX9a,zX9b⟩:=bQ fR (.int .i64 kt1) (.string nm1) (.int .i64 ut1) (.int .i64 tk1) (.slice ta1 tn1 tq1) (.int .i64 fk1) (.slice fa1 fn1 fq1) (.int .i64 lt1) (.slice ct1 mt1 qt1);rw[hXq];replace fE:=hsq.blk (by omega) fE;replace fF:=hsq.blk (by omega) fF;replace fT:=hsq.blk (by omega) fT;replace fB:=zq (hsq.bel fB.out (by omega));replace hE:=zq (hE.out.move (hsq.keeps (fun b hb=>by have:=hb.2;omega)));replace hF:=zq (hF.out.move (hsq.keeps (fun b hb=>by have:=hb.2;omega)));replace hT:=zq (hT.out.move (hsq.keeps (fun b hb=>by have:=hb.2;omega)));clear fR hsq hXq;have fR:=fR_;clear fR_;obtain⟨rc0,rc1,rc2,rc3,rc4,rc5,rc6,rc7,rc8⟩:=blk9 fR;refine bodyPost_ret (v:=.tuple #[.agg #[.int .i64 kt1,.string nm1,.int .i64 ut1,.int .i64 tk1,.slice ta1 tn1 tq1,.int .i64 fk1,.slice fa1 fn1 fq1,.int .i64 lt1,.slice ct1 mt1 qt1],.int .i64 lb]) (by simp[results,Tryz.results59,go_sem,rc0,rc1,rc2,rc3,rc4,rc5,rc6,rc7,rc8]) rfl ?_
    exact⟨t1,_,lb,rfl,by omega,by omega,by omega,hE.out.move (.weaken fun b h _=>.inl h.1),fB.out⟩
  | false=>
    obtain⟨y0,y1⟩:=blk2 fF;have yl:=aD fF;clear y0 y1 yl
    go_wp2_with fail
    refine wp_region_noPanic ?_;refine wp_region_held_drew (S:=fun w'=>w'.cell? ⟨w.heap.size,0,none⟩=some (.int .i64 kt1)∧w'.cell? ⟨w.heap.size,1,none⟩=some (.string nm1)∧w'.cell? ⟨w.heap.size,2,none⟩=some (.int .i64 ut1)∧w'.cell? ⟨w.heap.size,3,none⟩=some (.int .i64 tk1)∧w'.cell? ⟨w.heap.size,4,none⟩=some (.slice ta1 tn1 tq1)∧w'.cell? ⟨w.heap.size,5,none⟩=some (.int .i64 fk1)∧w'.cell? ⟨w.heap.size,6,none⟩=some (.slice fa1 fn1 fq1)∧w'.cell? ⟨w.heap.size,7,none⟩=some (.int .i64 lt1)∧w'.cell? ⟨w.heap.size,8,none⟩=some (.slice ct1 mt1 qt1)∧w'.cell? ⟨w.heap.size+1,0,none⟩=some (.int .i64 fk)∧w'.cell? ⟨w.heap.size+1,1,none⟩=some (.slice fa fn fq)∧w'.cell? ⟨w.heap.size+1+1,0,none⟩=some (.int .i64 uk)∧w'.cell? ⟨w.heap.size+1+1,1,none⟩=some (.slice ua un uq)) (by kernel_rfl) ?_ (fun hH0=>?_)
    · exact blk9r fE ⟨ah fF rfl,ah fF rfl,ah fT rfl,ah fT rfl⟩
    obtain⟨U1,hU,hb,zU1a,zU1b⟩:=bK w1;rw[hU] at hH0 ⊢;replace fE:=ag fE hb;replace fF:=ag fF hb;replace fT:=ag fT hb;replace fR:=ag fR hb;replace fB:=zq (al fB.out hb);replace hE:=zq (hE.out.below hb);replace hF:=zq (hF.out.below hb);replace hT:=zq (hT.out.below hb);(try simp only[World.size_alloc] at zU1a zU1b);clear hU hb;refine hwt 0 oJ3_0 (.agg #[.int .i64 fk,.slice fa fn fq]) hH0 ?_ ?_
    · intro w' hSw;dsimp only[oJ3_0];go_simp
    try simp only[oJ3_0,hwA]
    refine hwt 2 oJ3_2 (.agg #[.int .i64 uk,.slice ua un uq]) hH0 ?_ ?_
    · intro w' hSw;dsimp only[oJ3_2];go_simp
    try simp only[oJ3_2,hwA]
    refine hwt 4 oJ3_4 (.int .i64 lb) hH0 ?_ ?_
    · intro w' hSw;dsimp only[oJ3_4];go_simp
    try simp only[oJ3_4,hwA]
    refine hwt 5 oJ3_5 (.agg #[.int .i64 kt1,.string nm1,.int .i64 ut1,.int .i64 tk1,.slice ta1 tn1 tq1,.int .i64 fk1,.slice fa1 fn1 fq1,.int .i64 lt1,.slice ct1 mt1 qt1]) hH0 ?_ ?_
    · intro w' hSw;dsimp only[oJ3_5];go_simp
    try simp only[oJ3_5,hwA]
    refine hwt 8 oJ3_8 (.int .i64 lb) hH0 ?_ ?_
    · intro w' hSw;dsimp only[oJ3_8];go_simp
    try simp only[oJ3_8,hwA]
    refine hwt 9 oJ3_9 (.int .i64 (lb+1)) hH0 ?_ ?_
    · intro w' hSw;dsimp only[oJ3_9];go_simp;exact HWK.out
    try simp only[oJ3_9,hwA]
    refine wpAnyH_ready (rs:= [1,6]) (by kernel_rfl) (by simp) ?_;refine(AllReadyH.cons (o:=ja) rfl (fun K hK=>?_) (AllReadyH.cons (o:=eA) rfl (fun K hK=>?_) AllReadyH.nil))
    ·skip
     dsimp only[ja];go_simp
     go_at_call 81
     refine(bi _ s _ _ hF.out (by have:=HCS.out;omega)).mono ?_;rintro e X1 ⟨v,rfl,hv,hb⟩;obtain⟨kc,ac,nc,qc,rfl⟩:=hv.shape;have hN':=hv.rep.rg;clear hv
     go_wp2_with fail
     have zX1:U1.heap.size≤X1.heap.size:=hb.size;replace fE:=ag fE hb;replace fF:=ag fF hb;replace fT:=ag fT hb;replace fR:=ag fR hb;replace fB:=zq (al fB.out hb);replace hE:=zq (hE.out.below hb);replace hF:=zq (hF.out.below hb);replace hT:=zq (hT.out.below hb);have hN:=hN';clear hN';refine hK.out _ _ (blk9r fE ⟨ah fF rfl,ah fF rfl,ah fT rfl,ah fT rfl⟩) (fun hH1=>?_);clear hK K hH0 hb
     try simp only[ja,hwA]
     refine wpAnyH_ready (rs:= [3,6]) (by kernel_rfl) (by simp) ?_;refine(AllReadyH.cons (o:=ey) rfl (fun K hK=>?_) (AllReadyH.cons (o:=eA) rfl (fun K hK=>?_) AllReadyH.nil))
     ·skip
      dsimp only[ey];go_simp
      go_at_call 81
      refine(bi _ u _ _ hT.out (by have:=HCU.out;omega)).mono ?_;rintro e X2 ⟨v,rfl,hv,hb⟩;obtain⟨kd,ad,nd,qd,rfl⟩:=hv.shape;have hM':=hv.rep.rg;clear hv
      go_wp2_with fail
      have zX2:X1.heap.size≤X2.heap.size:=hb.size;replace fE:=ag fE hb;replace fF:=ag fF hb;replace fT:=ag fT hb;replace fR:=ag fR hb;replace fB:=zq (al fB.out hb);replace hE:=zq (hE.out.below hb);replace hF:=zq (hF.out.below hb);replace hT:=zq (hT.out.below hb);replace hN:=zq (hN.out.below hb);have hM:=hM';clear hM';refine hK.out _ _ (blk9r fE ⟨ah fF rfl,ah fF rfl,ah fT rfl,ah fT rfl⟩) (fun hH2=>?_);clear hK K hH1 hb
      try simp only[ey,hwA]
      refine hwr 6 eA (fun K hK=>?_)
      dsimp only[eA];go_simp
      (try go_wp2_with fail);obtain⟨X3,hXq,hb,fL,zX3a,zX3b⟩:=aZ X2 (.cells #[.int .i64 kt1,.string nm1,.int .i64 ut1,.int .i64 tk1,.slice ta1 tn1 tq1,.int .i64 fk1,.slice fa1 fn1 fq1,.int .i64 lt1,.slice ct1 mt1 qt1] 28);rw[hXq];replace fE:=ag fE hb;replace fF:=ag fF hb;replace fT:=ag fT hb;replace fR:=ag fR hb;replace fB:=zq (al fB.out hb);replace hE:=zq (hE.out.below hb);replace hF:=zq (hF.out.below hb);replace hT:=zq (hT.out.below hb);replace hN:=zq (hN.out.below hb);replace hM:=zq (hM.out.below hb);refine hK.out _ _ (blk9r fE ⟨ah fF rfl,ah fF rfl,ah fT rfl,ah fT rfl⟩) (fun hH3=>?_);clear hK K hH2 hb hXq
      try simp only[eA,hwA]
      refine hwt 7 eB (.agg #[.int .i64 14,.string {data:=#[]},.int .i64 0,.int .i64 kd,.slice ad nd qd,.int .i64 kc,.slice ac nc qc,.int .i64 lb,.slice (some ⟨X2.heap.size,0,none⟩) 1 1]) hH3 ?_ ?_
      · intro w' hSw;dsimp only[eB];go_simp
      try simp only[eB,hwA]
      refine hwr 10 eh (fun K hK=>?_);obtain⟨r0,rf0,r1,rf1,r2,rf2,r3,rf3,r4,rf4,r5,rf5,r6,rf6,r7,rf7,r8,rf8⟩:=blk9f fR
      dsimp only[eh];go_simp
      (try go_wp2_with fail);have hQq:=bQ fR (.int .i64 14) (.string {data:=#[]}) (.int .i64 0) (.int .i64 kd) (.slice ad nd qd) (.int .i64 kc) (.slice ac nc qc) (.int .i64 lb) (.slice (some ⟨X2.heap.size,0,none⟩) 1 1);clear fR r0 rf0 r1 rf1 r2 rf2 r3 rf3 r4 rf4 r5 rf5 r6 rf6 r7 rf7 r8 rf8;obtain⟨X4,hXq,hsq,fR,zX4a,zX4b⟩:=hQq;rw[hXq];replace fE:=hsq.blk (by omega) fE;replace fF:=hsq.blk (by omega) fF;replace fT:=hsq.blk (by omega) fT;replace fB:=zq (hsq.bel fB.out (by omega));replace hE:=zq (hE.out.move (hsq.keeps (fun b hb=>by have:=hb.2;omega)));replace hF:=zq (hF.out.move (hsq.keeps (fun b hb=>by have:=hb.2;omega)));replace hT:=zq (hT.out.move (hsq.keeps (fun b hb=>by have:=hb.2;omega)));replace hN:=zq (hsq.rep (fun b hb=>by have h1:=hb.1;have h2:=hb.2;omega) hN.out);replace hM:=zq (hsq.rep (fun b hb=>by have h1:=hb.1;have h2:=hb.2;omega) hM.out);replace fL:=hsq.blk (by omega) fL;refine hK.out _ _ (blk9r fE ⟨ah fF rfl,ah fF rfl,ah fT rfl,ah fT rfl⟩) (fun hH4=>?_);clear hK K hH3 hsq hXq
      try simp only[eh,hwA]
      refine hwt 11 ei (.int .i64 (lb+1)) hH4 ?_ ?_
      · intro w' hSw;dsimp only[ei];go_simp
      try simp only[ei,hwA]
      refine wpAnyH_done (by kernel_rfl) ?_ _;refine NoPanic.normal ?_;clear hH4;obtain⟨rc0,rc1,rc2,rc3,rc4,rc5,rc6,rc7,rc8⟩:=blk9 fR
      go_wp2_with fail
      refine bodyPost_ret (v:=.tuple #[.agg #[.int .i64 14,.string {data:=#[]},.int .i64 0,.int .i64 kd,.slice ad nd qd,.int .i64 kc,.slice ac nc qc,.int .i64 lb,.slice (some ⟨X2.heap.size,0,none⟩) 1 1],.int .i64 (lb+1)]) (by simp[results,Tryz.results59,go_sem,rc0,rc1,rc2,rc3,rc4,rc5,rc6,rc7,rc8]) rfl ?_;have hks:aS (fun b=>F b∨w.heap.size≤b) X4 [t1] (.slice (some ⟨X2.heap.size,0,none⟩) 1 1):=aS.blk (by right;show w.heap.size≤_;omega) fL rfl (by unfold maxLen;omega) (aW.c1 (hE.out.move (.weaken fun b h _=>.inl h.1)).srep);refine⟨.mk 14 {data:=#[]} 0 u s lb [t1],_,lb+1,rfl,?_,by omega,by omega,aA.mk bp (hM.out.move (.weaken fun b h _=>.inr (by have h1:=h.1;omega))) (hN.out.move (.weaken fun b h _=>.inr (by have h1:=h.1;omega))) hks,fB.out⟩;have h1:=HCS.out;have h2:=HCU.out;simp only[Tm.cnt,Tm.cnts,List.length_cons,List.length_nil,show({data:=#[]}:ByteArray).size=0 from rfl]
      omega
     ·skip
      dsimp only[eA];go_simp
      (try go_wp2_with fail);obtain⟨X5,hXq,hb,fL,zX5a,zX5b⟩:=aZ X1 (.cells #[.int .i64 kt1,.string nm1,.int .i64 ut1,.int .i64 tk1,.slice ta1 tn1 tq1,.int .i64 fk1,.slice fa1 fn1 fq1,.int .i64 lt1,.slice ct1 mt1 qt1] 28);rw[hXq];replace fE:=ag fE hb;replace fF:=ag fF hb;replace fT:=ag fT hb;replace fR:=ag fR hb;replace fB:=zq (al fB.out hb);replace hE:=zq (hE.out.below hb);replace hF:=zq (hF.out.below hb);replace hT:=zq (hT.out.below hb);replace hN:=zq (hN.out.below hb);refine hK.out _ _ (blk9r fE ⟨ah fF rfl,ah fF rfl,ah fT rfl,ah fT rfl⟩) (fun hH2=>?_);clear hK K hH1 hb hXq
      try simp only[eA,hwA]
      refine hwr 3 ey (fun K hK=>?_)
      dsimp only[ey];go_simp
      go_at_call 81
      refine(bi _ u _ _ hT.out (by have:=HCU.out;omega)).mono ?_;rintro e X6 ⟨v,rfl,hv,hb⟩;obtain⟨kd,ad,nd,qd,rfl⟩:=hv.shape;have hM':=hv.rep.rg;clear hv
      go_wp2_with fail
      have zX6:X5.heap.size≤X6.heap.size:=hb.size;replace fE:=ag fE hb;replace fF:=ag fF hb;replace fT:=ag fT hb;replace fR:=ag fR hb;replace fB:=zq (al fB.out hb);replace hE:=zq (hE.out.below hb);replace hF:=zq (hF.out.below hb);replace hT:=zq (hT.out.below hb);replace hN:=zq (hN.out.below hb);replace fL:=ag fL hb;have hM:=hM';clear hM';refine hK.out _ _ (blk9r fE ⟨ah fF rfl,ah fF rfl,ah fT rfl,ah fT rfl⟩) (fun hH5=>?_);clear hK K hH2 hb
      try simp only[ey,hwA]
      refine hwt 7 eB (.agg #[.int .i64 14,.string {data:=#[]},.int .i64 0,.int .i64 kd,.slice ad nd qd,.int .i64 kc,.slice ac nc qc,.int .i64 lb,.slice (some ⟨X1.heap.size,0,none⟩) 1 1]) hH5 ?_ ?_
      · intro w' hSw;dsimp only[eB];go_simp
      try simp only[eB,hwA]
      refine hwr 10 eh (fun K hK=>?_);obtain⟨r0,rf0,r1,rf1,r2,rf2,r3,rf3,r4,rf4,r5,rf5,r6,rf6,r7,rf7,r8,rf8⟩:=blk9f fR
      dsimp only[eh];go_simp
      (try go_wp2_with fail);have hQq:=bQ fR (.int .i64 14) (.string {data:=#[]}) (.int .i64 0) (.int .i64 kd) (.slice ad nd qd) (.int .i64 kc) (.slice ac nc qc) (.int .i64 lb) (.slice (some ⟨X1.heap.size,0,none⟩) 1 1);clear fR r0 rf0 r1 rf1 r2 rf2 r3 rf3 r4 rf4 r5 rf5 r6 rf6 r7 rf7 r8 rf8;obtain⟨X7,hXq,hsq,fR,zX7a,zX7b⟩:=hQq;rw[hXq];replace fE:=hsq.blk (by omega) fE;replace fF:=hsq.blk (by omega) fF;replace fT:=hsq.blk (by omega) fT;replace fB:=zq (hsq.bel fB.out (by omega));replace hE:=zq (hE.out.move (hsq.keeps (fun b hb=>by have:=hb.2;omega)));replace hF:=zq (hF.out.move (hsq.keeps (fun b hb=>by have:=hb.2;omega)));replace hT:=zq (hT.out.move (hsq.keeps (fun b hb=>by have:=hb.2;omega)));replace hN:=zq (hsq.rep (fun b hb=>by have h1:=hb.1;have h2:=hb.2;omega) hN.out);replace fL:=hsq.blk (by omega) fL;replace hM:=zq (hsq.rep (fun b hb=>by have h1:=hb.1;have h2:=hb.2;omega) hM.out);refine hK.out _ _ (blk9r fE ⟨ah fF rfl,ah fF rfl,ah fT rfl,ah fT rfl⟩) (fun hH6=>?_);clear hK K hH5 hsq hXq
      try simp only[eh,hwA]
      refine hwt 11 ei (.int .i64 (lb+1)) hH6 ?_ ?_
      · intro w' hSw;dsimp only[ei];go_simp
      try simp only[ei,hwA]
      refine wpAnyH_done (by kernel_rfl) ?_ _;refine NoPanic.normal ?_;clear hH6;obtain⟨rc0,rc1,rc2,rc3,rc4,rc5,rc6,rc7,rc8⟩:=blk9 fR
      go_wp2_with fail
      refine bodyPost_ret (v:=.tuple #[.agg #[.int .i64 14,.string {data:=#[]},.int .i64 0,.int .i64 kd,.slice ad nd qd,.int .i64 kc,.slice ac nc qc,.int .i64 lb,.slice (some ⟨X1.heap.size,0,none⟩) 1 1],.int .i64 (lb+1)]) (by simp[results,Tryz.results59,go_sem,rc0,rc1,rc2,rc3,rc4,rc5,rc6,rc7,rc8]) rfl ?_;have hks:aS (fun b=>F b∨w.heap.size≤b) X7 [t1] (.slice (some ⟨X1.heap.size,0,none⟩) 1 1):=aS.blk (by right;show w.heap.size≤_;omega) fL rfl (by unfold maxLen;omega) (aW.c1 (hE.out.move (.weaken fun b h _=>.inl h.1)).srep);refine⟨.mk 14 {data:=#[]} 0 u s lb [t1],_,lb+1,rfl,?_,by omega,by omega,aA.mk bp (hM.out.move (.weaken fun b h _=>.inr (by have h1:=h.1;omega))) (hN.out.move (.weaken fun b h _=>.inr (by have h1:=h.1;omega))) hks,fB.out⟩;have h1:=HCS.out;have h2:=HCU.out;simp only[Tm.cnt,Tm.cnts,List.length_cons,List.length_nil,show({data:=#[]}:ByteArray).size=0 from rfl]
      omega
    ·skip
     dsimp only[eA];go_simp
     (try go_wp2_with fail);obtain⟨X8,hXq,hb,fL,zX8a,zX8b⟩:=aZ U1 (.cells #[.int .i64 kt1,.string nm1,.int .i64 ut1,.int .i64 tk1,.slice ta1 tn1 tq1,.int .i64 fk1,.slice fa1 fn1 fq1,.int .i64 lt1,.slice ct1 mt1 qt1] 28);rw[hXq];replace fE:=ag fE hb;replace fF:=ag fF hb;replace fT:=ag fT hb;replace fR:=ag fR hb;replace fB:=zq (al fB.out hb);replace hE:=zq (hE.out.below hb);replace hF:=zq (hF.out.below hb);replace hT:=zq (hT.out.below hb);refine hK.out _ _ (blk9r fE ⟨ah fF rfl,ah fF rfl,ah fT rfl,ah fT rfl⟩) (fun hH1=>?_);clear hK K hH0 hb hXq
     try simp only[eA,hwA]
     refine hwr 1 ja (fun K hK=>?_)
     dsimp only[ja];go_simp
     go_at_call 81
     refine(bi _ s _ _ hF.out (by have:=HCS.out;omega)).mono ?_;rintro e X9 ⟨v,rfl,hv,hb⟩;obtain⟨kc,ac,nc,qc,rfl⟩:=hv.shape;have hN':=hv.rep.rg;clear hv
     go_wp2_with fail
     have zX9:X8.heap.size≤X9.heap.size:=hb.size;replace fE:=ag fE hb;replace fF:=ag fF hb;replace fT:=ag fT hb;replace fR:=ag fR hb;replace fB:=zq (al fB.out hb);replace hE:=zq (hE.out.below hb);replace hF:=zq (hF.out.below hb);replace hT:=zq (hT.out.below hb);replace fL:=ag fL hb;have hN:=hN';clear hN';refine hK.out _ _ (blk9r fE ⟨ah fF rfl,ah fF rfl,ah fT rfl,ah fT rfl⟩) (fun hH7=>?_);clear hK K hH1 hb
     try simp only[ja,hwA]
     refine hwr 3 ey (fun K hK=>?_)
     dsimp only[ey];go_simp
     go_at_call 81
     refine(bi _ u _ _ hT.out (by have:=HCU.out;omega)).mono ?_;rintro e X10 ⟨v,rfl,hv,hb⟩;obtain⟨kd,ad,nd,qd,rfl⟩:=hv.shape;have hM':=hv.rep.rg;clear hv
     go_wp2_with fail
     have zX10:X9.heap.size≤X10.heap.size:=hb.size;replace fE:=ag fE hb;replace fF:=ag fF hb;replace fT:=ag fT hb;replace fR:=ag fR hb;replace fB:=zq (al fB.out hb);replace hE:=zq (hE.out.below hb);replace hF:=zq (hF.out.below hb);replace hT:=zq (hT.out.below hb);replace fL:=ag fL hb;replace hN:=zq (hN.out.below hb);have hM:=hM';clear hM';refine hK.out _ _ (blk9r fE ⟨ah fF rfl,ah fF rfl,ah fT rfl,ah fT rfl⟩) (fun hH8=>?_);clear hK K hH7 hb
     try simp only[ey,hwA]
     refine hwt 7 eB (.agg #[.int .i64 14,.string {data:=#[]},.int .i64 0,.int .i64 kd,.slice ad nd qd,.int .i64 kc,.slice ac nc qc,.int .i64 lb,.slice (some ⟨U1.heap.size,0,none⟩) 1 1]) hH8 ?_ ?_
     · intro w' hSw;dsimp only[eB];go_simp
     try simp only[eB,hwA]
     refine hwr 10 eh (fun K hK=>?_);obtain⟨r0,rf0,r1,rf1,r2,rf2,r3,rf3,r4,rf4,r5,rf5,r6,rf6,r7,rf7,r8,rf8⟩:=blk9f fR
     dsimp only[eh];go_simp
     (try go_wp2_with fail);have hQq:=bQ fR (.int .i64 14) (.string {data:=#[]}) (.int .i64 0) (.int .i64 kd) (.slice ad nd qd) (.int .i64 kc) (.slice ac nc qc) (.int .i64 lb) (.slice (some ⟨U1.heap.size,0,none⟩) 1 1);clear fR r0 rf0 r1 rf1 r2 rf2 r3 rf3 r4 rf4 r5 rf5 r6 rf6 r7 rf7 r8 rf8;obtain⟨X11,hXq,hsq,fR,zX11a,zX11b⟩:=hQq;rw[hXq];replace fE:=hsq.blk (by omega) fE;replace fF:=hsq.blk (by omega) fF;replace fT:=hsq.blk (by omega) fT;replace fB:=zq (hsq.bel fB.out (by omega));replace hE:=zq (hE.out.move (hsq.keeps (fun b hb=>by have:=hb.2;omega)));replace hF:=zq (hF.out.move (hsq.keeps (fun b hb=>by have:=hb.2;omega)));replace hT:=zq (hT.out.move (hsq.keeps (fun b hb=>by have:=hb.2;omega)));replace fL:=hsq.blk (by omega) fL;replace hN:=zq (hsq.rep (fun b hb=>by have h1:=hb.1;have h2:=hb.2;omega) hN.out);replace hM:=zq (hsq.rep (fun b hb=>by have h1:=hb.1;have h2:=hb.2;omega) hM.out);refine hK.out _ _ (blk9r fE ⟨ah fF rfl,ah fF rfl,ah fT rfl,ah fT rfl⟩) (fun hH9=>?_);clear hK K hH8 hsq hXq
     try simp only[eh,hwA]
     refine hwt 11 ei (.int .i64 (lb+1)) hH9 ?_ ?_
     · intro w' hSw;dsimp only[ei];go_simp
     try simp only[ei,hwA]
     refine wpAnyH_done (by kernel_rfl) ?_ _;refine NoPanic.normal ?_;clear hH9;obtain⟨rc0,rc1,rc2,rc3,rc4,rc5,rc6,rc7,rc8⟩:=blk9 fR
     go_wp2_with fail
     refine bodyPost_ret (v:=.tuple #[.agg #[.int .i64 14,.string {data:=#[]},.int .i64 0,.int .i64 kd,.slice ad nd qd,.int .i64 kc,.slice ac nc qc,.int .i64 lb,.slice (some ⟨U1.heap.size,0,none⟩) 1 1],.int .i64 (lb+1)]) (by simp[results,Tryz.results59,go_sem,rc0,rc1,rc2,rc3,rc4,rc5,rc6,rc7,rc8]) rfl ?_;have hks:aS (fun b=>F b∨w.heap.size≤b) X11 [t1] (.slice (some ⟨U1.heap.size,0,none⟩) 1 1):=aS.blk (by right;show w.heap.size≤_;omega) fL rfl (by unfold maxLen;omega) (aW.c1 (hE.out.move (.weaken fun b h _=>.inl h.1)).srep);refine⟨.mk 14 {data:=#[]} 0 u s lb [t1],_,lb+1,rfl,?_,by omega,by omega,aA.mk bp (hM.out.move (.weaken fun b h _=>.inr (by have h1:=h.1;omega))) (hN.out.move (.weaken fun b h _=>.inr (by have h1:=h.1;omega))) hks,fB.out⟩;have h1:=HCS.out;have h2:=HCU.out;simp only[Tm.cnt,Tm.cnts,List.length_cons,List.length_nil,show({data:=#[]}:ByteArray).size=0 from rfl]
     omega
def qj:Oper:=⟨some 165,.move (.tmp 0),46,"l3_typing.go:218",#[],none⟩
def qk:Oper:=⟨some 166,.move (.tmp 1),96,"l3_typing.go:218",#[],none⟩
def ql:Oper:=⟨some 167,.fieldAddr 25 (.tmp 6) 1,0,"l3_typing.go:218",#[],none⟩
def qn:Oper:=⟨some 168,.load 23 (.tmp 167),23,"l3_typing.go:218",#[⟨2,.data⟩],none⟩
def qo:Oper:=⟨some 169,.indexAddr 23 (.tmp 168) (.const (.int .i64 0)),0,"l3_typing.go:218",#[⟨3,.data⟩],none⟩
def qp:Oper:=⟨some 170,.load 25 (.tmp 169),25,"l3_typing.go:218",#[⟨4,.data⟩],none⟩
def qw:Oper:=⟨some 171,.move (.tmp 3),3,"l3_typing.go:218",#[],none⟩
def qx:Oper:=⟨some 172,.binOp .sub 3 (.tmp 171) (.const (.int .i64 1)) 3,3,"l3_typing.go:218",#[⟨6,.data⟩],none⟩
def qy:Oper:=⟨some 173,.call {callee:=.value (.func 51),args:=#[.tmp 165,.tmp 166,.tmp 170,.tmp 172],argTypes:=#[46,96,25,3]},28,"l3_typing.go:218",#[⟨0,.data⟩,⟨1,.data⟩,⟨5,.data⟩,⟨7,.data⟩],none⟩
def qz:Oper:=⟨some 174,.move (.tmp 0),46,"l3_typing.go:218",#[],none⟩
def mx:Oper:=⟨some 175,.move (.tmp 1),96,"l3_typing.go:218",#[],none⟩
def my:Oper:=⟨some 176,.fieldAddr 25 (.tmp 6) 1,0,"l3_typing.go:218",#[],none⟩
def mz:Oper:=⟨some 177,.load 23 (.tmp 176),23,"l3_typing.go:218",#[⟨11,.data⟩],none⟩
def mA:Oper:=⟨some 178,.indexAddr 23 (.tmp 177) (.const (.int .i64 1)),0,"l3_typing.go:218",#[⟨12,.data⟩],none⟩
def mB:Oper:=⟨some 179,.load 25 (.tmp 178),25,"l3_typing.go:218",#[⟨13,.data⟩],none⟩
def mC:Oper:=⟨some 180,.move (.tmp 3),3,"l3_typing.go:218",#[],none⟩
def mE:Oper:=⟨some 181,.binOp .sub 3 (.tmp 180) (.const (.int .i64 1)) 3,3,"l3_typing.go:218",#[⟨15,.data⟩],none⟩
def mF:Oper:=⟨some 182,.call {callee:=.value (.func 51),args:=#[.tmp 174,.tmp 175,.tmp 179,.tmp 181],argTypes:=#[46,96,25,3]},28,"l3_typing.go:218",#[⟨9,.data⟩,⟨10,.data⟩,⟨14,.data⟩,⟨16,.data⟩,⟨8,.chain⟩],none⟩
def mG:Oper:=⟨some 183,.buildSlice 26 2 #[(0,.tmp 173),(1,.tmp 182)],26,"l3_typing.go:218",#[⟨8,.data⟩,⟨17,.data⟩],none⟩
def mH:Oper:=⟨some 184,.call {callee:=.value (.func 84),args:=#[.const (.int .i64 10),.tmp 183],argTypes:=#[3,26]},28,"l3_typing.go:218",#[⟨18,.data⟩,⟨17,.chain⟩],none⟩
def mI:Oper:=⟨none,.store 28 (.tmp 8) (.tmp 184),0,"l3_typing.go:218",#[⟨19,.data⟩,⟨19,.chain⟩,⟨0,.phase⟩,⟨1,.phase⟩,⟨2,.phase⟩,⟨3,.phase⟩,⟨4,.phase⟩,⟨5,.phase⟩,⟨6,.phase⟩,⟨7,.phase⟩,⟨8,.phase⟩,⟨9,.phase⟩,⟨10,.phase⟩,⟨11,.phase⟩,⟨12,.phase⟩,⟨13,.phase⟩,⟨14,.phase⟩,⟨15,.phase⟩,⟨16,.phase⟩,⟨17,.phase⟩,⟨18,.phase⟩,⟨19,.phase⟩],none⟩
theorem mkWpr (dd:Int)(r p:Nat)(l:List Bd)(w:World)(kt:Int)(ta:Option Addr)(tn tq:Nat)(xa:Option Addr)(xn xq:Nat)(a b:S):(dS dd (S.pr a b) r p l w kt ta tn tq xa xn xq).1.2.2.2.2:=by
 intro _ _ _ _ _ _ _ _ HWK _ _ _ HNL HCV HOK HSV HIH _ HKT _ MB _ _ HMB _ _ _ _ _ _ _ _ _ _ _ _ _ _ _ _ _ _ _ _ _ _ _ _ _ _ _ _ _ _ _ _ _ _ _ _ _ _ _ _ _ _ wc _ _ _ _ _ _ _ _ _ _ _ _ _ _ _ _ _ _ _ _ _ _ _ _ _ _ _ _ _ _ _ _ _ _ _ _ _ _ _ _ _ _ _ _ _ _ _ _ _ _ _ _ _ _ _ _ _ _ _ _ _ _ _ _ _ _ _ _ _ _ _ _ _ _ _ _ _ _ _ _ _ _ _ _ _ _ _ _ _ _ _ _ _ _ _ _ _ _ _ _ _ _ _ _ _ _ _ _ _ _ _ _ _ _ _ _ _ _ _ _ _ _ _ _ _ _ _ _ _ _ _ _ _ _ _ _ _ _ _ _ _ _ _ _ _ _ _ _ _ _ _ _ _ _ _ _ _ _ _ _ _ _ _ _ _ _ _ _ _ _ _ _ _ _ _ _ _ _ _ _ _ _ _ _ _ _ _ _ _ _ _ _ _ _ _ _ _ _ _ _ _ _ _ _ _ _ _ _ _ _ _ _ _ _ _ _ _ _ _ _ _ fC rd fT fR hX hT;obtain rfl:kt=5:=HKT.out;have hT0:=hT.out;obtain⟨-,hks0⟩:=ap.pairK hT0;obtain⟨b2,off2,cap2,k5,c5,m5,q5,k6,c6,m6,q6,hsl,-,-,hlb2,e5a,e5b,e6a,e6b,ht5,ht6⟩:=hks0.two;simp only[Value.slice.injEq] at hsl;obtain⟨rfl,rfl,rfl⟩:=hsl;have hbF:=hks0.blkT (by simp);have hbr:b2≠r:=hbF.1;have hbw:b2<w.heap.size:=hbF.2;have HVA:=zq (show a.vd=true∧b.vd=true from gu HSV.out);have HB0:=zq (mkB_pr (d:=dd) HSV.out);have h5_:=zq ht5;have h6_:=zq ht6;clear hT0 hks0 hbF ht5 ht6;have c5a_:=e5a;have c5b_:=e5b;have c6a_:=e6a;have c6b_:=e6b;clear e5a e5b e6a e6b;obtain⟨y0,y1⟩:=blk2 fT;have lyT:=aD fT
 go_wp2_with fail
 clear y0 y1 lyT;refine wp_region_noPanic ?_;refine wp_region_held_drew (S:=fun w'=>w'.cell? ⟨w.heap.size,1,none⟩=some (.slice (some ⟨b2,off2,none⟩) 2 tq)∧w'.cell? ⟨b2,off2,none⟩=some (.int .i64 k5)∧w'.cell? ⟨b2,off2+1,none⟩=some (.slice c5 m5 q5)∧w'.cell? ⟨b2,off2+2,none⟩=some (.int .i64 k6)∧w'.cell? ⟨b2,off2+3,none⟩=some (.slice c6 m6 q6)) (by kernel_rfl) ?_ (fun hH0=>?_)
 ·exact⟨ah fT rfl,c5a_,c5b_,c6a_,c6b_⟩
 obtain⟨U5,hU,hb,zU5a,zU5b⟩:=bK wc;rw[hU] at hH0 ⊢;replace fT:=ag fT hb;replace fR:=ag fR hb;replace fC:=zqb fC hb;replace rd:=zq (rd.out.below hb);replace hX:=zq (hX.out.below hb);replace hT:=zq (hT.out.below hb);replace c5a_:=af hb c5a_;replace c5b_:=af hb c5b_;replace h5_:=zq (h5_.out.below hb);replace c6a_:=af hb c6a_;replace c6b_:=af hb c6b_;replace h6_:=zq (h6_.out.below hb);(try simp only[World.size_alloc] at zU5a zU5b);clear hU hb;refine hwt 0 qj (.pointer (some ⟨r,0,none⟩)) hH0 ?_ ?_
 ·intro w' hSw;dsimp only[qj];go_simp
 try simp only[qj,hwA]
 refine hwt 1 qk (.slice xa xn xq) hH0 ?_ ?_
 ·intro w' hSw;dsimp only[qk];go_simp
 try simp only[qk,hwA]
 refine hwt 2 ql (.pointer (some ⟨w.heap.size,1,none⟩)) hH0 ?_ ?_
 ·intro w' hSw;dsimp only[ql];go_simp
 try simp only[ql,hwA]
 refine hwt 3 qn (.slice (some ⟨b2,off2,none⟩) 2 tq) hH0 ?_ ?_
 ·intro w' hSw;dsimp only[qn];go_simp
 try simp only[qn,hwA]
 refine hwt 4 qo (.pointer (some ⟨b2,off2,none⟩)) hH0 ?_ ?_
 ·intro w' hSw;dsimp only[qo];go_simp
 try simp only[qo,hwA]
 refine hwt 5 qp (.agg #[.int .i64 k5,.slice c5 m5 q5]) hH0 ?_ ?_
 ·intro w' hSw;dsimp only[qp];go_simp
 try simp only[qp,hwA]
 refine hwt 6 qw (.int .i64 dd) hH0 ?_ ?_
 ·intro w' hSw;dsimp only[qw];go_simp
 try simp only[qw,hwA]
 refine hwt 7 qx (.int .i64 (dd-1)) hH0 ?_ ?_
 ·intro w' hSw;dsimp only[qx];go_simp;exact HWK.out
 try simp only[qx,hwA]
 refine hwt 9 qz (.pointer (some ⟨r,0,none⟩)) hH0 ?_ ?_
 ·intro w' hSw;dsimp only[qz];go_simp
 try simp only[qz,hwA]
 refine hwt 10 mx (.slice xa xn xq) hH0 ?_ ?_
 ·intro w' hSw;dsimp only[mx];go_simp
 try simp only[mx,hwA]
 refine hwt 11 my (.pointer (some ⟨w.heap.size,1,none⟩)) hH0 ?_ ?_
 ·intro w' hSw;dsimp only[my];go_simp
 try simp only[my,hwA]
 refine hwt 12 mz (.slice (some ⟨b2,off2,none⟩) 2 tq) hH0 ?_ ?_
 ·intro w' hSw;dsimp only[mz];go_simp
 try simp only[mz,hwA]
 refine hwt 13 mA (.pointer (some ⟨b2,off2+2,none⟩)) hH0 ?_ ?_
 ·intro w' hSw;dsimp only[mA];go_simp
 try simp only[mA,hwA]
 refine hwt 14 mB (.agg #[.int .i64 k6,.slice c6 m6 q6]) hH0 ?_ ?_
 ·intro w' hSw;dsimp only[mB];go_simp
 try simp only[mB,hwA]
 refine hwt 15 mC (.int .i64 dd) hH0 ?_ ?_
 ·intro w' hSw;dsimp only[mC];go_simp
 try simp only[mC,hwA]
 refine hwt 16 mE (.int .i64 (dd-1)) hH0 ?_ ?_
 ·intro w' hSw;dsimp only[mE];go_simp;exact HWK.out
 try simp only[mE,hwA]
 refine hwr 8 qy (fun K hK=>?_)
 dsimp only[qy];go_simp
 go_at_call 51
 refine(HIH.out (a) l (lA (by simp[S.dep];omega)) HVA.out.1 HOK.out (by omega) HNL.out _ _ _ _ rd.out (hX.out.move (.weaken fun b h _=>h.1)) HCV.out (h5_.out.move (.weaken fun b h _=>h.1)) (by have h1:=HB0.out;have h2:=HMB.out;omega)).mono ?_;rintro e X1801 ⟨t2,v,q2,rfl,hcn2,hv,hq2,hrd,hb⟩;obtain⟨kt2,nm2,ut2,tk2,ta2,tn2,tq2,fk2,fa2,fn2,fq2,lt2,ct2,mt2,qt2,rfl⟩:=hv.shape;have HC2:=zq hcn2;clear hcn2;have h2_':=hv.rg;have rd':Hid (aT X1801 r q2):=zq hrd;clear hv hrd
 go_wp2_with fail
 have zX1801:U5.heap.size≤X1801.heap.size:=hb.size;replace fT:=aB fT hb;replace fR:=aB fR hb;replace fC:=zqc fC hb;replace hX:=zq (hX.out.move (kpN hb (fun b hb=>hb.1)));replace hT:=zq (hT.out.move (kpN hb (fun b hb=>hb.1)));replace c5a_:=aP hb (by omega) c5a_;replace c5b_:=aP hb (by omega) c5b_;replace h5_:=zq (h5_.out.move (kpN hb (fun b hb=>hb.1)));replace c6a_:=aP hb (by omega) c6a_;replace c6b_:=aP hb (by omega) c6b_;replace h6_:=zq (h6_.out.move (kpN hb (fun b hb=>hb.1)));have h2_:=h2_';clear h2_';clear rd;have rd:=rd';clear rd';refine hK.out _ _ ⟨ah fT rfl,c5a_,c5b_,c6a_,c6b_⟩ (fun hH1801=>?_);clear hK K hH0 hb
 try simp only[qy,hwA]
 refine hwr 17 mF (fun K hK=>?_)
 dsimp only[mF];go_simp
 go_at_call 51
 refine(HIH.out (b) l (lA (by simp[S.dep];omega)) HVA.out.2 HOK.out (by omega) HNL.out _ _ _ _ rd.out (hX.out.move (.weaken fun b h _=>h.1)) HCV.out (h6_.out.move (.weaken fun b h _=>h.1)) (by have h1:=HB0.out;have h2:=HMB.out;omega)).mono ?_;rintro e X1802 ⟨t3,v,q3,rfl,hcn3,hv,hq3,hrd,hb⟩;obtain⟨kt3,nm3,ut3,tk3,ta3,tn3,tq3,fk3,fa3,fn3,fq3,lt3,ct3,mt3,qt3,rfl⟩:=hv.shape;have HC3:=zq hcn3;clear hcn3;have h3_':=hv.rg;have rd':Hid (aT X1802 r q3):=zq hrd;clear hv hrd
 go_wp2_with fail
 have zX1802:X1801.heap.size≤X1802.heap.size:=hb.size;replace fT:=aB fT hb;replace fR:=aB fR hb;replace fC:=zqc fC hb;replace hX:=zq (hX.out.move (kpN hb (fun b hb=>hb.1)));replace hT:=zq (hT.out.move (kpN hb (fun b hb=>hb.1)));replace c5a_:=aP hb (by omega) c5a_;replace c5b_:=aP hb (by omega) c5b_;replace h5_:=zq (h5_.out.move (kpN hb (fun b hb=>hb.1)));replace c6a_:=aP hb (by omega) c6a_;replace c6b_:=aP hb (by omega) c6b_;replace h6_:=zq (h6_.out.move (kpN hb (fun b hb=>hb.1)));replace h2_:=zq (h2_.out.move (kpN hb (fun b hb=>by have h1:=hb.1;have h2:=hb.2;omega)));have h3_:=h3_';clear h3_';clear rd;have rd:=rd';clear rd';refine hK.out _ _ ⟨ah fT rfl,c5a_,c5b_,c6a_,c6b_⟩ (fun hH1802=>?_);clear hK K hH1801 hb
 try simp only[mF,hwA]
 refine hwr 18 mG (fun K hK=>?_)
 dsimp only[mG];go_simp
 (try go_wp2_with fail);obtain⟨X1803,hXq,hb,fL,zX1803a,zX1803b⟩:=aZ X1802 (.cells #[.int .i64 kt2,.string nm2,.int .i64 ut2,.int .i64 tk2,.slice ta2 tn2 tq2,.int .i64 fk2,.slice fa2 fn2 fq2,.int .i64 lt2,.slice ct2 mt2 qt2,.int .i64 kt3,.string nm3,.int .i64 ut3,.int .i64 tk3,.slice ta3 tn3 tq3,.int .i64 fk3,.slice fa3 fn3 fq3,.int .i64 lt3,.slice ct3 mt3 qt3] 28);rw[hXq];replace fT:=ag fT hb;replace fR:=ag fR hb;replace fC:=zqb fC hb;replace rd:=zq (rd.out.below hb);replace hX:=zq (hX.out.below hb);replace hT:=zq (hT.out.below hb);replace c5a_:=af hb c5a_;replace c5b_:=af hb c5b_;replace h5_:=zq (h5_.out.below hb);replace c6a_:=af hb c6a_;replace c6b_:=af hb c6b_;replace h6_:=zq (h6_.out.below hb);replace h2_:=zq (h2_.out.below hb);replace h3_:=zq (h3_.out.below hb);refine hK.out _ _ ⟨ah fT rfl,c5a_,c5b_,c6a_,c6b_⟩ (fun hH1803=>?_);clear hK K hH1802 hb hXq
 try simp only[mG,hwA]
 refine hwr 19 mH (fun K hK=>?_)
 dsimp only[mH];go_simp
 go_at_call 84
 refine(cN 10 _ _ _ _).mono ?_;rintro e X1804 ⟨rfl,hb⟩
 go_wp2_with fail
 have zX1804:X1803.heap.size≤X1804.heap.size:=hb.size;replace fT:=ag fT hb;replace fR:=ag fR hb;replace fC:=zqb fC hb;replace rd:=zq (rd.out.below hb);replace hX:=zq (hX.out.below hb);replace hT:=zq (hT.out.below hb);replace c5a_:=af hb c5a_;replace c5b_:=af hb c5b_;replace h5_:=zq (h5_.out.below hb);replace c6a_:=af hb c6a_;replace c6b_:=af hb c6b_;replace h6_:=zq (h6_.out.below hb);replace h2_:=zq (h2_.out.below hb);replace h3_:=zq (h3_.out.below hb);replace fL:=ag fL hb;refine hK.out _ _ ⟨ah fT rfl,c5a_,c5b_,c6a_,c6b_⟩ (fun hH1804=>?_);clear hK K hH1803 hb
 try simp only[mH,hwA]
 refine hwr 20 mI (fun K hK=>?_);obtain⟨r0,rf0,r1,rf1,r2,rf2,r3,rf3,r4,rf4,r5,rf5,r6,rf6,r7,rf7,r8,rf8⟩:=blk9f fR
 dsimp only[mI];go_simp
 (try go_wp2_with fail);have hQq:=bQ fR (.int .i64 10) (.string {data:=#[]}) (.int .i64 0) (.int .i64 0) (.slice none 0 0) (.int .i64 0) (.slice none 0 0) (.int .i64 0) (.slice (some ⟨X1802.heap.size,0,none⟩) 2 2);clear fR r0 rf0 r1 rf1 r2 rf2 r3 rf3 r4 rf4 r5 rf5 r6 rf6 r7 rf7 r8 rf8;obtain⟨X1805,hXq,hsq,fR,zX1805a,zX1805b⟩:=hQq;rw[hXq];replace fT:=hsq.blk (by omega) fT;replace fC:=zq (hsq.chg fC.out (by omega));replace rd:=zq (hsq.rd rd.out (by omega));replace hX:=zq (hX.out.move (hsq.keeps (fun b hb=>by have:=hb.2;omega)));replace hT:=zq (hsq.rep (fun b hb=>by have:=hb.2;omega) hT.out);replace c5a_:=hsq.cell (by show b2≠w.heap.size+1;omega) c5a_;replace c5b_:=hsq.cell (by show b2≠w.heap.size+1;omega) c5b_;replace h5_:=zq (hsq.rep (fun b hb=>by have:=hb.2;omega) h5_.out);replace c6a_:=hsq.cell (by show b2≠w.heap.size+1;omega) c6a_;replace c6b_:=hsq.cell (by show b2≠w.heap.size+1;omega) c6b_;replace h6_:=zq (hsq.rep (fun b hb=>by have:=hb.2;omega) h6_.out);replace h2_:=zq (h2_.out.move (hsq.keeps (fun b hb=>by have h1:=hb.1;have h2:=hb.2;omega)));replace h3_:=zq (h3_.out.move (hsq.keeps (fun b hb=>by have h1:=hb.1;have h2:=hb.2;omega)));replace fL:=hsq.blk (by omega) fL;refine hK.out _ _ ⟨ah fT rfl,c5a_,c5b_,c6a_,c6b_⟩ (fun hH1805=>?_);clear hK K hH1804 hsq hXq
 try simp only[mI,hwA]
 refine wpAnyH_done (by kernel_rfl) ?_ _;refine NoPanic.normal ?_;clear hH1805;obtain⟨rc0,rc1,rc2,rc3,rc4,rc5,rc6,rc7,rc8⟩:=blk9 fR
 go_wp2_with fail
 refine bodyPost_ret (v:=.agg #[.int .i64 10,.string {data:=#[]},.int .i64 0,.int .i64 0,.slice none 0 0,.int .i64 0,.slice none 0 0,.int .i64 0,.slice (some ⟨X1802.heap.size,0,none⟩) 2 2]) (by simp[results,Tryz.results51,go_sem,rc0,rc1,rc2,rc3,rc4,rc5,rc6,rc7,rc8]) rfl ?_;have h1:=HB0.out;have h2:=HMB.out;have hks:aS (w.heap.size ≤ ·) X1805 [t2,t3] (.slice (some ⟨X1802.heap.size,0,none⟩) 2 2):=aS.blk (by show w.heap.size≤_;omega) fL rfl (by unfold maxLen;omega) (aW.c2 (h2_.out.move (.weaken fun b h _=>by have h1:=h.1;show w.heap.size≤b;omega)).srep (h3_.out.move (.weaken fun b h _=>by have h1:=h.1;show w.heap.size≤b;omega)).srep);have hcc:(Tm.mk 10 {data:=#[]} 0 (.mk 0 []) (.mk 0 []) 0 [t2,t3]).cnt≤MB:=by
  have g1:=HC2.out;have g2:=HC3.out;(try simp only[Tm.cnt,Tm.cnts,Ty.cnt,Ty.cnts,List.length_cons,List.length_nil,show({data:=#[]}:ByteArray).size=0 from rfl])
  omega
 exact⟨Tm.mk 10 {data:=#[]} 0 (.mk 0 []) (.mk 0 []) 0 [t2,t3],_,q3,rfl,hcc,aA.mk bp ⟨_,rfl,aE.nil0⟩ ⟨_,rfl,aE.nil0⟩ hks,by omega,rd.out,fC.out⟩
end Go.Proofs.YtfahhonmiimmdaaGreat

/- spec.l4Cast. And what else its parts name. -/
import Derived.Test.YtfahhonmiimmdaaGreatB30
import Derived.Test.YtfahhonmiimmdaaGreatB33
set_option linter.unusedSimpArgs false
set_option linter.unusedVariables false
set_option maxRecDepth 100000
set_option maxHeartbeats 16000000
namespace Go.Proofs.YtfahhonmiimmdaaGreat
open Go.RowKit
def oJ3_0:Oper:=⟨some 15,.load 25 (.tmp 5),25,"l4_casts.go:62",#[],none⟩
def jR:Oper:=⟨some 16,.call {callee:=.value (.func 81),args:=#[.tmp 15],argTypes:=#[25]},25,"l4_casts.go:62",#[⟨0,.data⟩],none⟩
def oJ3_2:Oper:=⟨some 17,.load 25 (.tmp 6),25,"l4_casts.go:62",#[],none⟩
def eU:Oper:=⟨some 18,.call {callee:=.value (.func 81),args:=#[.tmp 17],argTypes:=#[25]},25,"l4_casts.go:62",#[⟨2,.data⟩,⟨1,.chain⟩],none⟩
def oJ3_4:Oper:=⟨some 19,.move (.tmp 3),3,"l4_casts.go:62",#[],none⟩
def oJ3_5:Oper:=⟨some 20,.load 28 (.tmp 4),28,"l4_casts.go:62",#[],none⟩
def eV:Oper:=⟨some 21,.buildSlice 26 1 #[(0,.tmp 20)],26,"l4_casts.go:62",#[⟨5,.data⟩],none⟩
def eW:Oper:=⟨some 22,.build 28 #[(0,.const (.int .i64 14)),(4,.tmp 16),(3,.tmp 18),(5,.tmp 19),(6,.tmp 21)],28,"l4_casts.go:62",#[⟨1,.data⟩,⟨3,.data⟩,⟨4,.data⟩,⟨6,.data⟩],none⟩
def oJ3_8:Oper:=⟨some 23,.move (.tmp 3),3,"l4_casts.go:62",#[⟨10,.gcOnly .lateStores⟩],none⟩
def oJ3_9:Oper:=⟨some 24,.binOp .add 3 (.tmp 23) (.const (.int .i64 1)) 3,3,"l4_casts.go:62",#[⟨8,.data⟩,⟨10,.gcOnly .lateStores⟩],none⟩
def ej:Oper:=⟨none,.store 28 (.tmp 8) (.tmp 22),0,"l4_casts.go:62",#[⟨7,.data⟩,⟨3,.chain⟩,⟨0,.phase⟩,⟨1,.phase⟩,⟨2,.phase⟩,⟨3,.phase⟩,⟨4,.phase⟩,⟨5,.phase⟩,⟨6,.phase⟩,⟨7,.phase⟩,⟨8,.textOnly .lateStores⟩,⟨9,.textOnly .lateStores⟩],none⟩
def ek:Oper:=⟨some 9,.assign (.tmp 24),3,"l4_casts.go:62",#[⟨9,.data⟩,⟨10,.chain⟩,⟨0,.phase⟩,⟨1,.phase⟩,⟨2,.phase⟩,⟨3,.phase⟩,⟨4,.phase⟩,⟨5,.phase⟩,⟨6,.phase⟩,⟨7,.phase⟩,⟨8,.phase⟩,⟨9,.phase⟩,⟨10,.phase⟩],none⟩
def RetCa (F:Nat→Prop)(m:Nat)(lb:Int)(w:World)(e:Ending)(w':World):Prop:=∃(t:Tm) (v:Value) (lb':Int),e = .returned (.tuple #[v,.int .i64 lb'])∧t.cnt≤m∧lb≤lb'∧lb'≤lb+1∧ax (fun b=>F b∨w.heap.size≤b) w' t v∧Below w.heap.size w w'
theorem m4 (F G1 G2:Nat→Prop)(t1:Tm)(s u:Ty)(lb:Int)(w:World)(ev fv tv:Value)(he:ax F w t1 ev)(hf:ao G1 w s fv)(ht:ao G2 w u tv)(hs:s.cnt≤14)(hu:u.cnt≤14)(hl1 : -1000000≤lb)(hl2:lb≤1000000) :
    Calls Tryz.prog 59 #[ev,fv,tv,.int .i64 lb] w (RetCa F (t1.cnt+60) lb w):=by
  obtain⟨kt1,nm1,ut1,tk1,ta1,tn1,tq1,fk1,fa1,fn1,fq1,lt1,ct1,mt1,qt1,rfl⟩:=he.shape;obtain⟨fk,fa,fn,fq,rfl⟩:=hf.shape;obtain⟨uk,ua,un,uq,rfl⟩:=ht.shape;have HWK:=zq (IntWalk.i64_in (lb+1) (by omega));obtain⟨sm,hsm⟩ : ∃b,s.same u=b:=⟨_,rfl⟩
  have HS:=zq (hsm▸jJ _ _ s u _ _ _ (hf.below (bal4 (o:=.cells #[.int .i64 kt1,.string nm1,.int .i64 ut1,.int .i64 tk1,.slice ta1 tn1 tq1,.int .i64 fk1,.slice fa1 fn1 fq1,.int .i64 lt1,.slice ct1 mt1 qt1] 28) (o':=.cells #[.int .i64 fk,.slice fa fn fq] 25) (o2:=.cells #[.int .i64 uk,.slice ua un uq] 25) (o3:=.cells #[.int .i64 0,.string {data:=#[]},.int .i64 0,.int .i64 0,.slice none 0 0,.int .i64 0,.slice none 0 0,.int .i64 0,.slice none 0 0] 28))) (ht.below bal4));have HE0:=zq (he.move (.weaken (G:=(fun x=>F x∧x<w.heap.size)) fun b h hl=>⟨h,hl⟩));have HF0:=zq (hf.move (.weaken (G:=(fun x=>G1 x∧x<w.heap.size)) fun b h hl=>⟨h,hl⟩));have HT0:=zq (ht.move (.weaken (G:=(fun x=>G2 x∧x<w.heap.size)) fun b h hl=>⟨h,hl⟩));have HCS:=zq hs;have HCU:=zq hu;have HL:=zq (And.intro hl1 hl2);clear he hf ht hs hu hl1 hl2 hsm
  go_enter Tryz.func59,Tryz.ntmps59
  go_wp2_with fail
  refine HS.out.mono ?_;rintro e w1 ⟨rfl,hb⟩;have z1:=hb.size;simp only[World.size_alloc] at z1;clear HS;have fE:w1.heap[w.heap.size]?=some (.cells #[.int .i64 kt1,.string nm1,.int .i64 ut1,.int .i64 tk1,.slice ta1 tn1 tq1,.int .i64 fk1,.slice fa1 fn1 fq1,.int .i64 lt1,.slice ct1 mt1 qt1] 28 (0,0)):=af (af (af (af (aB rfl) ai) ai) ai) hb;have fF:w1.heap[w.heap.size+1]?=some (.cells #[.int .i64 fk,.slice fa fn fq] 25 (0,0)):=af (af (af (aB (by simp)) ai) ai) hb;have fT:w1.heap[w.heap.size+1+1]?=some (.cells #[.int .i64 uk,.slice ua un uq] 25 (0,0)):=af (af (aB (by simp)) ai) hb;have fR:w1.heap[w.heap.size+1+1+1]?=some (.cells #[.int .i64 0,.string {data:=#[]},.int .i64 0,.int .i64 0,.slice none 0 0,.int .i64 0,.slice none 0 0,.int .i64 0,.slice none 0 0] 28 (0,0)):=af (aB (by simp)) hb;have fB:Hid (Below w.heap.size w w1):=zq (aj bal4 hb);have hE:Hid (ax (fun x=>F x∧x<w.heap.size) w1 t1 (.agg #[.int .i64 kt1,.string nm1,.int .i64 ut1,.int .i64 tk1,.slice ta1 tn1 tq1,.int .i64 fk1,.slice fa1 fn1 fq1,.int .i64 lt1,.slice ct1 mt1 qt1])):=zq ((HE0.out.below bal4).below hb);have hF:Hid (ao (fun x=>G1 x∧x<w.heap.size) w1 s (.agg #[.int .i64 fk,.slice fa fn fq])):=zq ((HF0.out.below bal4).below hb);have hT:Hid (ao (fun x=>G2 x∧x<w.heap.size) w1 u (.agg #[.int .i64 uk,.slice ua un uq])):=zq ((HT0.out.below bal4).below hb);clear hb HE0 HF0 HT0
  cases sm with
  | true=>
    obtain⟨y0,y1,y2,y3,y4,y5,y6,y7,y8⟩:=blk9 fE;have yl:=aC fE;obtain⟨x0,xf0,x1,xf1,x2,xf2,x3,xf3,x4,xf4,x5,xf5,x6,xf6,x7,xf7,x8,xf8⟩:=blk9f fR;have xl:=aC fR
    go_wp2_with fail
    obtain⟨X9,hXq,hsq,fR_,zX9a,zX9b⟩:=bL fR (.int .i64 kt1) (.string nm1) (.int .i64 ut1) (.int .i64 tk1) (.slice ta1 tn1 tq1) (.int .i64 fk1) (.slice fa1 fn1 fq1) (.int .i64 lt1) (.slice ct1 mt1 qt1);rw[hXq];replace fE:=hsq.blk (by omega) fE;replace fF:=hsq.blk (by omega) fF;replace fT:=hsq.blk (by omega) fT;replace fB:=zq (hsq.bel fB.out (by omega));replace hE:=zq (hE.out.move (hsq.keeps (fun b hb=>by have:=hb.2;omega)));replace hF:=zq (hF.out.move (hsq.keeps (fun b hb=>by have:=hb.2;omega)));replace hT:=zq (hT.out.move (hsq.keeps (fun b hb=>by have:=hb.2;omega)));clear fR hsq hXq;have fR:=fR_;clear fR_;obtain⟨rc0,rc1,rc2,rc3,rc4,rc5,rc6,rc7,rc8⟩:=blk9 fR;refine bodyPost_ret (v:=.tuple #[.agg #[.int .i64 kt1,.string nm1,.int .i64 ut1,.int .i64 tk1,.slice ta1 tn1 tq1,.int .i64 fk1,.slice fa1 fn1 fq1,.int .i64 lt1,.slice ct1 mt1 qt1],.int .i64 lb]) (by simp[results,Tryz.results59,go_sem,rc0,rc1,rc2,rc3,rc4,rc5,rc6,rc7,rc8]) rfl ?_
    exact⟨t1,_,lb,rfl,by omega,by omega,by omega,hE.out.move (.weaken fun b h _=>.inl h.1),fB.out⟩
  | false=>
    obtain⟨y0,y1⟩:=blk2 fF;have yl:=aC fF;clear y0 y1 yl
    go_wp2_with fail
    refine wp_region_noPanic ?_;refine wp_region_held_drew (S:=fun w'=>w'.cell? ⟨w.heap.size,0,none⟩=some (.int .i64 kt1)∧w'.cell? ⟨w.heap.size,1,none⟩=some (.string nm1)∧w'.cell? ⟨w.heap.size,2,none⟩=some (.int .i64 ut1)∧w'.cell? ⟨w.heap.size,3,none⟩=some (.int .i64 tk1)∧w'.cell? ⟨w.heap.size,4,none⟩=some (.slice ta1 tn1 tq1)∧w'.cell? ⟨w.heap.size,5,none⟩=some (.int .i64 fk1)∧w'.cell? ⟨w.heap.size,6,none⟩=some (.slice fa1 fn1 fq1)∧w'.cell? ⟨w.heap.size,7,none⟩=some (.int .i64 lt1)∧w'.cell? ⟨w.heap.size,8,none⟩=some (.slice ct1 mt1 qt1)∧w'.cell? ⟨w.heap.size+1,0,none⟩=some (.int .i64 fk)∧w'.cell? ⟨w.heap.size+1,1,none⟩=some (.slice fa fn fq)∧w'.cell? ⟨w.heap.size+1+1,0,none⟩=some (.int .i64 uk)∧w'.cell? ⟨w.heap.size+1+1,1,none⟩=some (.slice ua un uq)) (by kernel_rfl) ?_ (fun hH0=>?_)
    · exact blk9r fE ⟨ag fF rfl,ag fF rfl,ag fT rfl,ag fT rfl⟩
    obtain⟨U1,hU,hb,zU1a,zU1b⟩:=bD w1;rw[hU] at hH0 ⊢;replace fE:=af fE hb;replace fF:=af fF hb;replace fT:=af fT hb;replace fR:=af fR hb;replace fB:=zq (aj fB.out hb);replace hE:=zq (hE.out.below hb);replace hF:=zq (hF.out.below hb);replace hT:=zq (hT.out.below hb);(try simp only[World.size_alloc] at zU1a zU1b);clear hU hb;refine hwt 0 oJ3_0 (.agg #[.int .i64 fk,.slice fa fn fq]) hH0 ?_ ?_
    · intro w' hSw;dsimp only[oJ3_0];go_simp
    try simp only[oJ3_0,hwA]
    refine hwt 2 oJ3_2 (.agg #[.int .i64 uk,.slice ua un uq]) hH0 ?_ ?_
    · intro w' hSw;dsimp only[oJ3_2];go_simp
    try simp only[oJ3_2,hwA]
    refine hwt 4 oJ3_4 (.int .i64 lb) hH0 ?_ ?_
    · intro w' hSw;dsimp only[oJ3_4];go_simp
    try simp only[oJ3_4,hwA]
    refine hwt 5 oJ3_5 (.agg #[.int .i64 kt1,.string nm1,.int .i64 ut1,.int .i64 tk1,.slice ta1 tn1 tq1,.int .i64 fk1,.slice fa1 fn1 fq1,.int .i64 lt1,.slice ct1 mt1 qt1]) hH0 ?_ ?_
    · intro w' hSw;dsimp only[oJ3_5];go_simp
    try simp only[oJ3_5,hwA]
    refine hwt 8 oJ3_8 (.int .i64 lb) hH0 ?_ ?_
    · intro w' hSw;dsimp only[oJ3_8];go_simp
    try simp only[oJ3_8,hwA]
    refine hwt 9 oJ3_9 (.int .i64 (lb+1)) hH0 ?_ ?_
    · intro w' hSw;dsimp only[oJ3_9];go_simp;exact HWK.out
    try simp only[oJ3_9,hwA]
    refine wpAnyH_ready (rs:= [1,6]) (by kernel_rfl) (by simp) ?_;refine(AllReadyH.cons (o:=jR) rfl (fun K hK=>?_) (AllReadyH.cons (o:=eV) rfl (fun K hK=>?_) AllReadyH.nil))
    ·skip
     dsimp only[jR];go_simp
     go_at_call 81
     refine(be _ s _ _ hF.out (by have:=HCS.out;omega)).mono ?_;rintro e X1 ⟨v,rfl,hv,hb⟩;obtain⟨kc,ac,nc,qc,rfl⟩:=hv.shape;have hN':=hv.rep.rg;clear hv
     go_wp2_with fail
     have zX1:U1.heap.size≤X1.heap.size:=hb.size;replace fE:=af fE hb;replace fF:=af fF hb;replace fT:=af fT hb;replace fR:=af fR hb;replace fB:=zq (aj fB.out hb);replace hE:=zq (hE.out.below hb);replace hF:=zq (hF.out.below hb);replace hT:=zq (hT.out.below hb);have hN:=hN';clear hN';refine hK.out _ _ (blk9r fE ⟨ag fF rfl,ag fF rfl,ag fT rfl,ag fT rfl⟩) (fun hH1=>?_);clear hK K hH0 hb
     try simp only[jR,hwA]
     refine wpAnyH_ready (rs:= [3,6]) (by kernel_rfl) (by simp) ?_;refine(AllReadyH.cons (o:=eU) rfl (fun K hK=>?_) (AllReadyH.cons (o:=eV) rfl (fun K hK=>?_) AllReadyH.nil))
     ·skip
      dsimp only[eU];go_simp
      go_at_call 81
      refine(be _ u _ _ hT.out (by have:=HCU.out;omega)).mono ?_;rintro e X2 ⟨v,rfl,hv,hb⟩;obtain⟨kd,ad,nd,qd,rfl⟩:=hv.shape;have hM':=hv.rep.rg;clear hv
      go_wp2_with fail
      have zX2:X1.heap.size≤X2.heap.size:=hb.size;replace fE:=af fE hb;replace fF:=af fF hb;replace fT:=af fT hb;replace fR:=af fR hb;replace fB:=zq (aj fB.out hb);replace hE:=zq (hE.out.below hb);replace hF:=zq (hF.out.below hb);replace hT:=zq (hT.out.below hb);replace hN:=zq (hN.out.below hb);have hM:=hM';clear hM';refine hK.out _ _ (blk9r fE ⟨ag fF rfl,ag fF rfl,ag fT rfl,ag fT rfl⟩) (fun hH2=>?_);clear hK K hH1 hb
      try simp only[eU,hwA]
      refine hwr 6 eV (fun K hK=>?_)
      dsimp only[eV];go_simp
      (try go_wp2_with fail);obtain⟨X3,hXq,hb,fL,zX3a,zX3b⟩:=aU X2 (.cells #[.int .i64 kt1,.string nm1,.int .i64 ut1,.int .i64 tk1,.slice ta1 tn1 tq1,.int .i64 fk1,.slice fa1 fn1 fq1,.int .i64 lt1,.slice ct1 mt1 qt1] 28);rw[hXq];replace fE:=af fE hb;replace fF:=af fF hb;replace fT:=af fT hb;replace fR:=af fR hb;replace fB:=zq (aj fB.out hb);replace hE:=zq (hE.out.below hb);replace hF:=zq (hF.out.below hb);replace hT:=zq (hT.out.below hb);replace hN:=zq (hN.out.below hb);replace hM:=zq (hM.out.below hb);refine hK.out _ _ (blk9r fE ⟨ag fF rfl,ag fF rfl,ag fT rfl,ag fT rfl⟩) (fun hH3=>?_);clear hK K hH2 hb hXq
      try simp only[eV,hwA]
      refine hwt 7 eW (.agg #[.int .i64 14,.string {data:=#[]},.int .i64 0,.int .i64 kd,.slice ad nd qd,.int .i64 kc,.slice ac nc qc,.int .i64 lb,.slice (some ⟨X2.heap.size,0,none⟩) 1 1]) hH3 ?_ ?_
      · intro w' hSw;dsimp only[eW];go_simp
      try simp only[eW,hwA]
      refine hwr 10 ej (fun K hK=>?_);obtain⟨r0,rf0,r1,rf1,r2,rf2,r3,rf3,r4,rf4,r5,rf5,r6,rf6,r7,rf7,r8,rf8⟩:=blk9f fR
      dsimp only[ej];go_simp
      (try go_wp2_with fail);have hQq:=bL fR (.int .i64 14) (.string {data:=#[]}) (.int .i64 0) (.int .i64 kd) (.slice ad nd qd) (.int .i64 kc) (.slice ac nc qc) (.int .i64 lb) (.slice (some ⟨X2.heap.size,0,none⟩) 1 1);clear fR r0 rf0 r1 rf1 r2 rf2 r3 rf3 r4 rf4 r5 rf5 r6 rf6 r7 rf7 r8 rf8;obtain⟨X4,hXq,hsq,fR,zX4a,zX4b⟩:=hQq;rw[hXq];replace fE:=hsq.blk (by omega) fE;replace fF:=hsq.blk (by omega) fF;replace fT:=hsq.blk (by omega) fT;replace fB:=zq (hsq.bel fB.out (by omega));replace hE:=zq (hE.out.move (hsq.keeps (fun b hb=>by have:=hb.2;omega)));replace hF:=zq (hF.out.move (hsq.keeps (fun b hb=>by have:=hb.2;omega)));replace hT:=zq (hT.out.move (hsq.keeps (fun b hb=>by have:=hb.2;omega)));replace hN:=zq (hsq.rep (fun b hb=>by have h1:=hb.1;have h2:=hb.2;omega) hN.out);replace hM:=zq (hsq.rep (fun b hb=>by have h1:=hb.1;have h2:=hb.2;omega) hM.out);replace fL:=hsq.blk (by omega) fL;refine hK.out _ _ (blk9r fE ⟨ag fF rfl,ag fF rfl,ag fT rfl,ag fT rfl⟩) (fun hH4=>?_);clear hK K hH3 hsq hXq
      try simp only[ej,hwA]
      refine hwt 11 ek (.int .i64 (lb+1)) hH4 ?_ ?_
      · intro w' hSw;dsimp only[ek];go_simp
      try simp only[ek,hwA]
      refine wpAnyH_done (by kernel_rfl) ?_ _;refine NoPanic.normal ?_;clear hH4;obtain⟨rc0,rc1,rc2,rc3,rc4,rc5,rc6,rc7,rc8⟩:=blk9 fR
      go_wp2_with fail
      refine bodyPost_ret (v:=.tuple #[.agg #[.int .i64 14,.string {data:=#[]},.int .i64 0,.int .i64 kd,.slice ad nd qd,.int .i64 kc,.slice ac nc qc,.int .i64 lb,.slice (some ⟨X2.heap.size,0,none⟩) 1 1],.int .i64 (lb+1)]) (by simp[results,Tryz.results59,go_sem,rc0,rc1,rc2,rc3,rc4,rc5,rc6,rc7,rc8]) rfl ?_;have hks:aN (fun b=>F b∨w.heap.size≤b) X4 [t1] (.slice (some ⟨X2.heap.size,0,none⟩) 1 1):=aN.blk (by right;show w.heap.size≤_;omega) fL rfl (by unfold maxLen;omega) (aS.c1 (hE.out.move (.weaken fun b h _=>.inl h.1)).srep);refine⟨.mk 14 {data:=#[]} 0 u s lb [t1],_,lb+1,rfl,?_,by omega,by omega,ax.mk bi (hM.out.move (.weaken fun b h _=>.inr (by have h1:=h.1;omega))) (hN.out.move (.weaken fun b h _=>.inr (by have h1:=h.1;omega))) hks,fB.out⟩;have h1:=HCS.out;have h2:=HCU.out;simp only[Tm.cnt,Tm.cnts,List.length_cons,List.length_nil,show({data:=#[]}:ByteArray).size=0 from rfl]
      omega
     ·skip
      dsimp only[eV];go_simp
      (try go_wp2_with fail);obtain⟨X5,hXq,hb,fL,zX5a,zX5b⟩:=aU X1 (.cells #[.int .i64 kt1,.string nm1,.int .i64 ut1,.int .i64 tk1,.slice ta1 tn1 tq1,.int .i64 fk1,.slice fa1 fn1 fq1,.int .i64 lt1,.slice ct1 mt1 qt1] 28);rw[hXq];replace fE:=af fE hb;replace fF:=af fF hb;replace fT:=af fT hb;replace fR:=af fR hb;replace fB:=zq (aj fB.out hb);replace hE:=zq (hE.out.below hb);replace hF:=zq (hF.out.below hb);replace hT:=zq (hT.out.below hb);replace hN:=zq (hN.out.below hb);refine hK.out _ _ (blk9r fE ⟨ag fF rfl,ag fF rfl,ag fT rfl,ag fT rfl⟩) (fun hH2=>?_);clear hK K hH1 hb hXq
      try simp only[eV,hwA]
      refine hwr 3 eU (fun K hK=>?_)
      dsimp only[eU];go_simp
      go_at_call 81
      refine(be _ u _ _ hT.out (by have:=HCU.out;omega)).mono ?_;rintro e X6 ⟨v,rfl,hv,hb⟩;obtain⟨kd,ad,nd,qd,rfl⟩:=hv.shape;have hM':=hv.rep.rg;clear hv
      go_wp2_with fail
      have zX6:X5.heap.size≤X6.heap.size:=hb.size;replace fE:=af fE hb;replace fF:=af fF hb;replace fT:=af fT hb;replace fR:=af fR hb;replace fB:=zq (aj fB.out hb);replace hE:=zq (hE.out.below hb);replace hF:=zq (hF.out.below hb);replace hT:=zq (hT.out.below hb);replace hN:=zq (hN.out.below hb);replace fL:=af fL hb;have hM:=hM';clear hM';refine hK.out _ _ (blk9r fE ⟨ag fF rfl,ag fF rfl,ag fT rfl,ag fT rfl⟩) (fun hH5=>?_);clear hK K hH2 hb
      try simp only[eU,hwA]
      refine hwt 7 eW (.agg #[.int .i64 14,.string {data:=#[]},.int .i64 0,.int .i64 kd,.slice ad nd qd,.int .i64 kc,.slice ac nc qc,.int .i64 lb,.slice (some ⟨X1.heap.size,0,none⟩) 1 1]) hH5 ?_ ?_
      · intro w' hSw;dsimp only[eW];go_simp
      try simp only[eW,hwA]
      refine hwr 10 ej (fun K hK=>?_);obtain⟨r0,rf0,r1,rf1,r2,rf2,r3,rf3,r4,rf4,r5,rf5,r6,rf6,r7,rf7,r8,rf8⟩:=blk9f fR
      dsimp only[ej];go_simp
      (try go_wp2_with fail);have hQq:=bL fR (.int .i64 14) (.string {data:=#[]}) (.int .i64 0) (.int .i64 kd) (.slice ad nd qd) (.int .i64 kc) (.slice ac nc qc) (.int .i64 lb) (.slice (some ⟨X1.heap.size,0,none⟩) 1 1);clear fR r0 rf0 r1 rf1 r2 rf2 r3 rf3 r4 rf4 r5 rf5 r6 rf6 r7 rf7 r8 rf8;obtain⟨X7,hXq,hsq,fR,zX7a,zX7b⟩:=hQq;rw[hXq];replace fE:=hsq.blk (by omega) fE;replace fF:=hsq.blk (by omega) fF;replace fT:=hsq.blk (by omega) fT;replace fB:=zq (hsq.bel fB.out (by omega));replace hE:=zq (hE.out.move (hsq.keeps (fun b hb=>by have:=hb.2;omega)));replace hF:=zq (hF.out.move (hsq.keeps (fun b hb=>by have:=hb.2;omega)));replace hT:=zq (hT.out.move (hsq.keeps (fun b hb=>by have:=hb.2;omega)));replace hN:=zq (hsq.rep (fun b hb=>by have h1:=hb.1;have h2:=hb.2;omega) hN.out);replace fL:=hsq.blk (by omega) fL;replace hM:=zq (hsq.rep (fun b hb=>by have h1:=hb.1;have h2:=hb.2;omega) hM.out);refine hK.out _ _ (blk9r fE ⟨ag fF rfl,ag fF rfl,ag fT rfl,ag fT rfl⟩) (fun hH6=>?_);clear hK K hH5 hsq hXq
      try simp only[ej,hwA]
      refine hwt 11 ek (.int .i64 (lb+1)) hH6 ?_ ?_
      · intro w' hSw;dsimp only[ek];go_simp
      try simp only[ek,hwA]
      refine wpAnyH_done (by kernel_rfl) ?_ _;refine NoPanic.normal ?_;clear hH6;obtain⟨rc0,rc1,rc2,rc3,rc4,rc5,rc6,rc7,rc8⟩:=blk9 fR
      go_wp2_with fail
      refine bodyPost_ret (v:=.tuple #[.agg #[.int .i64 14,.string {data:=#[]},.int .i64 0,.int .i64 kd,.slice ad nd qd,.int .i64 kc,.slice ac nc qc,.int .i64 lb,.slice (some ⟨X1.heap.size,0,none⟩) 1 1],.int .i64 (lb+1)]) (by simp[results,Tryz.results59,go_sem,rc0,rc1,rc2,rc3,rc4,rc5,rc6,rc7,rc8]) rfl ?_;have hks:aN (fun b=>F b∨w.heap.size≤b) X7 [t1] (.slice (some ⟨X1.heap.size,0,none⟩) 1 1):=aN.blk (by right;show w.heap.size≤_;omega) fL rfl (by unfold maxLen;omega) (aS.c1 (hE.out.move (.weaken fun b h _=>.inl h.1)).srep);refine⟨.mk 14 {data:=#[]} 0 u s lb [t1],_,lb+1,rfl,?_,by omega,by omega,ax.mk bi (hM.out.move (.weaken fun b h _=>.inr (by have h1:=h.1;omega))) (hN.out.move (.weaken fun b h _=>.inr (by have h1:=h.1;omega))) hks,fB.out⟩;have h1:=HCS.out;have h2:=HCU.out;simp only[Tm.cnt,Tm.cnts,List.length_cons,List.length_nil,show({data:=#[]}:ByteArray).size=0 from rfl]
      omega
    ·skip
     dsimp only[eV];go_simp
     (try go_wp2_with fail);obtain⟨X8,hXq,hb,fL,zX8a,zX8b⟩:=aU U1 (.cells #[.int .i64 kt1,.string nm1,.int .i64 ut1,.int .i64 tk1,.slice ta1 tn1 tq1,.int .i64 fk1,.slice fa1 fn1 fq1,.int .i64 lt1,.slice ct1 mt1 qt1] 28);rw[hXq];replace fE:=af fE hb;replace fF:=af fF hb;replace fT:=af fT hb;replace fR:=af fR hb;replace fB:=zq (aj fB.out hb);replace hE:=zq (hE.out.below hb);replace hF:=zq (hF.out.below hb);replace hT:=zq (hT.out.below hb);refine hK.out _ _ (blk9r fE ⟨ag fF rfl,ag fF rfl,ag fT rfl,ag fT rfl⟩) (fun hH1=>?_);clear hK K hH0 hb hXq
     try simp only[eV,hwA]
     refine hwr 1 jR (fun K hK=>?_)
     dsimp only[jR];go_simp
     go_at_call 81
     refine(be _ s _ _ hF.out (by have:=HCS.out;omega)).mono ?_;rintro e X9 ⟨v,rfl,hv,hb⟩;obtain⟨kc,ac,nc,qc,rfl⟩:=hv.shape;have hN':=hv.rep.rg;clear hv
     go_wp2_with fail
     have zX9:X8.heap.size≤X9.heap.size:=hb.size;replace fE:=af fE hb;replace fF:=af fF hb;replace fT:=af fT hb;replace fR:=af fR hb;replace fB:=zq (aj fB.out hb);replace hE:=zq (hE.out.below hb);replace hF:=zq (hF.out.below hb);replace hT:=zq (hT.out.below hb);replace fL:=af fL hb;have hN:=hN';clear hN';refine hK.out _ _ (blk9r fE ⟨ag fF rfl,ag fF rfl,ag fT rfl,ag fT rfl⟩) (fun hH7=>?_);clear hK K hH1 hb
     try simp only[jR,hwA]
     refine hwr 3 eU (fun K hK=>?_)
     dsimp only[eU];go_simp
     go_at_call 81
     refine(be _ u _ _ hT.out (by have:=HCU.out;omega)).mono ?_;rintro e X10 ⟨v,rfl,hv,hb⟩;obtain⟨kd,ad,nd,qd,rfl⟩:=hv.shape;have hM':=hv.rep.rg;clear hv
     go_wp2_with fail
     have zX10:X9.heap.size≤X10.heap.size:=hb.size;replace fE:=af fE hb;replace fF:=af fF hb;replace fT:=af fT hb;replace fR:=af fR hb;replace fB:=zq (aj fB.out hb);replace hE:=zq (hE.out.below hb);replace hF:=zq (hF.out.below hb);replace hT:=zq (hT.out.below hb);replace fL:=af fL hb;replace hN:=zq (hN.out.below hb);have hM:=hM';clear hM';refine hK.out _ _ (blk9r fE ⟨ag fF rfl,ag fF rfl,ag fT rfl,ag fT rfl⟩) (fun hH8=>?_);clear hK K hH7 hb
     try simp only[eU,hwA]
     refine hwt 7 eW (.agg #[.int .i64 14,.string {data:=#[]},.int .i64 0,.int .i64 kd,.slice ad nd qd,.int .i64 kc,.slice ac nc qc,.int .i64 lb,.slice (some ⟨U1.heap.size,0,none⟩) 1 1]) hH8 ?_ ?_
     · intro w' hSw;dsimp only[eW];go_simp
     try simp only[eW,hwA]
     refine hwr 10 ej (fun K hK=>?_);obtain⟨r0,rf0,r1,rf1,r2,rf2,r3,rf3,r4,rf4,r5,rf5,r6,rf6,r7,rf7,r8,rf8⟩:=blk9f fR
     dsimp only[ej];go_simp
     (try go_wp2_with fail);have hQq:=bL fR (.int .i64 14) (.string {data:=#[]}) (.int .i64 0) (.int .i64 kd) (.slice ad nd qd) (.int .i64 kc) (.slice ac nc qc) (.int .i64 lb) (.slice (some ⟨U1.heap.size,0,none⟩) 1 1);clear fR r0 rf0 r1 rf1 r2 rf2 r3 rf3 r4 rf4 r5 rf5 r6 rf6 r7 rf7 r8 rf8;obtain⟨X11,hXq,hsq,fR,zX11a,zX11b⟩:=hQq;rw[hXq];replace fE:=hsq.blk (by omega) fE;replace fF:=hsq.blk (by omega) fF;replace fT:=hsq.blk (by omega) fT;replace fB:=zq (hsq.bel fB.out (by omega));replace hE:=zq (hE.out.move (hsq.keeps (fun b hb=>by have:=hb.2;omega)));replace hF:=zq (hF.out.move (hsq.keeps (fun b hb=>by have:=hb.2;omega)));replace hT:=zq (hT.out.move (hsq.keeps (fun b hb=>by have:=hb.2;omega)));replace fL:=hsq.blk (by omega) fL;replace hN:=zq (hsq.rep (fun b hb=>by have h1:=hb.1;have h2:=hb.2;omega) hN.out);replace hM:=zq (hsq.rep (fun b hb=>by have h1:=hb.1;have h2:=hb.2;omega) hM.out);refine hK.out _ _ (blk9r fE ⟨ag fF rfl,ag fF rfl,ag fT rfl,ag fT rfl⟩) (fun hH9=>?_);clear hK K hH8 hsq hXq
     try simp only[ej,hwA]
     refine hwt 11 ek (.int .i64 (lb+1)) hH9 ?_ ?_
     · intro w' hSw;dsimp only[ek];go_simp
     try simp only[ek,hwA]
     refine wpAnyH_done (by kernel_rfl) ?_ _;refine NoPanic.normal ?_;clear hH9;obtain⟨rc0,rc1,rc2,rc3,rc4,rc5,rc6,rc7,rc8⟩:=blk9 fR
     go_wp2_with fail
     refine bodyPost_ret (v:=.tuple #[.agg #[.int .i64 14,.string {data:=#[]},.int .i64 0,.int .i64 kd,.slice ad nd qd,.int .i64 kc,.slice ac nc qc,.int .i64 lb,.slice (some ⟨U1.heap.size,0,none⟩) 1 1],.int .i64 (lb+1)]) (by simp[results,Tryz.results59,go_sem,rc0,rc1,rc2,rc3,rc4,rc5,rc6,rc7,rc8]) rfl ?_;have hks:aN (fun b=>F b∨w.heap.size≤b) X11 [t1] (.slice (some ⟨U1.heap.size,0,none⟩) 1 1):=aN.blk (by right;show w.heap.size≤_;omega) fL rfl (by unfold maxLen;omega) (aS.c1 (hE.out.move (.weaken fun b h _=>.inl h.1)).srep);refine⟨.mk 14 {data:=#[]} 0 u s lb [t1],_,lb+1,rfl,?_,by omega,by omega,ax.mk bi (hM.out.move (.weaken fun b h _=>.inr (by have h1:=h.1;omega))) (hN.out.move (.weaken fun b h _=>.inr (by have h1:=h.1;omega))) hks,fB.out⟩;have h1:=HCS.out;have h2:=HCU.out;simp only[Tm.cnt,Tm.cnts,List.length_cons,List.length_nil,show({data:=#[]}:ByteArray).size=0 from rfl]
     omega
def lk (t:Tm)(s:S)(lb:Int)(w:World)(e:Ending)(w':World):Prop:=∃(t':Tm) (v y:Value) (lb':Int),e = .returned (.tuple #[v,y,.int .i64 lb'])∧(t'.cnt:Int)≤200*t.size∧lb≤lb'∧lb'≤lb+4*t.size∧ax (w.heap.size ≤ ·) w' t' v∧ao (w.heap.size ≤ ·) w' s.ty y∧Below w.heap.size w w'
def L4I (t:Tm)(d:Int):Prop:=∀(l:List Bd) (F G:Nat→Prop) (c y:Value) (lb:Int) (W:World) (s:S),t.shape 14 d=true→(l.length:Int)+d≤1000→d9 l→fl l c→aE F W l c→ax G W t y→t.typS l=some s→0≤lb→lb+4*t.size≤100000 →
 Calls Tryz.prog 91 #[c,y,.int .i64 lb] W (lk t s lb W)
def dB (k:Int)(nm:ByteArray)(ty:Ty)(l:List Bd):List Bd:=if k=5 then l ++ [⟨nm,ty⟩] else l
theorem vt {k u lb:Int}{nm:ByteArray}{ty src:Ty}{ts:List Tm}{l:List Bd}{s:S}(hlen:aD k=(ts.length:Int))(h:(Tm.mk k nm u ty src lb ts).typS l=some s) :
  ∃hs:List S,Tm.typsS ts (dB k nm ty l)=some hs∧(6≤k→aZ k ty hs=some s):=by
 have hnil:aD k=0→ts = []:=fun e=>List.length_eq_zero_iff.1 (by omega);unfold Tm.typS at h
 by_cases h1:k=1
 ·subst h1;rw[hnil rfl];exact⟨[],rfl,fun h=>absurd h (by decide)⟩
 rw[if_neg h1] at h
 by_cases h2:k=2
 ·subst h2;rw[hnil rfl];exact⟨[],rfl,fun h=>absurd h (by decide)⟩
 rw[if_neg h2] at h
 by_cases h3:k=3∨k=4
 ·have e:aD k=0:=by rcases h3 with rfl | rfl<;>rfl
  rw[hnil e];exact⟨[],rfl,fun h=>absurd h (by omega)⟩
 rw[if_neg h3] at h
 by_cases h5:k=5
 ·rw[if_pos h5] at h
  unfold dB;rw[if_pos h5]
  cases hq:Tm.typsS ts (l ++ [⟨nm,ty⟩]) with
  | none=>rw[hq] at h;cases h
  | some hs=>exact⟨hs,rfl,fun h=>by omega⟩
 ·rw[if_neg h5] at h
  unfold dB;rw[if_neg h5]
  cases hq:Tm.typsS ts l with
  | none=>rw[hq] at h;cases h
  | some hs=>rw[hq] at h;exact⟨hs,rfl,fun _=>h⟩
theorem ti : ∀(ts:List Tm) (l:List Bd) (hs:List S),Tm.typsS ts l=some hs→hs.length=ts.length∧∀(j:Nat) (h1:j<ts.length) (h2:j<hs.length),ts[j].typS l=some hs[j]
 | [],l,hs,h=>by
  unfold Tm.typsS at h
  cases h
  exact⟨rfl,fun j h1 _=>absurd h1 (Nat.not_lt_zero _)⟩
 | t :: ts,l,hs,h=>by
  unfold Tm.typsS at h
  cases ht:t.typS l with
  | none=>rw[ht] at h;cases h
  | some x=>
   rw[ht] at h
   cases hq:Tm.typsS ts l with
   | none=>rw[hq] at h;cases h
   | some xs=>
    rw[hq] at h
    cases h
    have ih:=ti ts l xs hq;refine⟨by simp[ih.1],fun j h1 h2=>?_⟩
    cases j with
    | zero=>exact ht
    | succ j=>exact ih.2 j (by simpa using h1) (by simpa using h2)
theorem own_cnt {k u lb:Int}{nm:ByteArray}{ty src:Ty}{ts:List Tm}(ho:(Tm.mk k nm u ty src lb ts).ownB=true)(hk : ¬k=14):nm.size+ty.cnt+src.cnt≤15:=by
 obtain⟨n1,-,p1,c1⟩:=nZ ho hk;have h1:=sJ ho;have h2:=gU n1;have h3:ty.cnt≤14:=by
  cases hb:(k==5||k==13) with
  | true=>exact oe (p1 hb)
  | false=>rw[gU (c1 hb)];omega
 omega
theorem Tm.cnts_set : ∀(L:List Tm) (j:Nat) (h:j<L.length) (t:Tm) (m:Nat),t.cnt≤L[j].cnt+m→Tm.cnts (L.set j t)≤Tm.cnts L+m
 | [],j,h,_,_,_=>absurd h (Nat.not_lt_zero _)
 | u :: L,0,h,t,m,e=>by simp only[List.set_cons_zero,Tm.cnts,List.getElem_cons_zero] at *;omega
 | u :: L,j+1,h,t,m,e=>by
  have ih:=Tm.cnts_set L j (by simpa using h) t m e;simp only[List.set_cons_succ,Tm.cnts]
  omega
theorem len1 {α:Type}{l:List α}(h:l.length=1) : ∃a,l = [a]:=List.length_eq_one_iff.1 h
theorem len2 {α:Type}{l:List α}(h:l.length=2) : ∃a b,l = [a,b]:=by
 match l,h with
 | [a,b],_=>exact⟨a,b,rfl⟩
theorem len3 {α:Type}{l:List α}(h:l.length=3) : ∃a b c,l = [a,b,c]:=by
 match l,h with
 | [a,b,c],_=>exact⟨a,b,c,rfl⟩
theorem uB (F1 F2:Nat→Prop)(k:Int)(ty:Ty)(hs0:List S)(s:S)(nm:ByteArray)(u tk fk lb uk:Int)(ta fa ca xa ua:Option Addr)(tn tq fn fq cm cq xn xq un uq:Nat)(w:World)(hv : ∀h∈hs0,h.vd=true)(hvs:s.vd=true)(hn:6≤k→aZ k ty hs0=some s)(hlen:aD k=(hs0.length:Int))(hxn:xn=hs0.length)
  (hk:aA F1 w (hs0.map S.ty) (.slice xa xn xq)) (ht:ao F2 w s.ty (.agg #[.int .i64 uk,.slice ua un uq])) :
  Calls Tryz.prog 115 #[.agg #[.int .i64 k,.string nm,.int .i64 u,.int .i64 tk,.slice ta tn tq,.int .i64 fk,.slice fa fn fq,.int .i64 lb,.slice ca cm cq],.slice xa xn xq,.agg #[.int .i64 uk,.slice ua un uq]] w (dk xn (fun b=>F1 b∨F2 b) w):=by
 by_cases h6:k=6
 ·subst h6
  have e2:hs0.length=2:=by have:aD 6=2:=rfl;omega
  obtain⟨h0,h1,rfl⟩:=len2 e2;have hn':=hn (by decide);simp only[aZ,if_true] at hn';have hm:(h0.mat 4).2.2=true:=by
   cases hb:(h0.mat 4).2.2 with
   | true=>rfl
   | false=>rw[hb] at hn';simp at hn'
  rw[e2] at hxn;subst hxn
  exact sX F1 F2 s h0 h1 (hv h0 (by simp)) hm nm u tk fk lb uk ta fa ca xa ua tn tq fn fq cm cq 0 xq un uq w hk ht hvs
 by_cases h7:k=7
 ·subst h7
  have e2:hs0.length=2:=by have:aD 7=2:=rfl;omega
  obtain⟨h0,h1,rfl⟩:=len2 e2;rw[e2] at hxn;subst hxn
  exact sY F1 F2 s h0 h1 nm u tk fk lb uk ta fa ca xa ua tn tq fn fq cm cq 0 xq un uq w hk ht hvs
 by_cases h8:k=8
 ·subst h8
  have e2:hs0.length=2:=by have:aD 8=2:=rfl;omega
  obtain⟨h0,h1,rfl⟩:=len2 e2;rw[e2] at hxn;subst hxn
  exact sZ F1 F2 s h0 h1 nm u tk fk lb uk ta fa ca xa ua tn tq fn fq cm cq 0 xq un uq w hk ht hvs
 by_cases h9:k=9
 ·subst h9
  have e2:hs0.length=3:=by have:aD 9=3:=rfl;omega
  obtain⟨h0,h1,h2,rfl⟩:=len3 e2;rw[e2] at hxn;subst hxn
  exact t8 F1 F2 s h0 h1 h2 nm u tk fk lb uk ta fa ca xa ua tn tq fn fq cm cq 0 xq un uq w hk ht hvs
 have hpm:k=11∨k=12→∃h0,hs0 = [h0]∧(h0.mat 5).2.2=true:=by
  intro hk2;have e2:hs0.length=1:=by rcases hk2 with rfl | rfl<;>(have:aD 11=1:=rfl;have:aD 12=1:=rfl;omega)
  obtain⟨h0,rfl⟩:=len1 e2;have hn':=hn (by omega);simp only[aZ,if_neg (show ¬k=5 by omega),if_neg (show ¬k=13 by omega)] at hn';refine⟨h0,rfl,?_⟩
  cases hb:(h0.mat 5).2.2 with
  | true=>rfl
  | false=>rw[hb] at hn';simp at hn'
 by_cases h11:k=11
 ·subst h11
  obtain⟨h0,rfl,hm⟩:=hpm (.inl rfl);obtain rfl:xn=1:=by simpa using hxn
  exact oL F1 F2 s h0 (hv h0 (by simp)) hm nm u tk fk lb uk ta fa ca xa ua tn tq fn fq cm cq 0 xq un uq w hk ht hvs
 by_cases h12:k=12
 ·subst h12
  obtain⟨h0,rfl,hm⟩:=hpm (.inr rfl);obtain rfl:xn=1:=by simpa using hxn
  exact oM F1 F2 s h0 (hv h0 (by simp)) hm nm u tk fk lb uk ta fa ca xa ua tn tq fn fq cm cq 0 xq un uq w hk ht hvs
 by_cases h13:k=13
 ·subst h13
  have e2:hs0.length=1:=by have:aD 13=1:=rfl;omega
  obtain⟨h0,rfl⟩:=len1 e2;rw[e2] at hxn;subst hxn
  exact oN F1 F2 s h0 nm u tk fk lb uk ta fa ca xa ua tn tq fn fq cm cq 0 xq un uq w hk ht hvs
 exact tb F1 F2 s xn k (beq_eq_false_iff_ne.2 h6) (beq_eq_false_iff_ne.2 h7) (beq_eq_false_iff_ne.2 h8) (beq_eq_false_iff_ne.2 h9) (beq_eq_false_iff_ne.2 h11) (beq_eq_false_iff_ne.2 h12) (beq_eq_false_iff_ne.2 h13) hs0 hv hxn.symm nm u tk fk lb uk ta fa ca xa ua tn tq fn fq cm cq 0 xq un uq w hk ht hvs
def L3t (t:Tm)(d:Int):Prop:=∀(l:List Bd) (c y:Value) (W:World) (F G:Nat→Prop),t.shape 14 d=true→(l.length:Int)+d≤1000→d9 l→fl l c→aE F W l c→ax G W t y→Calls Tryz.prog 112 #[c,y] W (bH ((t.typS l).map S.ty) W)
theorem nS (t:Tm)(d:Int)(IH : ∀t'∈t.kids,L3t t' (d-1)):L3t t d:=by
 intro l c y W F G hsh hld hc hcv hb he
 cases t with
 | mk k nm u ty src lb ts=>
  obtain⟨hd,hk13,hlen,hown,hkids⟩:=Tm.shape_parts hsh;have hcnt : ∀b∈l,b.ty.cnt≤1048576:=fun b hb=>Ty.cnt_valid (hc b hb);obtain⟨k',nm',u',tk,ta,tn,tq,fk,fa,fn,fq,lb',ca,cm,cq,rfl⟩:=he.shape;obtain⟨e1,e2,e3,-,-,-,-,e8,hcm,hnm,-,-,hty,hsrc,hks⟩:=he.parts;simp only[Tm.kind,Tm.name,Tm.num,Tm.label,Tm.type] at e1 e2 e3 e8 hty;subst e1 e2 e3 e8;have hl0:(0:Int)≤aD k':=by rw[hlen];omega
  by_cases h1:k'=1
  ·subst h1
   have hL:=sP F l c nm' u' lb' tk fk ta fa ca tn tq fn fq cm cq W hb hcnt;rw[Tm.typS,if_pos rfl,mg hc]
   exact hL
  by_cases h2:k'=2
  ·subst h2
   rw[Tm.typS,if_neg (by omega),if_pos rfl]
   exact sQ c nm' u' lb' tk fk ta fa ca tn tq fn fq cm cq W
  by_cases h3:k'=3
  ·subst h3
   rw[Tm.typS,if_neg (by omega),if_neg (by omega),if_pos (by omega)]
   exact sR c nm' u' lb' tk fk ta fa ca tn tq fn fq cm cq W
  by_cases h4:k'=4
  ·subst h4
   rw[Tm.typS,if_neg (by omega),if_neg (by omega),if_pos (by omega)]
   exact sS c nm' u' lb' tk fk ta fa ca tn tq fn fq cm cq W
  by_cases h5:k'=5
  ·subst h5
   have hv:=kA hown (.inl rfl);obtain⟨t1,rfl⟩ : ∃t1,ts = [t1]:=List.length_eq_one_iff.1 (by simp[aD] at hlen;omega);have hc2:=hc.snoc (nm:=nm') hv;have hs1:t1.shape 14 (d-1)=true:=Tm.shapes_mem hkids (by simp);obtain⟨xa,xn,xq,rfl⟩:=hcv.shape;have HM:Hid (∀W',Below W.heap.size W W'→Calls Tryz.prog 109 #[.slice xa xn xq,.string nm',.agg #[.int .i64 tk,.slice ta tn tq]] W' (RetC (l ++ [⟨nm',ty⟩]) W')):=zq fun W' hW=>by
    rcases hcv with ⟨rfl,hx⟩ | ⟨hl1,a,m,q,hx⟩
    ·rw[hx];exact nR F G nm' ty tk ta tn tq W' hnm (hty.below hW)
    ·simp only[Value.slice.injEq] at hx
     obtain⟨rfl,rfl,rfl⟩:=hx
     exact u9 F G l a xn xq nm' ty tk ta tn tq W' (hb.below hW) (by omega) hl1 hnm (hty.below hW)
   have IHL:Hid (∀(W':World) (c' y':Value),Below W.heap.size W W'→aE (fun _=>True) W' (l ++ [⟨nm',ty⟩]) c'→ax G W' t1 y'→(∃a m q,c' = .slice (some a) m q)→Calls Tryz.prog 112 #[c',y'] W' (bH ((t1.typS (l ++ [⟨nm',ty⟩])).map S.ty) W')):=zq fun W' c' y' hW hb' he' hx=>
    IH t1 (by simp[Tm.kids]) _ c' y' W' _ G hs1 (by simp;omega) hc2 (.inr ⟨by simp,hx⟩) hb' he'
   cases hco:t1.typS (l ++ [⟨nm',ty⟩]) with
   | none=>exact nT G nm' u' lb' tk fk ty src t1 l xa ta fa ca xn xq tn tq fn fq cm cq W he hv HM IHL hco
   | some h1'=>exact nU G nm' u' lb' tk fk ty src t1 l xa ta fa ca xn xq tn tq fn fq cm cq W he hv HM IHL h1' (fi t1 _ _ hs1 hc2 _ hco) hco
  have hk:6≤k'∧k'≤13:=by
   unfold aD at hl0
   split at hl0
   ·omega
   split at hl0
   ·omega
   split at hl0
   ·omega
   split at hl0
   ·omega
   ·omega
  have hsm:ts.length≤3:=by
   have:aD k'≤3:=by unfold aD;repeat' split<;>omega
   omega
  obtain⟨xa,xn,xq,rfl⟩:=hcv.shape
  exact ub G k' nm' u' lb' tk fk ty src ts l xa ta fa ca xn xq tn tq fn fq cm cq W he
   (fun t' ht' W' y' hW he'=>IH t' ht' l _ y' W' F G (Tm.shapes_mem hkids ht') (by omega) hc hcv (hb.below hW) he')
   (fun t' ht' h e=>fi t' _ l (Tm.shapes_mem hkids ht') hc h e) hk hlen (fun h13=>kA hown (.inr h13)) hsm
theorem i6 : ∀(t:Tm) (d:Int),L3t t d
 | t,d=>nS t d fun t' ht'=>i6 t' (d-1)
termination_by t=>SizeOf.sizeOf t
decreasing_by exact Tm.kid_lt ht'
end Go.Proofs.YtfahhonmiimmdaaGreat

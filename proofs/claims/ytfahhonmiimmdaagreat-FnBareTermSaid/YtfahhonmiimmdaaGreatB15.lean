/- spec.l3Two, l3Int, l3Bool. And what else its parts name. -/
import Derived.Test.YtfahhonmiimmdaaGreatB9
set_option linter.unusedSimpArgs false
set_option linter.unusedVariables false
set_option maxRecDepth 100000
set_option maxHeartbeats 16000000
namespace Go.Proofs.YtfahhonmiimmdaaGreat
open Go.RowKit
theorem ap.setN {F:Nat→Prop}{w:World}{t:Ty}{y:Value}{g o:Nat}{v:Value}(h:ap F w t y)(hn : ∀b,F b→b≠g):ap F (w.setCell ⟨g,o,none⟩ v) t y:=
 h.move ⟨by simp[World.setCell],fun b hb _=>hb,fun b hb _=>Below.heap_setCell w ⟨g,o,none⟩ v b (hn b hb)⟩
theorem aE.one {F:Nat→Prop}{w:World}{t:Ty}{y:Value}(h:aE F w [t] y) :
  ∃b off cap k1 c1 m1 q1,y = .slice (some ⟨b,off,none⟩) 1 cap∧b<w.heap.size∧w.cell? ⟨b,off,none⟩=some (.int .i64 k1)∧w.cell? ⟨b,off+1,none⟩=some (.slice c1 m1 q1)∧ap F w t (.agg #[.int .i64 k1,.slice c1 m1 q1]):=by
 obtain⟨a,cap,rfl,h2,h3,hg⟩:=h.open;obtain⟨b,off,k1,c1,m1,q1,rfl,e0,e1,ht⟩:=hg 0 (by simp)
 exact⟨b,off,cap,k1,c1,m1,q1,rfl,World.block_lt_of_cell? _ _ e0,by simpa using e0,by simpa using e1,ht⟩
theorem ap.leafG {H:Nat→Prop}{w:World}(k:Int):ap H w (.mk k []) (.agg #[.int .i64 k,.slice none 0 0]):=by
 refine⟨_,rfl,?_⟩;unfold aE aM
 exact⟨none,0,rfl,Nat.le_refl _,by unfold maxLen;omega,.inl rfl⟩
theorem S.cnt_ok {s:S}(h:s.vd=true):s.ty.cnt≤1048576:=Ty.cnt_valid (by rw[S.valid];exact h)
theorem bB (w:World):Calls Tryz.prog 87 #[] w fun e w'=>e = .returned (.agg #[.int .i64 2,.slice none 0 0])∧Below w.heap.size w w':=by
 go_enter Tryz.func87,Tryz.ntmps87
 go_wp2_with fail
 refine bodyPost_ret (v:=.agg #[.int .i64 2,.slice none 0 0]) (by simp[results,Tryz.results87,go_sem]) rfl ?_
 exact⟨rfl,aj⟩
theorem dc (w:World):Calls Tryz.prog 85 #[] w fun e w'=>e = .returned (.agg #[.int .i64 3,.slice none 0 0])∧Below w.heap.size w w':=by
 go_enter Tryz.func85,Tryz.ntmps85
 go_wp2_with fail
 refine bodyPost_ret (v:=.agg #[.int .i64 3,.slice none 0 0]) (by simp[results,Tryz.results85,go_sem]) rfl ?_
 exact⟨rfl,aj⟩
def oT1_0:Oper:=⟨some 9,.move (.tmp 0),3,"l3_typing.go:17",#[],none⟩
def oT1_1:Oper:=⟨some 10,.load 25 (.tmp 4),25,"l3_typing.go:17",#[],none⟩
def jC:Oper:=⟨some 11,.call {callee:=.value (.func 81),args:=#[.tmp 10],argTypes:=#[25]},25,"l3_typing.go:17",#[⟨1,.data⟩],none⟩
def oT1_3:Oper:=⟨some 12,.load 25 (.tmp 5),25,"l3_typing.go:17",#[],none⟩
def eH:Oper:=⟨some 13,.call {callee:=.value (.func 81),args:=#[.tmp 12],argTypes:=#[25]},25,"l3_typing.go:17",#[⟨3,.data⟩,⟨2,.chain⟩],none⟩
def dT:Oper:=⟨some 14,.buildSlice 23 2 #[(0,.tmp 11),(1,.tmp 13)],23,"l3_typing.go:17",#[⟨2,.data⟩,⟨4,.data⟩],none⟩
def dU:Oper:=⟨some 15,.build 25 #[(0,.tmp 9),(1,.tmp 14)],25,"l3_typing.go:17",#[⟨0,.data⟩,⟨5,.data⟩],none⟩
def dV:Oper:=⟨some 8,.alloc 25,0,"l3_typing.go:17",#[],none⟩
def dW:Oper:=⟨none,.store 25 (.tmp 8) (.tmp 15),0,"l3_typing.go:17",#[⟨7,.data⟩,⟨6,.data⟩,⟨4,.chain⟩,⟨0,.phase⟩,⟨1,.phase⟩,⟨2,.phase⟩,⟨3,.phase⟩,⟨4,.phase⟩,⟨5,.phase⟩,⟨6,.phase⟩,⟨7,.phase⟩],none⟩
def dX:Oper:=⟨some 16,.load 25 (.tmp 8),25,"l3_typing.go:18",#[],none⟩
def dY:Oper:=⟨some 17,.load 25 (.tmp 8),25,"l3_typing.go:18",#[],none⟩
def dZ:Oper:=⟨some 18,.call {callee:=.value (.func 83),args:=#[.tmp 17],argTypes:=#[25]},4,"l3_typing.go:18",#[⟨1,.data⟩],none⟩
def e9:Oper:=⟨none,.store 25 (.tmp 6) (.tmp 16),0,"l3_typing.go:18",#[⟨0,.data⟩,⟨2,.chain⟩,⟨0,.phase⟩,⟨1,.textOnly .lateStores⟩,⟨2,.textOnly .lateStoresUnsure⟩],none⟩
def ea:Oper:=⟨some 7,.assign (.tmp 18),4,"l3_typing.go:18",#[⟨2,.data⟩,⟨3,.chain⟩,⟨0,.phase⟩,⟨1,.phase⟩,⟨2,.phase⟩,⟨3,.phase⟩],none⟩
theorem dI (G1 G2:Nat→Prop)(k:Int)(t u:Ty)(ak bk:Int)(aa ba:Option Addr)(an aq bn bq:Nat)(w:World)(ht:ap G1 w t (.agg #[.int .i64 ak,.slice aa an aq]))(hu:ap G2 w u (.agg #[.int .i64 bk,.slice ba bn bq]))(hct:t.cnt≤1048576)(hcu:u.cnt≤1048576) :
    Calls Tryz.prog 117 #[.int .i64 k,.agg #[.int .i64 ak,.slice aa an aq],.agg #[.int .i64 bk,.slice ba bn bq]] w (bM (if (Ty.mk k [t,u]).valid then some (.mk k [t,u]) else none) w):=by
  have HT:=zq ht.old;have HU:=zq hu.old;have HCT:=zq hct;have HCU:=zq hcu;clear ht hu hct hcu;generalize hvv:(Ty.mk k [t,u]).valid=vv;have HVV:=zq hvv;obtain⟨O,hO⟩ : ∃O:Option Ty,O=if vv=true then some (.mk k [t,u]) else none:=⟨_,rfl⟩
  rw[←hO];have HO:=zq hO;clear hvv hO
  go_enter Tryz.func117,Tryz.ntmps117
  go_wp2_with fail
  obtain⟨VV,hVV⟩ : ∃X,X=(((w.alloc (.cells #[.int .i64 ak,.slice aa an aq] 25)).alloc (.cells #[.int .i64 bk,.slice ba bn bq] 25)).alloc (.cells #[.int .i64 0,.slice none 0 0] 25)):=⟨_,rfl⟩
  have fA:VV.heap[w.heap.size]?=some (.cells #[.int .i64 ak,.slice aa an aq] 25 (0,0)):=by rw[hVV];exact ag (ag (aF rfl) aj) aj
  have fB:VV.heap[w.heap.size+1]?=some (.cells #[.int .i64 bk,.slice ba bn bq] 25 (0,0)):=by rw[hVV];exact ag (aF (by simp)) aj
  have fR:VV.heap[w.heap.size+1+1]?=some (.cells #[.int .i64 0,.slice none 0 0] 25 (0,0)):=by rw[hVV];exact aF (by simp)
  have fC:Hid (Below w.heap.size w VV):=by rw[hVV];exact zq (al (al aj aj) aj)
  have hT:Hid (ap (· < w.heap.size) VV t (.agg #[.int .i64 ak,.slice aa an aq])):=by rw[hVV];exact zq (((HT.out.below aj).below aj).below aj)
  have hU_:Hid (ap (· < w.heap.size) VV u (.agg #[.int .i64 bk,.slice ba bn bq])):=by rw[hVV];exact zq (((HU.out.below aj).below aj).below aj)
  rw[←hVV];have zV:VV.heap.size=_:=congrArg (fun X:World=>X.heap.size) hVV;simp only[World.size_alloc] at zV;refine wp_region_noPanic ?_;refine wp_region_held_drew (S:=fun w'=>w'.cell? ⟨w.heap.size,0,none⟩=some (.int .i64 ak)∧w'.cell? ⟨w.heap.size,1,none⟩=some (.slice aa an aq)∧w'.cell? ⟨w.heap.size+1,0,none⟩=some (.int .i64 bk)∧w'.cell? ⟨w.heap.size+1,1,none⟩=some (.slice ba bn bq)) (by kernel_rfl) ?_ (fun hH0=>?_)
  · exact⟨ah fA rfl,ah fA rfl,ah fB rfl,ah fB rfl⟩
  obtain⟨U1,hU,hb,zU1a,zU1b⟩:=bK VV;rw[hU] at hH0 ⊢;replace fA:=ag fA hb;replace fB:=ag fB hb;replace fR:=ag fR hb;replace fC:=zq (al fC.out hb);replace hT:=zq (hT.out.below hb);replace hU_:=zq (hU_.out.below hb);rw[zV] at zU1a zU1b;clear hU hb hVV zV;refine hwt 0 oT1_0 (.int .i64 k) hH0 ?_ ?_
  · intro w' hSw;dsimp only[oT1_0];go_simp
  try simp only[oT1_0,hwA]
  refine hwt 1 oT1_1 (.agg #[.int .i64 ak,.slice aa an aq]) hH0 ?_ ?_
  · intro w' hSw;dsimp only[oT1_1];go_simp
  try simp only[oT1_1,hwA]
  refine hwt 3 oT1_3 (.agg #[.int .i64 bk,.slice ba bn bq]) hH0 ?_ ?_
  · intro w' hSw;dsimp only[oT1_3];go_simp
  try simp only[oT1_3,hwA]
  refine wpAnyH_ready (rs:= [2,7]) (by kernel_rfl) (by simp) ?_;refine(AllReadyH.cons (o:=jC) rfl (fun K hK=>?_) (AllReadyH.cons (o:=dV) rfl (fun K hK=>?_) AllReadyH.nil))
  ·skip
   dsimp only[jC];go_simp
   go_at_call 81
   refine(bi _ t _ _ hT.out HCT.out).mono ?_;rintro e X1 ⟨v,rfl,hv,hb⟩;obtain⟨kc,ac,nc,qc,rfl⟩:=hv.shape;have hN1':=hv.rep.rg;clear hv
   go_wp2_with fail
   have zX1:U1.heap.size≤X1.heap.size:=hb.size;replace fA:=ag fA hb;replace fB:=ag fB hb;replace fR:=ag fR hb;replace fC:=zq (al fC.out hb);replace hT:=zq (hT.out.below hb);replace hU_:=zq (hU_.out.below hb);have hN1:=hN1';clear hN1';refine hK.out _ _ ⟨ah fA rfl,ah fA rfl,ah fB rfl,ah fB rfl⟩ (fun hH1=>?_);clear hK K hH0 hb
   try simp only[jC,hwA]
   refine wpAnyH_ready (rs:= [4,7]) (by kernel_rfl) (by simp) ?_;refine(AllReadyH.cons (o:=eH) rfl (fun K hK=>?_) (AllReadyH.cons (o:=dV) rfl (fun K hK=>?_) AllReadyH.nil))
   ·skip
    dsimp only[eH];go_simp
    go_at_call 81
    refine(bi _ u _ _ hU_.out HCU.out).mono ?_;rintro e X2 ⟨v,rfl,hv,hb⟩;obtain⟨kd,ad,nd,qd,rfl⟩:=hv.shape;have hN2':=hv.rep.rg;clear hv
    go_wp2_with fail
    have zX2:X1.heap.size≤X2.heap.size:=hb.size;replace fA:=ag fA hb;replace fB:=ag fB hb;replace fR:=ag fR hb;replace fC:=zq (al fC.out hb);replace hT:=zq (hT.out.below hb);replace hU_:=zq (hU_.out.below hb);replace hN1:=zq (hN1.out.below hb);have hN2:=hN2';clear hN2';refine hK.out _ _ ⟨ah fA rfl,ah fA rfl,ah fB rfl,ah fB rfl⟩ (fun hH2=>?_);clear hK K hH1 hb
    try simp only[eH,hwA]
    refine wpAnyH_ready (rs:= [5,7]) (by kernel_rfl) (by simp) ?_;refine(AllReadyH.cons (o:=dT) rfl (fun K hK=>?_) (AllReadyH.cons (o:=dV) rfl (fun K hK=>?_) AllReadyH.nil))
    ·skip
     dsimp only[dT];go_simp
     (try go_wp2_with fail);obtain⟨X3,hXq,hb,fN,zX3a,zX3b⟩:=aZ X2 (.cells #[.int .i64 kc,.slice ac nc qc,.int .i64 kd,.slice ad nd qd] 25);rw[hXq];replace fA:=ag fA hb;replace fB:=ag fB hb;replace fR:=ag fR hb;replace fC:=zq (al fC.out hb);replace hT:=zq (hT.out.below hb);replace hU_:=zq (hU_.out.below hb);replace hN1:=zq (hN1.out.below hb);replace hN2:=zq (hN2.out.below hb);refine hK.out _ _ ⟨ah fA rfl,ah fA rfl,ah fB rfl,ah fB rfl⟩ (fun hH3=>?_);clear hK K hH2 hb hXq
     try simp only[dT,hwA]
     refine hwt 6 dU (.agg #[.int .i64 k,.slice (some ⟨X2.heap.size,0,none⟩) 2 2]) hH3 ?_ ?_
     · intro w' hSw;dsimp only[dU];go_simp
     try simp only[dU,hwA]
     refine hwr 7 dV (fun K hK=>?_)
     dsimp only[dV];go_simp
     (try go_wp2_with fail);obtain⟨X4,hXq,hb,fV,zX4a,zX4b⟩:=aZ X3 (.cells #[.int .i64 0,.slice none 0 0] 25);rw[hXq];replace fA:=ag fA hb;replace fB:=ag fB hb;replace fR:=ag fR hb;replace fC:=zq (al fC.out hb);replace hT:=zq (hT.out.below hb);replace hU_:=zq (hU_.out.below hb);replace hN1:=zq (hN1.out.below hb);replace hN2:=zq (hN2.out.below hb);replace fN:=ag fN hb;refine hK.out _ _ ⟨ah fA rfl,ah fA rfl,ah fB rfl,ah fB rfl⟩ (fun hH4=>?_);clear hK K hH3 hb hXq
     try simp only[dV,hwA]
     refine hwr 8 dW (fun K hK=>?_);obtain⟨r0,r1,rf0,rf1⟩:=co fV
     dsimp only[dW];go_simp
     (try go_wp2_with fail);have hQq:=bC fV (.int .i64 k) (.slice (some ⟨X2.heap.size,0,none⟩) 2 2);clear fV r0 rf0 r1 rf1;obtain⟨X5,hXq,hsq,fV,zX5a,zX5b⟩:=hQq;rw[hXq];replace fA:=hsq.blk (by omega) fA;replace fB:=hsq.blk (by omega) fB;replace fR:=hsq.blk (by omega) fR;replace fC:=zq (hsq.bel fC.out (by omega));replace hT:=zq (hsq.rep (fun b hb=>by have:b<w.heap.size:=hb;omega) hT.out);replace hU_:=zq (hsq.rep (fun b hb=>by have:b<w.heap.size:=hb;omega) hU_.out);replace hN1:=zq (hsq.rep (fun b hb=>by have h1:U1.heap.size≤b:=hb.1;have h2:b<X1.heap.size:=hb.2;omega) hN1.out);replace hN2:=zq (hsq.rep (fun b hb=>by have h1:X1.heap.size≤b:=hb.1;have h2:b<X2.heap.size:=hb.2;omega) hN2.out);replace fN:=hsq.blk (by omega) fN;refine hK.out _ _ ⟨ah fA rfl,ah fA rfl,ah fB rfl,ah fB rfl⟩ (fun hH5=>?_);clear hK K hH4 hsq hXq
     try simp only[dW,hwA]
     refine wpAnyH_done (by kernel_rfl) ?_ _;refine NoPanic.normal ?_;clear hH5
     go_wp2_with fail
     refine wp_region_noPanic ?_;refine wp_region_held_drew (S:=fun w'=>w'.cell? ⟨X3.heap.size,0,none⟩=some (.int .i64 k)∧w'.cell? ⟨X3.heap.size,1,none⟩=some (.slice (some ⟨X2.heap.size,0,none⟩) 2 2)) (by kernel_rfl) ?_ (fun hH0=>?_)
     · exact⟨ah fV rfl,ah fV rfl⟩
     obtain⟨U2,hU,hb,zU2a,zU2b⟩:=bK X5;rw[hU] at hH0 ⊢;replace fA:=ag fA hb;replace fB:=ag fB hb;replace fR:=ag fR hb;replace fC:=zq (al fC.out hb);replace hT:=zq (hT.out.below hb);replace hU_:=zq (hU_.out.below hb);replace hN1:=zq (hN1.out.below hb);replace hN2:=zq (hN2.out.below hb);replace fN:=ag fN hb;replace fV:=ag fV hb;(try simp only[World.size_alloc] at zU2a zU2b);clear hU hb;refine hwt 0 dX (.agg #[.int .i64 k,.slice (some ⟨X2.heap.size,0,none⟩) 2 2]) hH0 ?_ ?_
     · intro w' hSw;dsimp only[dX];go_simp
     try simp only[dX,hwA]
     refine hwt 1 dY (.agg #[.int .i64 k,.slice (some ⟨X2.heap.size,0,none⟩) 2 2]) hH0 ?_ ?_
     · intro w' hSw;dsimp only[dY];go_simp
     try simp only[dY,hwA]
     refine hwr 2 dZ (fun K hK=>?_)
     dsimp only[dZ];go_simp
     go_at_call 83
     have hrd:ap (fun b=>False∨w.heap.size≤b) U2 (.mk k [t,u]) (.agg #[.int .i64 k,.slice (some ⟨X2.heap.size,0,none⟩) 2 2]):=ap.two_mk (F:=fun b=>False∨w.heap.size≤b) (w:=U2) (b:=X2.heap.size) (cap:=2) (k:=k) (t:=t) (u:=u) (k1:=kc) (k2:=kd) (c1:=.slice ac nc qc) (c2:=.slice ad nd qd) (.inr (by omega)) (Nat.le_refl 2) (by unfold maxLen;omega) (ah fN (o:=0) rfl) (ah fN (o:=1) rfl) (ah fN (o:=2) rfl) (ah fN (o:=3) rfl) (hN1.out.move (.weaken fun b h _=>.inr (by have h1:=h.1;omega))) (hN2.out.move (.weaken fun b h _=>.inr (by have h1:=h.1;omega)));refine(bZ _ (.mk k [t,u]) _ _ hrd).mono ?_;rintro e X26 ⟨rfl,hb⟩;rw[HVV.out];clear hrd
     go_wp2_with fail
     have zX26:U2.heap.size≤X26.heap.size:=hb.size;replace fA:=ag fA hb;replace fB:=ag fB hb;replace fR:=ag fR hb;replace fC:=zq (al fC.out hb);replace hT:=zq (hT.out.below hb);replace hU_:=zq (hU_.out.below hb);replace hN1:=zq (hN1.out.below hb);replace hN2:=zq (hN2.out.below hb);replace fN:=ag fN hb;replace fV:=ag fV hb;refine hK.out _ _ ⟨ah fV rfl,ah fV rfl⟩ (fun hH46=>?_);clear hK K hH0 hb
     try simp only[dZ,hwA]
     refine hwr 3 e9 (fun K hK=>?_);obtain⟨r0,r1,rf0,rf1⟩:=co fR
     dsimp only[e9];go_simp
     (try go_wp2_with fail);have hQq:=bC fR (.int .i64 k) (.slice (some ⟨X2.heap.size,0,none⟩) 2 2);clear fR r0 rf0 r1 rf1;obtain⟨X27,hXq,hsq,fR,zX27a,zX27b⟩:=hQq;rw[hXq];replace fA:=hsq.blk (by omega) fA;replace fB:=hsq.blk (by omega) fB;replace fC:=zq (hsq.bel fC.out (by omega));replace hT:=zq (hsq.rep (fun b hb=>by have:b<w.heap.size:=hb;omega) hT.out);replace hU_:=zq (hsq.rep (fun b hb=>by have:b<w.heap.size:=hb;omega) hU_.out);replace hN1:=zq (hsq.rep (fun b hb=>by have h1:U1.heap.size≤b:=hb.1;have h2:b<X1.heap.size:=hb.2;omega) hN1.out);replace hN2:=zq (hsq.rep (fun b hb=>by have h1:X1.heap.size≤b:=hb.1;have h2:b<X2.heap.size:=hb.2;omega) hN2.out);replace fN:=hsq.blk (by omega) fN;replace fV:=hsq.blk (by omega) fV;refine hK.out _ _ ⟨ah fV rfl,ah fV rfl⟩ (fun hH47=>?_);clear hK K hH46 hsq hXq
     try simp only[e9,hwA]
     refine hwt 4 ea (.bool vv) hH47 ?_ ?_
     · intro w' hSw;dsimp only[ea];go_simp
     try simp only[ea,hwA]
     refine wpAnyH_done (by kernel_rfl) ?_ _;refine NoPanic.normal ?_;clear hH47;obtain⟨rc0,rc1⟩:=blk2 fR
     go_wp2_with fail
     refine bodyPost_ret (v:=.tuple #[.agg #[.int .i64 k,.slice (some ⟨X2.heap.size,0,none⟩) 2 2],.bool vv]) (by simp[results,Tryz.results117,go_sem,rc0,rc1]) rfl ?_;have hrd:ap (fun b=>False∨w.heap.size≤b) X27 (.mk k [t,u]) (.agg #[.int .i64 k,.slice (some ⟨X2.heap.size,0,none⟩) 2 2]):=ap.two_mk (F:=fun b=>False∨w.heap.size≤b) (w:=X27) (b:=X2.heap.size) (cap:=2) (k:=k) (t:=t) (u:=u) (k1:=kc) (k2:=kd) (c1:=.slice ac nc qc) (c2:=.slice ad nd qd) (.inr (by omega)) (Nat.le_refl 2) (by unfold maxLen;omega) (ah fN (o:=0) rfl) (ah fN (o:=1) rfl) (ah fN (o:=2) rfl) (ah fN (o:=3) rfl) (hN1.out.move (.weaken fun b h _=>.inr (by have h1:=h.1;omega))) (hN2.out.move (.weaken fun b h _=>.inr (by have h1:=h.1;omega)))
     exact⟨_,_,_,_,_,.mk k [t,u],rfl,(by rw[HO.out];cases vv<;>rfl),hrd,(by rw[HO.out];intro s h;cases vv<;>simp at h;exact h),fC.out⟩
    ·skip
     dsimp only[dV];go_simp
     (try go_wp2_with fail);obtain⟨X28,hXq,hb,fV,zX28a,zX28b⟩:=aZ X2 (.cells #[.int .i64 0,.slice none 0 0] 25);rw[hXq];replace fA:=ag fA hb;replace fB:=ag fB hb;replace fR:=ag fR hb;replace fC:=zq (al fC.out hb);replace hT:=zq (hT.out.below hb);replace hU_:=zq (hU_.out.below hb);replace hN1:=zq (hN1.out.below hb);replace hN2:=zq (hN2.out.below hb);refine hK.out _ _ ⟨ah fA rfl,ah fA rfl,ah fB rfl,ah fB rfl⟩ (fun hH3=>?_);clear hK K hH2 hb hXq
     try simp only[dV,hwA]
     refine hwr 5 dT (fun K hK=>?_)
     dsimp only[dT];go_simp
     (try go_wp2_with fail);obtain⟨X29,hXq,hb,fN,zX29a,zX29b⟩:=aZ X28 (.cells #[.int .i64 kc,.slice ac nc qc,.int .i64 kd,.slice ad nd qd] 25);rw[hXq];replace fA:=ag fA hb;replace fB:=ag fB hb;replace fR:=ag fR hb;replace fC:=zq (al fC.out hb);replace hT:=zq (hT.out.below hb);replace hU_:=zq (hU_.out.below hb);replace hN1:=zq (hN1.out.below hb);replace hN2:=zq (hN2.out.below hb);replace fV:=ag fV hb;refine hK.out _ _ ⟨ah fA rfl,ah fA rfl,ah fB rfl,ah fB rfl⟩ (fun hH48=>?_);clear hK K hH3 hb hXq
     try simp only[dT,hwA]
     refine hwt 6 dU (.agg #[.int .i64 k,.slice (some ⟨X28.heap.size,0,none⟩) 2 2]) hH48 ?_ ?_
     · intro w' hSw;dsimp only[dU];go_simp
     try simp only[dU,hwA]
     refine hwr 8 dW (fun K hK=>?_);obtain⟨r0,r1,rf0,rf1⟩:=co fV
     dsimp only[dW];go_simp
     (try go_wp2_with fail);have hQq:=bC fV (.int .i64 k) (.slice (some ⟨X28.heap.size,0,none⟩) 2 2);clear fV r0 rf0 r1 rf1;obtain⟨X30,hXq,hsq,fV,zX30a,zX30b⟩:=hQq;rw[hXq];replace fA:=hsq.blk (by omega) fA;replace fB:=hsq.blk (by omega) fB;replace fR:=hsq.blk (by omega) fR;replace fC:=zq (hsq.bel fC.out (by omega));replace hT:=zq (hsq.rep (fun b hb=>by have:b<w.heap.size:=hb;omega) hT.out);replace hU_:=zq (hsq.rep (fun b hb=>by have:b<w.heap.size:=hb;omega) hU_.out);replace hN1:=zq (hsq.rep (fun b hb=>by have h1:U1.heap.size≤b:=hb.1;have h2:b<X1.heap.size:=hb.2;omega) hN1.out);replace hN2:=zq (hsq.rep (fun b hb=>by have h1:X1.heap.size≤b:=hb.1;have h2:b<X2.heap.size:=hb.2;omega) hN2.out);replace fN:=hsq.blk (by omega) fN;refine hK.out _ _ ⟨ah fA rfl,ah fA rfl,ah fB rfl,ah fB rfl⟩ (fun hH49=>?_);clear hK K hH48 hsq hXq
     try simp only[dW,hwA]
     refine wpAnyH_done (by kernel_rfl) ?_ _;refine NoPanic.normal ?_;clear hH49
     go_wp2_with fail
     refine wp_region_noPanic ?_;refine wp_region_held_drew (S:=fun w'=>w'.cell? ⟨X2.heap.size,0,none⟩=some (.int .i64 k)∧w'.cell? ⟨X2.heap.size,1,none⟩=some (.slice (some ⟨X28.heap.size,0,none⟩) 2 2)) (by kernel_rfl) ?_ (fun hH0=>?_)
     · exact⟨ah fV rfl,ah fV rfl⟩
     obtain⟨U3,hU,hb,zU3a,zU3b⟩:=bK X30;rw[hU] at hH0 ⊢;replace fA:=ag fA hb;replace fB:=ag fB hb;replace fR:=ag fR hb;replace fC:=zq (al fC.out hb);replace hT:=zq (hT.out.below hb);replace hU_:=zq (hU_.out.below hb);replace hN1:=zq (hN1.out.below hb);replace hN2:=zq (hN2.out.below hb);replace fV:=ag fV hb;replace fN:=ag fN hb;(try simp only[World.size_alloc] at zU3a zU3b);clear hU hb;refine hwt 0 dX (.agg #[.int .i64 k,.slice (some ⟨X28.heap.size,0,none⟩) 2 2]) hH0 ?_ ?_
     · intro w' hSw;dsimp only[dX];go_simp
     try simp only[dX,hwA]
     refine hwt 1 dY (.agg #[.int .i64 k,.slice (some ⟨X28.heap.size,0,none⟩) 2 2]) hH0 ?_ ?_
     · intro w' hSw;dsimp only[dY];go_simp
     try simp only[dY,hwA]
     refine hwr 2 dZ (fun K hK=>?_)
     dsimp only[dZ];go_simp
     go_at_call 83
     have hrd:ap (fun b=>False∨w.heap.size≤b) U3 (.mk k [t,u]) (.agg #[.int .i64 k,.slice (some ⟨X28.heap.size,0,none⟩) 2 2]):=ap.two_mk (F:=fun b=>False∨w.heap.size≤b) (w:=U3) (b:=X28.heap.size) (cap:=2) (k:=k) (t:=t) (u:=u) (k1:=kc) (k2:=kd) (c1:=.slice ac nc qc) (c2:=.slice ad nd qd) (.inr (by omega)) (Nat.le_refl 2) (by unfold maxLen;omega) (ah fN (o:=0) rfl) (ah fN (o:=1) rfl) (ah fN (o:=2) rfl) (ah fN (o:=3) rfl) (hN1.out.move (.weaken fun b h _=>.inr (by have h1:=h.1;omega))) (hN2.out.move (.weaken fun b h _=>.inr (by have h1:=h.1;omega)));refine(bZ _ (.mk k [t,u]) _ _ hrd).mono ?_;rintro e X51 ⟨rfl,hb⟩;rw[HVV.out];clear hrd
     go_wp2_with fail
     have zX51:U3.heap.size≤X51.heap.size:=hb.size;replace fA:=ag fA hb;replace fB:=ag fB hb;replace fR:=ag fR hb;replace fC:=zq (al fC.out hb);replace hT:=zq (hT.out.below hb);replace hU_:=zq (hU_.out.below hb);replace hN1:=zq (hN1.out.below hb);replace hN2:=zq (hN2.out.below hb);replace fV:=ag fV hb;replace fN:=ag fN hb;refine hK.out _ _ ⟨ah fV rfl,ah fV rfl⟩ (fun hH90=>?_);clear hK K hH0 hb
     try simp only[dZ,hwA]
     refine hwr 3 e9 (fun K hK=>?_);obtain⟨r0,r1,rf0,rf1⟩:=co fR
     dsimp only[e9];go_simp
     (try go_wp2_with fail);have hQq:=bC fR (.int .i64 k) (.slice (some ⟨X28.heap.size,0,none⟩) 2 2);clear fR r0 rf0 r1 rf1;obtain⟨X52,hXq,hsq,fR,zX52a,zX52b⟩:=hQq;rw[hXq];replace fA:=hsq.blk (by omega) fA;replace fB:=hsq.blk (by omega) fB;replace fC:=zq (hsq.bel fC.out (by omega));replace hT:=zq (hsq.rep (fun b hb=>by have:b<w.heap.size:=hb;omega) hT.out);replace hU_:=zq (hsq.rep (fun b hb=>by have:b<w.heap.size:=hb;omega) hU_.out);replace hN1:=zq (hsq.rep (fun b hb=>by have h1:U1.heap.size≤b:=hb.1;have h2:b<X1.heap.size:=hb.2;omega) hN1.out);replace hN2:=zq (hsq.rep (fun b hb=>by have h1:X1.heap.size≤b:=hb.1;have h2:b<X2.heap.size:=hb.2;omega) hN2.out);replace fV:=hsq.blk (by omega) fV;replace fN:=hsq.blk (by omega) fN;refine hK.out _ _ ⟨ah fV rfl,ah fV rfl⟩ (fun hH91=>?_);clear hK K hH90 hsq hXq
     try simp only[e9,hwA]
     refine hwt 4 ea (.bool vv) hH91 ?_ ?_
     · intro w' hSw;dsimp only[ea];go_simp
     try simp only[ea,hwA]
     refine wpAnyH_done (by kernel_rfl) ?_ _;refine NoPanic.normal ?_;clear hH91;obtain⟨rc0,rc1⟩:=blk2 fR
     go_wp2_with fail
     refine bodyPost_ret (v:=.tuple #[.agg #[.int .i64 k,.slice (some ⟨X28.heap.size,0,none⟩) 2 2],.bool vv]) (by simp[results,Tryz.results117,go_sem,rc0,rc1]) rfl ?_;have hrd:ap (fun b=>False∨w.heap.size≤b) X52 (.mk k [t,u]) (.agg #[.int .i64 k,.slice (some ⟨X28.heap.size,0,none⟩) 2 2]):=ap.two_mk (F:=fun b=>False∨w.heap.size≤b) (w:=X52) (b:=X28.heap.size) (cap:=2) (k:=k) (t:=t) (u:=u) (k1:=kc) (k2:=kd) (c1:=.slice ac nc qc) (c2:=.slice ad nd qd) (.inr (by omega)) (Nat.le_refl 2) (by unfold maxLen;omega) (ah fN (o:=0) rfl) (ah fN (o:=1) rfl) (ah fN (o:=2) rfl) (ah fN (o:=3) rfl) (hN1.out.move (.weaken fun b h _=>.inr (by have h1:=h.1;omega))) (hN2.out.move (.weaken fun b h _=>.inr (by have h1:=h.1;omega)))
     exact⟨_,_,_,_,_,.mk k [t,u],rfl,(by rw[HO.out];cases vv<;>rfl),hrd,(by rw[HO.out];intro s h;cases vv<;>simp at h;exact h),fC.out⟩
   ·skip
    dsimp only[dV];go_simp
    (try go_wp2_with fail);obtain⟨X53,hXq,hb,fV,zX53a,zX53b⟩:=aZ X1 (.cells #[.int .i64 0,.slice none 0 0] 25);rw[hXq];replace fA:=ag fA hb;replace fB:=ag fB hb;replace fR:=ag fR hb;replace fC:=zq (al fC.out hb);replace hT:=zq (hT.out.below hb);replace hU_:=zq (hU_.out.below hb);replace hN1:=zq (hN1.out.below hb);refine hK.out _ _ ⟨ah fA rfl,ah fA rfl,ah fB rfl,ah fB rfl⟩ (fun hH2=>?_);clear hK K hH1 hb hXq
    try simp only[dV,hwA]
    refine hwr 4 eH (fun K hK=>?_)
    dsimp only[eH];go_simp
    go_at_call 81
    refine(bi _ u _ _ hU_.out HCU.out).mono ?_;rintro e X54 ⟨v,rfl,hv,hb⟩;obtain⟨kd,ad,nd,qd,rfl⟩:=hv.shape;have hN2':=hv.rep.rg;clear hv
    go_wp2_with fail
    have zX54:X53.heap.size≤X54.heap.size:=hb.size;replace fA:=ag fA hb;replace fB:=ag fB hb;replace fR:=ag fR hb;replace fC:=zq (al fC.out hb);replace hT:=zq (hT.out.below hb);replace hU_:=zq (hU_.out.below hb);replace hN1:=zq (hN1.out.below hb);replace fV:=ag fV hb;have hN2:=hN2';clear hN2';refine hK.out _ _ ⟨ah fA rfl,ah fA rfl,ah fB rfl,ah fB rfl⟩ (fun hH92=>?_);clear hK K hH2 hb
    try simp only[eH,hwA]
    refine hwr 5 dT (fun K hK=>?_)
    dsimp only[dT];go_simp
    (try go_wp2_with fail);obtain⟨X55,hXq,hb,fN,zX55a,zX55b⟩:=aZ X54 (.cells #[.int .i64 kc,.slice ac nc qc,.int .i64 kd,.slice ad nd qd] 25);rw[hXq];replace fA:=ag fA hb;replace fB:=ag fB hb;replace fR:=ag fR hb;replace fC:=zq (al fC.out hb);replace hT:=zq (hT.out.below hb);replace hU_:=zq (hU_.out.below hb);replace hN1:=zq (hN1.out.below hb);replace fV:=ag fV hb;replace hN2:=zq (hN2.out.below hb);refine hK.out _ _ ⟨ah fA rfl,ah fA rfl,ah fB rfl,ah fB rfl⟩ (fun hH93=>?_);clear hK K hH92 hb hXq
    try simp only[dT,hwA]
    refine hwt 6 dU (.agg #[.int .i64 k,.slice (some ⟨X54.heap.size,0,none⟩) 2 2]) hH93 ?_ ?_
    · intro w' hSw;dsimp only[dU];go_simp
    try simp only[dU,hwA]
    refine hwr 8 dW (fun K hK=>?_);obtain⟨r0,r1,rf0,rf1⟩:=co fV
    dsimp only[dW];go_simp
    (try go_wp2_with fail);have hQq:=bC fV (.int .i64 k) (.slice (some ⟨X54.heap.size,0,none⟩) 2 2);clear fV r0 rf0 r1 rf1;obtain⟨X56,hXq,hsq,fV,zX56a,zX56b⟩:=hQq;rw[hXq];replace fA:=hsq.blk (by omega) fA;replace fB:=hsq.blk (by omega) fB;replace fR:=hsq.blk (by omega) fR;replace fC:=zq (hsq.bel fC.out (by omega));replace hT:=zq (hsq.rep (fun b hb=>by have:b<w.heap.size:=hb;omega) hT.out);replace hU_:=zq (hsq.rep (fun b hb=>by have:b<w.heap.size:=hb;omega) hU_.out);replace hN1:=zq (hsq.rep (fun b hb=>by have h1:U1.heap.size≤b:=hb.1;have h2:b<X1.heap.size:=hb.2;omega) hN1.out);replace hN2:=zq (hsq.rep (fun b hb=>by have h1:X53.heap.size≤b:=hb.1;have h2:b<X54.heap.size:=hb.2;omega) hN2.out);replace fN:=hsq.blk (by omega) fN;refine hK.out _ _ ⟨ah fA rfl,ah fA rfl,ah fB rfl,ah fB rfl⟩ (fun hH94=>?_);clear hK K hH93 hsq hXq
    try simp only[dW,hwA]
    refine wpAnyH_done (by kernel_rfl) ?_ _;refine NoPanic.normal ?_;clear hH94
    go_wp2_with fail
    refine wp_region_noPanic ?_;refine wp_region_held_drew (S:=fun w'=>w'.cell? ⟨X1.heap.size,0,none⟩=some (.int .i64 k)∧w'.cell? ⟨X1.heap.size,1,none⟩=some (.slice (some ⟨X54.heap.size,0,none⟩) 2 2)) (by kernel_rfl) ?_ (fun hH0=>?_)
    · exact⟨ah fV rfl,ah fV rfl⟩
    obtain⟨U4,hU,hb,zU4a,zU4b⟩:=bK X56;rw[hU] at hH0 ⊢;replace fA:=ag fA hb;replace fB:=ag fB hb;replace fR:=ag fR hb;replace fC:=zq (al fC.out hb);replace hT:=zq (hT.out.below hb);replace hU_:=zq (hU_.out.below hb);replace hN1:=zq (hN1.out.below hb);replace fV:=ag fV hb;replace hN2:=zq (hN2.out.below hb);replace fN:=ag fN hb;(try simp only[World.size_alloc] at zU4a zU4b);clear hU hb;refine hwt 0 dX (.agg #[.int .i64 k,.slice (some ⟨X54.heap.size,0,none⟩) 2 2]) hH0 ?_ ?_
    · intro w' hSw;dsimp only[dX];go_simp
    try simp only[dX,hwA]
    refine hwt 1 dY (.agg #[.int .i64 k,.slice (some ⟨X54.heap.size,0,none⟩) 2 2]) hH0 ?_ ?_
    · intro w' hSw;dsimp only[dY];go_simp
    try simp only[dY,hwA]
    refine hwr 2 dZ (fun K hK=>?_)
    dsimp only[dZ];go_simp
    go_at_call 83
    have hrd:ap (fun b=>False∨w.heap.size≤b) U4 (.mk k [t,u]) (.agg #[.int .i64 k,.slice (some ⟨X54.heap.size,0,none⟩) 2 2]):=ap.two_mk (F:=fun b=>False∨w.heap.size≤b) (w:=U4) (b:=X54.heap.size) (cap:=2) (k:=k) (t:=t) (u:=u) (k1:=kc) (k2:=kd) (c1:=.slice ac nc qc) (c2:=.slice ad nd qd) (.inr (by omega)) (Nat.le_refl 2) (by unfold maxLen;omega) (ah fN (o:=0) rfl) (ah fN (o:=1) rfl) (ah fN (o:=2) rfl) (ah fN (o:=3) rfl) (hN1.out.move (.weaken fun b h _=>.inr (by have h1:=h.1;omega))) (hN2.out.move (.weaken fun b h _=>.inr (by have h1:=h.1;omega)));refine(bZ _ (.mk k [t,u]) _ _ hrd).mono ?_;rintro e X77 ⟨rfl,hb⟩;rw[HVV.out];clear hrd
    go_wp2_with fail
    have zX77:U4.heap.size≤X77.heap.size:=hb.size;replace fA:=ag fA hb;replace fB:=ag fB hb;replace fR:=ag fR hb;replace fC:=zq (al fC.out hb);replace hT:=zq (hT.out.below hb);replace hU_:=zq (hU_.out.below hb);replace hN1:=zq (hN1.out.below hb);replace fV:=ag fV hb;replace hN2:=zq (hN2.out.below hb);replace fN:=ag fN hb;refine hK.out _ _ ⟨ah fV rfl,ah fV rfl⟩ (fun hH135=>?_);clear hK K hH0 hb
    try simp only[dZ,hwA]
    refine hwr 3 e9 (fun K hK=>?_);obtain⟨r0,r1,rf0,rf1⟩:=co fR
    dsimp only[e9];go_simp
    (try go_wp2_with fail);have hQq:=bC fR (.int .i64 k) (.slice (some ⟨X54.heap.size,0,none⟩) 2 2);clear fR r0 rf0 r1 rf1;obtain⟨X78,hXq,hsq,fR,zX78a,zX78b⟩:=hQq;rw[hXq];replace fA:=hsq.blk (by omega) fA;replace fB:=hsq.blk (by omega) fB;replace fC:=zq (hsq.bel fC.out (by omega));replace hT:=zq (hsq.rep (fun b hb=>by have:b<w.heap.size:=hb;omega) hT.out);replace hU_:=zq (hsq.rep (fun b hb=>by have:b<w.heap.size:=hb;omega) hU_.out);replace hN1:=zq (hsq.rep (fun b hb=>by have h1:U1.heap.size≤b:=hb.1;have h2:b<X1.heap.size:=hb.2;omega) hN1.out);replace fV:=hsq.blk (by omega) fV;replace hN2:=zq (hsq.rep (fun b hb=>by have h1:X53.heap.size≤b:=hb.1;have h2:b<X54.heap.size:=hb.2;omega) hN2.out);replace fN:=hsq.blk (by omega) fN;refine hK.out _ _ ⟨ah fV rfl,ah fV rfl⟩ (fun hH136=>?_);clear hK K hH135 hsq hXq
    try simp only[e9,hwA]
    refine hwt 4 ea (.bool vv) hH136 ?_ ?_
    · intro w' hSw;dsimp only[ea];go_simp
    try simp only[ea,hwA]
    refine wpAnyH_done (by kernel_rfl) ?_ _;refine NoPanic.normal ?_;clear hH136;obtain⟨rc0,rc1⟩:=blk2 fR
    go_wp2_with fail
    refine bodyPost_ret (v:=.tuple #[.agg #[.int .i64 k,.slice (some ⟨X54.heap.size,0,none⟩) 2 2],.bool vv]) (by simp[results,Tryz.results117,go_sem,rc0,rc1]) rfl ?_;have hrd:ap (fun b=>False∨w.heap.size≤b) X78 (.mk k [t,u]) (.agg #[.int .i64 k,.slice (some ⟨X54.heap.size,0,none⟩) 2 2]):=ap.two_mk (F:=fun b=>False∨w.heap.size≤b) (w:=X78) (b:=X54.heap.size) (cap:=2) (k:=k) (t:=t) (u:=u) (k1:=kc) (k2:=kd) (c1:=.slice ac nc qc) (c2:=.slice ad nd qd) (.inr (by omega)) (Nat.le_refl 2) (by unfold maxLen;omega) (ah fN (o:=0) rfl) (ah fN (o:=1) rfl) (ah fN (o:=2) rfl) (ah fN (o:=3) rfl) (hN1.out.move (.weaken fun b h _=>.inr (by have h1:=h.1;omega))) (hN2.out.move (.weaken fun b h _=>.inr (by have h1:=h.1;omega)))
    exact⟨_,_,_,_,_,.mk k [t,u],rfl,(by rw[HO.out];cases vv<;>rfl),hrd,(by rw[HO.out];intro s h;cases vv<;>simp at h;exact h),fC.out⟩
  ·skip
   dsimp only[dV];go_simp
   (try go_wp2_with fail);obtain⟨X79,hXq,hb,fV,zX79a,zX79b⟩:=aZ U1 (.cells #[.int .i64 0,.slice none 0 0] 25);rw[hXq];replace fA:=ag fA hb;replace fB:=ag fB hb;replace fR:=ag fR hb;replace fC:=zq (al fC.out hb);replace hT:=zq (hT.out.below hb);replace hU_:=zq (hU_.out.below hb);refine hK.out _ _ ⟨ah fA rfl,ah fA rfl,ah fB rfl,ah fB rfl⟩ (fun hH1=>?_);clear hK K hH0 hb hXq
   try simp only[dV,hwA]
   refine hwr 2 jC (fun K hK=>?_)
   dsimp only[jC];go_simp
   go_at_call 81
   refine(bi _ t _ _ hT.out HCT.out).mono ?_;rintro e X80 ⟨v,rfl,hv,hb⟩;obtain⟨kc,ac,nc,qc,rfl⟩:=hv.shape;have hN1':=hv.rep.rg;clear hv
   go_wp2_with fail
   have zX80:X79.heap.size≤X80.heap.size:=hb.size;replace fA:=ag fA hb;replace fB:=ag fB hb;replace fR:=ag fR hb;replace fC:=zq (al fC.out hb);replace hT:=zq (hT.out.below hb);replace hU_:=zq (hU_.out.below hb);replace fV:=ag fV hb;have hN1:=hN1';clear hN1';refine hK.out _ _ ⟨ah fA rfl,ah fA rfl,ah fB rfl,ah fB rfl⟩ (fun hH137=>?_);clear hK K hH1 hb
   try simp only[jC,hwA]
   refine hwr 4 eH (fun K hK=>?_)
   dsimp only[eH];go_simp
   go_at_call 81
   refine(bi _ u _ _ hU_.out HCU.out).mono ?_;rintro e X81 ⟨v,rfl,hv,hb⟩;obtain⟨kd,ad,nd,qd,rfl⟩:=hv.shape;have hN2':=hv.rep.rg;clear hv
   go_wp2_with fail
   have zX81:X80.heap.size≤X81.heap.size:=hb.size;replace fA:=ag fA hb;replace fB:=ag fB hb;replace fR:=ag fR hb;replace fC:=zq (al fC.out hb);replace hT:=zq (hT.out.below hb);replace hU_:=zq (hU_.out.below hb);replace fV:=ag fV hb;replace hN1:=zq (hN1.out.below hb);have hN2:=hN2';clear hN2';refine hK.out _ _ ⟨ah fA rfl,ah fA rfl,ah fB rfl,ah fB rfl⟩ (fun hH138=>?_);clear hK K hH137 hb
   try simp only[eH,hwA]
   refine hwr 5 dT (fun K hK=>?_)
   dsimp only[dT];go_simp
   (try go_wp2_with fail);obtain⟨X82,hXq,hb,fN,zX82a,zX82b⟩:=aZ X81 (.cells #[.int .i64 kc,.slice ac nc qc,.int .i64 kd,.slice ad nd qd] 25);rw[hXq];replace fA:=ag fA hb;replace fB:=ag fB hb;replace fR:=ag fR hb;replace fC:=zq (al fC.out hb);replace hT:=zq (hT.out.below hb);replace hU_:=zq (hU_.out.below hb);replace fV:=ag fV hb;replace hN1:=zq (hN1.out.below hb);replace hN2:=zq (hN2.out.below hb);refine hK.out _ _ ⟨ah fA rfl,ah fA rfl,ah fB rfl,ah fB rfl⟩ (fun hH139=>?_);clear hK K hH138 hb hXq
   try simp only[dT,hwA]
   refine hwt 6 dU (.agg #[.int .i64 k,.slice (some ⟨X81.heap.size,0,none⟩) 2 2]) hH139 ?_ ?_
   · intro w' hSw;dsimp only[dU];go_simp
   try simp only[dU,hwA]
   refine hwr 8 dW (fun K hK=>?_);obtain⟨r0,r1,rf0,rf1⟩:=co fV
   dsimp only[dW];go_simp
   (try go_wp2_with fail);have hQq:=bC fV (.int .i64 k) (.slice (some ⟨X81.heap.size,0,none⟩) 2 2);clear fV r0 rf0 r1 rf1;obtain⟨X83,hXq,hsq,fV,zX83a,zX83b⟩:=hQq;rw[hXq];replace fA:=hsq.blk (by omega) fA;replace fB:=hsq.blk (by omega) fB;replace fR:=hsq.blk (by omega) fR;replace fC:=zq (hsq.bel fC.out (by omega));replace hT:=zq (hsq.rep (fun b hb=>by have:b<w.heap.size:=hb;omega) hT.out);replace hU_:=zq (hsq.rep (fun b hb=>by have:b<w.heap.size:=hb;omega) hU_.out);replace hN1:=zq (hsq.rep (fun b hb=>by have h1:X79.heap.size≤b:=hb.1;have h2:b<X80.heap.size:=hb.2;omega) hN1.out);replace hN2:=zq (hsq.rep (fun b hb=>by have h1:X80.heap.size≤b:=hb.1;have h2:b<X81.heap.size:=hb.2;omega) hN2.out);replace fN:=hsq.blk (by omega) fN;refine hK.out _ _ ⟨ah fA rfl,ah fA rfl,ah fB rfl,ah fB rfl⟩ (fun hH140=>?_);clear hK K hH139 hsq hXq
   try simp only[dW,hwA]
   refine wpAnyH_done (by kernel_rfl) ?_ _;refine NoPanic.normal ?_;clear hH140
   go_wp2_with fail
   refine wp_region_noPanic ?_;refine wp_region_held_drew (S:=fun w'=>w'.cell? ⟨U1.heap.size,0,none⟩=some (.int .i64 k)∧w'.cell? ⟨U1.heap.size,1,none⟩=some (.slice (some ⟨X81.heap.size,0,none⟩) 2 2)) (by kernel_rfl) ?_ (fun hH0=>?_)
   · exact⟨ah fV rfl,ah fV rfl⟩
   obtain⟨U5,hU,hb,zU5a,zU5b⟩:=bK X83;rw[hU] at hH0 ⊢;replace fA:=ag fA hb;replace fB:=ag fB hb;replace fR:=ag fR hb;replace fC:=zq (al fC.out hb);replace hT:=zq (hT.out.below hb);replace hU_:=zq (hU_.out.below hb);replace fV:=ag fV hb;replace hN1:=zq (hN1.out.below hb);replace hN2:=zq (hN2.out.below hb);replace fN:=ag fN hb;(try simp only[World.size_alloc] at zU5a zU5b);clear hU hb;refine hwt 0 dX (.agg #[.int .i64 k,.slice (some ⟨X81.heap.size,0,none⟩) 2 2]) hH0 ?_ ?_
   · intro w' hSw;dsimp only[dX];go_simp
   try simp only[dX,hwA]
   refine hwt 1 dY (.agg #[.int .i64 k,.slice (some ⟨X81.heap.size,0,none⟩) 2 2]) hH0 ?_ ?_
   · intro w' hSw;dsimp only[dY];go_simp
   try simp only[dY,hwA]
   refine hwr 2 dZ (fun K hK=>?_)
   dsimp only[dZ];go_simp
   go_at_call 83
   have hrd:ap (fun b=>False∨w.heap.size≤b) U5 (.mk k [t,u]) (.agg #[.int .i64 k,.slice (some ⟨X81.heap.size,0,none⟩) 2 2]):=ap.two_mk (F:=fun b=>False∨w.heap.size≤b) (w:=U5) (b:=X81.heap.size) (cap:=2) (k:=k) (t:=t) (u:=u) (k1:=kc) (k2:=kd) (c1:=.slice ac nc qc) (c2:=.slice ad nd qd) (.inr (by omega)) (Nat.le_refl 2) (by unfold maxLen;omega) (ah fN (o:=0) rfl) (ah fN (o:=1) rfl) (ah fN (o:=2) rfl) (ah fN (o:=3) rfl) (hN1.out.move (.weaken fun b h _=>.inr (by have h1:=h.1;omega))) (hN2.out.move (.weaken fun b h _=>.inr (by have h1:=h.1;omega)));refine(bZ _ (.mk k [t,u]) _ _ hrd).mono ?_;rintro e X104 ⟨rfl,hb⟩;rw[HVV.out];clear hrd
   go_wp2_with fail
   have zX104:U5.heap.size≤X104.heap.size:=hb.size;replace fA:=ag fA hb;replace fB:=ag fB hb;replace fR:=ag fR hb;replace fC:=zq (al fC.out hb);replace hT:=zq (hT.out.below hb);replace hU_:=zq (hU_.out.below hb);replace fV:=ag fV hb;replace hN1:=zq (hN1.out.below hb);replace hN2:=zq (hN2.out.below hb);replace fN:=ag fN hb;refine hK.out _ _ ⟨ah fV rfl,ah fV rfl⟩ (fun hH181=>?_);clear hK K hH0 hb
   try simp only[dZ,hwA]
   refine hwr 3 e9 (fun K hK=>?_);obtain⟨r0,r1,rf0,rf1⟩:=co fR
   dsimp only[e9];go_simp
   (try go_wp2_with fail);have hQq:=bC fR (.int .i64 k) (.slice (some ⟨X81.heap.size,0,none⟩) 2 2);clear fR r0 rf0 r1 rf1;obtain⟨X105,hXq,hsq,fR,zX105a,zX105b⟩:=hQq;rw[hXq];replace fA:=hsq.blk (by omega) fA;replace fB:=hsq.blk (by omega) fB;replace fC:=zq (hsq.bel fC.out (by omega));replace hT:=zq (hsq.rep (fun b hb=>by have:b<w.heap.size:=hb;omega) hT.out);replace hU_:=zq (hsq.rep (fun b hb=>by have:b<w.heap.size:=hb;omega) hU_.out);replace fV:=hsq.blk (by omega) fV;replace hN1:=zq (hsq.rep (fun b hb=>by have h1:X79.heap.size≤b:=hb.1;have h2:b<X80.heap.size:=hb.2;omega) hN1.out);replace hN2:=zq (hsq.rep (fun b hb=>by have h1:X80.heap.size≤b:=hb.1;have h2:b<X81.heap.size:=hb.2;omega) hN2.out);replace fN:=hsq.blk (by omega) fN;refine hK.out _ _ ⟨ah fV rfl,ah fV rfl⟩ (fun hH182=>?_);clear hK K hH181 hsq hXq
   try simp only[e9,hwA]
   refine hwt 4 ea (.bool vv) hH182 ?_ ?_
   · intro w' hSw;dsimp only[ea];go_simp
   try simp only[ea,hwA]
   refine wpAnyH_done (by kernel_rfl) ?_ _;refine NoPanic.normal ?_;clear hH182;obtain⟨rc0,rc1⟩:=blk2 fR
   go_wp2_with fail
   refine bodyPost_ret (v:=.tuple #[.agg #[.int .i64 k,.slice (some ⟨X81.heap.size,0,none⟩) 2 2],.bool vv]) (by simp[results,Tryz.results117,go_sem,rc0,rc1]) rfl ?_;have hrd:ap (fun b=>False∨w.heap.size≤b) X105 (.mk k [t,u]) (.agg #[.int .i64 k,.slice (some ⟨X81.heap.size,0,none⟩) 2 2]):=ap.two_mk (F:=fun b=>False∨w.heap.size≤b) (w:=X105) (b:=X81.heap.size) (cap:=2) (k:=k) (t:=t) (u:=u) (k1:=kc) (k2:=kd) (c1:=.slice ac nc qc) (c2:=.slice ad nd qd) (.inr (by omega)) (Nat.le_refl 2) (by unfold maxLen;omega) (ah fN (o:=0) rfl) (ah fN (o:=1) rfl) (ah fN (o:=2) rfl) (ah fN (o:=3) rfl) (hN1.out.move (.weaken fun b h _=>.inr (by have h1:=h.1;omega))) (hN2.out.move (.weaken fun b h _=>.inr (by have h1:=h.1;omega)))
   exact⟨_,_,_,_,_,.mk k [t,u],rfl,(by rw[HO.out];cases vv<;>rfl),hrd,(by rw[HO.out];intro s h;cases vv<;>simp at h;exact h),fC.out⟩
theorem rD (F:Nat→Prop)(l:List Bd)(y:Value)(nm:ByteArray)(u lb tk fk:Int)(ta fa ca:Option Addr)(tn tq fn fq cm cq:Nat)(w:World)(hy:aL F w l y)(hc : ∀b∈l,b.ty.cnt≤1048576) :
  Calls Tryz.prog 112 #[y,.agg #[.int .i64 1,.string nm,.int .i64 u,.int .i64 tk,.slice ta tn tq,.int .i64 fk,.slice fa fn fq,.int .i64 lb,.slice ca cm cq]] w (bM (cC l nm l.length) w):=by
 have HL:=zq (fun W (h:Below w.heap.size w W)=>l9 F l nm y W (hy.below h) hc);obtain⟨a,n,q,rfl⟩:=hy.shape;have fR:=aF (w:=w.alloc (.cells #[.int .i64 1,.string nm,.int .i64 u,.int .i64 tk,.slice ta tn tq,.int .i64 fk,.slice fa fn fq,.int .i64 lb,.slice ca cm cq] 28)) (o:=.cells #[.int .i64 0,.slice none 0 0] 25) (b:=w.heap.size+1) (by simp);clear hy hc
 go_enter Tryz.func112,Tryz.ntmps112
 go_wp2_with fail
 refine(HL.out _ (al aj aj)).mono ?_;rintro e w1 ⟨k,a1,n1,q1,b1,t,rfl,hb1,ht,ho,hst⟩;have HT:=zq ht;have HO:=zq ho;have HB1:=zq hb1;replace fR:=ag fR hst;have fC:=zq (al (al aj aj) hst);have hz:=hst.size;simp only[World.size_alloc] at hz;clear ht ho hb1 hst;obtain⟨r0,r1⟩:=blk2 fR;have rf0:=ao fR 0;have rf1:=ao fR 1
 go_wp2_with fail
 have hY:((w1.setCell ⟨w.heap.size+1,0,none⟩ (.int .i64 k)).setCell ⟨w.heap.size+1,1,none⟩ (.slice a1 n1 q1)).heap[w.heap.size+1]?=some (.cells #[.int .i64 k,.slice a1 n1 q1] 25 (0,0)):=aN (aN fR rfl) rfl;obtain⟨rc0,rc1⟩:=blk2 hY;refine bodyPost_ret (v:=.tuple #[.agg #[.int .i64 k,.slice a1 n1 q1],.bool b1]) (by simp[results,Tryz.results112,go_sem,rc0,rc1]) rfl ?_;have hne : ∀b,(False∨((w.alloc (.cells #[.int .i64 1,.string nm,.int .i64 u,.int .i64 tk,.slice ta tn tq,.int .i64 fk,.slice fa fn fq,.int .i64 lb,.slice ca cm cq] 28)).alloc (.cells #[.int .i64 0,.slice none 0 0] 25)).heap.size≤b)→b≠w.heap.size+1:=fun b h=>by
  have h1:=h.elim False.elim id
  simp at h1
  omega
 exact⟨_,_,_,_,_,t,rfl,HB1.out,(ap.setN (ap.setN HT.out hne) hne).move (.weaken fun b h _=>.inr (by have h1:=h.elim False.elim id;simp at h1;omega)),HO.out,(fC.out.setCell (p:=⟨w.heap.size+1,0,none⟩) (by show w.heap.size≤w.heap.size+1;omega) _).setCell (p:=⟨w.heap.size+1,1,none⟩) (by show w.heap.size≤w.heap.size+1;omega) _⟩
theorem rE (y:Value)(nm:ByteArray)(u lb tk fk:Int)(ta fa ca:Option Addr)(tn tq fn fq cm cq:Nat)(w:World) :
  Calls Tryz.prog 112 #[y,.agg #[.int .i64 2,.string nm,.int .i64 u,.int .i64 tk,.slice ta tn tq,.int .i64 fk,.slice fa fn fq,.int .i64 lb,.slice ca cm cq]] w (bM (some (.mk 2 [])) w):=by
 have fR:=aF (w:=w.alloc (.cells #[.int .i64 2,.string nm,.int .i64 u,.int .i64 tk,.slice ta tn tq,.int .i64 fk,.slice fa fn fq,.int .i64 lb,.slice ca cm cq] 28)) (o:=.cells #[.int .i64 0,.slice none 0 0] 25) (b:=w.heap.size+1) (by simp)
 go_enter Tryz.func112,Tryz.ntmps112
 go_wp2_with fail
 refine(bB _).mono ?_;rintro e w1 ⟨rfl,hst⟩;replace fR:=ag fR hst;have fC:=zq (al (al aj aj) hst);clear hst;obtain⟨r0,r1⟩:=blk2 fR;have rf0:=ao fR 0;have rf1:=ao fR 1
 go_wp2_with fail
 have hY:((w1.setCell ⟨w.heap.size+1,0,none⟩ (.int .i64 2)).setCell ⟨w.heap.size+1,1,none⟩ (.slice none 0 0)).heap[w.heap.size+1]?=some (.cells #[.int .i64 2,.slice none 0 0] 25 (0,0)):=aN (aN fR rfl) rfl;obtain⟨rc0,rc1⟩:=blk2 hY;refine bodyPost_ret (v:=.tuple #[.agg #[.int .i64 2,.slice none 0 0],.bool true]) (by simp[results,Tryz.results112,go_sem,rc0,rc1]) rfl ?_
 exact⟨_,_,_,_,_,_,rfl,rfl,ap.leafG 2,(fun s h=>Option.some.inj h),(fC.out.setCell (p:=⟨w.heap.size+1,0,none⟩) (by show w.heap.size≤w.heap.size+1;omega) _).setCell (p:=⟨w.heap.size+1,1,none⟩) (by show w.heap.size≤w.heap.size+1;omega) _⟩
theorem rF (y:Value)(nm:ByteArray)(u lb tk fk:Int)(ta fa ca:Option Addr)(tn tq fn fq cm cq:Nat)(w:World) :
  Calls Tryz.prog 112 #[y,.agg #[.int .i64 3,.string nm,.int .i64 u,.int .i64 tk,.slice ta tn tq,.int .i64 fk,.slice fa fn fq,.int .i64 lb,.slice ca cm cq]] w (bM (some (.mk 3 [])) w):=by
 have fR:=aF (w:=w.alloc (.cells #[.int .i64 3,.string nm,.int .i64 u,.int .i64 tk,.slice ta tn tq,.int .i64 fk,.slice fa fn fq,.int .i64 lb,.slice ca cm cq] 28)) (o:=.cells #[.int .i64 0,.slice none 0 0] 25) (b:=w.heap.size+1) (by simp)
 go_enter Tryz.func112,Tryz.ntmps112
 go_wp2_with fail
 refine(dc _).mono ?_;rintro e w1 ⟨rfl,hst⟩;replace fR:=ag fR hst;have fC:=zq (al (al aj aj) hst);clear hst;obtain⟨r0,r1⟩:=blk2 fR;have rf0:=ao fR 0;have rf1:=ao fR 1
 go_wp2_with fail
 have hY:((w1.setCell ⟨w.heap.size+1,0,none⟩ (.int .i64 3)).setCell ⟨w.heap.size+1,1,none⟩ (.slice none 0 0)).heap[w.heap.size+1]?=some (.cells #[.int .i64 3,.slice none 0 0] 25 (0,0)):=aN (aN fR rfl) rfl;obtain⟨rc0,rc1⟩:=blk2 hY;refine bodyPost_ret (v:=.tuple #[.agg #[.int .i64 3,.slice none 0 0],.bool true]) (by simp[results,Tryz.results112,go_sem,rc0,rc1]) rfl ?_
 exact⟨_,_,_,_,_,_,rfl,rfl,ap.leafG 3,(fun s h=>Option.some.inj h),(fC.out.setCell (p:=⟨w.heap.size+1,0,none⟩) (by show w.heap.size≤w.heap.size+1;omega) _).setCell (p:=⟨w.heap.size+1,1,none⟩) (by show w.heap.size≤w.heap.size+1;omega) _⟩
theorem rG (y:Value)(nm:ByteArray)(u lb tk fk:Int)(ta fa ca:Option Addr)(tn tq fn fq cm cq:Nat)(w:World) :
  Calls Tryz.prog 112 #[y,.agg #[.int .i64 4,.string nm,.int .i64 u,.int .i64 tk,.slice ta tn tq,.int .i64 fk,.slice fa fn fq,.int .i64 lb,.slice ca cm cq]] w (bM (some (.mk 3 [])) w):=by
 have fR:=aF (w:=w.alloc (.cells #[.int .i64 4,.string nm,.int .i64 u,.int .i64 tk,.slice ta tn tq,.int .i64 fk,.slice fa fn fq,.int .i64 lb,.slice ca cm cq] 28)) (o:=.cells #[.int .i64 0,.slice none 0 0] 25) (b:=w.heap.size+1) (by simp)
 go_enter Tryz.func112,Tryz.ntmps112
 go_wp2_with fail
 refine(dc _).mono ?_;rintro e w1 ⟨rfl,hst⟩;replace fR:=ag fR hst;have fC:=zq (al (al aj aj) hst);clear hst;obtain⟨r0,r1⟩:=blk2 fR;have rf0:=ao fR 0;have rf1:=ao fR 1
 go_wp2_with fail
 have hY:((w1.setCell ⟨w.heap.size+1,0,none⟩ (.int .i64 3)).setCell ⟨w.heap.size+1,1,none⟩ (.slice none 0 0)).heap[w.heap.size+1]?=some (.cells #[.int .i64 3,.slice none 0 0] 25 (0,0)):=aN (aN fR rfl) rfl;obtain⟨rc0,rc1⟩:=blk2 hY;refine bodyPost_ret (v:=.tuple #[.agg #[.int .i64 3,.slice none 0 0],.bool true]) (by simp[results,Tryz.results112,go_sem,rc0,rc1]) rfl ?_
 exact⟨_,_,_,_,_,_,rfl,rfl,ap.leafG 3,(fun s h=>Option.some.inj h),(fC.out.setCell (p:=⟨w.heap.size+1,0,none⟩) (by show w.heap.size≤w.heap.size+1;omega) _).setCell (p:=⟨w.heap.size+1,1,none⟩) (by show w.heap.size≤w.heap.size+1;omega) _⟩
theorem TmCells {w:World}{b off:Nat}{fp:List Nat}{t:Tm}(h:aV w b off t.row fp) :
  ∃(s1 s2 s3:Value) (g1 g2 g3:List Nat),fp=g1++(g2++g3)∧w.cell? ⟨b,off,none⟩=some (.int .i64 t.kind)∧w.cell? ⟨b,off+1,none⟩=some (.string t.name)∧w.cell? ⟨b,off+2,none⟩=some (.int .i64 t.num) ∧
   w.cell? ⟨b,off+3,none⟩=some (.int .i64 t.type.kind)∧w.cell? ⟨b,off+4,none⟩=some s1∧w.cell? ⟨b,off+5,none⟩=some (.int .i64 t.src.kind)∧w.cell? ⟨b,off+6,none⟩=some s2 ∧
   w.cell? ⟨b,off+7,none⟩=some (.int .i64 t.label)∧w.cell? ⟨b,off+8,none⟩=some s3∧aJ w (.sl (Ty.rows t.type.kids)) s1 g1∧aJ w (.sl (Ty.rows t.src.kids)) s2 g2∧aJ w (.sl (Tm.rows t.kids)) s3 g3:=by
 cases t with | mk k nm u t f l ts=>
 unfold Tm.row at h;unfold aV at h;obtain⟨y0,f0,r0,rfl,c0,o0,h⟩:=h;unfold aV at h;obtain⟨y1,f1,r1,rfl,c1,o1,h⟩:=h;unfold aV at h;obtain⟨y2,f2,r2,rfl,c2,o2,h⟩:=h;unfold aV at h;obtain⟨y3,f3,r3,rfl,c3,o3,h⟩:=h;unfold aV at h;obtain⟨y4,f4,r4,rfl,c4,o4,h⟩:=h;unfold aV at h;obtain⟨y5,f5,r5,rfl,c5,o5,h⟩:=h;unfold aV at h;obtain⟨y6,f6,r6,rfl,c6,o6,h⟩:=h;unfold aV at h;obtain⟨y7,f7,r7,rfl,c7,o7,h⟩:=h;unfold aV at h;obtain⟨y8,f8,r8,rfl,c8,o8,h⟩:=h;unfold aV at h;unfold aJ at o0 o1 o2 o3 o5 o7;obtain⟨rfl,rfl⟩:=o0;obtain⟨rfl,-,rfl⟩:=o1;obtain⟨rfl,rfl⟩:=o2;obtain⟨rfl,rfl⟩:=o3;obtain⟨rfl,rfl⟩:=o5;obtain⟨rfl,rfl⟩:=o7;subst h
 exact⟨y4,y6,y8,f4,f6,f8,by simp,c0,c1,c2,c3,c4,c5,c6,c7,c8,o4,o6,o8⟩
structure St (wr W:World) (b j:Nat) (ch:List Nat):Prop where
 chg:Chg (b :: ch) wr W
 far : ∀o,j*9+9≤o→W.cell? ⟨b,o,none⟩=wr.cell? ⟨b,o,none⟩
 fro : ∀o,W.frozen? ⟨b,o,none⟩=false
theorem St.refl {wr:World}{b j:Nat}(h : ∀o,wr.frozen? ⟨b,o,none⟩=false):St wr wr b j []:=⟨Chg.refl _ _,fun _ _=>rfl,h⟩
theorem St.set {wr W:World}{b j o:Nat}{ch:List Nat}{v:Value}(h:St wr W b j ch)(ho:o<j*9+9):St wr (W.setCell ⟨b,o,none⟩ v) b j ch:=
 ⟨h.chg.setCell (by simp) _,fun o' ho'=>(World.cell?_setCell_other W _ _ v (fun e=>by cases e;omega)).trans (h.far o' ho'),fun o'=>(cr _ _ _ _).trans (h.fro o')⟩
theorem St.call {wr W W':World}{b j:Nat}{ch g:List Nat}(h:St wr W b j ch)(hc:Chg g W W')(hb:b∉g)(hl:b<W.heap.size):St wr W' b j (ch++g):=
 ⟨(h.chg.mono (by simp;intro x hx;exact .inr (.inl hx))).trans (hc.mono (by simp;intro x hx;exact .inr (.inr hx))),
  fun o ho=>(World.cell?_of_block (a:=⟨b,o,none⟩) (hc.block b hl hb)).trans (h.far o ho),fun o=>(World.frozen?_of_block (a:=⟨b,o,none⟩) (hc.block b hl hb)).trans (h.fro o)⟩
theorem St.below {wr W W':World}{b j:Nat}{ch:List Nat}(h:St wr W b j ch)(hc:Below W.heap.size W W')(hl:b<W.heap.size):St wr W' b j ch:=by
 have:=h.call (Chg.of_below (fp:= []) hc) (by simp) hl
 simpa using this
theorem St.own {wr W:World}{b j:Nat}{ch:List Nat}{c:C}{y:Value}{f:List Nat}(h:St wr W b j ch)(ho:aJ wr c y f)(hd : ∀x∈f,x≠b∧x∉ch):aJ W c y f:=
 aJ.move _ _ _ (fun x hx=>h.chg.block x (aJ.lt _ _ _ ho x hx) (by have:=hd x hx;simp[this.1,this.2])) ho
def Tm.types (t:Tm):List Ty:=if t.valid then t.tys else []
theorem aQ.empty {B g:Nat}{e:TypeId}{size:Nat}{w:World}(hB:B≤g)(h:w.heap[g]?=some (.cells #[] e (0,0))):aQ B e size w (.slice (some ⟨g,0,none⟩) 0 0) 0 []:=
 ⟨[],[],⟨by simp,.inr ⟨g,0,#[],rfl,hB,h,Nat.le_refl _,by unfold maxLen;omega,by simp,by simp⟩⟩,rfl,⟨rfl,rfl⟩,List.nodup_nil,by simp⟩
end Go.Proofs.YtfahhonmiimmdaaGreat

/- spec.l3Two, l3Int, l3Bool. -/
import Derived.Test.YtfahhonmiimmdaaGreatB11
import Derived.Test.YtfahhonmiimmdaaGreatB48
set_option linter.unusedSimpArgs false
set_option linter.unusedVariables false
set_option maxRecDepth 100000
set_option maxHeartbeats 16000000
namespace Go.Proofs.YtfahhonmiimmdaaGreat
open Go.RowKit
theorem ao.setN {F:Nat→Prop}{w:World}{t:Ty}{y:Value}{g o:Nat}{v:Value}(h:ao F w t y)(hn : ∀b,F b→b≠g):ao F (w.setCell ⟨g,o,none⟩ v) t y:=
 h.move ⟨by simp[World.setCell],fun b hb _=>hb,fun b hb _=>Below.heap_setCell w ⟨g,o,none⟩ v b (hn b hb)⟩
theorem aA.one {F:Nat→Prop}{w:World}{t:Ty}{y:Value}(h:aA F w [t] y) :
  ∃b off cap k1 c1 m1 q1,y = .slice (some ⟨b,off,none⟩) 1 cap∧b<w.heap.size∧w.cell? ⟨b,off,none⟩=some (.int .i64 k1)∧w.cell? ⟨b,off+1,none⟩=some (.slice c1 m1 q1)∧ao F w t (.agg #[.int .i64 k1,.slice c1 m1 q1]):=by
 obtain⟨a,cap,rfl,h2,h3,hg⟩:=h.open;obtain⟨b,off,k1,c1,m1,q1,rfl,e0,e1,ht⟩:=hg 0 (by simp)
 exact⟨b,off,cap,k1,c1,m1,q1,rfl,World.block_lt_of_cell? _ _ e0,by simpa using e0,by simpa using e1,ht⟩
theorem ao.leafG {H:Nat→Prop}{w:World}(k:Int):ao H w (.mk k []) (.agg #[.int .i64 k,.slice none 0 0]):=by
 refine⟨_,rfl,?_⟩;unfold aA aH
 exact⟨none,0,rfl,Nat.le_refl _,by unfold maxLen;omega,.inl rfl⟩
theorem S.cnt_ok {s:S}(h:s.vd=true):s.ty.cnt≤1048576:=Ty.cnt_valid (by rw[S.valid];exact h)
theorem bv (w:World):Calls Tryz.prog 87 #[] w fun e w'=>e = .returned (.agg #[.int .i64 2,.slice none 0 0])∧Below w.heap.size w w':=by
 go_enter Tryz.func87,Tryz.ntmps87
 go_wp2_with fail
 refine bodyPost_ret (v:=.agg #[.int .i64 2,.slice none 0 0]) (by simp[results,Tryz.results87,go_sem]) rfl ?_
 exact⟨rfl,ai⟩
theorem dh (w:World):Calls Tryz.prog 85 #[] w fun e w'=>e = .returned (.agg #[.int .i64 3,.slice none 0 0])∧Below w.heap.size w w':=by
 go_enter Tryz.func85,Tryz.ntmps85
 go_wp2_with fail
 refine bodyPost_ret (v:=.agg #[.int .i64 3,.slice none 0 0]) (by simp[results,Tryz.results85,go_sem]) rfl ?_
 exact⟨rfl,ai⟩
def oT1_0:Oper:=⟨some 9,.move (.tmp 0),3,"l3_typing.go:17",#[],none⟩
def oT1_1:Oper:=⟨some 10,.load 25 (.tmp 4),25,"l3_typing.go:17",#[],none⟩
def ky:Oper:=⟨some 11,.call {callee:=.value (.func 81),args:=#[.tmp 10],argTypes:=#[25]},25,"l3_typing.go:17",#[⟨1,.data⟩],none⟩
def oT1_3:Oper:=⟨some 12,.load 25 (.tmp 5),25,"l3_typing.go:17",#[],none⟩
def fc:Oper:=⟨some 13,.call {callee:=.value (.func 81),args:=#[.tmp 12],argTypes:=#[25]},25,"l3_typing.go:17",#[⟨3,.data⟩,⟨2,.chain⟩],none⟩
def dW:Oper:=⟨some 14,.buildSlice 23 2 #[(0,.tmp 11),(1,.tmp 13)],23,"l3_typing.go:17",#[⟨2,.data⟩,⟨4,.data⟩],none⟩
def dX:Oper:=⟨some 15,.build 25 #[(0,.tmp 9),(1,.tmp 14)],25,"l3_typing.go:17",#[⟨0,.data⟩,⟨5,.data⟩],none⟩
def dY:Oper:=⟨some 8,.alloc 25,0,"l3_typing.go:17",#[],none⟩
def dZ:Oper:=⟨none,.store 25 (.tmp 8) (.tmp 15),0,"l3_typing.go:17",#[⟨7,.data⟩,⟨6,.data⟩,⟨4,.chain⟩,⟨0,.phase⟩,⟨1,.phase⟩,⟨2,.phase⟩,⟨3,.phase⟩,⟨4,.phase⟩,⟨5,.phase⟩,⟨6,.phase⟩,⟨7,.phase⟩],none⟩
def e9:Oper:=⟨some 16,.load 25 (.tmp 8),25,"l3_typing.go:18",#[],none⟩
def ea:Oper:=⟨some 17,.load 25 (.tmp 8),25,"l3_typing.go:18",#[],none⟩
def eb:Oper:=⟨some 18,.call {callee:=.value (.func 83),args:=#[.tmp 17],argTypes:=#[25]},4,"l3_typing.go:18",#[⟨1,.data⟩],none⟩
def ec:Oper:=⟨none,.store 25 (.tmp 6) (.tmp 16),0,"l3_typing.go:18",#[⟨0,.data⟩,⟨2,.chain⟩,⟨0,.phase⟩,⟨1,.textOnly .lateStores⟩,⟨2,.textOnly .lateStoresUnsure⟩],none⟩
def ed:Oper:=⟨some 7,.assign (.tmp 18),4,"l3_typing.go:18",#[⟨2,.data⟩,⟨3,.chain⟩,⟨0,.phase⟩,⟨1,.phase⟩,⟨2,.phase⟩,⟨3,.phase⟩],none⟩
theorem dL (G1 G2:Nat→Prop)(k:Int)(t u:Ty)(ak bk:Int)(aa ba:Option Addr)(an aq bn bq:Nat)(w:World)(ht:ao G1 w t (.agg #[.int .i64 ak,.slice aa an aq]))(hu:ao G2 w u (.agg #[.int .i64 bk,.slice ba bn bq]))(hct:t.cnt≤1048576)(hcu:u.cnt≤1048576) :
    Calls Tryz.prog 117 #[.int .i64 k,.agg #[.int .i64 ak,.slice aa an aq],.agg #[.int .i64 bk,.slice ba bn bq]] w (bH (if (Ty.mk k [t,u]).valid then some (.mk k [t,u]) else none) w):=by
  have HT:=zq ht.old;have HU:=zq hu.old;have HCT:=zq hct;have HCU:=zq hcu;clear ht hu hct hcu;generalize hvv:(Ty.mk k [t,u]).valid=vv;have HVV:=zq hvv;obtain⟨O,hO⟩ : ∃O:Option Ty,O=if vv=true then some (.mk k [t,u]) else none:=⟨_,rfl⟩
  rw[←hO];have HO:=zq hO;clear hvv hO
  go_enter Tryz.func117,Tryz.ntmps117
  go_wp2_with fail
  obtain⟨VV,hVV⟩ : ∃X,X=(((w.alloc (.cells #[.int .i64 ak,.slice aa an aq] 25)).alloc (.cells #[.int .i64 bk,.slice ba bn bq] 25)).alloc (.cells #[.int .i64 0,.slice none 0 0] 25)):=⟨_,rfl⟩
  have fA:VV.heap[w.heap.size]?=some (.cells #[.int .i64 ak,.slice aa an aq] 25 (0,0)):=by rw[hVV];exact af (af (aB rfl) ai) ai
  have fB:VV.heap[w.heap.size+1]?=some (.cells #[.int .i64 bk,.slice ba bn bq] 25 (0,0)):=by rw[hVV];exact af (aB (by simp)) ai
  have fR:VV.heap[w.heap.size+1+1]?=some (.cells #[.int .i64 0,.slice none 0 0] 25 (0,0)):=by rw[hVV];exact aB (by simp)
  have fC:Hid (Below w.heap.size w VV):=by rw[hVV];exact zq (aj (aj ai ai) ai)
  have hT:Hid (ao (· < w.heap.size) VV t (.agg #[.int .i64 ak,.slice aa an aq])):=by rw[hVV];exact zq (((HT.out.below ai).below ai).below ai)
  have hU_:Hid (ao (· < w.heap.size) VV u (.agg #[.int .i64 bk,.slice ba bn bq])):=by rw[hVV];exact zq (((HU.out.below ai).below ai).below ai)
  rw[←hVV];have zV:VV.heap.size=_:=congrArg (fun X:World=>X.heap.size) hVV;simp only[World.size_alloc] at zV;refine wp_region_noPanic ?_;refine wp_region_held_drew (S:=fun w'=>w'.cell? ⟨w.heap.size,0,none⟩=some (.int .i64 ak)∧w'.cell? ⟨w.heap.size,1,none⟩=some (.slice aa an aq)∧w'.cell? ⟨w.heap.size+1,0,none⟩=some (.int .i64 bk)∧w'.cell? ⟨w.heap.size+1,1,none⟩=some (.slice ba bn bq)) (by kernel_rfl) ?_ (fun hH0=>?_)
  · exact⟨ag fA rfl,ag fA rfl,ag fB rfl,ag fB rfl⟩
  obtain⟨U1,hU,hb,zU1a,zU1b⟩:=bD VV;rw[hU] at hH0 ⊢;replace fA:=af fA hb;replace fB:=af fB hb;replace fR:=af fR hb;replace fC:=zq (aj fC.out hb);replace hT:=zq (hT.out.below hb);replace hU_:=zq (hU_.out.below hb);rw[zV] at zU1a zU1b;clear hU hb hVV zV;refine hwt 0 oT1_0 (.int .i64 k) hH0 ?_ ?_
  · intro w' hSw;dsimp only[oT1_0];go_simp
  try simp only[oT1_0,hwA]
  refine hwt 1 oT1_1 (.agg #[.int .i64 ak,.slice aa an aq]) hH0 ?_ ?_
  · intro w' hSw;dsimp only[oT1_1];go_simp
  try simp only[oT1_1,hwA]
  refine hwt 3 oT1_3 (.agg #[.int .i64 bk,.slice ba bn bq]) hH0 ?_ ?_
  · intro w' hSw;dsimp only[oT1_3];go_simp
  try simp only[oT1_3,hwA]
  refine wpAnyH_ready (rs:= [2,7]) (by kernel_rfl) (by simp) ?_;refine(AllReadyH.cons (o:=ky) rfl (fun K hK=>?_) (AllReadyH.cons (o:=dY) rfl (fun K hK=>?_) AllReadyH.nil))
  ·skip
   dsimp only[ky];go_simp
   go_at_call 81
   refine(be _ t _ _ hT.out HCT.out).mono ?_;rintro e X1 ⟨v,rfl,hv,hb⟩;obtain⟨kc,ac,nc,qc,rfl⟩:=hv.shape;have hN1':=hv.rep.rg;clear hv
   go_wp2_with fail
   have zX1:U1.heap.size≤X1.heap.size:=hb.size;replace fA:=af fA hb;replace fB:=af fB hb;replace fR:=af fR hb;replace fC:=zq (aj fC.out hb);replace hT:=zq (hT.out.below hb);replace hU_:=zq (hU_.out.below hb);have hN1:=hN1';clear hN1';refine hK.out _ _ ⟨ag fA rfl,ag fA rfl,ag fB rfl,ag fB rfl⟩ (fun hH1=>?_);clear hK K hH0 hb
   try simp only[ky,hwA]
   refine wpAnyH_ready (rs:= [4,7]) (by kernel_rfl) (by simp) ?_;refine(AllReadyH.cons (o:=fc) rfl (fun K hK=>?_) (AllReadyH.cons (o:=dY) rfl (fun K hK=>?_) AllReadyH.nil))
   ·skip
    dsimp only[fc];go_simp
    go_at_call 81
    refine(be _ u _ _ hU_.out HCU.out).mono ?_;rintro e X2 ⟨v,rfl,hv,hb⟩;obtain⟨kd,ad,nd,qd,rfl⟩:=hv.shape;have hN2':=hv.rep.rg;clear hv
    go_wp2_with fail
    have zX2:X1.heap.size≤X2.heap.size:=hb.size;replace fA:=af fA hb;replace fB:=af fB hb;replace fR:=af fR hb;replace fC:=zq (aj fC.out hb);replace hT:=zq (hT.out.below hb);replace hU_:=zq (hU_.out.below hb);replace hN1:=zq (hN1.out.below hb);have hN2:=hN2';clear hN2';refine hK.out _ _ ⟨ag fA rfl,ag fA rfl,ag fB rfl,ag fB rfl⟩ (fun hH2=>?_);clear hK K hH1 hb
    try simp only[fc,hwA]
    refine wpAnyH_ready (rs:= [5,7]) (by kernel_rfl) (by simp) ?_;refine(AllReadyH.cons (o:=dW) rfl (fun K hK=>?_) (AllReadyH.cons (o:=dY) rfl (fun K hK=>?_) AllReadyH.nil))
    ·skip
     dsimp only[dW];go_simp
     (try go_wp2_with fail);obtain⟨X3,hXq,hb,fN,zX3a,zX3b⟩:=aU X2 (.cells #[.int .i64 kc,.slice ac nc qc,.int .i64 kd,.slice ad nd qd] 25);rw[hXq];replace fA:=af fA hb;replace fB:=af fB hb;replace fR:=af fR hb;replace fC:=zq (aj fC.out hb);replace hT:=zq (hT.out.below hb);replace hU_:=zq (hU_.out.below hb);replace hN1:=zq (hN1.out.below hb);replace hN2:=zq (hN2.out.below hb);refine hK.out _ _ ⟨ag fA rfl,ag fA rfl,ag fB rfl,ag fB rfl⟩ (fun hH3=>?_);clear hK K hH2 hb hXq
     try simp only[dW,hwA]
     refine hwt 6 dX (.agg #[.int .i64 k,.slice (some ⟨X2.heap.size,0,none⟩) 2 2]) hH3 ?_ ?_
     · intro w' hSw;dsimp only[dX];go_simp
     try simp only[dX,hwA]
     refine hwr 7 dY (fun K hK=>?_)
     dsimp only[dY];go_simp
     (try go_wp2_with fail);obtain⟨X4,hXq,hb,fV,zX4a,zX4b⟩:=aU X3 (.cells #[.int .i64 0,.slice none 0 0] 25);rw[hXq];replace fA:=af fA hb;replace fB:=af fB hb;replace fR:=af fR hb;replace fC:=zq (aj fC.out hb);replace hT:=zq (hT.out.below hb);replace hU_:=zq (hU_.out.below hb);replace hN1:=zq (hN1.out.below hb);replace hN2:=zq (hN2.out.below hb);replace fN:=af fN hb;refine hK.out _ _ ⟨ag fA rfl,ag fA rfl,ag fB rfl,ag fB rfl⟩ (fun hH4=>?_);clear hK K hH3 hb hXq
     try simp only[dY,hwA]
     refine hwr 8 dZ (fun K hK=>?_);obtain⟨r0,r1,rf0,rf1⟩:=co fV
     dsimp only[dZ];go_simp
     (try go_wp2_with fail);have hQq:=bw fV (.int .i64 k) (.slice (some ⟨X2.heap.size,0,none⟩) 2 2);clear fV r0 rf0 r1 rf1;obtain⟨X5,hXq,hsq,fV,zX5a,zX5b⟩:=hQq;rw[hXq];replace fA:=hsq.blk (by omega) fA;replace fB:=hsq.blk (by omega) fB;replace fR:=hsq.blk (by omega) fR;replace fC:=zq (hsq.bel fC.out (by omega));replace hT:=zq (hsq.rep (fun b hb=>by have:b<w.heap.size:=hb;omega) hT.out);replace hU_:=zq (hsq.rep (fun b hb=>by have:b<w.heap.size:=hb;omega) hU_.out);replace hN1:=zq (hsq.rep (fun b hb=>by have h1:U1.heap.size≤b:=hb.1;have h2:b<X1.heap.size:=hb.2;omega) hN1.out);replace hN2:=zq (hsq.rep (fun b hb=>by have h1:X1.heap.size≤b:=hb.1;have h2:b<X2.heap.size:=hb.2;omega) hN2.out);replace fN:=hsq.blk (by omega) fN;refine hK.out _ _ ⟨ag fA rfl,ag fA rfl,ag fB rfl,ag fB rfl⟩ (fun hH5=>?_);clear hK K hH4 hsq hXq
     try simp only[dZ,hwA]
     refine wpAnyH_done (by kernel_rfl) ?_ _;refine NoPanic.normal ?_;clear hH5
     go_wp2_with fail
     refine wp_region_noPanic ?_;refine wp_region_held_drew (S:=fun w'=>w'.cell? ⟨X3.heap.size,0,none⟩=some (.int .i64 k)∧w'.cell? ⟨X3.heap.size,1,none⟩=some (.slice (some ⟨X2.heap.size,0,none⟩) 2 2)) (by kernel_rfl) ?_ (fun hH0=>?_)
     · exact⟨ag fV rfl,ag fV rfl⟩
     obtain⟨U2,hU,hb,zU2a,zU2b⟩:=bD X5;rw[hU] at hH0 ⊢;replace fA:=af fA hb;replace fB:=af fB hb;replace fR:=af fR hb;replace fC:=zq (aj fC.out hb);replace hT:=zq (hT.out.below hb);replace hU_:=zq (hU_.out.below hb);replace hN1:=zq (hN1.out.below hb);replace hN2:=zq (hN2.out.below hb);replace fN:=af fN hb;replace fV:=af fV hb;(try simp only[World.size_alloc] at zU2a zU2b);clear hU hb;refine hwt 0 e9 (.agg #[.int .i64 k,.slice (some ⟨X2.heap.size,0,none⟩) 2 2]) hH0 ?_ ?_
     · intro w' hSw;dsimp only[e9];go_simp
     try simp only[e9,hwA]
     refine hwt 1 ea (.agg #[.int .i64 k,.slice (some ⟨X2.heap.size,0,none⟩) 2 2]) hH0 ?_ ?_
     · intro w' hSw;dsimp only[ea];go_simp
     try simp only[ea,hwA]
     refine hwr 2 eb (fun K hK=>?_)
     dsimp only[eb];go_simp
     go_at_call 83
     have hrd:ao (fun b=>False∨w.heap.size≤b) U2 (.mk k [t,u]) (.agg #[.int .i64 k,.slice (some ⟨X2.heap.size,0,none⟩) 2 2]):=ao.two_mk (F:=fun b=>False∨w.heap.size≤b) (w:=U2) (b:=X2.heap.size) (cap:=2) (k:=k) (t:=t) (u:=u) (k1:=kc) (k2:=kd) (c1:=.slice ac nc qc) (c2:=.slice ad nd qd) (.inr (by omega)) (Nat.le_refl 2) (by unfold maxLen;omega) (ag fN (o:=0) rfl) (ag fN (o:=1) rfl) (ag fN (o:=2) rfl) (ag fN (o:=3) rfl) (hN1.out.move (.weaken fun b h _=>.inr (by have h1:=h.1;omega))) (hN2.out.move (.weaken fun b h _=>.inr (by have h1:=h.1;omega)));refine(bV _ (.mk k [t,u]) _ _ hrd).mono ?_;rintro e X26 ⟨rfl,hb⟩;rw[HVV.out];clear hrd
     go_wp2_with fail
     have zX26:U2.heap.size≤X26.heap.size:=hb.size;replace fA:=af fA hb;replace fB:=af fB hb;replace fR:=af fR hb;replace fC:=zq (aj fC.out hb);replace hT:=zq (hT.out.below hb);replace hU_:=zq (hU_.out.below hb);replace hN1:=zq (hN1.out.below hb);replace hN2:=zq (hN2.out.below hb);replace fN:=af fN hb;replace fV:=af fV hb;refine hK.out _ _ ⟨ag fV rfl,ag fV rfl⟩ (fun hH46=>?_);clear hK K hH0 hb
     try simp only[eb,hwA]
     refine hwr 3 ec (fun K hK=>?_);obtain⟨r0,r1,rf0,rf1⟩:=co fR
     dsimp only[ec];go_simp
     (try go_wp2_with fail);have hQq:=bw fR (.int .i64 k) (.slice (some ⟨X2.heap.size,0,none⟩) 2 2);clear fR r0 rf0 r1 rf1;obtain⟨X27,hXq,hsq,fR,zX27a,zX27b⟩:=hQq;rw[hXq];replace fA:=hsq.blk (by omega) fA;replace fB:=hsq.blk (by omega) fB;replace fC:=zq (hsq.bel fC.out (by omega));replace hT:=zq (hsq.rep (fun b hb=>by have:b<w.heap.size:=hb;omega) hT.out);replace hU_:=zq (hsq.rep (fun b hb=>by have:b<w.heap.size:=hb;omega) hU_.out);replace hN1:=zq (hsq.rep (fun b hb=>by have h1:U1.heap.size≤b:=hb.1;have h2:b<X1.heap.size:=hb.2;omega) hN1.out);replace hN2:=zq (hsq.rep (fun b hb=>by have h1:X1.heap.size≤b:=hb.1;have h2:b<X2.heap.size:=hb.2;omega) hN2.out);replace fN:=hsq.blk (by omega) fN;replace fV:=hsq.blk (by omega) fV;refine hK.out _ _ ⟨ag fV rfl,ag fV rfl⟩ (fun hH47=>?_);clear hK K hH46 hsq hXq
     try simp only[ec,hwA]
     refine hwt 4 ed (.bool vv) hH47 ?_ ?_
     · intro w' hSw;dsimp only[ed];go_simp
     try simp only[ed,hwA]
     refine wpAnyH_done (by kernel_rfl) ?_ _;refine NoPanic.normal ?_;clear hH47;obtain⟨rc0,rc1⟩:=blk2 fR
     go_wp2_with fail
     refine bodyPost_ret (v:=.tuple #[.agg #[.int .i64 k,.slice (some ⟨X2.heap.size,0,none⟩) 2 2],.bool vv]) (by simp[results,Tryz.results117,go_sem,rc0,rc1]) rfl ?_;have hrd:ao (fun b=>False∨w.heap.size≤b) X27 (.mk k [t,u]) (.agg #[.int .i64 k,.slice (some ⟨X2.heap.size,0,none⟩) 2 2]):=ao.two_mk (F:=fun b=>False∨w.heap.size≤b) (w:=X27) (b:=X2.heap.size) (cap:=2) (k:=k) (t:=t) (u:=u) (k1:=kc) (k2:=kd) (c1:=.slice ac nc qc) (c2:=.slice ad nd qd) (.inr (by omega)) (Nat.le_refl 2) (by unfold maxLen;omega) (ag fN (o:=0) rfl) (ag fN (o:=1) rfl) (ag fN (o:=2) rfl) (ag fN (o:=3) rfl) (hN1.out.move (.weaken fun b h _=>.inr (by have h1:=h.1;omega))) (hN2.out.move (.weaken fun b h _=>.inr (by have h1:=h.1;omega)))
     exact⟨_,_,_,_,_,.mk k [t,u],rfl,(by rw[HO.out];cases vv<;>rfl),hrd,(by rw[HO.out];intro s h;cases vv<;>simp at h;exact h),fC.out⟩
    ·skip
     dsimp only[dY];go_simp
     (try go_wp2_with fail);obtain⟨X28,hXq,hb,fV,zX28a,zX28b⟩:=aU X2 (.cells #[.int .i64 0,.slice none 0 0] 25);rw[hXq];replace fA:=af fA hb;replace fB:=af fB hb;replace fR:=af fR hb;replace fC:=zq (aj fC.out hb);replace hT:=zq (hT.out.below hb);replace hU_:=zq (hU_.out.below hb);replace hN1:=zq (hN1.out.below hb);replace hN2:=zq (hN2.out.below hb);refine hK.out _ _ ⟨ag fA rfl,ag fA rfl,ag fB rfl,ag fB rfl⟩ (fun hH3=>?_);clear hK K hH2 hb hXq
     try simp only[dY,hwA]
     refine hwr 5 dW (fun K hK=>?_)
     dsimp only[dW];go_simp
     (try go_wp2_with fail);obtain⟨X29,hXq,hb,fN,zX29a,zX29b⟩:=aU X28 (.cells #[.int .i64 kc,.slice ac nc qc,.int .i64 kd,.slice ad nd qd] 25);rw[hXq];replace fA:=af fA hb;replace fB:=af fB hb;replace fR:=af fR hb;replace fC:=zq (aj fC.out hb);replace hT:=zq (hT.out.below hb);replace hU_:=zq (hU_.out.below hb);replace hN1:=zq (hN1.out.below hb);replace hN2:=zq (hN2.out.below hb);replace fV:=af fV hb;refine hK.out _ _ ⟨ag fA rfl,ag fA rfl,ag fB rfl,ag fB rfl⟩ (fun hH48=>?_);clear hK K hH3 hb hXq
     try simp only[dW,hwA]
     refine hwt 6 dX (.agg #[.int .i64 k,.slice (some ⟨X28.heap.size,0,none⟩) 2 2]) hH48 ?_ ?_
     · intro w' hSw;dsimp only[dX];go_simp
     try simp only[dX,hwA]
     refine hwr 8 dZ (fun K hK=>?_);obtain⟨r0,r1,rf0,rf1⟩:=co fV
     dsimp only[dZ];go_simp
     (try go_wp2_with fail);have hQq:=bw fV (.int .i64 k) (.slice (some ⟨X28.heap.size,0,none⟩) 2 2);clear fV r0 rf0 r1 rf1;obtain⟨X30,hXq,hsq,fV,zX30a,zX30b⟩:=hQq;rw[hXq];replace fA:=hsq.blk (by omega) fA;replace fB:=hsq.blk (by omega) fB;replace fR:=hsq.blk (by omega) fR;replace fC:=zq (hsq.bel fC.out (by omega));replace hT:=zq (hsq.rep (fun b hb=>by have:b<w.heap.size:=hb;omega) hT.out);replace hU_:=zq (hsq.rep (fun b hb=>by have:b<w.heap.size:=hb;omega) hU_.out);replace hN1:=zq (hsq.rep (fun b hb=>by have h1:U1.heap.size≤b:=hb.1;have h2:b<X1.heap.size:=hb.2;omega) hN1.out);replace hN2:=zq (hsq.rep (fun b hb=>by have h1:X1.heap.size≤b:=hb.1;have h2:b<X2.heap.size:=hb.2;omega) hN2.out);replace fN:=hsq.blk (by omega) fN;refine hK.out _ _ ⟨ag fA rfl,ag fA rfl,ag fB rfl,ag fB rfl⟩ (fun hH49=>?_);clear hK K hH48 hsq hXq
     try simp only[dZ,hwA]
     refine wpAnyH_done (by kernel_rfl) ?_ _;refine NoPanic.normal ?_;clear hH49
     go_wp2_with fail
     refine wp_region_noPanic ?_;refine wp_region_held_drew (S:=fun w'=>w'.cell? ⟨X2.heap.size,0,none⟩=some (.int .i64 k)∧w'.cell? ⟨X2.heap.size,1,none⟩=some (.slice (some ⟨X28.heap.size,0,none⟩) 2 2)) (by kernel_rfl) ?_ (fun hH0=>?_)
     · exact⟨ag fV rfl,ag fV rfl⟩
     obtain⟨U3,hU,hb,zU3a,zU3b⟩:=bD X30;rw[hU] at hH0 ⊢;replace fA:=af fA hb;replace fB:=af fB hb;replace fR:=af fR hb;replace fC:=zq (aj fC.out hb);replace hT:=zq (hT.out.below hb);replace hU_:=zq (hU_.out.below hb);replace hN1:=zq (hN1.out.below hb);replace hN2:=zq (hN2.out.below hb);replace fV:=af fV hb;replace fN:=af fN hb;(try simp only[World.size_alloc] at zU3a zU3b);clear hU hb;refine hwt 0 e9 (.agg #[.int .i64 k,.slice (some ⟨X28.heap.size,0,none⟩) 2 2]) hH0 ?_ ?_
     · intro w' hSw;dsimp only[e9];go_simp
     try simp only[e9,hwA]
     refine hwt 1 ea (.agg #[.int .i64 k,.slice (some ⟨X28.heap.size,0,none⟩) 2 2]) hH0 ?_ ?_
     · intro w' hSw;dsimp only[ea];go_simp
     try simp only[ea,hwA]
     refine hwr 2 eb (fun K hK=>?_)
     dsimp only[eb];go_simp
     go_at_call 83
     have hrd:ao (fun b=>False∨w.heap.size≤b) U3 (.mk k [t,u]) (.agg #[.int .i64 k,.slice (some ⟨X28.heap.size,0,none⟩) 2 2]):=ao.two_mk (F:=fun b=>False∨w.heap.size≤b) (w:=U3) (b:=X28.heap.size) (cap:=2) (k:=k) (t:=t) (u:=u) (k1:=kc) (k2:=kd) (c1:=.slice ac nc qc) (c2:=.slice ad nd qd) (.inr (by omega)) (Nat.le_refl 2) (by unfold maxLen;omega) (ag fN (o:=0) rfl) (ag fN (o:=1) rfl) (ag fN (o:=2) rfl) (ag fN (o:=3) rfl) (hN1.out.move (.weaken fun b h _=>.inr (by have h1:=h.1;omega))) (hN2.out.move (.weaken fun b h _=>.inr (by have h1:=h.1;omega)));refine(bV _ (.mk k [t,u]) _ _ hrd).mono ?_;rintro e X51 ⟨rfl,hb⟩;rw[HVV.out];clear hrd
     go_wp2_with fail
     have zX51:U3.heap.size≤X51.heap.size:=hb.size;replace fA:=af fA hb;replace fB:=af fB hb;replace fR:=af fR hb;replace fC:=zq (aj fC.out hb);replace hT:=zq (hT.out.below hb);replace hU_:=zq (hU_.out.below hb);replace hN1:=zq (hN1.out.below hb);replace hN2:=zq (hN2.out.below hb);replace fV:=af fV hb;replace fN:=af fN hb;refine hK.out _ _ ⟨ag fV rfl,ag fV rfl⟩ (fun hH90=>?_);clear hK K hH0 hb
     try simp only[eb,hwA]
     refine hwr 3 ec (fun K hK=>?_);obtain⟨r0,r1,rf0,rf1⟩:=co fR
     dsimp only[ec];go_simp
     (try go_wp2_with fail);have hQq:=bw fR (.int .i64 k) (.slice (some ⟨X28.heap.size,0,none⟩) 2 2);clear fR r0 rf0 r1 rf1;obtain⟨X52,hXq,hsq,fR,zX52a,zX52b⟩:=hQq;rw[hXq];replace fA:=hsq.blk (by omega) fA;replace fB:=hsq.blk (by omega) fB;replace fC:=zq (hsq.bel fC.out (by omega));replace hT:=zq (hsq.rep (fun b hb=>by have:b<w.heap.size:=hb;omega) hT.out);replace hU_:=zq (hsq.rep (fun b hb=>by have:b<w.heap.size:=hb;omega) hU_.out);replace hN1:=zq (hsq.rep (fun b hb=>by have h1:U1.heap.size≤b:=hb.1;have h2:b<X1.heap.size:=hb.2;omega) hN1.out);replace hN2:=zq (hsq.rep (fun b hb=>by have h1:X1.heap.size≤b:=hb.1;have h2:b<X2.heap.size:=hb.2;omega) hN2.out);replace fV:=hsq.blk (by omega) fV;replace fN:=hsq.blk (by omega) fN;refine hK.out _ _ ⟨ag fV rfl,ag fV rfl⟩ (fun hH91=>?_);clear hK K hH90 hsq hXq
     try simp only[ec,hwA]
     refine hwt 4 ed (.bool vv) hH91 ?_ ?_
     · intro w' hSw;dsimp only[ed];go_simp
     try simp only[ed,hwA]
     refine wpAnyH_done (by kernel_rfl) ?_ _;refine NoPanic.normal ?_;clear hH91;obtain⟨rc0,rc1⟩:=blk2 fR
     go_wp2_with fail
     refine bodyPost_ret (v:=.tuple #[.agg #[.int .i64 k,.slice (some ⟨X28.heap.size,0,none⟩) 2 2],.bool vv]) (by simp[results,Tryz.results117,go_sem,rc0,rc1]) rfl ?_;have hrd:ao (fun b=>False∨w.heap.size≤b) X52 (.mk k [t,u]) (.agg #[.int .i64 k,.slice (some ⟨X28.heap.size,0,none⟩) 2 2]):=ao.two_mk (F:=fun b=>False∨w.heap.size≤b) (w:=X52) (b:=X28.heap.size) (cap:=2) (k:=k) (t:=t) (u:=u) (k1:=kc) (k2:=kd) (c1:=.slice ac nc qc) (c2:=.slice ad nd qd) (.inr (by omega)) (Nat.le_refl 2) (by unfold maxLen;omega) (ag fN (o:=0) rfl) (ag fN (o:=1) rfl) (ag fN (o:=2) rfl) (ag fN (o:=3) rfl) (hN1.out.move (.weaken fun b h _=>.inr (by have h1:=h.1;omega))) (hN2.out.move (.weaken fun b h _=>.inr (by have h1:=h.1;omega)))
     exact⟨_,_,_,_,_,.mk k [t,u],rfl,(by rw[HO.out];cases vv<;>rfl),hrd,(by rw[HO.out];intro s h;cases vv<;>simp at h;exact h),fC.out⟩
   ·skip
    dsimp only[dY];go_simp
    (try go_wp2_with fail);obtain⟨X53,hXq,hb,fV,zX53a,zX53b⟩:=aU X1 (.cells #[.int .i64 0,.slice none 0 0] 25);rw[hXq];replace fA:=af fA hb;replace fB:=af fB hb;replace fR:=af fR hb;replace fC:=zq (aj fC.out hb);replace hT:=zq (hT.out.below hb);replace hU_:=zq (hU_.out.below hb);replace hN1:=zq (hN1.out.below hb);refine hK.out _ _ ⟨ag fA rfl,ag fA rfl,ag fB rfl,ag fB rfl⟩ (fun hH2=>?_);clear hK K hH1 hb hXq
    try simp only[dY,hwA]
    refine hwr 4 fc (fun K hK=>?_)
    dsimp only[fc];go_simp
    go_at_call 81
    refine(be _ u _ _ hU_.out HCU.out).mono ?_;rintro e X54 ⟨v,rfl,hv,hb⟩;obtain⟨kd,ad,nd,qd,rfl⟩:=hv.shape;have hN2':=hv.rep.rg;clear hv
    go_wp2_with fail
    have zX54:X53.heap.size≤X54.heap.size:=hb.size;replace fA:=af fA hb;replace fB:=af fB hb;replace fR:=af fR hb;replace fC:=zq (aj fC.out hb);replace hT:=zq (hT.out.below hb);replace hU_:=zq (hU_.out.below hb);replace hN1:=zq (hN1.out.below hb);replace fV:=af fV hb;have hN2:=hN2';clear hN2';refine hK.out _ _ ⟨ag fA rfl,ag fA rfl,ag fB rfl,ag fB rfl⟩ (fun hH92=>?_);clear hK K hH2 hb
    try simp only[fc,hwA]
    refine hwr 5 dW (fun K hK=>?_)
    dsimp only[dW];go_simp
    (try go_wp2_with fail);obtain⟨X55,hXq,hb,fN,zX55a,zX55b⟩:=aU X54 (.cells #[.int .i64 kc,.slice ac nc qc,.int .i64 kd,.slice ad nd qd] 25);rw[hXq];replace fA:=af fA hb;replace fB:=af fB hb;replace fR:=af fR hb;replace fC:=zq (aj fC.out hb);replace hT:=zq (hT.out.below hb);replace hU_:=zq (hU_.out.below hb);replace hN1:=zq (hN1.out.below hb);replace fV:=af fV hb;replace hN2:=zq (hN2.out.below hb);refine hK.out _ _ ⟨ag fA rfl,ag fA rfl,ag fB rfl,ag fB rfl⟩ (fun hH93=>?_);clear hK K hH92 hb hXq
    try simp only[dW,hwA]
    refine hwt 6 dX (.agg #[.int .i64 k,.slice (some ⟨X54.heap.size,0,none⟩) 2 2]) hH93 ?_ ?_
    · intro w' hSw;dsimp only[dX];go_simp
    try simp only[dX,hwA]
    refine hwr 8 dZ (fun K hK=>?_);obtain⟨r0,r1,rf0,rf1⟩:=co fV
    dsimp only[dZ];go_simp
    (try go_wp2_with fail);have hQq:=bw fV (.int .i64 k) (.slice (some ⟨X54.heap.size,0,none⟩) 2 2);clear fV r0 rf0 r1 rf1;obtain⟨X56,hXq,hsq,fV,zX56a,zX56b⟩:=hQq;rw[hXq];replace fA:=hsq.blk (by omega) fA;replace fB:=hsq.blk (by omega) fB;replace fR:=hsq.blk (by omega) fR;replace fC:=zq (hsq.bel fC.out (by omega));replace hT:=zq (hsq.rep (fun b hb=>by have:b<w.heap.size:=hb;omega) hT.out);replace hU_:=zq (hsq.rep (fun b hb=>by have:b<w.heap.size:=hb;omega) hU_.out);replace hN1:=zq (hsq.rep (fun b hb=>by have h1:U1.heap.size≤b:=hb.1;have h2:b<X1.heap.size:=hb.2;omega) hN1.out);replace hN2:=zq (hsq.rep (fun b hb=>by have h1:X53.heap.size≤b:=hb.1;have h2:b<X54.heap.size:=hb.2;omega) hN2.out);replace fN:=hsq.blk (by omega) fN;refine hK.out _ _ ⟨ag fA rfl,ag fA rfl,ag fB rfl,ag fB rfl⟩ (fun hH94=>?_);clear hK K hH93 hsq hXq
    try simp only[dZ,hwA]
    refine wpAnyH_done (by kernel_rfl) ?_ _;refine NoPanic.normal ?_;clear hH94
    go_wp2_with fail
    refine wp_region_noPanic ?_;refine wp_region_held_drew (S:=fun w'=>w'.cell? ⟨X1.heap.size,0,none⟩=some (.int .i64 k)∧w'.cell? ⟨X1.heap.size,1,none⟩=some (.slice (some ⟨X54.heap.size,0,none⟩) 2 2)) (by kernel_rfl) ?_ (fun hH0=>?_)
    · exact⟨ag fV rfl,ag fV rfl⟩
    obtain⟨U4,hU,hb,zU4a,zU4b⟩:=bD X56;rw[hU] at hH0 ⊢;replace fA:=af fA hb;replace fB:=af fB hb;replace fR:=af fR hb;replace fC:=zq (aj fC.out hb);replace hT:=zq (hT.out.below hb);replace hU_:=zq (hU_.out.below hb);replace hN1:=zq (hN1.out.below hb);replace fV:=af fV hb;replace hN2:=zq (hN2.out.below hb);replace fN:=af fN hb;(try simp only[World.size_alloc] at zU4a zU4b);clear hU hb;refine hwt 0 e9 (.agg #[.int .i64 k,.slice (some ⟨X54.heap.size,0,none⟩) 2 2]) hH0 ?_ ?_
    · intro w' hSw;dsimp only[e9];go_simp
    try simp only[e9,hwA]
    refine hwt 1 ea (.agg #[.int .i64 k,.slice (some ⟨X54.heap.size,0,none⟩) 2 2]) hH0 ?_ ?_
    · intro w' hSw;dsimp only[ea];go_simp
    try simp only[ea,hwA]
    refine hwr 2 eb (fun K hK=>?_)
    dsimp only[eb];go_simp
    go_at_call 83
    have hrd:ao (fun b=>False∨w.heap.size≤b) U4 (.mk k [t,u]) (.agg #[.int .i64 k,.slice (some ⟨X54.heap.size,0,none⟩) 2 2]):=ao.two_mk (F:=fun b=>False∨w.heap.size≤b) (w:=U4) (b:=X54.heap.size) (cap:=2) (k:=k) (t:=t) (u:=u) (k1:=kc) (k2:=kd) (c1:=.slice ac nc qc) (c2:=.slice ad nd qd) (.inr (by omega)) (Nat.le_refl 2) (by unfold maxLen;omega) (ag fN (o:=0) rfl) (ag fN (o:=1) rfl) (ag fN (o:=2) rfl) (ag fN (o:=3) rfl) (hN1.out.move (.weaken fun b h _=>.inr (by have h1:=h.1;omega))) (hN2.out.move (.weaken fun b h _=>.inr (by have h1:=h.1;omega)));refine(bV _ (.mk k [t,u]) _ _ hrd).mono ?_;rintro e X77 ⟨rfl,hb⟩;rw[HVV.out];clear hrd
    go_wp2_with fail
    have zX77:U4.heap.size≤X77.heap.size:=hb.size;replace fA:=af fA hb;replace fB:=af fB hb;replace fR:=af fR hb;replace fC:=zq (aj fC.out hb);replace hT:=zq (hT.out.below hb);replace hU_:=zq (hU_.out.below hb);replace hN1:=zq (hN1.out.below hb);replace fV:=af fV hb;replace hN2:=zq (hN2.out.below hb);replace fN:=af fN hb;refine hK.out _ _ ⟨ag fV rfl,ag fV rfl⟩ (fun hH135=>?_);clear hK K hH0 hb
    try simp only[eb,hwA]
    refine hwr 3 ec (fun K hK=>?_);obtain⟨r0,r1,rf0,rf1⟩:=co fR
    dsimp only[ec];go_simp
    (try go_wp2_with fail);have hQq:=bw fR (.int .i64 k) (.slice (some ⟨X54.heap.size,0,none⟩) 2 2);clear fR r0 rf0 r1 rf1;obtain⟨X78,hXq,hsq,fR,zX78a,zX78b⟩:=hQq;rw[hXq];replace fA:=hsq.blk (by omega) fA;replace fB:=hsq.blk (by omega) fB;replace fC:=zq (hsq.bel fC.out (by omega));replace hT:=zq (hsq.rep (fun b hb=>by have:b<w.heap.size:=hb;omega) hT.out);replace hU_:=zq (hsq.rep (fun b hb=>by have:b<w.heap.size:=hb;omega) hU_.out);replace hN1:=zq (hsq.rep (fun b hb=>by have h1:U1.heap.size≤b:=hb.1;have h2:b<X1.heap.size:=hb.2;omega) hN1.out);replace fV:=hsq.blk (by omega) fV;replace hN2:=zq (hsq.rep (fun b hb=>by have h1:X53.heap.size≤b:=hb.1;have h2:b<X54.heap.size:=hb.2;omega) hN2.out);replace fN:=hsq.blk (by omega) fN;refine hK.out _ _ ⟨ag fV rfl,ag fV rfl⟩ (fun hH136=>?_);clear hK K hH135 hsq hXq
    try simp only[ec,hwA]
    refine hwt 4 ed (.bool vv) hH136 ?_ ?_
    · intro w' hSw;dsimp only[ed];go_simp
    try simp only[ed,hwA]
    refine wpAnyH_done (by kernel_rfl) ?_ _;refine NoPanic.normal ?_;clear hH136;obtain⟨rc0,rc1⟩:=blk2 fR
    go_wp2_with fail
    refine bodyPost_ret (v:=.tuple #[.agg #[.int .i64 k,.slice (some ⟨X54.heap.size,0,none⟩) 2 2],.bool vv]) (by simp[results,Tryz.results117,go_sem,rc0,rc1]) rfl ?_;have hrd:ao (fun b=>False∨w.heap.size≤b) X78 (.mk k [t,u]) (.agg #[.int .i64 k,.slice (some ⟨X54.heap.size,0,none⟩) 2 2]):=ao.two_mk (F:=fun b=>False∨w.heap.size≤b) (w:=X78) (b:=X54.heap.size) (cap:=2) (k:=k) (t:=t) (u:=u) (k1:=kc) (k2:=kd) (c1:=.slice ac nc qc) (c2:=.slice ad nd qd) (.inr (by omega)) (Nat.le_refl 2) (by unfold maxLen;omega) (ag fN (o:=0) rfl) (ag fN (o:=1) rfl) (ag fN (o:=2) rfl) (ag fN (o:=3) rfl) (hN1.out.move (.weaken fun b h _=>.inr (by have h1:=h.1;omega))) (hN2.out.move (.weaken fun b h _=>.inr (by have h1:=h.1;omega)))
    exact⟨_,_,_,_,_,.mk k [t,u],rfl,(by rw[HO.out];cases vv<;>rfl),hrd,(by rw[HO.out];intro s h;cases vv<;>simp at h;exact h),fC.out⟩
  ·skip
   dsimp only[dY];go_simp
   (try go_wp2_with fail);obtain⟨X79,hXq,hb,fV,zX79a,zX79b⟩:=aU U1 (.cells #[.int .i64 0,.slice none 0 0] 25);rw[hXq];replace fA:=af fA hb;replace fB:=af fB hb;replace fR:=af fR hb;replace fC:=zq (aj fC.out hb);replace hT:=zq (hT.out.below hb);replace hU_:=zq (hU_.out.below hb);refine hK.out _ _ ⟨ag fA rfl,ag fA rfl,ag fB rfl,ag fB rfl⟩ (fun hH1=>?_);clear hK K hH0 hb hXq
   try simp only[dY,hwA]
   refine hwr 2 ky (fun K hK=>?_)
   dsimp only[ky];go_simp
   go_at_call 81
   refine(be _ t _ _ hT.out HCT.out).mono ?_;rintro e X80 ⟨v,rfl,hv,hb⟩;obtain⟨kc,ac,nc,qc,rfl⟩:=hv.shape;have hN1':=hv.rep.rg;clear hv
   go_wp2_with fail
   have zX80:X79.heap.size≤X80.heap.size:=hb.size;replace fA:=af fA hb;replace fB:=af fB hb;replace fR:=af fR hb;replace fC:=zq (aj fC.out hb);replace hT:=zq (hT.out.below hb);replace hU_:=zq (hU_.out.below hb);replace fV:=af fV hb;have hN1:=hN1';clear hN1';refine hK.out _ _ ⟨ag fA rfl,ag fA rfl,ag fB rfl,ag fB rfl⟩ (fun hH137=>?_);clear hK K hH1 hb
   try simp only[ky,hwA]
   refine hwr 4 fc (fun K hK=>?_)
   dsimp only[fc];go_simp
   go_at_call 81
   refine(be _ u _ _ hU_.out HCU.out).mono ?_;rintro e X81 ⟨v,rfl,hv,hb⟩;obtain⟨kd,ad,nd,qd,rfl⟩:=hv.shape;have hN2':=hv.rep.rg;clear hv
   go_wp2_with fail
   have zX81:X80.heap.size≤X81.heap.size:=hb.size;replace fA:=af fA hb;replace fB:=af fB hb;replace fR:=af fR hb;replace fC:=zq (aj fC.out hb);replace hT:=zq (hT.out.below hb);replace hU_:=zq (hU_.out.below hb);replace fV:=af fV hb;replace hN1:=zq (hN1.out.below hb);have hN2:=hN2';clear hN2';refine hK.out _ _ ⟨ag fA rfl,ag fA rfl,ag fB rfl,ag fB rfl⟩ (fun hH138=>?_);clear hK K hH137 hb
   try simp only[fc,hwA]
   refine hwr 5 dW (fun K hK=>?_)
   dsimp only[dW];go_simp
   (try go_wp2_with fail);obtain⟨X82,hXq,hb,fN,zX82a,zX82b⟩:=aU X81 (.cells #[.int .i64 kc,.slice ac nc qc,.int .i64 kd,.slice ad nd qd] 25);rw[hXq];replace fA:=af fA hb;replace fB:=af fB hb;replace fR:=af fR hb;replace fC:=zq (aj fC.out hb);replace hT:=zq (hT.out.below hb);replace hU_:=zq (hU_.out.below hb);replace fV:=af fV hb;replace hN1:=zq (hN1.out.below hb);replace hN2:=zq (hN2.out.below hb);refine hK.out _ _ ⟨ag fA rfl,ag fA rfl,ag fB rfl,ag fB rfl⟩ (fun hH139=>?_);clear hK K hH138 hb hXq
   try simp only[dW,hwA]
   refine hwt 6 dX (.agg #[.int .i64 k,.slice (some ⟨X81.heap.size,0,none⟩) 2 2]) hH139 ?_ ?_
   · intro w' hSw;dsimp only[dX];go_simp
   try simp only[dX,hwA]
   refine hwr 8 dZ (fun K hK=>?_);obtain⟨r0,r1,rf0,rf1⟩:=co fV
   dsimp only[dZ];go_simp
   (try go_wp2_with fail);have hQq:=bw fV (.int .i64 k) (.slice (some ⟨X81.heap.size,0,none⟩) 2 2);clear fV r0 rf0 r1 rf1;obtain⟨X83,hXq,hsq,fV,zX83a,zX83b⟩:=hQq;rw[hXq];replace fA:=hsq.blk (by omega) fA;replace fB:=hsq.blk (by omega) fB;replace fR:=hsq.blk (by omega) fR;replace fC:=zq (hsq.bel fC.out (by omega));replace hT:=zq (hsq.rep (fun b hb=>by have:b<w.heap.size:=hb;omega) hT.out);replace hU_:=zq (hsq.rep (fun b hb=>by have:b<w.heap.size:=hb;omega) hU_.out);replace hN1:=zq (hsq.rep (fun b hb=>by have h1:X79.heap.size≤b:=hb.1;have h2:b<X80.heap.size:=hb.2;omega) hN1.out);replace hN2:=zq (hsq.rep (fun b hb=>by have h1:X80.heap.size≤b:=hb.1;have h2:b<X81.heap.size:=hb.2;omega) hN2.out);replace fN:=hsq.blk (by omega) fN;refine hK.out _ _ ⟨ag fA rfl,ag fA rfl,ag fB rfl,ag fB rfl⟩ (fun hH140=>?_);clear hK K hH139 hsq hXq
   try simp only[dZ,hwA]
   refine wpAnyH_done (by kernel_rfl) ?_ _;refine NoPanic.normal ?_;clear hH140
   go_wp2_with fail
   refine wp_region_noPanic ?_;refine wp_region_held_drew (S:=fun w'=>w'.cell? ⟨U1.heap.size,0,none⟩=some (.int .i64 k)∧w'.cell? ⟨U1.heap.size,1,none⟩=some (.slice (some ⟨X81.heap.size,0,none⟩) 2 2)) (by kernel_rfl) ?_ (fun hH0=>?_)
   · exact⟨ag fV rfl,ag fV rfl⟩
   obtain⟨U5,hU,hb,zU5a,zU5b⟩:=bD X83;rw[hU] at hH0 ⊢;replace fA:=af fA hb;replace fB:=af fB hb;replace fR:=af fR hb;replace fC:=zq (aj fC.out hb);replace hT:=zq (hT.out.below hb);replace hU_:=zq (hU_.out.below hb);replace fV:=af fV hb;replace hN1:=zq (hN1.out.below hb);replace hN2:=zq (hN2.out.below hb);replace fN:=af fN hb;(try simp only[World.size_alloc] at zU5a zU5b);clear hU hb;refine hwt 0 e9 (.agg #[.int .i64 k,.slice (some ⟨X81.heap.size,0,none⟩) 2 2]) hH0 ?_ ?_
   · intro w' hSw;dsimp only[e9];go_simp
   try simp only[e9,hwA]
   refine hwt 1 ea (.agg #[.int .i64 k,.slice (some ⟨X81.heap.size,0,none⟩) 2 2]) hH0 ?_ ?_
   · intro w' hSw;dsimp only[ea];go_simp
   try simp only[ea,hwA]
   refine hwr 2 eb (fun K hK=>?_)
   dsimp only[eb];go_simp
   go_at_call 83
   have hrd:ao (fun b=>False∨w.heap.size≤b) U5 (.mk k [t,u]) (.agg #[.int .i64 k,.slice (some ⟨X81.heap.size,0,none⟩) 2 2]):=ao.two_mk (F:=fun b=>False∨w.heap.size≤b) (w:=U5) (b:=X81.heap.size) (cap:=2) (k:=k) (t:=t) (u:=u) (k1:=kc) (k2:=kd) (c1:=.slice ac nc qc) (c2:=.slice ad nd qd) (.inr (by omega)) (Nat.le_refl 2) (by unfold maxLen;omega) (ag fN (o:=0) rfl) (ag fN (o:=1) rfl) (ag fN (o:=2) rfl) (ag fN (o:=3) rfl) (hN1.out.move (.weaken fun b h _=>.inr (by have h1:=h.1;omega))) (hN2.out.move (.weaken fun b h _=>.inr (by have h1:=h.1;omega)));refine(bV _ (.mk k [t,u]) _ _ hrd).mono ?_;rintro e X104 ⟨rfl,hb⟩;rw[HVV.out];clear hrd
   go_wp2_with fail
   have zX104:U5.heap.size≤X104.heap.size:=hb.size;replace fA:=af fA hb;replace fB:=af fB hb;replace fR:=af fR hb;replace fC:=zq (aj fC.out hb);replace hT:=zq (hT.out.below hb);replace hU_:=zq (hU_.out.below hb);replace fV:=af fV hb;replace hN1:=zq (hN1.out.below hb);replace hN2:=zq (hN2.out.below hb);replace fN:=af fN hb;refine hK.out _ _ ⟨ag fV rfl,ag fV rfl⟩ (fun hH181=>?_);clear hK K hH0 hb
   try simp only[eb,hwA]
   refine hwr 3 ec (fun K hK=>?_);obtain⟨r0,r1,rf0,rf1⟩:=co fR
   dsimp only[ec];go_simp
   (try go_wp2_with fail);have hQq:=bw fR (.int .i64 k) (.slice (some ⟨X81.heap.size,0,none⟩) 2 2);clear fR r0 rf0 r1 rf1;obtain⟨X105,hXq,hsq,fR,zX105a,zX105b⟩:=hQq;rw[hXq];replace fA:=hsq.blk (by omega) fA;replace fB:=hsq.blk (by omega) fB;replace fC:=zq (hsq.bel fC.out (by omega));replace hT:=zq (hsq.rep (fun b hb=>by have:b<w.heap.size:=hb;omega) hT.out);replace hU_:=zq (hsq.rep (fun b hb=>by have:b<w.heap.size:=hb;omega) hU_.out);replace fV:=hsq.blk (by omega) fV;replace hN1:=zq (hsq.rep (fun b hb=>by have h1:X79.heap.size≤b:=hb.1;have h2:b<X80.heap.size:=hb.2;omega) hN1.out);replace hN2:=zq (hsq.rep (fun b hb=>by have h1:X80.heap.size≤b:=hb.1;have h2:b<X81.heap.size:=hb.2;omega) hN2.out);replace fN:=hsq.blk (by omega) fN;refine hK.out _ _ ⟨ag fV rfl,ag fV rfl⟩ (fun hH182=>?_);clear hK K hH181 hsq hXq
   try simp only[ec,hwA]
   refine hwt 4 ed (.bool vv) hH182 ?_ ?_
   · intro w' hSw;dsimp only[ed];go_simp
   try simp only[ed,hwA]
   refine wpAnyH_done (by kernel_rfl) ?_ _;refine NoPanic.normal ?_;clear hH182;obtain⟨rc0,rc1⟩:=blk2 fR
   go_wp2_with fail
   refine bodyPost_ret (v:=.tuple #[.agg #[.int .i64 k,.slice (some ⟨X81.heap.size,0,none⟩) 2 2],.bool vv]) (by simp[results,Tryz.results117,go_sem,rc0,rc1]) rfl ?_;have hrd:ao (fun b=>False∨w.heap.size≤b) X105 (.mk k [t,u]) (.agg #[.int .i64 k,.slice (some ⟨X81.heap.size,0,none⟩) 2 2]):=ao.two_mk (F:=fun b=>False∨w.heap.size≤b) (w:=X105) (b:=X81.heap.size) (cap:=2) (k:=k) (t:=t) (u:=u) (k1:=kc) (k2:=kd) (c1:=.slice ac nc qc) (c2:=.slice ad nd qd) (.inr (by omega)) (Nat.le_refl 2) (by unfold maxLen;omega) (ag fN (o:=0) rfl) (ag fN (o:=1) rfl) (ag fN (o:=2) rfl) (ag fN (o:=3) rfl) (hN1.out.move (.weaken fun b h _=>.inr (by have h1:=h.1;omega))) (hN2.out.move (.weaken fun b h _=>.inr (by have h1:=h.1;omega)))
   exact⟨_,_,_,_,_,.mk k [t,u],rfl,(by rw[HO.out];cases vv<;>rfl),hrd,(by rw[HO.out];intro s h;cases vv<;>simp at h;exact h),fC.out⟩
end Go.Proofs.YtfahhonmiimmdaaGreat

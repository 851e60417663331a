/- spec.l3Type at a function. And what else its parts name. -/
import Derived.Test.YtfahhonmiimmdaaGreatB17
set_option linter.unusedSimpArgs false
set_option linter.unusedVariables false
set_option maxRecDepth 100000
set_option maxHeartbeats 16000000
namespace Go.Proofs.YtfahhonmiimmdaaGreat
open Go.RowKit
def fb:Oper:=⟨some 32,.move (.tmp 0),96,"l3_typing.go:108",#[],none⟩
def fc:Oper:=⟨some 33,.fieldAddr 28 (.tmp 3) 1,0,"l3_typing.go:108",#[],none⟩
def fd:Oper:=⟨some 34,.load 9 (.tmp 33),9,"l3_typing.go:108",#[⟨1,.data⟩],none⟩
def fe:Oper:=⟨some 35,.fieldAddr 28 (.tmp 3) 3,0,"l3_typing.go:108",#[],none⟩
def fg:Oper:=⟨some 36,.load 25 (.tmp 35),25,"l3_typing.go:108",#[⟨3,.data⟩],none⟩
def dg:Oper:=⟨some 37,.call {callee:=.value (.func 109),args:=#[.tmp 32,.tmp 34,.tmp 36],argTypes:=#[96,9,25]},96,"l3_typing.go:108",#[⟨0,.data⟩,⟨2,.data⟩,⟨4,.data⟩],none⟩
def fh:Oper:=⟨some 38,.fieldAddr 28 (.tmp 3) 6,0,"l3_typing.go:108",#[],none⟩
def fi:Oper:=⟨some 39,.load 26 (.tmp 38),26,"l3_typing.go:108",#[⟨6,.data⟩],none⟩
def fj:Oper:=⟨some 40,.indexAddr 26 (.tmp 39) (.const (.int .i64 0)),0,"l3_typing.go:108",#[⟨7,.data⟩],none⟩
def fl:Oper:=⟨some 41,.load 28 (.tmp 40),28,"l3_typing.go:108",#[⟨8,.data⟩],none⟩
def bR:Oper:=⟨some 42,.call {callee:=.value (.func 112),args:=#[.tmp 37,.tmp 41],argTypes:=#[96,28]},73,"l3_typing.go:108",#[⟨5,.data⟩,⟨9,.data⟩,⟨5,.chain⟩],none⟩
def bS:Oper:=⟨some 31,.move (.tmp 42),73,"l3_typing.go:108",#[⟨10,.data⟩],none⟩
def bT:Oper:=⟨some 43,.extract (.tmp 31) 0,25,"l3_typing.go:108",#[⟨11,.data⟩],none⟩
def bU:Oper:=⟨some 44,.extract (.tmp 31) 1,4,"l3_typing.go:108",#[⟨11,.data⟩,⟨15,.gcOnly .lateStores⟩],none⟩
def bV:Oper:=⟨some 6,.alloc 25,0,"l3_typing.go:108",#[],none⟩
def bW:Oper:=⟨none,.store 25 (.tmp 6) (.tmp 43),0,"l3_typing.go:108",#[⟨14,.data⟩,⟨12,.data⟩,⟨10,.chain⟩,⟨0,.phase⟩,⟨1,.phase⟩,⟨2,.phase⟩,⟨3,.phase⟩,⟨4,.phase⟩,⟨5,.phase⟩,⟨6,.phase⟩,⟨7,.phase⟩,⟨8,.phase⟩,⟨9,.phase⟩,⟨10,.phase⟩,⟨11,.phase⟩,⟨12,.phase⟩,⟨13,.textOnly .lateStores⟩,⟨14,.phase⟩],none⟩
def bX:Oper:=⟨some 7,.assign (.tmp 44),4,"l3_typing.go:108",#[⟨13,.data⟩,⟨15,.chain⟩,⟨0,.phase⟩,⟨1,.phase⟩,⟨2,.phase⟩,⟨3,.phase⟩,⟨4,.phase⟩,⟨5,.phase⟩,⟨6,.phase⟩,⟨7,.phase⟩,⟨8,.phase⟩,⟨9,.phase⟩,⟨10,.phase⟩,⟨11,.phase⟩,⟨12,.phase⟩,⟨13,.phase⟩,⟨14,.phase⟩,⟨15,.phase⟩],none⟩
theorem mY (G:Nat→Prop)(nm:ByteArray)(u lb tk fk:Int)(ty src:Ty)(t1:Tm)(l:List Bd)(xa ta fa ca:Option Addr)(xn xq tn tq fn fq cm cq:Nat)(w:World)
    (he:aA G w (.mk 5 nm u ty src lb [t1]) (.agg #[.int .i64 5,.string nm,.int .i64 u,.int .i64 tk,.slice ta tn tq,.int .i64 fk,.slice fa fn fq,.int .i64 lb,.slice ca cm cq])) (hv:ty.valid=true)
    (HM:Hid (∀W,Below w.heap.size w W→Calls Tryz.prog 109 #[.slice xa xn xq,.string nm,.agg #[.int .i64 tk,.slice ta tn tq]] W (RetC (l ++ [⟨nm,ty⟩]) W)))
    (IH:Hid (∀(W:World) (c' y':Value),Below w.heap.size w W→aL (fun _=>True) W (l ++ [⟨nm,ty⟩]) c'→aA G W t1 y'→(∃a m q,c' = .slice (some a) m q)→Calls Tryz.prog 112 #[c',y'] W (bM ((t1.typS (l ++ [⟨nm,ty⟩])).map S.ty) W)))
    (hco:t1.typS (l ++ [⟨nm,ty⟩])=none) :
    Calls Tryz.prog 112 #[.slice xa xn xq,.agg #[.int .i64 5,.string nm,.int .i64 u,.int .i64 tk,.slice ta tn tq,.int .i64 fk,.slice fa fn fq,.int .i64 lb,.slice ca cm cq]] w (bM (((Tm.mk 5 nm u ty src lb [t1]).typS l).map S.ty) w):=by
  obtain⟨-,-,-,-,-,-,-,-,hm,hnm,hmq,hqm,hty,hsrc,hks⟩:=he.parts;simp only[Tm.type,Tm.src,Tm.kids,List.length_cons,List.length_nil] at hm hty hsrc hks;obtain rfl:cm=1:=by omega
  obtain⟨b,off,kk0,nn0,uu0,tk0,ta0,tn0,tq0,fk0,fa0,fn0,fq0,ll0,a0,m0,q0,rfl,hlb,e0,e1,e2,e3,e4,e5,e6,e7,e8,ht⟩:=hks.at (Below.refl _ _) (i:=0) (by simp);simp only[Nat.zero_mul,Nat.add_zero] at e0 e1 e2 e3 e4 e5 e6 e7 e8;have HTK:=zq (show aA G w t1 _ from ht);have HTY:=zq hty.old;have HCN:=zq (Ty.cnt_valid hv);have HVT:=zq hv;have HCO:=zq hco;obtain⟨O,hO⟩ : ∃O:Option Ty,O=(((Tm.mk 5 nm u ty src lb [t1]).typS l).map S.ty):=⟨_,rfl⟩
  rw[←hO];have HO:=zq hO;clear hO he hm hty hsrc hks ht hv hco
  go_enter Tryz.func112,Tryz.ntmps112
  go_wp2_with fail
  obtain⟨VV,hVV⟩ : ∃X,X=((w.alloc (.cells #[.int .i64 5,.string nm,.int .i64 u,.int .i64 tk,.slice ta tn tq,.int .i64 fk,.slice fa fn fq,.int .i64 lb,.slice (some ⟨b,off,none⟩) 1 cq] 28)).alloc (.cells #[.int .i64 0,.slice none 0 0] 25)):=⟨_,rfl⟩
  have fE:VV.heap[w.heap.size]?=some (.cells #[.int .i64 5,.string nm,.int .i64 u,.int .i64 tk,.slice ta tn tq,.int .i64 fk,.slice fa fn fq,.int .i64 lb,.slice (some ⟨b,off,none⟩) 1 cq] 28 (0,0)):=by rw[hVV];exact ag (aF rfl) aj
  have fR:VV.heap[w.heap.size+1]?=some (.cells #[.int .i64 0,.slice none 0 0] 25 (0,0)):=by rw[hVV];exact aF (by simp)
  have c0_:VV.cell? ⟨b,off,none⟩=some (.int .i64 kk0):=by rw[hVV];exact af aj (af aj e0)
  have c1_:VV.cell? ⟨b,off+1,none⟩=some (.string nn0):=by rw[hVV];exact af aj (af aj e1)
  have c2_:VV.cell? ⟨b,off+2,none⟩=some (.int .i64 uu0):=by rw[hVV];exact af aj (af aj e2)
  have c3_:VV.cell? ⟨b,off+3,none⟩=some (.int .i64 tk0):=by rw[hVV];exact af aj (af aj e3)
  have c4_:VV.cell? ⟨b,off+4,none⟩=some (.slice ta0 tn0 tq0):=by rw[hVV];exact af aj (af aj e4)
  have c5_:VV.cell? ⟨b,off+5,none⟩=some (.int .i64 fk0):=by rw[hVV];exact af aj (af aj e5)
  have c6_:VV.cell? ⟨b,off+6,none⟩=some (.slice fa0 fn0 fq0):=by rw[hVV];exact af aj (af aj e6)
  have c7_:VV.cell? ⟨b,off+7,none⟩=some (.int .i64 ll0):=by rw[hVV];exact af aj (af aj e7)
  have c8_:VV.cell? ⟨b,off+8,none⟩=some (.slice a0 m0 q0):=by rw[hVV];exact af aj (af aj e8)
  have fC:Hid (Below w.heap.size w VV):=by rw[hVV];exact zq (al aj aj)
  have hT:Hid (ap (· < w.heap.size) VV ty (.agg #[.int .i64 tk,.slice ta tn tq])):=by rw[hVV];exact zq ((HTY.out.below aj).below aj)
  rw[←hVV];have zV:VV.heap.size=_:=congrArg (fun X:World=>X.heap.size) hVV;simp only[World.size_alloc] at zV;refine wp_region_noPanic ?_;refine wp_region_held_drew (S:=fun w'=>w'.cell? ⟨w.heap.size,1,none⟩=some (.string nm)∧w'.cell? ⟨w.heap.size,3,none⟩=some (.int .i64 tk)∧w'.cell? ⟨w.heap.size,4,none⟩=some (.slice ta tn tq)∧w'.cell? ⟨w.heap.size,8,none⟩=some (.slice (some ⟨b,off,none⟩) 1 cq)∧w'.cell? ⟨b,off,none⟩=some (.int .i64 kk0)∧w'.cell? ⟨b,off+1,none⟩=some (.string nn0)∧w'.cell? ⟨b,off+2,none⟩=some (.int .i64 uu0)∧w'.cell? ⟨b,off+3,none⟩=some (.int .i64 tk0)∧w'.cell? ⟨b,off+4,none⟩=some (.slice ta0 tn0 tq0)∧w'.cell? ⟨b,off+5,none⟩=some (.int .i64 fk0)∧w'.cell? ⟨b,off+6,none⟩=some (.slice fa0 fn0 fq0)∧w'.cell? ⟨b,off+7,none⟩=some (.int .i64 ll0)∧w'.cell? ⟨b,off+8,none⟩=some (.slice a0 m0 q0)) (by kernel_rfl) ?_ (fun hH0=>?_)
  · exact⟨ah fE rfl,ah fE rfl,ah fE rfl,ah fE rfl,c0_,c1_,c2_,c3_,c4_,c5_,c6_,c7_,c8_⟩
  obtain⟨U1,hU,hb,zU1a,zU1b⟩:=bK VV;rw[hU] at hH0 ⊢;replace fE:=ag fE hb;replace fR:=ag fR hb;replace c0_:=af hb c0_;replace c1_:=af hb c1_;replace c2_:=af hb c2_;replace c3_:=af hb c3_;replace c4_:=af hb c4_;replace c5_:=af hb c5_;replace c6_:=af hb c6_;replace c7_:=af hb c7_;replace c8_:=af hb c8_;replace fC:=zq (al fC.out hb);replace hT:=zq (hT.out.below hb);rw[zV] at zU1a zU1b;clear hU hb hVV zV;refine hwt 0 fb (.slice xa xn xq) hH0 ?_ ?_
  · intro w' hSw;dsimp only[fb];go_simp
  try simp only[fb,hwA]
  refine hwt 1 fc (.pointer (some ⟨w.heap.size,1,none⟩)) hH0 ?_ ?_
  · intro w' hSw;dsimp only[fc];go_simp
  try simp only[fc,hwA]
  refine hwt 2 fd (.string nm) hH0 ?_ ?_
  · intro w' hSw;dsimp only[fd];go_simp
  try simp only[fd,hwA]
  refine hwt 3 fe (.pointer (some ⟨w.heap.size,3,none⟩)) hH0 ?_ ?_
  · intro w' hSw;dsimp only[fe];go_simp
  try simp only[fe,hwA]
  refine hwt 4 fg (.agg #[.int .i64 tk,.slice ta tn tq]) hH0 ?_ ?_
  · intro w' hSw;dsimp only[fg];go_simp
  try simp only[fg,hwA]
  refine hwt 6 fh (.pointer (some ⟨w.heap.size,8,none⟩)) hH0 ?_ ?_
  · intro w' hSw;dsimp only[fh];go_simp
  try simp only[fh,hwA]
  refine hwt 7 fi (.slice (some ⟨b,off,none⟩) 1 cq) hH0 ?_ ?_
  · intro w' hSw;dsimp only[fi];go_simp
  try simp only[fi,hwA]
  refine hwt 8 fj (.pointer (some ⟨b,off,none⟩)) hH0 ?_ ?_
  · intro w' hSw;dsimp only[fj];go_simp
  try simp only[fj,hwA]
  refine hwt 9 fl (.agg #[.int .i64 kk0,.string nn0,.int .i64 uu0,.int .i64 tk0,.slice ta0 tn0 tq0,.int .i64 fk0,.slice fa0 fn0 fq0,.int .i64 ll0,.slice a0 m0 q0]) hH0 ?_ ?_
  · intro w' hSw;dsimp only[fl];go_simp
  try simp only[fl,hwA]
  refine wpAnyH_ready (rs:= [5,14]) (by kernel_rfl) (by simp) ?_;refine(AllReadyH.cons (o:=dg) rfl (fun K hK=>?_) (AllReadyH.cons (o:=bV) rfl (fun K hK=>?_) AllReadyH.nil))
  ·skip
   dsimp only[dg];go_simp
   go_at_call 109
   refine(HM.out _ fC.out).mono ?_;rintro e X1 ⟨xa2,xm2,xq2,rfl,hcx,hb⟩;have hX':Hid (aL (fun _=>True) X1 (l ++ [⟨nm,ty⟩]) (.slice (some xa2) xm2 xq2)):=zq hcx;clear hcx
   go_wp2_with fail
   have zX1:U1.heap.size≤X1.heap.size:=hb.size;replace fE:=ag fE hb;replace fR:=ag fR hb;replace c0_:=af hb c0_;replace c1_:=af hb c1_;replace c2_:=af hb c2_;replace c3_:=af hb c3_;replace c4_:=af hb c4_;replace c5_:=af hb c5_;replace c6_:=af hb c6_;replace c7_:=af hb c7_;replace c8_:=af hb c8_;replace fC:=zq (al fC.out hb);replace hT:=zq (hT.out.below hb);have hX:=hX';clear hX';refine hK.out _ _ ⟨ah fE rfl,ah fE rfl,ah fE rfl,ah fE rfl,c0_,c1_,c2_,c3_,c4_,c5_,c6_,c7_,c8_⟩ (fun hH1=>?_);clear hK K hH0 hb
   try simp only[dg,hwA]
   refine wpAnyH_ready (rs:= [10,14]) (by kernel_rfl) (by simp) ?_;refine(AllReadyH.cons (o:=bR) rfl (fun K hK=>?_) (AllReadyH.cons (o:=bV) rfl (fun K hK=>?_) AllReadyH.nil))
   ·skip
    dsimp only[bR];go_simp
    go_at_call 112
    refine(IH.out _ _ _ fC.out hX.out (HTK.out.below fC.out) ⟨_,_,_,rfl⟩).mono ?_;rintro e X2 ⟨kt,at_,nt,qt,bt,tt,rfl,hbt,htt,hot,hb⟩;rw[HCO.out] at hbt hot;obtain rfl:bt=false:=hbt;have hN':Hid (ap (fun b=>X1.heap.size≤b∧b<X2.heap.size) X2 tt (.agg #[.int .i64 kt,.slice at_ nt qt])):=zq (htt.move (.weaken fun b h1 h2=>⟨h1.elim False.elim id,h2⟩));clear htt hot
    go_wp2_with fail
    have zX2:X1.heap.size≤X2.heap.size:=hb.size;replace fE:=ag fE hb;replace fR:=ag fR hb;replace c0_:=af hb c0_;replace c1_:=af hb c1_;replace c2_:=af hb c2_;replace c3_:=af hb c3_;replace c4_:=af hb c4_;replace c5_:=af hb c5_;replace c6_:=af hb c6_;replace c7_:=af hb c7_;replace c8_:=af hb c8_;replace fC:=zq (al fC.out hb);replace hT:=zq (hT.out.below hb);replace hX:=zq (hX.out.below hb);have hN:=hN';clear hN';refine hK.out _ _ ⟨ah fE rfl,ah fE rfl,ah fE rfl,ah fE rfl,c0_,c1_,c2_,c3_,c4_,c5_,c6_,c7_,c8_⟩ (fun hH2=>?_);clear hK K hH1 hb
    try simp only[bR,hwA]
    refine hwt 11 bS (.tuple #[.agg #[.int .i64 kt,.slice at_ nt qt],.bool false]) hH2 ?_ ?_
    · intro w' hSw;dsimp only[bS];go_simp
    try simp only[bS,hwA]
    refine hwt 12 bT (.agg #[.int .i64 kt,.slice at_ nt qt]) hH2 ?_ ?_
    · intro w' hSw;dsimp only[bT];go_simp
    try simp only[bT,hwA]
    refine hwt 13 bU (.bool false) hH2 ?_ ?_
    · intro w' hSw;dsimp only[bU];go_simp
    try simp only[bU,hwA]
    refine hwr 14 bV (fun K hK=>?_)
    dsimp only[bV];go_simp
    (try go_wp2_with fail);obtain⟨X3,hXq,hb,fV,zX3a,zX3b⟩:=aZ X2 (.cells #[.int .i64 0,.slice none 0 0] 25);rw[hXq];replace fE:=ag fE hb;replace fR:=ag fR hb;replace c0_:=af hb c0_;replace c1_:=af hb c1_;replace c2_:=af hb c2_;replace c3_:=af hb c3_;replace c4_:=af hb c4_;replace c5_:=af hb c5_;replace c6_:=af hb c6_;replace c7_:=af hb c7_;replace c8_:=af hb c8_;replace fC:=zq (al fC.out hb);replace hT:=zq (hT.out.below hb);replace hX:=zq (hX.out.below hb);replace hN:=zq (hN.out.below hb);refine hK.out _ _ ⟨ah fE rfl,ah fE rfl,ah fE rfl,ah fE rfl,c0_,c1_,c2_,c3_,c4_,c5_,c6_,c7_,c8_⟩ (fun hH3=>?_);clear hK K hH2 hb hXq
    try simp only[bV,hwA]
    refine hwr 15 bW (fun K hK=>?_);obtain⟨r0,r1,rf0,rf1⟩:=co fV
    dsimp only[bW];go_simp
    (try go_wp2_with fail);have hQq:=bC fV (.int .i64 kt) (.slice at_ nt qt);clear fV r0 rf0 r1 rf1;obtain⟨X4,hXq,hsq,fV,zX4a,zX4b⟩:=hQq;rw[hXq];replace fE:=hsq.blk (by omega) fE;replace fR:=hsq.blk (by omega) fR;replace c0_:=hsq.cell (by show b≠X2.heap.size;omega) c0_;replace c1_:=hsq.cell (by show b≠X2.heap.size;omega) c1_;replace c2_:=hsq.cell (by show b≠X2.heap.size;omega) c2_;replace c3_:=hsq.cell (by show b≠X2.heap.size;omega) c3_;replace c4_:=hsq.cell (by show b≠X2.heap.size;omega) c4_;replace c5_:=hsq.cell (by show b≠X2.heap.size;omega) c5_;replace c6_:=hsq.cell (by show b≠X2.heap.size;omega) c6_;replace c7_:=hsq.cell (by show b≠X2.heap.size;omega) c7_;replace c8_:=hsq.cell (by show b≠X2.heap.size;omega) c8_;replace fC:=zq (hsq.bel fC.out (by omega));replace hT:=zq (hsq.rep (fun b hb=>by have:b<w.heap.size:=hb;omega) hT.out);replace hN:=zq (hsq.rep (fun b hb=>by have h1:X1.heap.size≤b:=hb.1;have h2:b<X2.heap.size:=hb.2;omega) hN.out);refine hK.out _ _ ⟨ah fE rfl,ah fE rfl,ah fE rfl,ah fE rfl,c0_,c1_,c2_,c3_,c4_,c5_,c6_,c7_,c8_⟩ (fun hH4=>?_);clear hK K hH3 hsq hXq hX
    try simp only[bW,hwA]
    refine hwt 16 bX (.bool false) hH4 ?_ ?_
    · intro w' hSw;dsimp only[bX];go_simp
    try simp only[bX,hwA]
    refine wpAnyH_done (by kernel_rfl) ?_ _;refine NoPanic.normal ?_;clear hH4;obtain⟨r0,r1⟩:=blk2 fR;have rf0:=ao fR 0;have rf1:=ao fR 1
    go_wp2_with fail
    have hY:((X4.setCell ⟨w.heap.size+1,0,none⟩ (.int .i64 0)).setCell ⟨w.heap.size+1,1,none⟩ (.slice none 0 0)).heap[w.heap.size+1]?=some (.cells #[.int .i64 0,.slice none 0 0] 25 (0,0)):=aN (aN fR rfl) rfl;obtain⟨rc0,rc1⟩:=blk2 hY;refine bodyPost_ret (v:=.tuple #[.agg #[.int .i64 0,.slice none 0 0],.bool false]) (by simp[results,Tryz.results112,go_sem,rc0,rc1]) rfl ?_
    exact⟨_,_,_,_,_,_,rfl,by rw[HO.out,ee HCO.out];rfl,ap.zeroG,(by rw[HO.out,ee HCO.out];intro s h;simp at h),(fC.out.setCell (p:=⟨w.heap.size+1,0,none⟩) (by show w.heap.size≤w.heap.size+1;omega) _).setCell (p:=⟨w.heap.size+1,1,none⟩) (by show w.heap.size≤w.heap.size+1;omega) _⟩
   ·skip
    dsimp only[bV];go_simp
    (try go_wp2_with fail);obtain⟨X5,hXq,hb,fV,zX5a,zX5b⟩:=aZ X1 (.cells #[.int .i64 0,.slice none 0 0] 25);rw[hXq];replace fE:=ag fE hb;replace fR:=ag fR hb;replace c0_:=af hb c0_;replace c1_:=af hb c1_;replace c2_:=af hb c2_;replace c3_:=af hb c3_;replace c4_:=af hb c4_;replace c5_:=af hb c5_;replace c6_:=af hb c6_;replace c7_:=af hb c7_;replace c8_:=af hb c8_;replace fC:=zq (al fC.out hb);replace hT:=zq (hT.out.below hb);replace hX:=zq (hX.out.below hb);refine hK.out _ _ ⟨ah fE rfl,ah fE rfl,ah fE rfl,ah fE rfl,c0_,c1_,c2_,c3_,c4_,c5_,c6_,c7_,c8_⟩ (fun hH2=>?_);clear hK K hH1 hb hXq
    try simp only[bV,hwA]
    refine hwr 10 bR (fun K hK=>?_)
    dsimp only[bR];go_simp
    go_at_call 112
    refine(IH.out _ _ _ fC.out hX.out (HTK.out.below fC.out) ⟨_,_,_,rfl⟩).mono ?_;rintro e X6 ⟨kt,at_,nt,qt,bt,tt,rfl,hbt,htt,hot,hb⟩;rw[HCO.out] at hbt hot;obtain rfl:bt=false:=hbt;have hN':Hid (ap (fun b=>X5.heap.size≤b∧b<X6.heap.size) X6 tt (.agg #[.int .i64 kt,.slice at_ nt qt])):=zq (htt.move (.weaken fun b h1 h2=>⟨h1.elim False.elim id,h2⟩));clear htt hot
    go_wp2_with fail
    have zX6:X5.heap.size≤X6.heap.size:=hb.size;replace fE:=ag fE hb;replace fR:=ag fR hb;replace c0_:=af hb c0_;replace c1_:=af hb c1_;replace c2_:=af hb c2_;replace c3_:=af hb c3_;replace c4_:=af hb c4_;replace c5_:=af hb c5_;replace c6_:=af hb c6_;replace c7_:=af hb c7_;replace c8_:=af hb c8_;replace fC:=zq (al fC.out hb);replace hT:=zq (hT.out.below hb);replace hX:=zq (hX.out.below hb);replace fV:=ag fV hb;have hN:=hN';clear hN';refine hK.out _ _ ⟨ah fE rfl,ah fE rfl,ah fE rfl,ah fE rfl,c0_,c1_,c2_,c3_,c4_,c5_,c6_,c7_,c8_⟩ (fun hH5=>?_);clear hK K hH2 hb
    try simp only[bR,hwA]
    refine hwt 11 bS (.tuple #[.agg #[.int .i64 kt,.slice at_ nt qt],.bool false]) hH5 ?_ ?_
    · intro w' hSw;dsimp only[bS];go_simp
    try simp only[bS,hwA]
    refine hwt 12 bT (.agg #[.int .i64 kt,.slice at_ nt qt]) hH5 ?_ ?_
    · intro w' hSw;dsimp only[bT];go_simp
    try simp only[bT,hwA]
    refine hwt 13 bU (.bool false) hH5 ?_ ?_
    · intro w' hSw;dsimp only[bU];go_simp
    try simp only[bU,hwA]
    refine hwr 15 bW (fun K hK=>?_);obtain⟨r0,r1,rf0,rf1⟩:=co fV
    dsimp only[bW];go_simp
    (try go_wp2_with fail);have hQq:=bC fV (.int .i64 kt) (.slice at_ nt qt);clear fV r0 rf0 r1 rf1;obtain⟨X7,hXq,hsq,fV,zX7a,zX7b⟩:=hQq;rw[hXq];replace fE:=hsq.blk (by omega) fE;replace fR:=hsq.blk (by omega) fR;replace c0_:=hsq.cell (by show b≠X1.heap.size;omega) c0_;replace c1_:=hsq.cell (by show b≠X1.heap.size;omega) c1_;replace c2_:=hsq.cell (by show b≠X1.heap.size;omega) c2_;replace c3_:=hsq.cell (by show b≠X1.heap.size;omega) c3_;replace c4_:=hsq.cell (by show b≠X1.heap.size;omega) c4_;replace c5_:=hsq.cell (by show b≠X1.heap.size;omega) c5_;replace c6_:=hsq.cell (by show b≠X1.heap.size;omega) c6_;replace c7_:=hsq.cell (by show b≠X1.heap.size;omega) c7_;replace c8_:=hsq.cell (by show b≠X1.heap.size;omega) c8_;replace fC:=zq (hsq.bel fC.out (by omega));replace hT:=zq (hsq.rep (fun b hb=>by have:b<w.heap.size:=hb;omega) hT.out);replace hN:=zq (hsq.rep (fun b hb=>by have h1:X5.heap.size≤b:=hb.1;have h2:b<X6.heap.size:=hb.2;omega) hN.out);refine hK.out _ _ ⟨ah fE rfl,ah fE rfl,ah fE rfl,ah fE rfl,c0_,c1_,c2_,c3_,c4_,c5_,c6_,c7_,c8_⟩ (fun hH6=>?_);clear hK K hH5 hsq hXq hX
    try simp only[bW,hwA]
    refine hwt 16 bX (.bool false) hH6 ?_ ?_
    · intro w' hSw;dsimp only[bX];go_simp
    try simp only[bX,hwA]
    refine wpAnyH_done (by kernel_rfl) ?_ _;refine NoPanic.normal ?_;clear hH6;obtain⟨r0,r1⟩:=blk2 fR;have rf0:=ao fR 0;have rf1:=ao fR 1
    go_wp2_with fail
    have hY:((X7.setCell ⟨w.heap.size+1,0,none⟩ (.int .i64 0)).setCell ⟨w.heap.size+1,1,none⟩ (.slice none 0 0)).heap[w.heap.size+1]?=some (.cells #[.int .i64 0,.slice none 0 0] 25 (0,0)):=aN (aN fR rfl) rfl;obtain⟨rc0,rc1⟩:=blk2 hY;refine bodyPost_ret (v:=.tuple #[.agg #[.int .i64 0,.slice none 0 0],.bool false]) (by simp[results,Tryz.results112,go_sem,rc0,rc1]) rfl ?_
    exact⟨_,_,_,_,_,_,rfl,by rw[HO.out,ee HCO.out];rfl,ap.zeroG,(by rw[HO.out,ee HCO.out];intro s h;simp at h),(fC.out.setCell (p:=⟨w.heap.size+1,0,none⟩) (by show w.heap.size≤w.heap.size+1;omega) _).setCell (p:=⟨w.heap.size+1,1,none⟩) (by show w.heap.size≤w.heap.size+1;omega) _⟩
  ·skip
   dsimp only[bV];go_simp
   (try go_wp2_with fail);obtain⟨X8,hXq,hb,fV,zX8a,zX8b⟩:=aZ U1 (.cells #[.int .i64 0,.slice none 0 0] 25);rw[hXq];replace fE:=ag fE hb;replace fR:=ag fR hb;replace c0_:=af hb c0_;replace c1_:=af hb c1_;replace c2_:=af hb c2_;replace c3_:=af hb c3_;replace c4_:=af hb c4_;replace c5_:=af hb c5_;replace c6_:=af hb c6_;replace c7_:=af hb c7_;replace c8_:=af hb c8_;replace fC:=zq (al fC.out hb);replace hT:=zq (hT.out.below hb);refine hK.out _ _ ⟨ah fE rfl,ah fE rfl,ah fE rfl,ah fE rfl,c0_,c1_,c2_,c3_,c4_,c5_,c6_,c7_,c8_⟩ (fun hH1=>?_);clear hK K hH0 hb hXq
   try simp only[bV,hwA]
   refine hwr 5 dg (fun K hK=>?_)
   dsimp only[dg];go_simp
   go_at_call 109
   refine(HM.out _ fC.out).mono ?_;rintro e X9 ⟨xa2,xm2,xq2,rfl,hcx,hb⟩;have hX':Hid (aL (fun _=>True) X9 (l ++ [⟨nm,ty⟩]) (.slice (some xa2) xm2 xq2)):=zq hcx;clear hcx
   go_wp2_with fail
   have zX9:X8.heap.size≤X9.heap.size:=hb.size;replace fE:=ag fE hb;replace fR:=ag fR hb;replace c0_:=af hb c0_;replace c1_:=af hb c1_;replace c2_:=af hb c2_;replace c3_:=af hb c3_;replace c4_:=af hb c4_;replace c5_:=af hb c5_;replace c6_:=af hb c6_;replace c7_:=af hb c7_;replace c8_:=af hb c8_;replace fC:=zq (al fC.out hb);replace hT:=zq (hT.out.below hb);replace fV:=ag fV hb;have hX:=hX';clear hX';refine hK.out _ _ ⟨ah fE rfl,ah fE rfl,ah fE rfl,ah fE rfl,c0_,c1_,c2_,c3_,c4_,c5_,c6_,c7_,c8_⟩ (fun hH7=>?_);clear hK K hH1 hb
   try simp only[dg,hwA]
   refine hwr 10 bR (fun K hK=>?_)
   dsimp only[bR];go_simp
   go_at_call 112
   refine(IH.out _ _ _ fC.out hX.out (HTK.out.below fC.out) ⟨_,_,_,rfl⟩).mono ?_;rintro e X10 ⟨kt,at_,nt,qt,bt,tt,rfl,hbt,htt,hot,hb⟩;rw[HCO.out] at hbt hot;obtain rfl:bt=false:=hbt;have hN':Hid (ap (fun b=>X9.heap.size≤b∧b<X10.heap.size) X10 tt (.agg #[.int .i64 kt,.slice at_ nt qt])):=zq (htt.move (.weaken fun b h1 h2=>⟨h1.elim False.elim id,h2⟩));clear htt hot
   go_wp2_with fail
   have zX10:X9.heap.size≤X10.heap.size:=hb.size;replace fE:=ag fE hb;replace fR:=ag fR hb;replace c0_:=af hb c0_;replace c1_:=af hb c1_;replace c2_:=af hb c2_;replace c3_:=af hb c3_;replace c4_:=af hb c4_;replace c5_:=af hb c5_;replace c6_:=af hb c6_;replace c7_:=af hb c7_;replace c8_:=af hb c8_;replace fC:=zq (al fC.out hb);replace hT:=zq (hT.out.below hb);replace fV:=ag fV hb;replace hX:=zq (hX.out.below hb);have hN:=hN';clear hN';refine hK.out _ _ ⟨ah fE rfl,ah fE rfl,ah fE rfl,ah fE rfl,c0_,c1_,c2_,c3_,c4_,c5_,c6_,c7_,c8_⟩ (fun hH8=>?_);clear hK K hH7 hb
   try simp only[bR,hwA]
   refine hwt 11 bS (.tuple #[.agg #[.int .i64 kt,.slice at_ nt qt],.bool false]) hH8 ?_ ?_
   · intro w' hSw;dsimp only[bS];go_simp
   try simp only[bS,hwA]
   refine hwt 12 bT (.agg #[.int .i64 kt,.slice at_ nt qt]) hH8 ?_ ?_
   · intro w' hSw;dsimp only[bT];go_simp
   try simp only[bT,hwA]
   refine hwt 13 bU (.bool false) hH8 ?_ ?_
   · intro w' hSw;dsimp only[bU];go_simp
   try simp only[bU,hwA]
   refine hwr 15 bW (fun K hK=>?_);obtain⟨r0,r1,rf0,rf1⟩:=co fV
   dsimp only[bW];go_simp
   (try go_wp2_with fail);have hQq:=bC fV (.int .i64 kt) (.slice at_ nt qt);clear fV r0 rf0 r1 rf1;obtain⟨X11,hXq,hsq,fV,zX11a,zX11b⟩:=hQq;rw[hXq];replace fE:=hsq.blk (by omega) fE;replace fR:=hsq.blk (by omega) fR;replace c0_:=hsq.cell (by show b≠U1.heap.size;omega) c0_;replace c1_:=hsq.cell (by show b≠U1.heap.size;omega) c1_;replace c2_:=hsq.cell (by show b≠U1.heap.size;omega) c2_;replace c3_:=hsq.cell (by show b≠U1.heap.size;omega) c3_;replace c4_:=hsq.cell (by show b≠U1.heap.size;omega) c4_;replace c5_:=hsq.cell (by show b≠U1.heap.size;omega) c5_;replace c6_:=hsq.cell (by show b≠U1.heap.size;omega) c6_;replace c7_:=hsq.cell (by show b≠U1.heap.size;omega) c7_;replace c8_:=hsq.cell (by show b≠U1.heap.size;omega) c8_;replace fC:=zq (hsq.bel fC.out (by omega));replace hT:=zq (hsq.rep (fun b hb=>by have:b<w.heap.size:=hb;omega) hT.out);replace hN:=zq (hsq.rep (fun b hb=>by have h1:X9.heap.size≤b:=hb.1;have h2:b<X10.heap.size:=hb.2;omega) hN.out);refine hK.out _ _ ⟨ah fE rfl,ah fE rfl,ah fE rfl,ah fE rfl,c0_,c1_,c2_,c3_,c4_,c5_,c6_,c7_,c8_⟩ (fun hH9=>?_);clear hK K hH8 hsq hXq hX
   try simp only[bW,hwA]
   refine hwt 16 bX (.bool false) hH9 ?_ ?_
   · intro w' hSw;dsimp only[bX];go_simp
   try simp only[bX,hwA]
   refine wpAnyH_done (by kernel_rfl) ?_ _;refine NoPanic.normal ?_;clear hH9;obtain⟨r0,r1⟩:=blk2 fR;have rf0:=ao fR 0;have rf1:=ao fR 1
   go_wp2_with fail
   have hY:((X11.setCell ⟨w.heap.size+1,0,none⟩ (.int .i64 0)).setCell ⟨w.heap.size+1,1,none⟩ (.slice none 0 0)).heap[w.heap.size+1]?=some (.cells #[.int .i64 0,.slice none 0 0] 25 (0,0)):=aN (aN fR rfl) rfl;obtain⟨rc0,rc1⟩:=blk2 hY;refine bodyPost_ret (v:=.tuple #[.agg #[.int .i64 0,.slice none 0 0],.bool false]) (by simp[results,Tryz.results112,go_sem,rc0,rc1]) rfl ?_
   exact⟨_,_,_,_,_,_,rfl,by rw[HO.out,ee HCO.out];rfl,ap.zeroG,(by rw[HO.out,ee HCO.out];intro s h;simp at h),(fC.out.setCell (p:=⟨w.heap.size+1,0,none⟩) (by show w.heap.size≤w.heap.size+1;omega) _).setCell (p:=⟨w.heap.size+1,1,none⟩) (by show w.heap.size≤w.heap.size+1;omega) _⟩
theorem mZ (G:Nat→Prop)(nm:ByteArray)(u lb tk fk:Int)(ty src:Ty)(t1:Tm)(l:List Bd)(xa ta fa ca:Option Addr)(xn xq tn tq fn fq cm cq:Nat)(w:World)
    (he:aA G w (.mk 5 nm u ty src lb [t1]) (.agg #[.int .i64 5,.string nm,.int .i64 u,.int .i64 tk,.slice ta tn tq,.int .i64 fk,.slice fa fn fq,.int .i64 lb,.slice ca cm cq])) (hv:ty.valid=true)
    (HM:Hid (∀W,Below w.heap.size w W→Calls Tryz.prog 109 #[.slice xa xn xq,.string nm,.agg #[.int .i64 tk,.slice ta tn tq]] W (RetC (l ++ [⟨nm,ty⟩]) W)))
    (IH:Hid (∀(W:World) (c' y':Value),Below w.heap.size w W→aL (fun _=>True) W (l ++ [⟨nm,ty⟩]) c'→aA G W t1 y'→(∃a m q,c' = .slice (some a) m q)→Calls Tryz.prog 112 #[c',y'] W (bM ((t1.typS (l ++ [⟨nm,ty⟩])).map S.ty) W)))
    (h1:S) (hv1:h1.vd=true) (hco:t1.typS (l ++ [⟨nm,ty⟩])=some h1) :
    Calls Tryz.prog 112 #[.slice xa xn xq,.agg #[.int .i64 5,.string nm,.int .i64 u,.int .i64 tk,.slice ta tn tq,.int .i64 fk,.slice fa fn fq,.int .i64 lb,.slice ca cm cq]] w (bM (((Tm.mk 5 nm u ty src lb [t1]).typS l).map S.ty) w):=by
  obtain⟨-,-,-,-,-,-,-,-,hm,hnm,hmq,hqm,hty,hsrc,hks⟩:=he.parts;simp only[Tm.type,Tm.src,Tm.kids,List.length_cons,List.length_nil] at hm hty hsrc hks;obtain rfl:cm=1:=by omega
  obtain⟨b,off,kk0,nn0,uu0,tk0,ta0,tn0,tq0,fk0,fa0,fn0,fq0,ll0,a0,m0,q0,rfl,hlb,e0,e1,e2,e3,e4,e5,e6,e7,e8,ht⟩:=hks.at (Below.refl _ _) (i:=0) (by simp);simp only[Nat.zero_mul,Nat.add_zero] at e0 e1 e2 e3 e4 e5 e6 e7 e8;have HTK:=zq (show aA G w t1 _ from ht);have HTY:=zq hty.old;have HCN:=zq (Ty.cnt_valid hv);have HVT:=zq hv;have HCO:=zq hco;have HV1:=zq hv1;clear hv1;obtain⟨O,hO⟩ : ∃O:Option Ty,O=(((Tm.mk 5 nm u ty src lb [t1]).typS l).map S.ty):=⟨_,rfl⟩
  rw[←hO];have HO:=zq hO;clear hO he hm hty hsrc hks ht hv hco
  go_enter Tryz.func112,Tryz.ntmps112
  go_wp2_with fail
  obtain⟨VV,hVV⟩ : ∃X,X=((w.alloc (.cells #[.int .i64 5,.string nm,.int .i64 u,.int .i64 tk,.slice ta tn tq,.int .i64 fk,.slice fa fn fq,.int .i64 lb,.slice (some ⟨b,off,none⟩) 1 cq] 28)).alloc (.cells #[.int .i64 0,.slice none 0 0] 25)):=⟨_,rfl⟩
  have fE:VV.heap[w.heap.size]?=some (.cells #[.int .i64 5,.string nm,.int .i64 u,.int .i64 tk,.slice ta tn tq,.int .i64 fk,.slice fa fn fq,.int .i64 lb,.slice (some ⟨b,off,none⟩) 1 cq] 28 (0,0)):=by rw[hVV];exact ag (aF rfl) aj
  have fR:VV.heap[w.heap.size+1]?=some (.cells #[.int .i64 0,.slice none 0 0] 25 (0,0)):=by rw[hVV];exact aF (by simp)
  have c0_:VV.cell? ⟨b,off,none⟩=some (.int .i64 kk0):=by rw[hVV];exact af aj (af aj e0)
  have c1_:VV.cell? ⟨b,off+1,none⟩=some (.string nn0):=by rw[hVV];exact af aj (af aj e1)
  have c2_:VV.cell? ⟨b,off+2,none⟩=some (.int .i64 uu0):=by rw[hVV];exact af aj (af aj e2)
  have c3_:VV.cell? ⟨b,off+3,none⟩=some (.int .i64 tk0):=by rw[hVV];exact af aj (af aj e3)
  have c4_:VV.cell? ⟨b,off+4,none⟩=some (.slice ta0 tn0 tq0):=by rw[hVV];exact af aj (af aj e4)
  have c5_:VV.cell? ⟨b,off+5,none⟩=some (.int .i64 fk0):=by rw[hVV];exact af aj (af aj e5)
  have c6_:VV.cell? ⟨b,off+6,none⟩=some (.slice fa0 fn0 fq0):=by rw[hVV];exact af aj (af aj e6)
  have c7_:VV.cell? ⟨b,off+7,none⟩=some (.int .i64 ll0):=by rw[hVV];exact af aj (af aj e7)
  have c8_:VV.cell? ⟨b,off+8,none⟩=some (.slice a0 m0 q0):=by rw[hVV];exact af aj (af aj e8)
  have fC:Hid (Below w.heap.size w VV):=by rw[hVV];exact zq (al aj aj)
  have hT:Hid (ap (· < w.heap.size) VV ty (.agg #[.int .i64 tk,.slice ta tn tq])):=by rw[hVV];exact zq ((HTY.out.below aj).below aj)
  rw[←hVV];have zV:VV.heap.size=_:=congrArg (fun X:World=>X.heap.size) hVV;simp only[World.size_alloc] at zV;refine wp_region_noPanic ?_;refine wp_region_held_drew (S:=fun w'=>w'.cell? ⟨w.heap.size,1,none⟩=some (.string nm)∧w'.cell? ⟨w.heap.size,3,none⟩=some (.int .i64 tk)∧w'.cell? ⟨w.heap.size,4,none⟩=some (.slice ta tn tq)∧w'.cell? ⟨w.heap.size,8,none⟩=some (.slice (some ⟨b,off,none⟩) 1 cq)∧w'.cell? ⟨b,off,none⟩=some (.int .i64 kk0)∧w'.cell? ⟨b,off+1,none⟩=some (.string nn0)∧w'.cell? ⟨b,off+2,none⟩=some (.int .i64 uu0)∧w'.cell? ⟨b,off+3,none⟩=some (.int .i64 tk0)∧w'.cell? ⟨b,off+4,none⟩=some (.slice ta0 tn0 tq0)∧w'.cell? ⟨b,off+5,none⟩=some (.int .i64 fk0)∧w'.cell? ⟨b,off+6,none⟩=some (.slice fa0 fn0 fq0)∧w'.cell? ⟨b,off+7,none⟩=some (.int .i64 ll0)∧w'.cell? ⟨b,off+8,none⟩=some (.slice a0 m0 q0)) (by kernel_rfl) ?_ (fun hH0=>?_)
  · exact⟨ah fE rfl,ah fE rfl,ah fE rfl,ah fE rfl,c0_,c1_,c2_,c3_,c4_,c5_,c6_,c7_,c8_⟩
  obtain⟨U2,hU,hb,zU2a,zU2b⟩:=bK VV;rw[hU] at hH0 ⊢;replace fE:=ag fE hb;replace fR:=ag fR hb;replace c0_:=af hb c0_;replace c1_:=af hb c1_;replace c2_:=af hb c2_;replace c3_:=af hb c3_;replace c4_:=af hb c4_;replace c5_:=af hb c5_;replace c6_:=af hb c6_;replace c7_:=af hb c7_;replace c8_:=af hb c8_;replace fC:=zq (al fC.out hb);replace hT:=zq (hT.out.below hb);rw[zV] at zU2a zU2b;clear hU hb hVV zV;refine hwt 0 fb (.slice xa xn xq) hH0 ?_ ?_
  · intro w' hSw;dsimp only[fb];go_simp
  try simp only[fb,hwA]
  refine hwt 1 fc (.pointer (some ⟨w.heap.size,1,none⟩)) hH0 ?_ ?_
  · intro w' hSw;dsimp only[fc];go_simp
  try simp only[fc,hwA]
  refine hwt 2 fd (.string nm) hH0 ?_ ?_
  · intro w' hSw;dsimp only[fd];go_simp
  try simp only[fd,hwA]
  refine hwt 3 fe (.pointer (some ⟨w.heap.size,3,none⟩)) hH0 ?_ ?_
  · intro w' hSw;dsimp only[fe];go_simp
  try simp only[fe,hwA]
  refine hwt 4 fg (.agg #[.int .i64 tk,.slice ta tn tq]) hH0 ?_ ?_
  · intro w' hSw;dsimp only[fg];go_simp
  try simp only[fg,hwA]
  refine hwt 6 fh (.pointer (some ⟨w.heap.size,8,none⟩)) hH0 ?_ ?_
  · intro w' hSw;dsimp only[fh];go_simp
  try simp only[fh,hwA]
  refine hwt 7 fi (.slice (some ⟨b,off,none⟩) 1 cq) hH0 ?_ ?_
  · intro w' hSw;dsimp only[fi];go_simp
  try simp only[fi,hwA]
  refine hwt 8 fj (.pointer (some ⟨b,off,none⟩)) hH0 ?_ ?_
  · intro w' hSw;dsimp only[fj];go_simp
  try simp only[fj,hwA]
  refine hwt 9 fl (.agg #[.int .i64 kk0,.string nn0,.int .i64 uu0,.int .i64 tk0,.slice ta0 tn0 tq0,.int .i64 fk0,.slice fa0 fn0 fq0,.int .i64 ll0,.slice a0 m0 q0]) hH0 ?_ ?_
  · intro w' hSw;dsimp only[fl];go_simp
  try simp only[fl,hwA]
  refine wpAnyH_ready (rs:= [5,14]) (by kernel_rfl) (by simp) ?_;refine(AllReadyH.cons (o:=dg) rfl (fun K hK=>?_) (AllReadyH.cons (o:=bV) rfl (fun K hK=>?_) AllReadyH.nil))
  ·skip
   dsimp only[dg];go_simp
   go_at_call 109
   refine(HM.out _ fC.out).mono ?_;rintro e X1 ⟨xa2,xm2,xq2,rfl,hcx,hb⟩;have hX':Hid (aL (fun _=>True) X1 (l ++ [⟨nm,ty⟩]) (.slice (some xa2) xm2 xq2)):=zq hcx;clear hcx
   go_wp2_with fail
   have zX1:U2.heap.size≤X1.heap.size:=hb.size;replace fE:=ag fE hb;replace fR:=ag fR hb;replace c0_:=af hb c0_;replace c1_:=af hb c1_;replace c2_:=af hb c2_;replace c3_:=af hb c3_;replace c4_:=af hb c4_;replace c5_:=af hb c5_;replace c6_:=af hb c6_;replace c7_:=af hb c7_;replace c8_:=af hb c8_;replace fC:=zq (al fC.out hb);replace hT:=zq (hT.out.below hb);have hX:=hX';clear hX';refine hK.out _ _ ⟨ah fE rfl,ah fE rfl,ah fE rfl,ah fE rfl,c0_,c1_,c2_,c3_,c4_,c5_,c6_,c7_,c8_⟩ (fun hH1=>?_);clear hK K hH0 hb
   try simp only[dg,hwA]
   refine wpAnyH_ready (rs:= [10,14]) (by kernel_rfl) (by simp) ?_;refine(AllReadyH.cons (o:=bR) rfl (fun K hK=>?_) (AllReadyH.cons (o:=bV) rfl (fun K hK=>?_) AllReadyH.nil))
   ·skip
    dsimp only[bR];go_simp
    go_at_call 112
    refine(IH.out _ _ _ fC.out hX.out (HTK.out.below fC.out) ⟨_,_,_,rfl⟩).mono ?_;rintro e X2 ⟨kt,at_,nt,qt,bt,tt,rfl,hbt,htt,hot,hb⟩;rw[HCO.out] at hbt hot;obtain rfl:bt=true:=hbt;obtain rfl:tt=h1.ty:=hot _ rfl;have hN':Hid (ap (fun b=>X1.heap.size≤b∧b<X2.heap.size) X2 h1.ty (.agg #[.int .i64 kt,.slice at_ nt qt])):=zq (htt.move (.weaken fun b h1 h2=>⟨h1.elim False.elim id,h2⟩));clear htt hot
    go_wp2_with fail
    have zX2:X1.heap.size≤X2.heap.size:=hb.size;replace fE:=ag fE hb;replace fR:=ag fR hb;replace c0_:=af hb c0_;replace c1_:=af hb c1_;replace c2_:=af hb c2_;replace c3_:=af hb c3_;replace c4_:=af hb c4_;replace c5_:=af hb c5_;replace c6_:=af hb c6_;replace c7_:=af hb c7_;replace c8_:=af hb c8_;replace fC:=zq (al fC.out hb);replace hT:=zq (hT.out.below hb);replace hX:=zq (hX.out.below hb);have hN:=hN';clear hN';refine hK.out _ _ ⟨ah fE rfl,ah fE rfl,ah fE rfl,ah fE rfl,c0_,c1_,c2_,c3_,c4_,c5_,c6_,c7_,c8_⟩ (fun hH2=>?_);clear hK K hH1 hb
    try simp only[bR,hwA]
    refine hwt 11 bS (.tuple #[.agg #[.int .i64 kt,.slice at_ nt qt],.bool true]) hH2 ?_ ?_
    · intro w' hSw;dsimp only[bS];go_simp
    try simp only[bS,hwA]
    refine hwt 12 bT (.agg #[.int .i64 kt,.slice at_ nt qt]) hH2 ?_ ?_
    · intro w' hSw;dsimp only[bT];go_simp
    try simp only[bT,hwA]
    refine hwt 13 bU (.bool true) hH2 ?_ ?_
    · intro w' hSw;dsimp only[bU];go_simp
    try simp only[bU,hwA]
    refine hwr 14 bV (fun K hK=>?_)
    dsimp only[bV];go_simp
    (try go_wp2_with fail);obtain⟨X3,hXq,hb,fV,zX3a,zX3b⟩:=aZ X2 (.cells #[.int .i64 0,.slice none 0 0] 25);rw[hXq];replace fE:=ag fE hb;replace fR:=ag fR hb;replace c0_:=af hb c0_;replace c1_:=af hb c1_;replace c2_:=af hb c2_;replace c3_:=af hb c3_;replace c4_:=af hb c4_;replace c5_:=af hb c5_;replace c6_:=af hb c6_;replace c7_:=af hb c7_;replace c8_:=af hb c8_;replace fC:=zq (al fC.out hb);replace hT:=zq (hT.out.below hb);replace hX:=zq (hX.out.below hb);replace hN:=zq (hN.out.below hb);refine hK.out _ _ ⟨ah fE rfl,ah fE rfl,ah fE rfl,ah fE rfl,c0_,c1_,c2_,c3_,c4_,c5_,c6_,c7_,c8_⟩ (fun hH3=>?_);clear hK K hH2 hb hXq
    try simp only[bV,hwA]
    refine hwr 15 bW (fun K hK=>?_);obtain⟨r0,r1,rf0,rf1⟩:=co fV
    dsimp only[bW];go_simp
    (try go_wp2_with fail);have hQq:=bC fV (.int .i64 kt) (.slice at_ nt qt);clear fV r0 rf0 r1 rf1;obtain⟨X4,hXq,hsq,fV,zX4a,zX4b⟩:=hQq;rw[hXq];replace fE:=hsq.blk (by omega) fE;replace fR:=hsq.blk (by omega) fR;replace c0_:=hsq.cell (by show b≠X2.heap.size;omega) c0_;replace c1_:=hsq.cell (by show b≠X2.heap.size;omega) c1_;replace c2_:=hsq.cell (by show b≠X2.heap.size;omega) c2_;replace c3_:=hsq.cell (by show b≠X2.heap.size;omega) c3_;replace c4_:=hsq.cell (by show b≠X2.heap.size;omega) c4_;replace c5_:=hsq.cell (by show b≠X2.heap.size;omega) c5_;replace c6_:=hsq.cell (by show b≠X2.heap.size;omega) c6_;replace c7_:=hsq.cell (by show b≠X2.heap.size;omega) c7_;replace c8_:=hsq.cell (by show b≠X2.heap.size;omega) c8_;replace fC:=zq (hsq.bel fC.out (by omega));replace hT:=zq (hsq.rep (fun b hb=>by have:b<w.heap.size:=hb;omega) hT.out);replace hN:=zq (hsq.rep (fun b hb=>by have h1:X1.heap.size≤b:=hb.1;have h2:b<X2.heap.size:=hb.2;omega) hN.out);refine hK.out _ _ ⟨ah fE rfl,ah fE rfl,ah fE rfl,ah fE rfl,c0_,c1_,c2_,c3_,c4_,c5_,c6_,c7_,c8_⟩ (fun hH4=>?_);clear hK K hH3 hsq hXq hX
    try simp only[bW,hwA]
    refine hwt 16 bX (.bool true) hH4 ?_ ?_
    · intro w' hSw;dsimp only[bX];go_simp
    try simp only[bX,hwA]
    refine wpAnyH_done (by kernel_rfl) ?_ _;refine NoPanic.normal ?_;clear hH4;have d3:=ah fE (o:=3) rfl;have d4:=ah fE (o:=4) rfl;obtain⟨v0,v1⟩:=blk2 fV;have HT9:=zq (dI _ _ 4 ty h1.ty _ _ _ _ _ _ _ _ _ hT.out hN.out HCN.out (S.cnt_ok HV1.out))
    go_wp2_with fail
    refine HT9.out.mono ?_;rintro e X9 ⟨kr,ar,nr,qr,br,tr,rfl,hbr,htr,hor,hb⟩;have HBR:=zq hbr;have HTR:=zq htr;have HOR:=zq hor;have fR9:=ag fR hb;have fC9:=zq (al fC.out hb);have z9:=hb.size;have lR9:=aD fR;clear hbr htr hor hb d3 d4 v0 v1;obtain⟨r0,r1⟩:=blk2 fR9;have rf0:=ao fR9 0;have rf1:=ao fR9 1
    go_wp2_with fail
    have hY:((X9.setCell ⟨w.heap.size+1,0,none⟩ (.int .i64 kr)).setCell ⟨w.heap.size+1,1,none⟩ (.slice ar nr qr)).heap[w.heap.size+1]?=some (.cells #[.int .i64 kr,.slice ar nr qr] 25 (0,0)):=aN (aN fR9 rfl) rfl;obtain⟨rc0,rc1⟩:=blk2 hY;refine bodyPost_ret (v:=.tuple #[.agg #[.int .i64 kr,.slice ar nr qr],.bool br]) (by simp[results,Tryz.results112,go_sem,rc0,rc1]) rfl ?_;have hne : ∀b,(False∨X4.heap.size≤b)→b≠w.heap.size+1:=fun b h=>by
      have h1:=h.elim False.elim id
      omega
    have hw0:=fC.out.size
    exact⟨_,_,_,_,_,tr,rfl,by rw[HO.out,ef HVT.out HCO.out];exact HBR.out,(ap.setN (ap.setN HTR.out hne) hne).move (.weaken fun b h _=>.inr (by have h1:=h.elim False.elim id;omega)),(by rw[HO.out,ef HVT.out HCO.out];exact HOR.out),(fC9.out.setCell (p:=⟨w.heap.size+1,0,none⟩) (by show w.heap.size≤w.heap.size+1;omega) _).setCell (p:=⟨w.heap.size+1,1,none⟩) (by show w.heap.size≤w.heap.size+1;omega) _⟩
   ·skip
    dsimp only[bV];go_simp
    (try go_wp2_with fail);obtain⟨X5,hXq,hb,fV,zX5a,zX5b⟩:=aZ X1 (.cells #[.int .i64 0,.slice none 0 0] 25);rw[hXq];replace fE:=ag fE hb;replace fR:=ag fR hb;replace c0_:=af hb c0_;replace c1_:=af hb c1_;replace c2_:=af hb c2_;replace c3_:=af hb c3_;replace c4_:=af hb c4_;replace c5_:=af hb c5_;replace c6_:=af hb c6_;replace c7_:=af hb c7_;replace c8_:=af hb c8_;replace fC:=zq (al fC.out hb);replace hT:=zq (hT.out.below hb);replace hX:=zq (hX.out.below hb);refine hK.out _ _ ⟨ah fE rfl,ah fE rfl,ah fE rfl,ah fE rfl,c0_,c1_,c2_,c3_,c4_,c5_,c6_,c7_,c8_⟩ (fun hH2=>?_);clear hK K hH1 hb hXq
    try simp only[bV,hwA]
    refine hwr 10 bR (fun K hK=>?_)
    dsimp only[bR];go_simp
    go_at_call 112
    refine(IH.out _ _ _ fC.out hX.out (HTK.out.below fC.out) ⟨_,_,_,rfl⟩).mono ?_;rintro e X6 ⟨kt,at_,nt,qt,bt,tt,rfl,hbt,htt,hot,hb⟩;rw[HCO.out] at hbt hot;obtain rfl:bt=true:=hbt;obtain rfl:tt=h1.ty:=hot _ rfl;have hN':Hid (ap (fun b=>X5.heap.size≤b∧b<X6.heap.size) X6 h1.ty (.agg #[.int .i64 kt,.slice at_ nt qt])):=zq (htt.move (.weaken fun b h1 h2=>⟨h1.elim False.elim id,h2⟩));clear htt hot
    go_wp2_with fail
    have zX6:X5.heap.size≤X6.heap.size:=hb.size;replace fE:=ag fE hb;replace fR:=ag fR hb;replace c0_:=af hb c0_;replace c1_:=af hb c1_;replace c2_:=af hb c2_;replace c3_:=af hb c3_;replace c4_:=af hb c4_;replace c5_:=af hb c5_;replace c6_:=af hb c6_;replace c7_:=af hb c7_;replace c8_:=af hb c8_;replace fC:=zq (al fC.out hb);replace hT:=zq (hT.out.below hb);replace hX:=zq (hX.out.below hb);replace fV:=ag fV hb;have hN:=hN';clear hN';refine hK.out _ _ ⟨ah fE rfl,ah fE rfl,ah fE rfl,ah fE rfl,c0_,c1_,c2_,c3_,c4_,c5_,c6_,c7_,c8_⟩ (fun hH5=>?_);clear hK K hH2 hb
    try simp only[bR,hwA]
    refine hwt 11 bS (.tuple #[.agg #[.int .i64 kt,.slice at_ nt qt],.bool true]) hH5 ?_ ?_
    · intro w' hSw;dsimp only[bS];go_simp
    try simp only[bS,hwA]
    refine hwt 12 bT (.agg #[.int .i64 kt,.slice at_ nt qt]) hH5 ?_ ?_
    · intro w' hSw;dsimp only[bT];go_simp
    try simp only[bT,hwA]
    refine hwt 13 bU (.bool true) hH5 ?_ ?_
    · intro w' hSw;dsimp only[bU];go_simp
    try simp only[bU,hwA]
    refine hwr 15 bW (fun K hK=>?_);obtain⟨r0,r1,rf0,rf1⟩:=co fV
    dsimp only[bW];go_simp
    (try go_wp2_with fail);have hQq:=bC fV (.int .i64 kt) (.slice at_ nt qt);clear fV r0 rf0 r1 rf1;obtain⟨X7,hXq,hsq,fV,zX7a,zX7b⟩:=hQq;rw[hXq];replace fE:=hsq.blk (by omega) fE;replace fR:=hsq.blk (by omega) fR;replace c0_:=hsq.cell (by show b≠X1.heap.size;omega) c0_;replace c1_:=hsq.cell (by show b≠X1.heap.size;omega) c1_;replace c2_:=hsq.cell (by show b≠X1.heap.size;omega) c2_;replace c3_:=hsq.cell (by show b≠X1.heap.size;omega) c3_;replace c4_:=hsq.cell (by show b≠X1.heap.size;omega) c4_;replace c5_:=hsq.cell (by show b≠X1.heap.size;omega) c5_;replace c6_:=hsq.cell (by show b≠X1.heap.size;omega) c6_;replace c7_:=hsq.cell (by show b≠X1.heap.size;omega) c7_;replace c8_:=hsq.cell (by show b≠X1.heap.size;omega) c8_;replace fC:=zq (hsq.bel fC.out (by omega));replace hT:=zq (hsq.rep (fun b hb=>by have:b<w.heap.size:=hb;omega) hT.out);replace hN:=zq (hsq.rep (fun b hb=>by have h1:X5.heap.size≤b:=hb.1;have h2:b<X6.heap.size:=hb.2;omega) hN.out);refine hK.out _ _ ⟨ah fE rfl,ah fE rfl,ah fE rfl,ah fE rfl,c0_,c1_,c2_,c3_,c4_,c5_,c6_,c7_,c8_⟩ (fun hH6=>?_);clear hK K hH5 hsq hXq hX
    try simp only[bW,hwA]
    refine hwt 16 bX (.bool true) hH6 ?_ ?_
    · intro w' hSw;dsimp only[bX];go_simp
    try simp only[bX,hwA]
    refine wpAnyH_done (by kernel_rfl) ?_ _;refine NoPanic.normal ?_;clear hH6;have d3:=ah fE (o:=3) rfl;have d4:=ah fE (o:=4) rfl;obtain⟨v0,v1⟩:=blk2 fV;have HT9:=zq (dI _ _ 4 ty h1.ty _ _ _ _ _ _ _ _ _ hT.out hN.out HCN.out (S.cnt_ok HV1.out))
    go_wp2_with fail
    refine HT9.out.mono ?_;rintro e X9 ⟨kr,ar,nr,qr,br,tr,rfl,hbr,htr,hor,hb⟩;have HBR:=zq hbr;have HTR:=zq htr;have HOR:=zq hor;have fR9:=ag fR hb;have fC9:=zq (al fC.out hb);have z9:=hb.size;have lR9:=aD fR;clear hbr htr hor hb d3 d4 v0 v1;obtain⟨r0,r1⟩:=blk2 fR9;have rf0:=ao fR9 0;have rf1:=ao fR9 1
    go_wp2_with fail
    have hY:((X9.setCell ⟨w.heap.size+1,0,none⟩ (.int .i64 kr)).setCell ⟨w.heap.size+1,1,none⟩ (.slice ar nr qr)).heap[w.heap.size+1]?=some (.cells #[.int .i64 kr,.slice ar nr qr] 25 (0,0)):=aN (aN fR9 rfl) rfl;obtain⟨rc0,rc1⟩:=blk2 hY;refine bodyPost_ret (v:=.tuple #[.agg #[.int .i64 kr,.slice ar nr qr],.bool br]) (by simp[results,Tryz.results112,go_sem,rc0,rc1]) rfl ?_;have hne : ∀b,(False∨X7.heap.size≤b)→b≠w.heap.size+1:=fun b h=>by
      have h1:=h.elim False.elim id
      omega
    have hw0:=fC.out.size
    exact⟨_,_,_,_,_,tr,rfl,by rw[HO.out,ef HVT.out HCO.out];exact HBR.out,(ap.setN (ap.setN HTR.out hne) hne).move (.weaken fun b h _=>.inr (by have h1:=h.elim False.elim id;omega)),(by rw[HO.out,ef HVT.out HCO.out];exact HOR.out),(fC9.out.setCell (p:=⟨w.heap.size+1,0,none⟩) (by show w.heap.size≤w.heap.size+1;omega) _).setCell (p:=⟨w.heap.size+1,1,none⟩) (by show w.heap.size≤w.heap.size+1;omega) _⟩
  ·skip
   dsimp only[bV];go_simp
   (try go_wp2_with fail);obtain⟨X8,hXq,hb,fV,zX8a,zX8b⟩:=aZ U2 (.cells #[.int .i64 0,.slice none 0 0] 25);rw[hXq];replace fE:=ag fE hb;replace fR:=ag fR hb;replace c0_:=af hb c0_;replace c1_:=af hb c1_;replace c2_:=af hb c2_;replace c3_:=af hb c3_;replace c4_:=af hb c4_;replace c5_:=af hb c5_;replace c6_:=af hb c6_;replace c7_:=af hb c7_;replace c8_:=af hb c8_;replace fC:=zq (al fC.out hb);replace hT:=zq (hT.out.below hb);refine hK.out _ _ ⟨ah fE rfl,ah fE rfl,ah fE rfl,ah fE rfl,c0_,c1_,c2_,c3_,c4_,c5_,c6_,c7_,c8_⟩ (fun hH1=>?_);clear hK K hH0 hb hXq
   try simp only[bV,hwA]
   refine hwr 5 dg (fun K hK=>?_)
   dsimp only[dg];go_simp
   go_at_call 109
   refine(HM.out _ fC.out).mono ?_;rintro e X9 ⟨xa2,xm2,xq2,rfl,hcx,hb⟩;have hX':Hid (aL (fun _=>True) X9 (l ++ [⟨nm,ty⟩]) (.slice (some xa2) xm2 xq2)):=zq hcx;clear hcx
   go_wp2_with fail
   have zX9:X8.heap.size≤X9.heap.size:=hb.size;replace fE:=ag fE hb;replace fR:=ag fR hb;replace c0_:=af hb c0_;replace c1_:=af hb c1_;replace c2_:=af hb c2_;replace c3_:=af hb c3_;replace c4_:=af hb c4_;replace c5_:=af hb c5_;replace c6_:=af hb c6_;replace c7_:=af hb c7_;replace c8_:=af hb c8_;replace fC:=zq (al fC.out hb);replace hT:=zq (hT.out.below hb);replace fV:=ag fV hb;have hX:=hX';clear hX';refine hK.out _ _ ⟨ah fE rfl,ah fE rfl,ah fE rfl,ah fE rfl,c0_,c1_,c2_,c3_,c4_,c5_,c6_,c7_,c8_⟩ (fun hH7=>?_);clear hK K hH1 hb
   try simp only[dg,hwA]
   refine hwr 10 bR (fun K hK=>?_)
   dsimp only[bR];go_simp
   go_at_call 112
   refine(IH.out _ _ _ fC.out hX.out (HTK.out.below fC.out) ⟨_,_,_,rfl⟩).mono ?_;rintro e X10 ⟨kt,at_,nt,qt,bt,tt,rfl,hbt,htt,hot,hb⟩;rw[HCO.out] at hbt hot;obtain rfl:bt=true:=hbt;obtain rfl:tt=h1.ty:=hot _ rfl;have hN':Hid (ap (fun b=>X9.heap.size≤b∧b<X10.heap.size) X10 h1.ty (.agg #[.int .i64 kt,.slice at_ nt qt])):=zq (htt.move (.weaken fun b h1 h2=>⟨h1.elim False.elim id,h2⟩));clear htt hot
   go_wp2_with fail
   have zX10:X9.heap.size≤X10.heap.size:=hb.size;replace fE:=ag fE hb;replace fR:=ag fR hb;replace c0_:=af hb c0_;replace c1_:=af hb c1_;replace c2_:=af hb c2_;replace c3_:=af hb c3_;replace c4_:=af hb c4_;replace c5_:=af hb c5_;replace c6_:=af hb c6_;replace c7_:=af hb c7_;replace c8_:=af hb c8_;replace fC:=zq (al fC.out hb);replace hT:=zq (hT.out.below hb);replace fV:=ag fV hb;replace hX:=zq (hX.out.below hb);have hN:=hN';clear hN';refine hK.out _ _ ⟨ah fE rfl,ah fE rfl,ah fE rfl,ah fE rfl,c0_,c1_,c2_,c3_,c4_,c5_,c6_,c7_,c8_⟩ (fun hH8=>?_);clear hK K hH7 hb
   try simp only[bR,hwA]
   refine hwt 11 bS (.tuple #[.agg #[.int .i64 kt,.slice at_ nt qt],.bool true]) hH8 ?_ ?_
   · intro w' hSw;dsimp only[bS];go_simp
   try simp only[bS,hwA]
   refine hwt 12 bT (.agg #[.int .i64 kt,.slice at_ nt qt]) hH8 ?_ ?_
   · intro w' hSw;dsimp only[bT];go_simp
   try simp only[bT,hwA]
   refine hwt 13 bU (.bool true) hH8 ?_ ?_
   · intro w' hSw;dsimp only[bU];go_simp
   try simp only[bU,hwA]
   refine hwr 15 bW (fun K hK=>?_);obtain⟨r0,r1,rf0,rf1⟩:=co fV
   dsimp only[bW];go_simp
   (try go_wp2_with fail);have hQq:=bC fV (.int .i64 kt) (.slice at_ nt qt);clear fV r0 rf0 r1 rf1;obtain⟨X11,hXq,hsq,fV,zX11a,zX11b⟩:=hQq;rw[hXq];replace fE:=hsq.blk (by omega) fE;replace fR:=hsq.blk (by omega) fR;replace c0_:=hsq.cell (by show b≠U2.heap.size;omega) c0_;replace c1_:=hsq.cell (by show b≠U2.heap.size;omega) c1_;replace c2_:=hsq.cell (by show b≠U2.heap.size;omega) c2_;replace c3_:=hsq.cell (by show b≠U2.heap.size;omega) c3_;replace c4_:=hsq.cell (by show b≠U2.heap.size;omega) c4_;replace c5_:=hsq.cell (by show b≠U2.heap.size;omega) c5_;replace c6_:=hsq.cell (by show b≠U2.heap.size;omega) c6_;replace c7_:=hsq.cell (by show b≠U2.heap.size;omega) c7_;replace c8_:=hsq.cell (by show b≠U2.heap.size;omega) c8_;replace fC:=zq (hsq.bel fC.out (by omega));replace hT:=zq (hsq.rep (fun b hb=>by have:b<w.heap.size:=hb;omega) hT.out);replace hN:=zq (hsq.rep (fun b hb=>by have h1:X9.heap.size≤b:=hb.1;have h2:b<X10.heap.size:=hb.2;omega) hN.out);refine hK.out _ _ ⟨ah fE rfl,ah fE rfl,ah fE rfl,ah fE rfl,c0_,c1_,c2_,c3_,c4_,c5_,c6_,c7_,c8_⟩ (fun hH9=>?_);clear hK K hH8 hsq hXq hX
   try simp only[bW,hwA]
   refine hwt 16 bX (.bool true) hH9 ?_ ?_
   · intro w' hSw;dsimp only[bX];go_simp
   try simp only[bX,hwA]
   refine wpAnyH_done (by kernel_rfl) ?_ _;refine NoPanic.normal ?_;clear hH9;have d3:=ah fE (o:=3) rfl;have d4:=ah fE (o:=4) rfl;obtain⟨v0,v1⟩:=blk2 fV;have HT9:=zq (dI _ _ 4 ty h1.ty _ _ _ _ _ _ _ _ _ hT.out hN.out HCN.out (S.cnt_ok HV1.out))
   go_wp2_with fail
   refine HT9.out.mono ?_;rintro e X9 ⟨kr,ar,nr,qr,br,tr,rfl,hbr,htr,hor,hb⟩;have HBR:=zq hbr;have HTR:=zq htr;have HOR:=zq hor;have fR9:=ag fR hb;have fC9:=zq (al fC.out hb);have z9:=hb.size;have lR9:=aD fR;clear hbr htr hor hb d3 d4 v0 v1;obtain⟨r0,r1⟩:=blk2 fR9;have rf0:=ao fR9 0;have rf1:=ao fR9 1
   go_wp2_with fail
   have hY:((X9.setCell ⟨w.heap.size+1,0,none⟩ (.int .i64 kr)).setCell ⟨w.heap.size+1,1,none⟩ (.slice ar nr qr)).heap[w.heap.size+1]?=some (.cells #[.int .i64 kr,.slice ar nr qr] 25 (0,0)):=aN (aN fR9 rfl) rfl;obtain⟨rc0,rc1⟩:=blk2 hY;refine bodyPost_ret (v:=.tuple #[.agg #[.int .i64 kr,.slice ar nr qr],.bool br]) (by simp[results,Tryz.results112,go_sem,rc0,rc1]) rfl ?_;have hne : ∀b,(False∨X11.heap.size≤b)→b≠w.heap.size+1:=fun b h=>by
     have h1:=h.elim False.elim id
     omega
   have hw0:=fC.out.size
   exact⟨_,_,_,_,_,tr,rfl,by rw[HO.out,ef HVT.out HCO.out];exact HBR.out,(ap.setN (ap.setN HTR.out hne) hne).move (.weaken fun b h _=>.inr (by have h1:=h.elim False.elim id;omega)),(by rw[HO.out,ef HVT.out HCO.out];exact HOR.out),(fC9.out.setCell (p:=⟨w.heap.size+1,0,none⟩) (by show w.heap.size≤w.heap.size+1;omega) _).setCell (p:=⟨w.heap.size+1,1,none⟩) (by show w.heap.size≤w.heap.size+1;omega) _⟩
end Go.Proofs.YtfahhonmiimmdaaGreat

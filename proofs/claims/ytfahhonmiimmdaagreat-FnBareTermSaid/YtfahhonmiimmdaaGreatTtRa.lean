/- spec.l3Result at sums, comparisons, pairs, statements of a type. -/
import Derived.Test.YtfahhonmiimmdaaGreatB14
set_option linter.unusedSimpArgs false
set_option linter.unusedVariables false
set_option maxRecDepth 100000
set_option maxHeartbeats 16000000
namespace Go.Proofs.YtfahhonmiimmdaaGreat
open Go.RowKit
def jg:Oper:=⟨some 38,.call {callee:=.value (.func 87),args:=#[],argTypes:=#[]},25,"l3_typing.go:76",#[],none⟩
def jh:Oper:=⟨some 39,.move (.tmp 1),23,"l3_typing.go:76",#[],none⟩
def ji:Oper:=⟨some 40,.indexAddr 23 (.tmp 39) (.const (.int .i64 0)),0,"l3_typing.go:76",#[⟨1,.data⟩],none⟩
def jl:Oper:=⟨some 41,.load 25 (.tmp 40),25,"l3_typing.go:76",#[⟨2,.data⟩],none⟩
def jm:Oper:=⟨some 42,.call {callee:=.value (.func 87),args:=#[],argTypes:=#[]},25,"l3_typing.go:76",#[⟨0,.chain⟩],none⟩
def jn:Oper:=⟨some 43,.call {callee:=.value (.func 58),args:=#[.tmp 41,.tmp 42],argTypes:=#[25,25]},4,"l3_typing.go:76",#[⟨3,.data⟩,⟨4,.data⟩,⟨4,.chain⟩],none⟩
def jo:Oper:=⟨some 44,.move (.tmp 43),4,"l3_typing.go:76",#[⟨5,.data⟩,⟨5,.chain⟩],none⟩
def kO:Oper:=⟨some 45,.move (.tmp 1),23,"l3_typing.go:76",#[⟨6,.guard⟩],some (6,true)⟩
def kP:Oper:=⟨some 46,.indexAddr 23 (.tmp 45) (.const (.int .i64 1)),0,"l3_typing.go:76",#[⟨7,.data⟩,⟨6,.guard⟩],some (6,true)⟩
def kQ:Oper:=⟨some 47,.load 25 (.tmp 46),25,"l3_typing.go:76",#[⟨8,.data⟩,⟨6,.guard⟩],some (6,true)⟩
def iN:Oper:=⟨some 48,.call {callee:=.value (.func 87),args:=#[],argTypes:=#[]},25,"l3_typing.go:76",#[⟨6,.chain⟩,⟨6,.guard⟩],some (6,true)⟩
def iO:Oper:=⟨some 49,.call {callee:=.value (.func 58),args:=#[.tmp 47,.tmp 48],argTypes:=#[25,25]},4,"l3_typing.go:76",#[⟨9,.data⟩,⟨10,.data⟩,⟨10,.chain⟩,⟨6,.guard⟩],some (6,true)⟩
def fH:Oper:=⟨some 50,.pick (.tmp 44) (.tmp 49) (.const (.bool false)),4,"l3_typing.go:76",#[⟨6,.data⟩,⟨11,.data⟩,⟨13,.gcOnly .lateStores⟩],none⟩
def fI:Oper:=⟨none,.store 25 (.tmp 4) (.tmp 38),0,"l3_typing.go:76",#[⟨0,.data⟩,⟨11,.chain⟩,⟨0,.phase⟩,⟨1,.textOnly .lateStores⟩,⟨2,.textOnly .lateStores⟩,⟨3,.textOnly .lateStores⟩,⟨4,.textOnly .lateStoresUnsure⟩,⟨5,.textOnly .lateStoresUnsure⟩,⟨6,.textOnly .lateStores⟩,⟨7,.textOnly .lateStores⟩,⟨8,.textOnly .lateStores⟩,⟨9,.textOnly .lateStores⟩,⟨10,.textOnly .lateStoresUnsure⟩,⟨11,.textOnly .lateStoresUnsure⟩,⟨12,.textOnly .lateStores⟩],none⟩
def fJ:Oper:=⟨some 5,.assign (.tmp 50),4,"l3_typing.go:76",#[⟨12,.data⟩,⟨13,.chain⟩,⟨0,.phase⟩,⟨1,.phase⟩,⟨2,.phase⟩,⟨3,.phase⟩,⟨4,.phase⟩,⟨5,.phase⟩,⟨6,.phase⟩,⟨7,.phase⟩,⟨8,.phase⟩,⟨9,.phase⟩,⟨10,.phase⟩,⟨11,.phase⟩,⟨12,.phase⟩,⟨13,.phase⟩],none⟩
theorem ka (G1 G2 G3:Nat→Prop)(nm:ByteArray)(u lb tk fk:Int)(ty src:Ty)(ta fa ca:Option Addr)(tn tq fn fq cm cq:Nat)(w:World)(hty:ap G1 w ty (.agg #[.int .i64 tk,.slice ta tn tq]))(hsrc:ap G2 w src (.agg #[.int .i64 fk,.slice fa fn fq]))(y:Value)(h1 h2:S)(d1:h1.cons .int=false)(hv1:h1.vd=true)(hv2:h2.vd=true)(hy:aE G3 w [h1.ty,h2.ty] y) :
  Calls Tryz.prog 118 #[.agg #[.int .i64 7,.string nm,.int .i64 u,.int .i64 tk,.slice ta tn tq,.int .i64 fk,.slice fa fn fq,.int .i64 lb,.slice ca cm cq],y] w (bM ((bd 7 ty [h1,h2]).map S.ty) w):=by
 obtain⟨b,off,cap,k1,c1,m1,q1,k2,c2,m2,q2,rfl,-,-,hlb,e1a,e1b,e2a,e2b,ht1,ht2⟩:=hy.two;obtain⟨O,hOO⟩ : ∃O:Option Ty,O=((bd 7 ty [h1,h2]).map S.ty):=⟨_,rfl⟩
 rw[←hOO];have HO:=zq hOO;clear hOO;have HOO:=zq (nU (k:=7) (ty:=ty) (g:=h1) (h:=h2) (by omega));obtain⟨d2,hd2⟩ : ∃d2,h2.cons .int=d2:=⟨_,rfl⟩
 have D1:=zq d1;have D2:=zq hd2;have V1:=zq hv1;have V2:=zq hv2;clear d1 hd2 hv1 hv2;have H1:=zq ht1.old;have H2:=zq ht2.old;clear hty hsrc hy ht1 ht2
 go_enter Tryz.func118,Tryz.ntmps118
 go_wp2_with fail
 obtain⟨VV,hVV⟩ : ∃X,X=((w.alloc (.cells #[.int .i64 7,.string nm,.int .i64 u,.int .i64 tk,.slice ta tn tq,.int .i64 fk,.slice fa fn fq,.int .i64 lb,.slice ca cm cq] 28)).alloc (.cells #[.int .i64 0,.slice none 0 0] 25)):=⟨_,rfl⟩
 have fE:VV.heap[w.heap.size]?=some (.cells #[.int .i64 7,.string nm,.int .i64 u,.int .i64 tk,.slice ta tn tq,.int .i64 fk,.slice fa fn fq,.int .i64 lb,.slice ca cm cq] 28 (0,0)):=by rw[hVV];exact ag (aF rfl) aj
 have fR:VV.heap[w.heap.size+1]?=some (.cells #[.int .i64 0,.slice none 0 0] 25 (0,0)):=by rw[hVV];exact aF (by simp)
 have c1a_:VV.cell? ⟨b,off,none⟩=some (.int .i64 k1):=by rw[hVV];exact af aj (af aj e1a)
 have c1b_:VV.cell? ⟨b,off+1,none⟩=some (.slice c1 m1 q1):=by rw[hVV];exact af aj (af aj e1b)
 have h1_:Hid (ap (· < w.heap.size) VV h1.ty (.agg #[.int .i64 k1,.slice c1 m1 q1])):=by rw[hVV];exact zq ((H1.out.below aj).below aj)
 have c2a_:VV.cell? ⟨b,off+2,none⟩=some (.int .i64 k2):=by rw[hVV];exact af aj (af aj e2a)
 have c2b_:VV.cell? ⟨b,off+3,none⟩=some (.slice c2 m2 q2):=by rw[hVV];exact af aj (af aj e2b)
 have h2_:Hid (ap (· < w.heap.size) VV h2.ty (.agg #[.int .i64 k2,.slice c2 m2 q2])):=by rw[hVV];exact zq ((H2.out.below aj).below aj)
 have fC:Hid (Below w.heap.size w VV):=by rw[hVV];exact zq (al aj aj)
 rw[←hVV];have zV:VV.heap.size=_:=congrArg (fun X:World=>X.heap.size) hVV;simp only[World.size_alloc] at zV;refine wp_region_noPanic ?_;refine wp_region_held_drew (S:=fun w'=>w'.cell? ⟨b,off,none⟩=some (.int .i64 k1)∧w'.cell? ⟨b,off+1,none⟩=some (.slice c1 m1 q1)∧w'.cell? ⟨b,off+2,none⟩=some (.int .i64 k2)∧w'.cell? ⟨b,off+3,none⟩=some (.slice c2 m2 q2)) (by kernel_rfl) ?_ (fun hH0=>?_)
 ·exact⟨c1a_,c1b_,c2a_,c2b_⟩
 obtain⟨U1,hU,hb,zU1a,zU1b⟩:=bK VV;rw[hU] at hH0 ⊢;replace fE:=ag fE hb;replace fR:=ag fR hb;replace c1a_:=af hb c1a_;replace c1b_:=af hb c1b_;replace h1_:=zq (h1_.out.below hb);replace c2a_:=af hb c2a_;replace c2b_:=af hb c2b_;replace h2_:=zq (h2_.out.below hb);replace fC:=zq (al fC.out hb);rw[zV] at zU1a zU1b;clear hU hb hVV zV;refine hwt 1 jh (.slice (some ⟨b,off,none⟩) 2 cap) hH0 ?_ ?_
 ·intro w' hSw;dsimp only[jh];go_simp
 try simp only[jh,hwA]
 refine hwt 2 ji (.pointer (some ⟨b,off,none⟩)) hH0 ?_ ?_
 ·intro w' hSw;dsimp only[ji];go_simp
 try simp only[ji,hwA]
 refine hwt 3 jl (.agg #[.int .i64 k1,.slice c1 m1 q1]) hH0 ?_ ?_
 ·intro w' hSw;dsimp only[jl];go_simp
 try simp only[jl,hwA]
 refine hwr 0 jg (fun K hK=>?_)
 dsimp only[jg];go_simp
 go_at_call 87
 refine(bB _).mono ?_;rintro e X1 ⟨rfl,hb⟩
 go_wp2_with fail
 have zX1:U1.heap.size≤X1.heap.size:=hb.size;replace fE:=ag fE hb;replace fR:=ag fR hb;replace c1a_:=af hb c1a_;replace c1b_:=af hb c1b_;replace h1_:=zq (h1_.out.below hb);replace c2a_:=af hb c2a_;replace c2b_:=af hb c2b_;replace h2_:=zq (h2_.out.below hb);replace fC:=zq (al fC.out hb);refine hK.out _ _ ⟨c1a_,c1b_,c2a_,c2b_⟩ (fun hH1=>?_);clear hK K hH0 hb
 try simp only[jg,hwA]
 refine hwr 4 jm (fun K hK=>?_)
 dsimp only[jm];go_simp
 go_at_call 87
 refine(bB _).mono ?_;rintro e X2 ⟨rfl,hb⟩
 go_wp2_with fail
 have zX2:X1.heap.size≤X2.heap.size:=hb.size;replace fE:=ag fE hb;replace fR:=ag fR hb;replace c1a_:=af hb c1a_;replace c1b_:=af hb c1b_;replace h1_:=zq (h1_.out.below hb);replace c2a_:=af hb c2a_;replace c2b_:=af hb c2b_;replace h2_:=zq (h2_.out.below hb);replace fC:=zq (al fC.out hb);refine hK.out _ _ ⟨c1a_,c1b_,c2a_,c2b_⟩ (fun hH2=>?_);clear hK K hH1 hb
 try simp only[jm,hwA]
 refine hwr 5 jn (fun K hK=>?_)
 dsimp only[jn];go_simp
 go_at_call 58
 refine(ce _ _ _ S.int _ _ _ h1_.out (ap.leaf 2) V1.out rfl).mono ?_;rintro e X3 ⟨rfl,hb⟩;rw[D1.out]
 go_wp2_with fail
 have zX3:X2.heap.size≤X3.heap.size:=hb.size;replace fE:=ag fE hb;replace fR:=ag fR hb;replace c1a_:=af hb c1a_;replace c1b_:=af hb c1b_;replace h1_:=zq (h1_.out.below hb);replace c2a_:=af hb c2a_;replace c2b_:=af hb c2b_;replace h2_:=zq (h2_.out.below hb);replace fC:=zq (al fC.out hb);refine hK.out _ _ ⟨c1a_,c1b_,c2a_,c2b_⟩ (fun hH3=>?_);clear hK K hH2 hb
 try simp only[jn,hwA]
 refine hwt 6 jo (.bool false) hH3 ?_ ?_
 ·intro w' hSw;dsimp only[jo];go_simp
 try simp only[jo,hwA]
 refine hwn 7 kO hH3 ?_
 try simp only[kO,hwA]
 refine hwn 8 kP hH3 ?_
 try simp only[kP,hwA]
 refine hwn 9 kQ hH3 ?_
 try simp only[kQ,hwA]
 refine hwn 10 iN hH3 ?_
 try simp only[iN,hwA]
 refine hwn 11 iO hH3 ?_
 try simp only[iO,hwA]
 refine hwt 12 fH (.bool false) hH3 ?_ ?_
 ·intro w' hSw;dsimp only[fH];go_simp
 try simp only[fH,hwA]
 refine hwr 13 fI (fun K hK=>?_);obtain⟨r0,r1,rf0,rf1⟩:=co fR
 dsimp only[fI];go_simp
 (try go_wp2_with fail);have hQq:=bC fR (.int .i64 2) (.slice none 0 0);clear fR r0 rf0 r1 rf1;obtain⟨X4,hXq,hsq,fR,zX4a,zX4b⟩:=hQq;rw[hXq];replace fE:=hsq.blk (by omega) fE;replace c1a_:=hsq.cell (by show b≠w.heap.size+1;omega) c1a_;replace c1b_:=hsq.cell (by show b≠w.heap.size+1;omega) c1b_;replace h1_:=zq (hsq.rep (fun b hb=>by have:b<w.heap.size:=hb;omega) h1_.out);replace c2a_:=hsq.cell (by show b≠w.heap.size+1;omega) c2a_;replace c2b_:=hsq.cell (by show b≠w.heap.size+1;omega) c2b_;replace h2_:=zq (hsq.rep (fun b hb=>by have:b<w.heap.size:=hb;omega) h2_.out);replace fC:=zq (hsq.bel fC.out (by omega));refine hK.out _ _ ⟨c1a_,c1b_,c2a_,c2b_⟩ (fun hH4=>?_);clear hK K hH3 hsq hXq
 try simp only[fI,hwA]
 refine hwt 14 fJ (.bool false) hH4 ?_ ?_
 ·intro w' hSw;dsimp only[fJ];go_simp
 try simp only[fJ,hwA]
 refine wpAnyH_done (by kernel_rfl) ?_ _;refine NoPanic.normal ?_;clear hH4;have HN:O=none:=by rw[HO.out,HOO.out,D1.out,D2.out];rfl
 obtain⟨rc0,rc1⟩:=blk2 fR
 go_wp2_with fail
 refine bodyPost_ret (v:=.tuple #[.agg #[.int .i64 2,.slice none 0 0],.bool false]) (by simp[results,Tryz.results118,go_sem,rc0,rc1]) rfl ?_
 exact⟨_,_,_,_,_,.mk 2 [],rfl,by rw[HN];rfl,ap.leafG 2,(by rw[HN];intro s h;cases h),fC.out⟩
theorem kf (G1 G2 G3:Nat→Prop)(nm:ByteArray)(u lb tk fk:Int)(ty src:Ty)(ta fa ca:Option Addr)(tn tq fn fq cm cq:Nat)(w:World)(hty:ap G1 w ty (.agg #[.int .i64 tk,.slice ta tn tq]))(hsrc:ap G2 w src (.agg #[.int .i64 fk,.slice fa fn fq]))(y:Value)(h1 h2:S)(d1:h1.cons .int=true)(hv1:h1.vd=true)(hv2:h2.vd=true)(hy:aE G3 w [h1.ty,h2.ty] y) :
  Calls Tryz.prog 118 #[.agg #[.int .i64 7,.string nm,.int .i64 u,.int .i64 tk,.slice ta tn tq,.int .i64 fk,.slice fa fn fq,.int .i64 lb,.slice ca cm cq],y] w (bM ((bd 7 ty [h1,h2]).map S.ty) w):=by
 obtain⟨b,off,cap,k1,c1,m1,q1,k2,c2,m2,q2,rfl,-,-,hlb,e1a,e1b,e2a,e2b,ht1,ht2⟩:=hy.two;obtain⟨O,hOO⟩ : ∃O:Option Ty,O=((bd 7 ty [h1,h2]).map S.ty):=⟨_,rfl⟩
 rw[←hOO];have HO:=zq hOO;clear hOO;have HOO:=zq (nU (k:=7) (ty:=ty) (g:=h1) (h:=h2) (by omega));obtain⟨d2,hd2⟩ : ∃d2,h2.cons .int=d2:=⟨_,rfl⟩
 have D1:=zq d1;have D2:=zq hd2;have V1:=zq hv1;have V2:=zq hv2;clear d1 hd2 hv1 hv2;have H1:=zq ht1.old;have H2:=zq ht2.old;clear hty hsrc hy ht1 ht2
 go_enter Tryz.func118,Tryz.ntmps118
 go_wp2_with fail
 obtain⟨VV,hVV⟩ : ∃X,X=((w.alloc (.cells #[.int .i64 7,.string nm,.int .i64 u,.int .i64 tk,.slice ta tn tq,.int .i64 fk,.slice fa fn fq,.int .i64 lb,.slice ca cm cq] 28)).alloc (.cells #[.int .i64 0,.slice none 0 0] 25)):=⟨_,rfl⟩
 have fE:VV.heap[w.heap.size]?=some (.cells #[.int .i64 7,.string nm,.int .i64 u,.int .i64 tk,.slice ta tn tq,.int .i64 fk,.slice fa fn fq,.int .i64 lb,.slice ca cm cq] 28 (0,0)):=by rw[hVV];exact ag (aF rfl) aj
 have fR:VV.heap[w.heap.size+1]?=some (.cells #[.int .i64 0,.slice none 0 0] 25 (0,0)):=by rw[hVV];exact aF (by simp)
 have c1a_:VV.cell? ⟨b,off,none⟩=some (.int .i64 k1):=by rw[hVV];exact af aj (af aj e1a)
 have c1b_:VV.cell? ⟨b,off+1,none⟩=some (.slice c1 m1 q1):=by rw[hVV];exact af aj (af aj e1b)
 have h1_:Hid (ap (· < w.heap.size) VV h1.ty (.agg #[.int .i64 k1,.slice c1 m1 q1])):=by rw[hVV];exact zq ((H1.out.below aj).below aj)
 have c2a_:VV.cell? ⟨b,off+2,none⟩=some (.int .i64 k2):=by rw[hVV];exact af aj (af aj e2a)
 have c2b_:VV.cell? ⟨b,off+3,none⟩=some (.slice c2 m2 q2):=by rw[hVV];exact af aj (af aj e2b)
 have h2_:Hid (ap (· < w.heap.size) VV h2.ty (.agg #[.int .i64 k2,.slice c2 m2 q2])):=by rw[hVV];exact zq ((H2.out.below aj).below aj)
 have fC:Hid (Below w.heap.size w VV):=by rw[hVV];exact zq (al aj aj)
 rw[←hVV];have zV:VV.heap.size=_:=congrArg (fun X:World=>X.heap.size) hVV;simp only[World.size_alloc] at zV;refine wp_region_noPanic ?_;refine wp_region_held_drew (S:=fun w'=>w'.cell? ⟨b,off,none⟩=some (.int .i64 k1)∧w'.cell? ⟨b,off+1,none⟩=some (.slice c1 m1 q1)∧w'.cell? ⟨b,off+2,none⟩=some (.int .i64 k2)∧w'.cell? ⟨b,off+3,none⟩=some (.slice c2 m2 q2)) (by kernel_rfl) ?_ (fun hH0=>?_)
 ·exact⟨c1a_,c1b_,c2a_,c2b_⟩
 obtain⟨U2,hU,hb,zU2a,zU2b⟩:=bK VV;rw[hU] at hH0 ⊢;replace fE:=ag fE hb;replace fR:=ag fR hb;replace c1a_:=af hb c1a_;replace c1b_:=af hb c1b_;replace h1_:=zq (h1_.out.below hb);replace c2a_:=af hb c2a_;replace c2b_:=af hb c2b_;replace h2_:=zq (h2_.out.below hb);replace fC:=zq (al fC.out hb);rw[zV] at zU2a zU2b;clear hU hb hVV zV;refine hwt 1 jh (.slice (some ⟨b,off,none⟩) 2 cap) hH0 ?_ ?_
 ·intro w' hSw;dsimp only[jh];go_simp
 try simp only[jh,hwA]
 refine hwt 2 ji (.pointer (some ⟨b,off,none⟩)) hH0 ?_ ?_
 ·intro w' hSw;dsimp only[ji];go_simp
 try simp only[ji,hwA]
 refine hwt 3 jl (.agg #[.int .i64 k1,.slice c1 m1 q1]) hH0 ?_ ?_
 ·intro w' hSw;dsimp only[jl];go_simp
 try simp only[jl,hwA]
 refine hwr 0 jg (fun K hK=>?_)
 dsimp only[jg];go_simp
 go_at_call 87
 refine(bB _).mono ?_;rintro e X1 ⟨rfl,hb⟩
 go_wp2_with fail
 have zX1:U2.heap.size≤X1.heap.size:=hb.size;replace fE:=ag fE hb;replace fR:=ag fR hb;replace c1a_:=af hb c1a_;replace c1b_:=af hb c1b_;replace h1_:=zq (h1_.out.below hb);replace c2a_:=af hb c2a_;replace c2b_:=af hb c2b_;replace h2_:=zq (h2_.out.below hb);replace fC:=zq (al fC.out hb);refine hK.out _ _ ⟨c1a_,c1b_,c2a_,c2b_⟩ (fun hH1=>?_);clear hK K hH0 hb
 try simp only[jg,hwA]
 refine hwr 4 jm (fun K hK=>?_)
 dsimp only[jm];go_simp
 go_at_call 87
 refine(bB _).mono ?_;rintro e X2 ⟨rfl,hb⟩
 go_wp2_with fail
 have zX2:X1.heap.size≤X2.heap.size:=hb.size;replace fE:=ag fE hb;replace fR:=ag fR hb;replace c1a_:=af hb c1a_;replace c1b_:=af hb c1b_;replace h1_:=zq (h1_.out.below hb);replace c2a_:=af hb c2a_;replace c2b_:=af hb c2b_;replace h2_:=zq (h2_.out.below hb);replace fC:=zq (al fC.out hb);refine hK.out _ _ ⟨c1a_,c1b_,c2a_,c2b_⟩ (fun hH2=>?_);clear hK K hH1 hb
 try simp only[jm,hwA]
 refine hwr 5 jn (fun K hK=>?_)
 dsimp only[jn];go_simp
 go_at_call 58
 refine(ce _ _ _ S.int _ _ _ h1_.out (ap.leaf 2) V1.out rfl).mono ?_;rintro e X3 ⟨rfl,hb⟩;rw[D1.out]
 go_wp2_with fail
 have zX3:X2.heap.size≤X3.heap.size:=hb.size;replace fE:=ag fE hb;replace fR:=ag fR hb;replace c1a_:=af hb c1a_;replace c1b_:=af hb c1b_;replace h1_:=zq (h1_.out.below hb);replace c2a_:=af hb c2a_;replace c2b_:=af hb c2b_;replace h2_:=zq (h2_.out.below hb);replace fC:=zq (al fC.out hb);refine hK.out _ _ ⟨c1a_,c1b_,c2a_,c2b_⟩ (fun hH3=>?_);clear hK K hH2 hb
 try simp only[jn,hwA]
 refine hwt 6 jo (.bool true) hH3 ?_ ?_
 ·intro w' hSw;dsimp only[jo];go_simp
 try simp only[jo,hwA]
 refine hwt 7 kO (.slice (some ⟨b,off,none⟩) 2 cap) hH3 ?_ ?_
 ·intro w' hSw;dsimp only[kO];go_simp
 try simp only[kO,hwA]
 refine hwt 8 kP (.pointer (some ⟨b,off+2,none⟩)) hH3 ?_ ?_
 ·intro w' hSw;dsimp only[kP];go_simp
 try simp only[kP,hwA]
 refine hwt 9 kQ (.agg #[.int .i64 k2,.slice c2 m2 q2]) hH3 ?_ ?_
 ·intro w' hSw;dsimp only[kQ];go_simp
 try simp only[kQ,hwA]
 refine hwr 10 iN (fun K hK=>?_)
 dsimp only[iN];go_simp
 go_at_call 87
 refine(bB _).mono ?_;rintro e X4 ⟨rfl,hb⟩
 go_wp2_with fail
 have zX4:X3.heap.size≤X4.heap.size:=hb.size;replace fE:=ag fE hb;replace fR:=ag fR hb;replace c1a_:=af hb c1a_;replace c1b_:=af hb c1b_;replace h1_:=zq (h1_.out.below hb);replace c2a_:=af hb c2a_;replace c2b_:=af hb c2b_;replace h2_:=zq (h2_.out.below hb);replace fC:=zq (al fC.out hb);refine hK.out _ _ ⟨c1a_,c1b_,c2a_,c2b_⟩ (fun hH4=>?_);clear hK K hH3 hb
 try simp only[iN,hwA]
 refine hwr 11 iO (fun K hK=>?_)
 dsimp only[iO];go_simp
 go_at_call 58
 refine(ce _ _ _ S.int _ _ _ h2_.out (ap.leaf 2) V2.out rfl).mono ?_;rintro e X5 ⟨rfl,hb⟩;rw[D2.out]
 go_wp2_with fail
 have zX5:X4.heap.size≤X5.heap.size:=hb.size;replace fE:=ag fE hb;replace fR:=ag fR hb;replace c1a_:=af hb c1a_;replace c1b_:=af hb c1b_;replace h1_:=zq (h1_.out.below hb);replace c2a_:=af hb c2a_;replace c2b_:=af hb c2b_;replace h2_:=zq (h2_.out.below hb);replace fC:=zq (al fC.out hb);refine hK.out _ _ ⟨c1a_,c1b_,c2a_,c2b_⟩ (fun hH5=>?_);clear hK K hH4 hb
 try simp only[iO,hwA]
 refine hwt 12 fH (.bool d2) hH5 ?_ ?_
 ·intro w' hSw;dsimp only[fH];go_simp
 try simp only[fH,hwA]
 refine hwr 13 fI (fun K hK=>?_);obtain⟨r0,r1,rf0,rf1⟩:=co fR
 dsimp only[fI];go_simp
 (try go_wp2_with fail);have hQq:=bC fR (.int .i64 2) (.slice none 0 0);clear fR r0 rf0 r1 rf1;obtain⟨X6,hXq,hsq,fR,zX6a,zX6b⟩:=hQq;rw[hXq];replace fE:=hsq.blk (by omega) fE;replace c1a_:=hsq.cell (by show b≠w.heap.size+1;omega) c1a_;replace c1b_:=hsq.cell (by show b≠w.heap.size+1;omega) c1b_;replace h1_:=zq (hsq.rep (fun b hb=>by have:b<w.heap.size:=hb;omega) h1_.out);replace c2a_:=hsq.cell (by show b≠w.heap.size+1;omega) c2a_;replace c2b_:=hsq.cell (by show b≠w.heap.size+1;omega) c2b_;replace h2_:=zq (hsq.rep (fun b hb=>by have:b<w.heap.size:=hb;omega) h2_.out);replace fC:=zq (hsq.bel fC.out (by omega));refine hK.out _ _ ⟨c1a_,c1b_,c2a_,c2b_⟩ (fun hH6=>?_);clear hK K hH5 hsq hXq
 try simp only[fI,hwA]
 refine hwt 14 fJ (.bool d2) hH6 ?_ ?_
 ·intro w' hSw;dsimp only[fJ];go_simp
 try simp only[fJ,hwA]
 refine wpAnyH_done (by kernel_rfl) ?_ _;refine NoPanic.normal ?_;clear hH6;have HN:O=if d2=true then some (.mk 2 []) else none:=by rw[HO.out,HOO.out,D1.out,D2.out];cases d2<;>rfl
 obtain⟨rc0,rc1⟩:=blk2 fR
 go_wp2_with fail
 refine bodyPost_ret (v:=.tuple #[.agg #[.int .i64 2,.slice none 0 0],.bool d2]) (by simp[results,Tryz.results118,go_sem,rc0,rc1]) rfl ?_
 exact⟨_,_,_,_,_,.mk 2 [],rfl,by rw[HN];cases d2<;>rfl,ap.leafG 2,(by rw[HN];intro s h;cases d2 with | false=>cases h | true=>exact Option.some.inj h),fC.out⟩
def jp:Oper:=⟨some 53,.call {callee:=.value (.func 85),args:=#[],argTypes:=#[]},25,"l3_typing.go:78",#[],none⟩
def jq:Oper:=⟨some 54,.move (.tmp 1),23,"l3_typing.go:78",#[],none⟩
def jr:Oper:=⟨some 55,.indexAddr 23 (.tmp 54) (.const (.int .i64 0)),0,"l3_typing.go:78",#[⟨1,.data⟩],none⟩
def js:Oper:=⟨some 56,.load 25 (.tmp 55),25,"l3_typing.go:78",#[⟨2,.data⟩],none⟩
def jt:Oper:=⟨some 57,.call {callee:=.value (.func 87),args:=#[],argTypes:=#[]},25,"l3_typing.go:78",#[⟨0,.chain⟩],none⟩
def ju:Oper:=⟨some 58,.call {callee:=.value (.func 58),args:=#[.tmp 56,.tmp 57],argTypes:=#[25,25]},4,"l3_typing.go:78",#[⟨3,.data⟩,⟨4,.data⟩,⟨4,.chain⟩],none⟩
def jv:Oper:=⟨some 59,.move (.tmp 58),4,"l3_typing.go:78",#[⟨5,.data⟩,⟨5,.chain⟩],none⟩
def kR:Oper:=⟨some 60,.move (.tmp 1),23,"l3_typing.go:78",#[⟨6,.guard⟩],some (6,true)⟩
def kS:Oper:=⟨some 61,.indexAddr 23 (.tmp 60) (.const (.int .i64 1)),0,"l3_typing.go:78",#[⟨7,.data⟩,⟨6,.guard⟩],some (6,true)⟩
def kT:Oper:=⟨some 62,.load 25 (.tmp 61),25,"l3_typing.go:78",#[⟨8,.data⟩,⟨6,.guard⟩],some (6,true)⟩
def iP:Oper:=⟨some 63,.call {callee:=.value (.func 87),args:=#[],argTypes:=#[]},25,"l3_typing.go:78",#[⟨6,.chain⟩,⟨6,.guard⟩],some (6,true)⟩
def iQ:Oper:=⟨some 64,.call {callee:=.value (.func 58),args:=#[.tmp 62,.tmp 63],argTypes:=#[25,25]},4,"l3_typing.go:78",#[⟨9,.data⟩,⟨10,.data⟩,⟨10,.chain⟩,⟨6,.guard⟩],some (6,true)⟩
def fP:Oper:=⟨some 65,.pick (.tmp 59) (.tmp 64) (.const (.bool false)),4,"l3_typing.go:78",#[⟨6,.data⟩,⟨11,.data⟩,⟨13,.gcOnly .lateStores⟩],none⟩
def fQ:Oper:=⟨none,.store 25 (.tmp 4) (.tmp 53),0,"l3_typing.go:78",#[⟨0,.data⟩,⟨11,.chain⟩,⟨0,.phase⟩,⟨1,.textOnly .lateStores⟩,⟨2,.textOnly .lateStores⟩,⟨3,.textOnly .lateStores⟩,⟨4,.textOnly .lateStoresUnsure⟩,⟨5,.textOnly .lateStoresUnsure⟩,⟨6,.textOnly .lateStores⟩,⟨7,.textOnly .lateStores⟩,⟨8,.textOnly .lateStores⟩,⟨9,.textOnly .lateStores⟩,⟨10,.textOnly .lateStoresUnsure⟩,⟨11,.textOnly .lateStoresUnsure⟩,⟨12,.textOnly .lateStores⟩],none⟩
def fZ:Oper:=⟨some 5,.assign (.tmp 65),4,"l3_typing.go:78",#[⟨12,.data⟩,⟨13,.chain⟩,⟨0,.phase⟩,⟨1,.phase⟩,⟨2,.phase⟩,⟨3,.phase⟩,⟨4,.phase⟩,⟨5,.phase⟩,⟨6,.phase⟩,⟨7,.phase⟩,⟨8,.phase⟩,⟨9,.phase⟩,⟨10,.phase⟩,⟨11,.phase⟩,⟨12,.phase⟩,⟨13,.phase⟩],none⟩
theorem kg (G1 G2 G3:Nat→Prop)(nm:ByteArray)(u lb tk fk:Int)(ty src:Ty)(ta fa ca:Option Addr)(tn tq fn fq cm cq:Nat)(w:World)(hty:ap G1 w ty (.agg #[.int .i64 tk,.slice ta tn tq]))(hsrc:ap G2 w src (.agg #[.int .i64 fk,.slice fa fn fq]))(y:Value)(h1 h2:S)(d1:h1.cons .int=false)(hv1:h1.vd=true)(hv2:h2.vd=true)(hy:aE G3 w [h1.ty,h2.ty] y) :
  Calls Tryz.prog 118 #[.agg #[.int .i64 8,.string nm,.int .i64 u,.int .i64 tk,.slice ta tn tq,.int .i64 fk,.slice fa fn fq,.int .i64 lb,.slice ca cm cq],y] w (bM ((bd 8 ty [h1,h2]).map S.ty) w):=by
 obtain⟨b,off,cap,k1,c1,m1,q1,k2,c2,m2,q2,rfl,-,-,hlb,e1a,e1b,e2a,e2b,ht1,ht2⟩:=hy.two;obtain⟨O,hOO⟩ : ∃O:Option Ty,O=((bd 8 ty [h1,h2]).map S.ty):=⟨_,rfl⟩
 rw[←hOO];have HO:=zq hOO;clear hOO;have HOO:=zq (nU (k:=8) (ty:=ty) (g:=h1) (h:=h2) (by omega));obtain⟨d2,hd2⟩ : ∃d2,h2.cons .int=d2:=⟨_,rfl⟩
 have D1:=zq d1;have D2:=zq hd2;have V1:=zq hv1;have V2:=zq hv2;clear d1 hd2 hv1 hv2;have H1:=zq ht1.old;have H2:=zq ht2.old;clear hty hsrc hy ht1 ht2
 go_enter Tryz.func118,Tryz.ntmps118
 go_wp2_with fail
 obtain⟨VV,hVV⟩ : ∃X,X=((w.alloc (.cells #[.int .i64 8,.string nm,.int .i64 u,.int .i64 tk,.slice ta tn tq,.int .i64 fk,.slice fa fn fq,.int .i64 lb,.slice ca cm cq] 28)).alloc (.cells #[.int .i64 0,.slice none 0 0] 25)):=⟨_,rfl⟩
 have fE:VV.heap[w.heap.size]?=some (.cells #[.int .i64 8,.string nm,.int .i64 u,.int .i64 tk,.slice ta tn tq,.int .i64 fk,.slice fa fn fq,.int .i64 lb,.slice ca cm cq] 28 (0,0)):=by rw[hVV];exact ag (aF rfl) aj
 have fR:VV.heap[w.heap.size+1]?=some (.cells #[.int .i64 0,.slice none 0 0] 25 (0,0)):=by rw[hVV];exact aF (by simp)
 have c1a_:VV.cell? ⟨b,off,none⟩=some (.int .i64 k1):=by rw[hVV];exact af aj (af aj e1a)
 have c1b_:VV.cell? ⟨b,off+1,none⟩=some (.slice c1 m1 q1):=by rw[hVV];exact af aj (af aj e1b)
 have h1_:Hid (ap (· < w.heap.size) VV h1.ty (.agg #[.int .i64 k1,.slice c1 m1 q1])):=by rw[hVV];exact zq ((H1.out.below aj).below aj)
 have c2a_:VV.cell? ⟨b,off+2,none⟩=some (.int .i64 k2):=by rw[hVV];exact af aj (af aj e2a)
 have c2b_:VV.cell? ⟨b,off+3,none⟩=some (.slice c2 m2 q2):=by rw[hVV];exact af aj (af aj e2b)
 have h2_:Hid (ap (· < w.heap.size) VV h2.ty (.agg #[.int .i64 k2,.slice c2 m2 q2])):=by rw[hVV];exact zq ((H2.out.below aj).below aj)
 have fC:Hid (Below w.heap.size w VV):=by rw[hVV];exact zq (al aj aj)
 rw[←hVV];have zV:VV.heap.size=_:=congrArg (fun X:World=>X.heap.size) hVV;simp only[World.size_alloc] at zV;refine wp_region_noPanic ?_;refine wp_region_held_drew (S:=fun w'=>w'.cell? ⟨b,off,none⟩=some (.int .i64 k1)∧w'.cell? ⟨b,off+1,none⟩=some (.slice c1 m1 q1)∧w'.cell? ⟨b,off+2,none⟩=some (.int .i64 k2)∧w'.cell? ⟨b,off+3,none⟩=some (.slice c2 m2 q2)) (by kernel_rfl) ?_ (fun hH0=>?_)
 ·exact⟨c1a_,c1b_,c2a_,c2b_⟩
 obtain⟨U3,hU,hb,zU3a,zU3b⟩:=bK VV;rw[hU] at hH0 ⊢;replace fE:=ag fE hb;replace fR:=ag fR hb;replace c1a_:=af hb c1a_;replace c1b_:=af hb c1b_;replace h1_:=zq (h1_.out.below hb);replace c2a_:=af hb c2a_;replace c2b_:=af hb c2b_;replace h2_:=zq (h2_.out.below hb);replace fC:=zq (al fC.out hb);rw[zV] at zU3a zU3b;clear hU hb hVV zV;refine hwt 1 jq (.slice (some ⟨b,off,none⟩) 2 cap) hH0 ?_ ?_
 ·intro w' hSw;dsimp only[jq];go_simp
 try simp only[jq,hwA]
 refine hwt 2 jr (.pointer (some ⟨b,off,none⟩)) hH0 ?_ ?_
 ·intro w' hSw;dsimp only[jr];go_simp
 try simp only[jr,hwA]
 refine hwt 3 js (.agg #[.int .i64 k1,.slice c1 m1 q1]) hH0 ?_ ?_
 ·intro w' hSw;dsimp only[js];go_simp
 try simp only[js,hwA]
 refine hwr 0 jp (fun K hK=>?_)
 dsimp only[jp];go_simp
 go_at_call 85
 refine(dc _).mono ?_;rintro e X1 ⟨rfl,hb⟩
 go_wp2_with fail
 have zX1:U3.heap.size≤X1.heap.size:=hb.size;replace fE:=ag fE hb;replace fR:=ag fR hb;replace c1a_:=af hb c1a_;replace c1b_:=af hb c1b_;replace h1_:=zq (h1_.out.below hb);replace c2a_:=af hb c2a_;replace c2b_:=af hb c2b_;replace h2_:=zq (h2_.out.below hb);replace fC:=zq (al fC.out hb);refine hK.out _ _ ⟨c1a_,c1b_,c2a_,c2b_⟩ (fun hH1=>?_);clear hK K hH0 hb
 try simp only[jp,hwA]
 refine hwr 4 jt (fun K hK=>?_)
 dsimp only[jt];go_simp
 go_at_call 87
 refine(bB _).mono ?_;rintro e X2 ⟨rfl,hb⟩
 go_wp2_with fail
 have zX2:X1.heap.size≤X2.heap.size:=hb.size;replace fE:=ag fE hb;replace fR:=ag fR hb;replace c1a_:=af hb c1a_;replace c1b_:=af hb c1b_;replace h1_:=zq (h1_.out.below hb);replace c2a_:=af hb c2a_;replace c2b_:=af hb c2b_;replace h2_:=zq (h2_.out.below hb);replace fC:=zq (al fC.out hb);refine hK.out _ _ ⟨c1a_,c1b_,c2a_,c2b_⟩ (fun hH2=>?_);clear hK K hH1 hb
 try simp only[jt,hwA]
 refine hwr 5 ju (fun K hK=>?_)
 dsimp only[ju];go_simp
 go_at_call 58
 refine(ce _ _ _ S.int _ _ _ h1_.out (ap.leaf 2) V1.out rfl).mono ?_;rintro e X3 ⟨rfl,hb⟩;rw[D1.out]
 go_wp2_with fail
 have zX3:X2.heap.size≤X3.heap.size:=hb.size;replace fE:=ag fE hb;replace fR:=ag fR hb;replace c1a_:=af hb c1a_;replace c1b_:=af hb c1b_;replace h1_:=zq (h1_.out.below hb);replace c2a_:=af hb c2a_;replace c2b_:=af hb c2b_;replace h2_:=zq (h2_.out.below hb);replace fC:=zq (al fC.out hb);refine hK.out _ _ ⟨c1a_,c1b_,c2a_,c2b_⟩ (fun hH3=>?_);clear hK K hH2 hb
 try simp only[ju,hwA]
 refine hwt 6 jv (.bool false) hH3 ?_ ?_
 ·intro w' hSw;dsimp only[jv];go_simp
 try simp only[jv,hwA]
 refine hwn 7 kR hH3 ?_
 try simp only[kR,hwA]
 refine hwn 8 kS hH3 ?_
 try simp only[kS,hwA]
 refine hwn 9 kT hH3 ?_
 try simp only[kT,hwA]
 refine hwn 10 iP hH3 ?_
 try simp only[iP,hwA]
 refine hwn 11 iQ hH3 ?_
 try simp only[iQ,hwA]
 refine hwt 12 fP (.bool false) hH3 ?_ ?_
 ·intro w' hSw;dsimp only[fP];go_simp
 try simp only[fP,hwA]
 refine hwr 13 fQ (fun K hK=>?_);obtain⟨r0,r1,rf0,rf1⟩:=co fR
 dsimp only[fQ];go_simp
 (try go_wp2_with fail);have hQq:=bC fR (.int .i64 3) (.slice none 0 0);clear fR r0 rf0 r1 rf1;obtain⟨X4,hXq,hsq,fR,zX4a,zX4b⟩:=hQq;rw[hXq];replace fE:=hsq.blk (by omega) fE;replace c1a_:=hsq.cell (by show b≠w.heap.size+1;omega) c1a_;replace c1b_:=hsq.cell (by show b≠w.heap.size+1;omega) c1b_;replace h1_:=zq (hsq.rep (fun b hb=>by have:b<w.heap.size:=hb;omega) h1_.out);replace c2a_:=hsq.cell (by show b≠w.heap.size+1;omega) c2a_;replace c2b_:=hsq.cell (by show b≠w.heap.size+1;omega) c2b_;replace h2_:=zq (hsq.rep (fun b hb=>by have:b<w.heap.size:=hb;omega) h2_.out);replace fC:=zq (hsq.bel fC.out (by omega));refine hK.out _ _ ⟨c1a_,c1b_,c2a_,c2b_⟩ (fun hH4=>?_);clear hK K hH3 hsq hXq
 try simp only[fQ,hwA]
 refine hwt 14 fZ (.bool false) hH4 ?_ ?_
 ·intro w' hSw;dsimp only[fZ];go_simp
 try simp only[fZ,hwA]
 refine wpAnyH_done (by kernel_rfl) ?_ _;refine NoPanic.normal ?_;clear hH4;have HN:O=none:=by rw[HO.out,HOO.out,D1.out,D2.out];rfl
 obtain⟨rc0,rc1⟩:=blk2 fR
 go_wp2_with fail
 refine bodyPost_ret (v:=.tuple #[.agg #[.int .i64 3,.slice none 0 0],.bool false]) (by simp[results,Tryz.results118,go_sem,rc0,rc1]) rfl ?_
 exact⟨_,_,_,_,_,.mk 3 [],rfl,by rw[HN];rfl,ap.leafG 3,(by rw[HN];intro s h;cases h),fC.out⟩
theorem kh (G1 G2 G3:Nat→Prop)(nm:ByteArray)(u lb tk fk:Int)(ty src:Ty)(ta fa ca:Option Addr)(tn tq fn fq cm cq:Nat)(w:World)(hty:ap G1 w ty (.agg #[.int .i64 tk,.slice ta tn tq]))(hsrc:ap G2 w src (.agg #[.int .i64 fk,.slice fa fn fq]))(y:Value)(h1 h2:S)(d1:h1.cons .int=true)(hv1:h1.vd=true)(hv2:h2.vd=true)(hy:aE G3 w [h1.ty,h2.ty] y) :
  Calls Tryz.prog 118 #[.agg #[.int .i64 8,.string nm,.int .i64 u,.int .i64 tk,.slice ta tn tq,.int .i64 fk,.slice fa fn fq,.int .i64 lb,.slice ca cm cq],y] w (bM ((bd 8 ty [h1,h2]).map S.ty) w):=by
 obtain⟨b,off,cap,k1,c1,m1,q1,k2,c2,m2,q2,rfl,-,-,hlb,e1a,e1b,e2a,e2b,ht1,ht2⟩:=hy.two;obtain⟨O,hOO⟩ : ∃O:Option Ty,O=((bd 8 ty [h1,h2]).map S.ty):=⟨_,rfl⟩
 rw[←hOO];have HO:=zq hOO;clear hOO;have HOO:=zq (nU (k:=8) (ty:=ty) (g:=h1) (h:=h2) (by omega));obtain⟨d2,hd2⟩ : ∃d2,h2.cons .int=d2:=⟨_,rfl⟩
 have D1:=zq d1;have D2:=zq hd2;have V1:=zq hv1;have V2:=zq hv2;clear d1 hd2 hv1 hv2;have H1:=zq ht1.old;have H2:=zq ht2.old;clear hty hsrc hy ht1 ht2
 go_enter Tryz.func118,Tryz.ntmps118
 go_wp2_with fail
 obtain⟨VV,hVV⟩ : ∃X,X=((w.alloc (.cells #[.int .i64 8,.string nm,.int .i64 u,.int .i64 tk,.slice ta tn tq,.int .i64 fk,.slice fa fn fq,.int .i64 lb,.slice ca cm cq] 28)).alloc (.cells #[.int .i64 0,.slice none 0 0] 25)):=⟨_,rfl⟩
 have fE:VV.heap[w.heap.size]?=some (.cells #[.int .i64 8,.string nm,.int .i64 u,.int .i64 tk,.slice ta tn tq,.int .i64 fk,.slice fa fn fq,.int .i64 lb,.slice ca cm cq] 28 (0,0)):=by rw[hVV];exact ag (aF rfl) aj
 have fR:VV.heap[w.heap.size+1]?=some (.cells #[.int .i64 0,.slice none 0 0] 25 (0,0)):=by rw[hVV];exact aF (by simp)
 have c1a_:VV.cell? ⟨b,off,none⟩=some (.int .i64 k1):=by rw[hVV];exact af aj (af aj e1a)
 have c1b_:VV.cell? ⟨b,off+1,none⟩=some (.slice c1 m1 q1):=by rw[hVV];exact af aj (af aj e1b)
 have h1_:Hid (ap (· < w.heap.size) VV h1.ty (.agg #[.int .i64 k1,.slice c1 m1 q1])):=by rw[hVV];exact zq ((H1.out.below aj).below aj)
 have c2a_:VV.cell? ⟨b,off+2,none⟩=some (.int .i64 k2):=by rw[hVV];exact af aj (af aj e2a)
 have c2b_:VV.cell? ⟨b,off+3,none⟩=some (.slice c2 m2 q2):=by rw[hVV];exact af aj (af aj e2b)
 have h2_:Hid (ap (· < w.heap.size) VV h2.ty (.agg #[.int .i64 k2,.slice c2 m2 q2])):=by rw[hVV];exact zq ((H2.out.below aj).below aj)
 have fC:Hid (Below w.heap.size w VV):=by rw[hVV];exact zq (al aj aj)
 rw[←hVV];have zV:VV.heap.size=_:=congrArg (fun X:World=>X.heap.size) hVV;simp only[World.size_alloc] at zV;refine wp_region_noPanic ?_;refine wp_region_held_drew (S:=fun w'=>w'.cell? ⟨b,off,none⟩=some (.int .i64 k1)∧w'.cell? ⟨b,off+1,none⟩=some (.slice c1 m1 q1)∧w'.cell? ⟨b,off+2,none⟩=some (.int .i64 k2)∧w'.cell? ⟨b,off+3,none⟩=some (.slice c2 m2 q2)) (by kernel_rfl) ?_ (fun hH0=>?_)
 ·exact⟨c1a_,c1b_,c2a_,c2b_⟩
 obtain⟨U4,hU,hb,zU4a,zU4b⟩:=bK VV;rw[hU] at hH0 ⊢;replace fE:=ag fE hb;replace fR:=ag fR hb;replace c1a_:=af hb c1a_;replace c1b_:=af hb c1b_;replace h1_:=zq (h1_.out.below hb);replace c2a_:=af hb c2a_;replace c2b_:=af hb c2b_;replace h2_:=zq (h2_.out.below hb);replace fC:=zq (al fC.out hb);rw[zV] at zU4a zU4b;clear hU hb hVV zV;refine hwt 1 jq (.slice (some ⟨b,off,none⟩) 2 cap) hH0 ?_ ?_
 ·intro w' hSw;dsimp only[jq];go_simp
 try simp only[jq,hwA]
 refine hwt 2 jr (.pointer (some ⟨b,off,none⟩)) hH0 ?_ ?_
 ·intro w' hSw;dsimp only[jr];go_simp
 try simp only[jr,hwA]
 refine hwt 3 js (.agg #[.int .i64 k1,.slice c1 m1 q1]) hH0 ?_ ?_
 ·intro w' hSw;dsimp only[js];go_simp
 try simp only[js,hwA]
 refine hwr 0 jp (fun K hK=>?_)
 dsimp only[jp];go_simp
 go_at_call 85
 refine(dc _).mono ?_;rintro e X1 ⟨rfl,hb⟩
 go_wp2_with fail
 have zX1:U4.heap.size≤X1.heap.size:=hb.size;replace fE:=ag fE hb;replace fR:=ag fR hb;replace c1a_:=af hb c1a_;replace c1b_:=af hb c1b_;replace h1_:=zq (h1_.out.below hb);replace c2a_:=af hb c2a_;replace c2b_:=af hb c2b_;replace h2_:=zq (h2_.out.below hb);replace fC:=zq (al fC.out hb);refine hK.out _ _ ⟨c1a_,c1b_,c2a_,c2b_⟩ (fun hH1=>?_);clear hK K hH0 hb
 try simp only[jp,hwA]
 refine hwr 4 jt (fun K hK=>?_)
 dsimp only[jt];go_simp
 go_at_call 87
 refine(bB _).mono ?_;rintro e X2 ⟨rfl,hb⟩
 go_wp2_with fail
 have zX2:X1.heap.size≤X2.heap.size:=hb.size;replace fE:=ag fE hb;replace fR:=ag fR hb;replace c1a_:=af hb c1a_;replace c1b_:=af hb c1b_;replace h1_:=zq (h1_.out.below hb);replace c2a_:=af hb c2a_;replace c2b_:=af hb c2b_;replace h2_:=zq (h2_.out.below hb);replace fC:=zq (al fC.out hb);refine hK.out _ _ ⟨c1a_,c1b_,c2a_,c2b_⟩ (fun hH2=>?_);clear hK K hH1 hb
 try simp only[jt,hwA]
 refine hwr 5 ju (fun K hK=>?_)
 dsimp only[ju];go_simp
 go_at_call 58
 refine(ce _ _ _ S.int _ _ _ h1_.out (ap.leaf 2) V1.out rfl).mono ?_;rintro e X3 ⟨rfl,hb⟩;rw[D1.out]
 go_wp2_with fail
 have zX3:X2.heap.size≤X3.heap.size:=hb.size;replace fE:=ag fE hb;replace fR:=ag fR hb;replace c1a_:=af hb c1a_;replace c1b_:=af hb c1b_;replace h1_:=zq (h1_.out.below hb);replace c2a_:=af hb c2a_;replace c2b_:=af hb c2b_;replace h2_:=zq (h2_.out.below hb);replace fC:=zq (al fC.out hb);refine hK.out _ _ ⟨c1a_,c1b_,c2a_,c2b_⟩ (fun hH3=>?_);clear hK K hH2 hb
 try simp only[ju,hwA]
 refine hwt 6 jv (.bool true) hH3 ?_ ?_
 ·intro w' hSw;dsimp only[jv];go_simp
 try simp only[jv,hwA]
 refine hwt 7 kR (.slice (some ⟨b,off,none⟩) 2 cap) hH3 ?_ ?_
 ·intro w' hSw;dsimp only[kR];go_simp
 try simp only[kR,hwA]
 refine hwt 8 kS (.pointer (some ⟨b,off+2,none⟩)) hH3 ?_ ?_
 ·intro w' hSw;dsimp only[kS];go_simp
 try simp only[kS,hwA]
 refine hwt 9 kT (.agg #[.int .i64 k2,.slice c2 m2 q2]) hH3 ?_ ?_
 ·intro w' hSw;dsimp only[kT];go_simp
 try simp only[kT,hwA]
 refine hwr 10 iP (fun K hK=>?_)
 dsimp only[iP];go_simp
 go_at_call 87
 refine(bB _).mono ?_;rintro e X4 ⟨rfl,hb⟩
 go_wp2_with fail
 have zX4:X3.heap.size≤X4.heap.size:=hb.size;replace fE:=ag fE hb;replace fR:=ag fR hb;replace c1a_:=af hb c1a_;replace c1b_:=af hb c1b_;replace h1_:=zq (h1_.out.below hb);replace c2a_:=af hb c2a_;replace c2b_:=af hb c2b_;replace h2_:=zq (h2_.out.below hb);replace fC:=zq (al fC.out hb);refine hK.out _ _ ⟨c1a_,c1b_,c2a_,c2b_⟩ (fun hH4=>?_);clear hK K hH3 hb
 try simp only[iP,hwA]
 refine hwr 11 iQ (fun K hK=>?_)
 dsimp only[iQ];go_simp
 go_at_call 58
 refine(ce _ _ _ S.int _ _ _ h2_.out (ap.leaf 2) V2.out rfl).mono ?_;rintro e X5 ⟨rfl,hb⟩;rw[D2.out]
 go_wp2_with fail
 have zX5:X4.heap.size≤X5.heap.size:=hb.size;replace fE:=ag fE hb;replace fR:=ag fR hb;replace c1a_:=af hb c1a_;replace c1b_:=af hb c1b_;replace h1_:=zq (h1_.out.below hb);replace c2a_:=af hb c2a_;replace c2b_:=af hb c2b_;replace h2_:=zq (h2_.out.below hb);replace fC:=zq (al fC.out hb);refine hK.out _ _ ⟨c1a_,c1b_,c2a_,c2b_⟩ (fun hH5=>?_);clear hK K hH4 hb
 try simp only[iQ,hwA]
 refine hwt 12 fP (.bool d2) hH5 ?_ ?_
 ·intro w' hSw;dsimp only[fP];go_simp
 try simp only[fP,hwA]
 refine hwr 13 fQ (fun K hK=>?_);obtain⟨r0,r1,rf0,rf1⟩:=co fR
 dsimp only[fQ];go_simp
 (try go_wp2_with fail);have hQq:=bC fR (.int .i64 3) (.slice none 0 0);clear fR r0 rf0 r1 rf1;obtain⟨X6,hXq,hsq,fR,zX6a,zX6b⟩:=hQq;rw[hXq];replace fE:=hsq.blk (by omega) fE;replace c1a_:=hsq.cell (by show b≠w.heap.size+1;omega) c1a_;replace c1b_:=hsq.cell (by show b≠w.heap.size+1;omega) c1b_;replace h1_:=zq (hsq.rep (fun b hb=>by have:b<w.heap.size:=hb;omega) h1_.out);replace c2a_:=hsq.cell (by show b≠w.heap.size+1;omega) c2a_;replace c2b_:=hsq.cell (by show b≠w.heap.size+1;omega) c2b_;replace h2_:=zq (hsq.rep (fun b hb=>by have:b<w.heap.size:=hb;omega) h2_.out);replace fC:=zq (hsq.bel fC.out (by omega));refine hK.out _ _ ⟨c1a_,c1b_,c2a_,c2b_⟩ (fun hH6=>?_);clear hK K hH5 hsq hXq
 try simp only[fQ,hwA]
 refine hwt 14 fZ (.bool d2) hH6 ?_ ?_
 ·intro w' hSw;dsimp only[fZ];go_simp
 try simp only[fZ,hwA]
 refine wpAnyH_done (by kernel_rfl) ?_ _;refine NoPanic.normal ?_;clear hH6;have HN:O=if d2=true then some (.mk 3 []) else none:=by rw[HO.out,HOO.out,D1.out,D2.out];cases d2<;>rfl
 obtain⟨rc0,rc1⟩:=blk2 fR
 go_wp2_with fail
 refine bodyPost_ret (v:=.tuple #[.agg #[.int .i64 3,.slice none 0 0],.bool d2]) (by simp[results,Tryz.results118,go_sem,rc0,rc1]) rfl ?_
 exact⟨_,_,_,_,_,.mk 3 [],rfl,by rw[HN];cases d2<;>rfl,ap.leafG 3,(by rw[HN];intro s h;cases d2 with | false=>cases h | true=>exact Option.some.inj h),fC.out⟩
def qO:Oper:=⟨some 91,.move (.tmp 1),23,"l3_typing.go:85",#[],none⟩
def qP:Oper:=⟨some 92,.indexAddr 23 (.tmp 91) (.const (.int .i64 0)),0,"l3_typing.go:85",#[⟨0,.data⟩],none⟩
def qQ:Oper:=⟨some 93,.load 25 (.tmp 92),25,"l3_typing.go:85",#[⟨1,.data⟩],none⟩
def qR:Oper:=⟨some 94,.move (.tmp 1),23,"l3_typing.go:85",#[],none⟩
def qS:Oper:=⟨some 95,.indexAddr 23 (.tmp 94) (.const (.int .i64 1)),0,"l3_typing.go:85",#[⟨3,.data⟩],none⟩
def qT:Oper:=⟨some 96,.load 25 (.tmp 95),25,"l3_typing.go:85",#[⟨4,.data⟩],none⟩
def qU:Oper:=⟨some 97,.call {callee:=.value (.func 117),args:=#[.const (.int .i64 5),.tmp 93,.tmp 96],argTypes:=#[3,25,25]},73,"l3_typing.go:85",#[⟨2,.data⟩,⟨5,.data⟩],none⟩
def qV:Oper:=⟨some 98,.extract (.tmp 97) 0,25,"l3_typing.go:85",#[⟨6,.data⟩],none⟩
def qW:Oper:=⟨some 99,.extract (.tmp 97) 1,4,"l3_typing.go:85",#[⟨6,.data⟩],none⟩
def qX:Oper:=⟨none,.store 25 (.tmp 4) (.tmp 98),0,"l3_typing.go:85",#[⟨7,.data⟩,⟨6,.chain⟩,⟨0,.phase⟩,⟨1,.phase⟩,⟨2,.phase⟩,⟨3,.phase⟩,⟨4,.phase⟩,⟨5,.phase⟩,⟨6,.phase⟩,⟨7,.phase⟩,⟨8,.phase⟩],none⟩
def mO:Oper:=⟨some 5,.assign (.tmp 99),4,"l3_typing.go:85",#[⟨8,.data⟩,⟨9,.chain⟩,⟨0,.phase⟩,⟨1,.phase⟩,⟨2,.phase⟩,⟨3,.phase⟩,⟨4,.phase⟩,⟨5,.phase⟩,⟨6,.phase⟩,⟨7,.phase⟩,⟨8,.phase⟩,⟨9,.phase⟩],none⟩
theorem lc (G1 G2 G3:Nat→Prop)(nm:ByteArray)(u lb tk fk:Int)(ty src:Ty)(ta fa ca:Option Addr)(tn tq fn fq cm cq:Nat)(w:World)(hty:ap G1 w ty (.agg #[.int .i64 tk,.slice ta tn tq]))(hsrc:ap G2 w src (.agg #[.int .i64 fk,.slice fa fn fq]))(y:Value)(h1 h2:S)(hv1:h1.vd=true)(hv2:h2.vd=true)(hy:aE G3 w [h1.ty,h2.ty] y) :
  Calls Tryz.prog 118 #[.agg #[.int .i64 10,.string nm,.int .i64 u,.int .i64 tk,.slice ta tn tq,.int .i64 fk,.slice fa fn fq,.int .i64 lb,.slice ca cm cq],y] w (bM ((bd 10 ty [h1,h2]).map S.ty) w):=by
 obtain⟨b,off,cap,k1,c1,m1,q1,k2,c2,m2,q2,rfl,-,-,hlb,e1a,e1b,e2a,e2b,ht1,ht2⟩:=hy.two;obtain⟨OO',hOO⟩ : ∃O:Option Ty,O=((bd 10 ty [h1,h2]).map S.ty):=⟨_,rfl⟩
 rw[←hOO];have HO:=zq hOO;clear hOO;have HC1:=zq (S.cnt_ok hv1);have HC2:=zq (S.cnt_ok hv2);clear hv1 hv2;have H1:=zq ht1.old;have H2:=zq ht2.old;clear hty hsrc hy ht1 ht2
 go_enter Tryz.func118,Tryz.ntmps118
 go_wp2_with fail
 obtain⟨VV,hVV⟩ : ∃X,X=((w.alloc (.cells #[.int .i64 10,.string nm,.int .i64 u,.int .i64 tk,.slice ta tn tq,.int .i64 fk,.slice fa fn fq,.int .i64 lb,.slice ca cm cq] 28)).alloc (.cells #[.int .i64 0,.slice none 0 0] 25)):=⟨_,rfl⟩
 have fE:VV.heap[w.heap.size]?=some (.cells #[.int .i64 10,.string nm,.int .i64 u,.int .i64 tk,.slice ta tn tq,.int .i64 fk,.slice fa fn fq,.int .i64 lb,.slice ca cm cq] 28 (0,0)):=by rw[hVV];exact ag (aF rfl) aj
 have fR:VV.heap[w.heap.size+1]?=some (.cells #[.int .i64 0,.slice none 0 0] 25 (0,0)):=by rw[hVV];exact aF (by simp)
 have c1a_:VV.cell? ⟨b,off,none⟩=some (.int .i64 k1):=by rw[hVV];exact af aj (af aj e1a)
 have c1b_:VV.cell? ⟨b,off+1,none⟩=some (.slice c1 m1 q1):=by rw[hVV];exact af aj (af aj e1b)
 have h1_:Hid (ap (· < w.heap.size) VV h1.ty (.agg #[.int .i64 k1,.slice c1 m1 q1])):=by rw[hVV];exact zq ((H1.out.below aj).below aj)
 have c2a_:VV.cell? ⟨b,off+2,none⟩=some (.int .i64 k2):=by rw[hVV];exact af aj (af aj e2a)
 have c2b_:VV.cell? ⟨b,off+3,none⟩=some (.slice c2 m2 q2):=by rw[hVV];exact af aj (af aj e2b)
 have h2_:Hid (ap (· < w.heap.size) VV h2.ty (.agg #[.int .i64 k2,.slice c2 m2 q2])):=by rw[hVV];exact zq ((H2.out.below aj).below aj)
 have fC:Hid (Below w.heap.size w VV):=by rw[hVV];exact zq (al aj aj)
 rw[←hVV];have zV:VV.heap.size=_:=congrArg (fun X:World=>X.heap.size) hVV;simp only[World.size_alloc] at zV;refine wp_region_noPanic ?_;refine wp_region_held_drew (S:=fun w'=>w'.cell? ⟨b,off,none⟩=some (.int .i64 k1)∧w'.cell? ⟨b,off+1,none⟩=some (.slice c1 m1 q1)∧w'.cell? ⟨b,off+2,none⟩=some (.int .i64 k2)∧w'.cell? ⟨b,off+3,none⟩=some (.slice c2 m2 q2)) (by kernel_rfl) ?_ (fun hH0=>?_)
 ·exact⟨c1a_,c1b_,c2a_,c2b_⟩
 obtain⟨U5,hU,hb,zU5a,zU5b⟩:=bK VV;rw[hU] at hH0 ⊢;replace fE:=ag fE hb;replace fR:=ag fR hb;replace c1a_:=af hb c1a_;replace c1b_:=af hb c1b_;replace h1_:=zq (h1_.out.below hb);replace c2a_:=af hb c2a_;replace c2b_:=af hb c2b_;replace h2_:=zq (h2_.out.below hb);replace fC:=zq (al fC.out hb);rw[zV] at zU5a zU5b;clear hU hb hVV zV;refine hwt 0 qO (.slice (some ⟨b,off,none⟩) 2 cap) hH0 ?_ ?_
 ·intro w' hSw;dsimp only[qO];go_simp
 try simp only[qO,hwA]
 refine hwt 1 qP (.pointer (some ⟨b,off,none⟩)) hH0 ?_ ?_
 ·intro w' hSw;dsimp only[qP];go_simp
 try simp only[qP,hwA]
 refine hwt 2 qQ (.agg #[.int .i64 k1,.slice c1 m1 q1]) hH0 ?_ ?_
 ·intro w' hSw;dsimp only[qQ];go_simp
 try simp only[qQ,hwA]
 refine hwt 3 qR (.slice (some ⟨b,off,none⟩) 2 cap) hH0 ?_ ?_
 ·intro w' hSw;dsimp only[qR];go_simp
 try simp only[qR,hwA]
 refine hwt 4 qS (.pointer (some ⟨b,off+2,none⟩)) hH0 ?_ ?_
 ·intro w' hSw;dsimp only[qS];go_simp
 try simp only[qS,hwA]
 refine hwt 5 qT (.agg #[.int .i64 k2,.slice c2 m2 q2]) hH0 ?_ ?_
 ·intro w' hSw;dsimp only[qT];go_simp
 try simp only[qT,hwA]
 refine hwr 6 qU (fun K hK=>?_)
 dsimp only[qU];go_simp
 go_at_call 117
 refine(dI _ _ 5 h1.ty h2.ty _ _ _ _ _ _ _ _ _ h1_.out h2_.out HC1.out HC2.out).mono ?_;rintro e X1 ⟨kr,ar,nr,qr,br,tr,rfl,hbr,htr,hor,hb⟩;have hN1':Hid (ap (fun b=>U5.heap.size≤b∧b<X1.heap.size) X1 tr (.agg #[.int .i64 kr,.slice ar nr qr])):=zq (htr.move (.weaken fun b h1 h2=>⟨h1.elim False.elim id,h2⟩));have HBR:=zq hbr;have HOR:=zq hor;clear hbr htr hor
 go_wp2_with fail
 have zX1:U5.heap.size≤X1.heap.size:=hb.size;replace fE:=ag fE hb;replace fR:=ag fR hb;replace c1a_:=af hb c1a_;replace c1b_:=af hb c1b_;replace h1_:=zq (h1_.out.below hb);replace c2a_:=af hb c2a_;replace c2b_:=af hb c2b_;replace h2_:=zq (h2_.out.below hb);replace fC:=zq (al fC.out hb);have hN1:=hN1';clear hN1';refine hK.out _ _ ⟨c1a_,c1b_,c2a_,c2b_⟩ (fun hH1=>?_);clear hK K hH0 hb
 try simp only[qU,hwA]
 refine hwt 7 qV (.agg #[.int .i64 kr,.slice ar nr qr]) hH1 ?_ ?_
 ·intro w' hSw;dsimp only[qV];go_simp
 try simp only[qV,hwA]
 refine hwt 8 qW (.bool br) hH1 ?_ ?_
 ·intro w' hSw;dsimp only[qW];go_simp
 try simp only[qW,hwA]
 refine hwr 9 qX (fun K hK=>?_);obtain⟨r0,r1,rf0,rf1⟩:=co fR
 dsimp only[qX];go_simp
 (try go_wp2_with fail);have hQq:=bC fR (.int .i64 kr) (.slice ar nr qr);clear fR r0 rf0 r1 rf1;obtain⟨X2,hXq,hsq,fR,zX2a,zX2b⟩:=hQq;rw[hXq];replace fE:=hsq.blk (by omega) fE;replace c1a_:=hsq.cell (by show b≠w.heap.size+1;omega) c1a_;replace c1b_:=hsq.cell (by show b≠w.heap.size+1;omega) c1b_;replace h1_:=zq (hsq.rep (fun b hb=>by have:b<w.heap.size:=hb;omega) h1_.out);replace c2a_:=hsq.cell (by show b≠w.heap.size+1;omega) c2a_;replace c2b_:=hsq.cell (by show b≠w.heap.size+1;omega) c2b_;replace h2_:=zq (hsq.rep (fun b hb=>by have:b<w.heap.size:=hb;omega) h2_.out);replace fC:=zq (hsq.bel fC.out (by omega));replace hN1:=zq (hsq.rep (fun b hb=>by have h1:U5.heap.size≤b:=hb.1;have h2:b<X1.heap.size:=hb.2;omega) hN1.out);refine hK.out _ _ ⟨c1a_,c1b_,c2a_,c2b_⟩ (fun hH2=>?_);clear hK K hH1 hsq hXq
 try simp only[qX,hwA]
 refine hwt 10 mO (.bool br) hH2 ?_ ?_
 ·intro w' hSw;dsimp only[mO];go_simp
 try simp only[mO,hwA]
 refine wpAnyH_done (by kernel_rfl) ?_ _;refine NoPanic.normal ?_;clear hH2;obtain⟨rc0,rc1⟩:=blk2 fR
 go_wp2_with fail
 refine bodyPost_ret (v:=.tuple #[.agg #[.int .i64 kr,.slice ar nr qr],.bool br]) (by simp[results,Tryz.results118,go_sem,rc0,rc1]) rfl ?_
 exact⟨_,_,_,_,_,tr,rfl,by rw[HO.out,sU,HBR.out],hN1.out.move (.weaken fun b h _=>.inr (by have h1:=h.1;omega)),(by rw[HO.out,sU];intro s h;exact HOR.out s h),fC.out⟩
def qY:Oper:=⟨some 126,.fieldAddr 28 (.tmp 2) 3,0,"l3_typing.go:93",#[],none⟩
def qZ:Oper:=⟨some 127,.load 25 (.tmp 126),25,"l3_typing.go:93",#[⟨0,.data⟩],none⟩
def ra:Oper:=⟨some 128,.call {callee:=.value (.func 81),args:=#[.tmp 127],argTypes:=#[25]},25,"l3_typing.go:93",#[⟨1,.data⟩],none⟩
def rc:Oper:=⟨some 129,.move (.tmp 1),23,"l3_typing.go:93",#[],none⟩
def re:Oper:=⟨some 130,.indexAddr 23 (.tmp 129) (.const (.int .i64 0)),0,"l3_typing.go:93",#[⟨3,.data⟩],none⟩
def rf:Oper:=⟨some 131,.load 25 (.tmp 130),25,"l3_typing.go:93",#[⟨4,.data⟩],none⟩
def rh:Oper:=⟨some 132,.fieldAddr 28 (.tmp 2) 3,0,"l3_typing.go:93",#[],none⟩
def ri:Oper:=⟨some 133,.load 25 (.tmp 132),25,"l3_typing.go:93",#[⟨6,.data⟩],none⟩
def rj:Oper:=⟨some 134,.call {callee:=.value (.func 58),args:=#[.tmp 131,.tmp 133],argTypes:=#[25,25]},4,"l3_typing.go:93",#[⟨5,.data⟩,⟨7,.data⟩,⟨2,.chain⟩],none⟩
def rl:Oper:=⟨none,.store 25 (.tmp 4) (.tmp 128),0,"l3_typing.go:93",#[⟨2,.data⟩,⟨8,.chain⟩,⟨0,.phase⟩,⟨1,.phase⟩,⟨2,.phase⟩,⟨3,.textOnly .lateStores⟩,⟨4,.textOnly .lateStores⟩,⟨5,.textOnly .lateStores⟩,⟨6,.textOnly .lateStores⟩,⟨7,.textOnly .lateStores⟩,⟨8,.textOnly .lateStoresUnsure⟩],none⟩
def mP:Oper:=⟨some 5,.assign (.tmp 134),4,"l3_typing.go:93",#[⟨8,.data⟩,⟨9,.chain⟩,⟨0,.phase⟩,⟨1,.phase⟩,⟨2,.phase⟩,⟨3,.phase⟩,⟨4,.phase⟩,⟨5,.phase⟩,⟨6,.phase⟩,⟨7,.phase⟩,⟨8,.phase⟩,⟨9,.phase⟩],none⟩
theorem lh (G1 G2 G3:Nat→Prop)(nm:ByteArray)(u lb tk fk:Int)(ty src:Ty)(ta fa ca:Option Addr)(tn tq fn fq cm cq:Nat)(w:World)(hty:ap G1 w ty (.agg #[.int .i64 tk,.slice ta tn tq]))(hsrc:ap G2 w src (.agg #[.int .i64 fk,.slice fa fn fq]))(y:Value)(hv:ty.valid=true)(h1:S)(hv1:h1.vd=true)(hy:aE G3 w [h1.ty] y) :
  Calls Tryz.prog 118 #[.agg #[.int .i64 13,.string nm,.int .i64 u,.int .i64 tk,.slice ta tn tq,.int .i64 fk,.slice fa fn fq,.int .i64 lb,.slice ca cm cq],y] w (bM ((bd 13 ty [h1]).map S.ty) w):=by
 obtain⟨b,off,cap,k1,c1,m1,q1,rfl,hlb,e1a,e1b,ht1⟩:=hy.one;obtain⟨O,hOO⟩ : ∃O:Option Ty,O=((bd 13 ty [h1]).map S.ty):=⟨_,rfl⟩
 rw[←hOO];have HO:=zq hOO;clear hOO;have HCN:=zq (Ty.cnt_valid hv);have HVT:=zq hv;have HTY0:=zq hty.old;obtain⟨dd,hdd⟩ : ∃dd,h1.cons ty.toS=dd:=⟨_,rfl⟩
 have HD:=zq hdd;have HCC:=zq (fun(Fa Fb:Nat→Prop) (ya yb:Value) (W:World) (ha:ap Fa W h1.ty ya) (hb:ap Fb W ty yb)=>(by
   have h:=ce Fa Fb h1 ty.toS ya yb W ha (by rw[Ty.toS_ty hv];exact hb) hv1 (Ty.toS_vd hv)
   rwa [hdd] at h:Calls Tryz.prog 58 #[ya,yb] W fun e w'=>e = .returned (.bool dd)∧Below W.heap.size W w'))
 clear hdd hv hv1;have H1:=zq ht1.old;clear hty hsrc hy ht1
 go_enter Tryz.func118,Tryz.ntmps118
 go_wp2_with fail
 obtain⟨VV,hVV⟩ : ∃X,X=((w.alloc (.cells #[.int .i64 13,.string nm,.int .i64 u,.int .i64 tk,.slice ta tn tq,.int .i64 fk,.slice fa fn fq,.int .i64 lb,.slice ca cm cq] 28)).alloc (.cells #[.int .i64 0,.slice none 0 0] 25)):=⟨_,rfl⟩
 have fE:VV.heap[w.heap.size]?=some (.cells #[.int .i64 13,.string nm,.int .i64 u,.int .i64 tk,.slice ta tn tq,.int .i64 fk,.slice fa fn fq,.int .i64 lb,.slice ca cm cq] 28 (0,0)):=by rw[hVV];exact ag (aF rfl) aj
 have fR:VV.heap[w.heap.size+1]?=some (.cells #[.int .i64 0,.slice none 0 0] 25 (0,0)):=by rw[hVV];exact aF (by simp)
 have c1a_:VV.cell? ⟨b,off,none⟩=some (.int .i64 k1):=by rw[hVV];exact af aj (af aj e1a)
 have c1b_:VV.cell? ⟨b,off+1,none⟩=some (.slice c1 m1 q1):=by rw[hVV];exact af aj (af aj e1b)
 have h1_:Hid (ap (· < w.heap.size) VV h1.ty (.agg #[.int .i64 k1,.slice c1 m1 q1])):=by rw[hVV];exact zq ((H1.out.below aj).below aj)
 have fC:Hid (Below w.heap.size w VV):=by rw[hVV];exact zq (al aj aj)
 have hT:Hid (ap (· < w.heap.size) VV ty (.agg #[.int .i64 tk,.slice ta tn tq])):=by rw[hVV];exact zq ((HTY0.out.below aj).below aj)
 rw[←hVV];have zV:VV.heap.size=_:=congrArg (fun X:World=>X.heap.size) hVV;simp only[World.size_alloc] at zV;refine wp_region_noPanic ?_;refine wp_region_held_drew (S:=fun w'=>w'.cell? ⟨w.heap.size,3,none⟩=some (.int .i64 tk)∧w'.cell? ⟨w.heap.size,4,none⟩=some (.slice ta tn tq)∧w'.cell? ⟨b,off,none⟩=some (.int .i64 k1)∧w'.cell? ⟨b,off+1,none⟩=some (.slice c1 m1 q1)) (by kernel_rfl) ?_ (fun hH0=>?_)
 ·exact⟨ah fE rfl,ah fE rfl,c1a_,c1b_⟩
 obtain⟨U6,hU,hb,zU6a,zU6b⟩:=bK VV;rw[hU] at hH0 ⊢;replace fE:=ag fE hb;replace fR:=ag fR hb;replace c1a_:=af hb c1a_;replace c1b_:=af hb c1b_;replace h1_:=zq (h1_.out.below hb);replace fC:=zq (al fC.out hb);replace hT:=zq (hT.out.below hb);rw[zV] at zU6a zU6b;clear hU hb hVV zV;refine hwt 0 qY (.pointer (some ⟨w.heap.size,3,none⟩)) hH0 ?_ ?_
 ·intro w' hSw;dsimp only[qY];go_simp
 try simp only[qY,hwA]
 refine hwt 1 qZ (.agg #[.int .i64 tk,.slice ta tn tq]) hH0 ?_ ?_
 ·intro w' hSw;dsimp only[qZ];go_simp
 try simp only[qZ,hwA]
 refine hwt 3 rc (.slice (some ⟨b,off,none⟩) 1 cap) hH0 ?_ ?_
 ·intro w' hSw;dsimp only[rc];go_simp
 try simp only[rc,hwA]
 refine hwt 4 re (.pointer (some ⟨b,off,none⟩)) hH0 ?_ ?_
 ·intro w' hSw;dsimp only[re];go_simp
 try simp only[re,hwA]
 refine hwt 5 rf (.agg #[.int .i64 k1,.slice c1 m1 q1]) hH0 ?_ ?_
 ·intro w' hSw;dsimp only[rf];go_simp
 try simp only[rf,hwA]
 refine hwt 6 rh (.pointer (some ⟨w.heap.size,3,none⟩)) hH0 ?_ ?_
 ·intro w' hSw;dsimp only[rh];go_simp
 try simp only[rh,hwA]
 refine hwt 7 ri (.agg #[.int .i64 tk,.slice ta tn tq]) hH0 ?_ ?_
 ·intro w' hSw;dsimp only[ri];go_simp
 try simp only[ri,hwA]
 refine hwr 2 ra (fun K hK=>?_)
 dsimp only[ra];go_simp
 go_at_call 81
 refine(bi _ ty _ _ hT.out HCN.out).mono ?_;rintro e X1 ⟨v,rfl,hv,hb⟩;obtain⟨ke,ae,ne,qe,rfl⟩:=hv.shape;have hN1':=hv.rep.rg;clear hv
 go_wp2_with fail
 have zX1:U6.heap.size≤X1.heap.size:=hb.size;replace fE:=ag fE hb;replace fR:=ag fR hb;replace c1a_:=af hb c1a_;replace c1b_:=af hb c1b_;replace h1_:=zq (h1_.out.below hb);replace fC:=zq (al fC.out hb);replace hT:=zq (hT.out.below hb);have hN1:=hN1';clear hN1';refine hK.out _ _ ⟨ah fE rfl,ah fE rfl,c1a_,c1b_⟩ (fun hH1=>?_);clear hK K hH0 hb
 try simp only[ra,hwA]
 refine hwr 8 rj (fun K hK=>?_)
 dsimp only[rj];go_simp
 go_at_call 58
 refine(HCC.out _ _ _ _ _ h1_.out hT.out).mono ?_;rintro e X2 ⟨rfl,hb⟩
 go_wp2_with fail
 have zX2:X1.heap.size≤X2.heap.size:=hb.size;replace fE:=ag fE hb;replace fR:=ag fR hb;replace c1a_:=af hb c1a_;replace c1b_:=af hb c1b_;replace h1_:=zq (h1_.out.below hb);replace fC:=zq (al fC.out hb);replace hT:=zq (hT.out.below hb);replace hN1:=zq (hN1.out.below hb);refine hK.out _ _ ⟨ah fE rfl,ah fE rfl,c1a_,c1b_⟩ (fun hH2=>?_);clear hK K hH1 hb
 try simp only[rj,hwA]
 refine hwr 9 rl (fun K hK=>?_);obtain⟨r0,r1,rf0,rf1⟩:=co fR
 dsimp only[rl];go_simp
 (try go_wp2_with fail);have hQq:=bC fR (.int .i64 ke) (.slice ae ne qe);clear fR r0 rf0 r1 rf1;obtain⟨X3,hXq,hsq,fR,zX3a,zX3b⟩:=hQq;rw[hXq];replace fE:=hsq.blk (by omega) fE;replace c1a_:=hsq.cell (by show b≠w.heap.size+1;omega) c1a_;replace c1b_:=hsq.cell (by show b≠w.heap.size+1;omega) c1b_;replace h1_:=zq (hsq.rep (fun b hb=>by have:b<w.heap.size:=hb;omega) h1_.out);replace fC:=zq (hsq.bel fC.out (by omega));replace hT:=zq (hsq.rep (fun b hb=>by have:b<w.heap.size:=hb;omega) hT.out);replace hN1:=zq (hsq.rep (fun b hb=>by have h1:U6.heap.size≤b:=hb.1;have h2:b<X1.heap.size:=hb.2;omega) hN1.out);refine hK.out _ _ ⟨ah fE rfl,ah fE rfl,c1a_,c1b_⟩ (fun hH3=>?_);clear hK K hH2 hsq hXq
 try simp only[rl,hwA]
 refine hwt 10 mP (.bool dd) hH3 ?_ ?_
 ·intro w' hSw;dsimp only[mP];go_simp
 try simp only[mP,hwA]
 refine wpAnyH_done (by kernel_rfl) ?_ _;refine NoPanic.normal ?_;clear hH3;have HN:O=if dd=true then some ty else none:=by rw[HO.out];simp only[bd,HD.out];cases dd<;>simp[Ty.toS_ty HVT.out]
 obtain⟨rc0,rc1⟩:=blk2 fR
 go_wp2_with fail
 refine bodyPost_ret (v:=.tuple #[.agg #[.int .i64 ke,.slice ae ne qe],.bool dd]) (by simp[results,Tryz.results118,go_sem,rc0,rc1]) rfl ?_
 exact⟨_,_,_,_,_,ty,rfl,by rw[HN];cases dd<;>rfl,hN1.out.move (.weaken fun b h _=>.inr (by have h1:=h.1;omega)),(by rw[HN];intro s h;cases dd with | false=>cases h | true=>exact Option.some.inj h),fC.out⟩
end Go.Proofs.YtfahhonmiimmdaaGreat

/- spec.l3Result at sums, comparisons, pairs, statements of a type. -/
import Derived.Test.YtfahhonmiimmdaaGreatB16
set_option linter.unusedSimpArgs false
set_option linter.unusedVariables false
set_option maxRecDepth 100000
set_option maxHeartbeats 16000000
namespace Go.Proofs.YtfahhonmiimmdaaGreat
open Go.RowKit
def jX:Oper:=⟨some 38,.call {callee:=.value (.func 87),args:=#[],argTypes:=#[]},25,"l3_typing.go:76",#[],none⟩
def jY:Oper:=⟨some 39,.move (.tmp 1),23,"l3_typing.go:76",#[],none⟩
def jZ:Oper:=⟨some 40,.indexAddr 23 (.tmp 39) (.const (.int .i64 0)),0,"l3_typing.go:76",#[⟨1,.data⟩],none⟩
def k7:Oper:=⟨some 41,.load 25 (.tmp 40),25,"l3_typing.go:76",#[⟨2,.data⟩],none⟩
def ka:Oper:=⟨some 42,.call {callee:=.value (.func 87),args:=#[],argTypes:=#[]},25,"l3_typing.go:76",#[⟨0,.chain⟩],none⟩
def kf:Oper:=⟨some 43,.call {callee:=.value (.func 58),args:=#[.tmp 41,.tmp 42],argTypes:=#[25,25]},4,"l3_typing.go:76",#[⟨3,.data⟩,⟨4,.data⟩,⟨4,.chain⟩],none⟩
def kg:Oper:=⟨some 44,.move (.tmp 43),4,"l3_typing.go:76",#[⟨5,.data⟩,⟨5,.chain⟩],none⟩
def lD:Oper:=⟨some 45,.move (.tmp 1),23,"l3_typing.go:76",#[⟨6,.guard⟩],some (6,true)⟩
def lF:Oper:=⟨some 46,.indexAddr 23 (.tmp 45) (.const (.int .i64 1)),0,"l3_typing.go:76",#[⟨7,.data⟩,⟨6,.guard⟩],some (6,true)⟩
def lG:Oper:=⟨some 47,.load 25 (.tmp 46),25,"l3_typing.go:76",#[⟨8,.data⟩,⟨6,.guard⟩],some (6,true)⟩
def js:Oper:=⟨some 48,.call {callee:=.value (.func 87),args:=#[],argTypes:=#[]},25,"l3_typing.go:76",#[⟨6,.chain⟩,⟨6,.guard⟩],some (6,true)⟩
def jt:Oper:=⟨some 49,.call {callee:=.value (.func 58),args:=#[.tmp 47,.tmp 48],argTypes:=#[25,25]},4,"l3_typing.go:76",#[⟨9,.data⟩,⟨10,.data⟩,⟨10,.chain⟩,⟨6,.guard⟩],some (6,true)⟩
def gE:Oper:=⟨some 50,.pick (.tmp 44) (.tmp 49) (.const (.bool false)),4,"l3_typing.go:76",#[⟨6,.data⟩,⟨11,.data⟩,⟨13,.gcOnly .lateStores⟩],none⟩
def gF:Oper:=⟨none,.store 25 (.tmp 4) (.tmp 38),0,"l3_typing.go:76",#[⟨0,.data⟩,⟨11,.chain⟩,⟨0,.phase⟩,⟨1,.textOnly .lateStores⟩,⟨2,.textOnly .lateStores⟩,⟨3,.textOnly .lateStores⟩,⟨4,.textOnly .lateStoresUnsure⟩,⟨5,.textOnly .lateStoresUnsure⟩,⟨6,.textOnly .lateStores⟩,⟨7,.textOnly .lateStores⟩,⟨8,.textOnly .lateStores⟩,⟨9,.textOnly .lateStores⟩,⟨10,.textOnly .lateStoresUnsure⟩,⟨11,.textOnly .lateStoresUnsure⟩,⟨12,.textOnly .lateStores⟩],none⟩
def gG:Oper:=⟨some 5,.assign (.tmp 50),4,"l3_typing.go:76",#[⟨12,.data⟩,⟨13,.chain⟩,⟨0,.phase⟩,⟨1,.phase⟩,⟨2,.phase⟩,⟨3,.phase⟩,⟨4,.phase⟩,⟨5,.phase⟩,⟨6,.phase⟩,⟨7,.phase⟩,⟨8,.phase⟩,⟨9,.phase⟩,⟨10,.phase⟩,⟨11,.phase⟩,⟨12,.phase⟩,⟨13,.phase⟩],none⟩
theorem kY (G1 G2 G3:Nat→Prop)(nm:ByteArray)(u lb tk fk:Int)(ty src:Ty)(ta fa ca:Option Addr)(tn tq fn fq cm cq:Nat)(w:World)(hty:ao G1 w ty (.agg #[.int .i64 tk,.slice ta tn tq]))(hsrc:ao G2 w src (.agg #[.int .i64 fk,.slice fa fn fq]))(y:Value)(h1 h2:S)(d1:h1.cons .int=false)(hv1:h1.vd=true)(hv2:h2.vd=true)(hy:aA G3 w [h1.ty,h2.ty] y) :
  Calls Tryz.prog 118 #[.agg #[.int .i64 7,.string nm,.int .i64 u,.int .i64 tk,.slice ta tn tq,.int .i64 fk,.slice fa fn fq,.int .i64 lb,.slice ca cm cq],y] w (bH ((aZ 7 ty [h1,h2]).map S.ty) w):=by
 obtain⟨b,off,cap,k1,c1,m1,q1,k2,c2,m2,q2,rfl,-,-,hlb,e1a,e1b,e2a,e2b,ht1,ht2⟩:=hy.two;obtain⟨O,hOO⟩ : ∃O:Option Ty,O=((aZ 7 ty [h1,h2]).map S.ty):=⟨_,rfl⟩
 rw[←hOO];have HO:=zq hOO;clear hOO;have HOO:=zq (oQ (k:=7) (ty:=ty) (g:=h1) (h:=h2) (by omega));obtain⟨d2,hd2⟩ : ∃d2,h2.cons .int=d2:=⟨_,rfl⟩
 have D1:=zq d1;have D2:=zq hd2;have V1:=zq hv1;have V2:=zq hv2;clear d1 hd2 hv1 hv2;have H1:=zq ht1.old;have H2:=zq ht2.old;clear hty hsrc hy ht1 ht2
 go_enter Tryz.func118,Tryz.ntmps118
 go_wp2_with fail
 obtain⟨VV,hVV⟩ : ∃X,X=((w.alloc (.cells #[.int .i64 7,.string nm,.int .i64 u,.int .i64 tk,.slice ta tn tq,.int .i64 fk,.slice fa fn fq,.int .i64 lb,.slice ca cm cq] 28)).alloc (.cells #[.int .i64 0,.slice none 0 0] 25)):=⟨_,rfl⟩
 have fE:VV.heap[w.heap.size]?=some (.cells #[.int .i64 7,.string nm,.int .i64 u,.int .i64 tk,.slice ta tn tq,.int .i64 fk,.slice fa fn fq,.int .i64 lb,.slice ca cm cq] 28 (0,0)):=by rw[hVV];exact af (aB rfl) ai
 have fR:VV.heap[w.heap.size+1]?=some (.cells #[.int .i64 0,.slice none 0 0] 25 (0,0)):=by rw[hVV];exact aB (by simp)
 have c1a_:VV.cell? ⟨b,off,none⟩=some (.int .i64 k1):=by rw[hVV];exact ah ai (ah ai e1a)
 have c1b_:VV.cell? ⟨b,off+1,none⟩=some (.slice c1 m1 q1):=by rw[hVV];exact ah ai (ah ai e1b)
 have h1_:Hid (ao (· < w.heap.size) VV h1.ty (.agg #[.int .i64 k1,.slice c1 m1 q1])):=by rw[hVV];exact zq ((H1.out.below ai).below ai)
 have c2a_:VV.cell? ⟨b,off+2,none⟩=some (.int .i64 k2):=by rw[hVV];exact ah ai (ah ai e2a)
 have c2b_:VV.cell? ⟨b,off+3,none⟩=some (.slice c2 m2 q2):=by rw[hVV];exact ah ai (ah ai e2b)
 have h2_:Hid (ao (· < w.heap.size) VV h2.ty (.agg #[.int .i64 k2,.slice c2 m2 q2])):=by rw[hVV];exact zq ((H2.out.below ai).below ai)
 have fC:Hid (Below w.heap.size w VV):=by rw[hVV];exact zq (aj ai ai)
 rw[←hVV];have zV:VV.heap.size=_:=congrArg (fun X:World=>X.heap.size) hVV;simp only[World.size_alloc] at zV;refine wp_region_noPanic ?_;refine wp_region_held_drew (S:=fun w'=>w'.cell? ⟨b,off,none⟩=some (.int .i64 k1)∧w'.cell? ⟨b,off+1,none⟩=some (.slice c1 m1 q1)∧w'.cell? ⟨b,off+2,none⟩=some (.int .i64 k2)∧w'.cell? ⟨b,off+3,none⟩=some (.slice c2 m2 q2)) (by kernel_rfl) ?_ (fun hH0=>?_)
 ·exact⟨c1a_,c1b_,c2a_,c2b_⟩
 obtain⟨U1,hU,hb,zU1a,zU1b⟩:=bD VV;rw[hU] at hH0 ⊢;replace fE:=af fE hb;replace fR:=af fR hb;replace c1a_:=ah hb c1a_;replace c1b_:=ah hb c1b_;replace h1_:=zq (h1_.out.below hb);replace c2a_:=ah hb c2a_;replace c2b_:=ah hb c2b_;replace h2_:=zq (h2_.out.below hb);replace fC:=zq (aj fC.out hb);rw[zV] at zU1a zU1b;clear hU hb hVV zV;refine hwt 1 jY (.slice (some ⟨b,off,none⟩) 2 cap) hH0 ?_ ?_
 ·intro w' hSw;dsimp only[jY];go_simp
 try simp only[jY,hwA]
 refine hwt 2 jZ (.pointer (some ⟨b,off,none⟩)) hH0 ?_ ?_
 ·intro w' hSw;dsimp only[jZ];go_simp
 try simp only[jZ,hwA]
 refine hwt 3 k7 (.agg #[.int .i64 k1,.slice c1 m1 q1]) hH0 ?_ ?_
 ·intro w' hSw;dsimp only[k7];go_simp
 try simp only[k7,hwA]
 refine hwr 0 jX (fun K hK=>?_)
 dsimp only[jX];go_simp
 go_at_call 87
 refine(bv _).mono ?_;rintro e X1 ⟨rfl,hb⟩
 go_wp2_with fail
 have zX1:U1.heap.size≤X1.heap.size:=hb.size;replace fE:=af fE hb;replace fR:=af fR hb;replace c1a_:=ah hb c1a_;replace c1b_:=ah hb c1b_;replace h1_:=zq (h1_.out.below hb);replace c2a_:=ah hb c2a_;replace c2b_:=ah hb c2b_;replace h2_:=zq (h2_.out.below hb);replace fC:=zq (aj fC.out hb);refine hK.out _ _ ⟨c1a_,c1b_,c2a_,c2b_⟩ (fun hH1=>?_);clear hK K hH0 hb
 try simp only[jX,hwA]
 refine hwr 4 ka (fun K hK=>?_)
 dsimp only[ka];go_simp
 go_at_call 87
 refine(bv _).mono ?_;rintro e X2 ⟨rfl,hb⟩
 go_wp2_with fail
 have zX2:X1.heap.size≤X2.heap.size:=hb.size;replace fE:=af fE hb;replace fR:=af fR hb;replace c1a_:=ah hb c1a_;replace c1b_:=ah hb c1b_;replace h1_:=zq (h1_.out.below hb);replace c2a_:=ah hb c2a_;replace c2b_:=ah hb c2b_;replace h2_:=zq (h2_.out.below hb);replace fC:=zq (aj fC.out hb);refine hK.out _ _ ⟨c1a_,c1b_,c2a_,c2b_⟩ (fun hH2=>?_);clear hK K hH1 hb
 try simp only[ka,hwA]
 refine hwr 5 kf (fun K hK=>?_)
 dsimp only[kf];go_simp
 go_at_call 58
 refine(bY _ _ _ S.int _ _ _ h1_.out (ao.leaf 2) V1.out rfl).mono ?_;rintro e X3 ⟨rfl,hb⟩;rw[D1.out]
 go_wp2_with fail
 have zX3:X2.heap.size≤X3.heap.size:=hb.size;replace fE:=af fE hb;replace fR:=af fR hb;replace c1a_:=ah hb c1a_;replace c1b_:=ah hb c1b_;replace h1_:=zq (h1_.out.below hb);replace c2a_:=ah hb c2a_;replace c2b_:=ah hb c2b_;replace h2_:=zq (h2_.out.below hb);replace fC:=zq (aj fC.out hb);refine hK.out _ _ ⟨c1a_,c1b_,c2a_,c2b_⟩ (fun hH3=>?_);clear hK K hH2 hb
 try simp only[kf,hwA]
 refine hwt 6 kg (.bool false) hH3 ?_ ?_
 ·intro w' hSw;dsimp only[kg];go_simp
 try simp only[kg,hwA]
 refine hwn 7 lD hH3 ?_
 try simp only[lD,hwA]
 refine hwn 8 lF hH3 ?_
 try simp only[lF,hwA]
 refine hwn 9 lG hH3 ?_
 try simp only[lG,hwA]
 refine hwn 10 js hH3 ?_
 try simp only[js,hwA]
 refine hwn 11 jt hH3 ?_
 try simp only[jt,hwA]
 refine hwt 12 gE (.bool false) hH3 ?_ ?_
 ·intro w' hSw;dsimp only[gE];go_simp
 try simp only[gE,hwA]
 refine hwr 13 gF (fun K hK=>?_);obtain⟨r0,r1,rf0,rf1⟩:=co fR
 dsimp only[gF];go_simp
 (try go_wp2_with fail);have hQq:=bw fR (.int .i64 2) (.slice none 0 0);clear fR r0 rf0 r1 rf1;obtain⟨X4,hXq,hsq,fR,zX4a,zX4b⟩:=hQq;rw[hXq];replace fE:=hsq.blk (by omega) fE;replace c1a_:=hsq.cell (by show b≠w.heap.size+1;omega) c1a_;replace c1b_:=hsq.cell (by show b≠w.heap.size+1;omega) c1b_;replace h1_:=zq (hsq.rep (fun b hb=>by have:b<w.heap.size:=hb;omega) h1_.out);replace c2a_:=hsq.cell (by show b≠w.heap.size+1;omega) c2a_;replace c2b_:=hsq.cell (by show b≠w.heap.size+1;omega) c2b_;replace h2_:=zq (hsq.rep (fun b hb=>by have:b<w.heap.size:=hb;omega) h2_.out);replace fC:=zq (hsq.bel fC.out (by omega));refine hK.out _ _ ⟨c1a_,c1b_,c2a_,c2b_⟩ (fun hH4=>?_);clear hK K hH3 hsq hXq
 try simp only[gF,hwA]
 refine hwt 14 gG (.bool false) hH4 ?_ ?_
 ·intro w' hSw;dsimp only[gG];go_simp
 try simp only[gG,hwA]
 refine wpAnyH_done (by kernel_rfl) ?_ _;refine NoPanic.normal ?_;clear hH4;have HN:O=none:=by rw[HO.out,HOO.out,D1.out,D2.out];rfl
 obtain⟨rc0,rc1⟩:=blk2 fR
 go_wp2_with fail
 refine bodyPost_ret (v:=.tuple #[.agg #[.int .i64 2,.slice none 0 0],.bool false]) (by simp[results,Tryz.results118,go_sem,rc0,rc1]) rfl ?_
 exact⟨_,_,_,_,_,.mk 2 [],rfl,by rw[HN];rfl,ao.leafG 2,(by rw[HN];intro s h;cases h),fC.out⟩
theorem kZ (G1 G2 G3:Nat→Prop)(nm:ByteArray)(u lb tk fk:Int)(ty src:Ty)(ta fa ca:Option Addr)(tn tq fn fq cm cq:Nat)(w:World)(hty:ao G1 w ty (.agg #[.int .i64 tk,.slice ta tn tq]))(hsrc:ao G2 w src (.agg #[.int .i64 fk,.slice fa fn fq]))(y:Value)(h1 h2:S)(d1:h1.cons .int=true)(hv1:h1.vd=true)(hv2:h2.vd=true)(hy:aA G3 w [h1.ty,h2.ty] y) :
  Calls Tryz.prog 118 #[.agg #[.int .i64 7,.string nm,.int .i64 u,.int .i64 tk,.slice ta tn tq,.int .i64 fk,.slice fa fn fq,.int .i64 lb,.slice ca cm cq],y] w (bH ((aZ 7 ty [h1,h2]).map S.ty) w):=by
 obtain⟨b,off,cap,k1,c1,m1,q1,k2,c2,m2,q2,rfl,-,-,hlb,e1a,e1b,e2a,e2b,ht1,ht2⟩:=hy.two;obtain⟨O,hOO⟩ : ∃O:Option Ty,O=((aZ 7 ty [h1,h2]).map S.ty):=⟨_,rfl⟩
 rw[←hOO];have HO:=zq hOO;clear hOO;have HOO:=zq (oQ (k:=7) (ty:=ty) (g:=h1) (h:=h2) (by omega));obtain⟨d2,hd2⟩ : ∃d2,h2.cons .int=d2:=⟨_,rfl⟩
 have D1:=zq d1;have D2:=zq hd2;have V1:=zq hv1;have V2:=zq hv2;clear d1 hd2 hv1 hv2;have H1:=zq ht1.old;have H2:=zq ht2.old;clear hty hsrc hy ht1 ht2
 go_enter Tryz.func118,Tryz.ntmps118
 go_wp2_with fail
 obtain⟨VV,hVV⟩ : ∃X,X=((w.alloc (.cells #[.int .i64 7,.string nm,.int .i64 u,.int .i64 tk,.slice ta tn tq,.int .i64 fk,.slice fa fn fq,.int .i64 lb,.slice ca cm cq] 28)).alloc (.cells #[.int .i64 0,.slice none 0 0] 25)):=⟨_,rfl⟩
 have fE:VV.heap[w.heap.size]?=some (.cells #[.int .i64 7,.string nm,.int .i64 u,.int .i64 tk,.slice ta tn tq,.int .i64 fk,.slice fa fn fq,.int .i64 lb,.slice ca cm cq] 28 (0,0)):=by rw[hVV];exact af (aB rfl) ai
 have fR:VV.heap[w.heap.size+1]?=some (.cells #[.int .i64 0,.slice none 0 0] 25 (0,0)):=by rw[hVV];exact aB (by simp)
 have c1a_:VV.cell? ⟨b,off,none⟩=some (.int .i64 k1):=by rw[hVV];exact ah ai (ah ai e1a)
 have c1b_:VV.cell? ⟨b,off+1,none⟩=some (.slice c1 m1 q1):=by rw[hVV];exact ah ai (ah ai e1b)
 have h1_:Hid (ao (· < w.heap.size) VV h1.ty (.agg #[.int .i64 k1,.slice c1 m1 q1])):=by rw[hVV];exact zq ((H1.out.below ai).below ai)
 have c2a_:VV.cell? ⟨b,off+2,none⟩=some (.int .i64 k2):=by rw[hVV];exact ah ai (ah ai e2a)
 have c2b_:VV.cell? ⟨b,off+3,none⟩=some (.slice c2 m2 q2):=by rw[hVV];exact ah ai (ah ai e2b)
 have h2_:Hid (ao (· < w.heap.size) VV h2.ty (.agg #[.int .i64 k2,.slice c2 m2 q2])):=by rw[hVV];exact zq ((H2.out.below ai).below ai)
 have fC:Hid (Below w.heap.size w VV):=by rw[hVV];exact zq (aj ai ai)
 rw[←hVV];have zV:VV.heap.size=_:=congrArg (fun X:World=>X.heap.size) hVV;simp only[World.size_alloc] at zV;refine wp_region_noPanic ?_;refine wp_region_held_drew (S:=fun w'=>w'.cell? ⟨b,off,none⟩=some (.int .i64 k1)∧w'.cell? ⟨b,off+1,none⟩=some (.slice c1 m1 q1)∧w'.cell? ⟨b,off+2,none⟩=some (.int .i64 k2)∧w'.cell? ⟨b,off+3,none⟩=some (.slice c2 m2 q2)) (by kernel_rfl) ?_ (fun hH0=>?_)
 ·exact⟨c1a_,c1b_,c2a_,c2b_⟩
 obtain⟨U2,hU,hb,zU2a,zU2b⟩:=bD VV;rw[hU] at hH0 ⊢;replace fE:=af fE hb;replace fR:=af fR hb;replace c1a_:=ah hb c1a_;replace c1b_:=ah hb c1b_;replace h1_:=zq (h1_.out.below hb);replace c2a_:=ah hb c2a_;replace c2b_:=ah hb c2b_;replace h2_:=zq (h2_.out.below hb);replace fC:=zq (aj fC.out hb);rw[zV] at zU2a zU2b;clear hU hb hVV zV;refine hwt 1 jY (.slice (some ⟨b,off,none⟩) 2 cap) hH0 ?_ ?_
 ·intro w' hSw;dsimp only[jY];go_simp
 try simp only[jY,hwA]
 refine hwt 2 jZ (.pointer (some ⟨b,off,none⟩)) hH0 ?_ ?_
 ·intro w' hSw;dsimp only[jZ];go_simp
 try simp only[jZ,hwA]
 refine hwt 3 k7 (.agg #[.int .i64 k1,.slice c1 m1 q1]) hH0 ?_ ?_
 ·intro w' hSw;dsimp only[k7];go_simp
 try simp only[k7,hwA]
 refine hwr 0 jX (fun K hK=>?_)
 dsimp only[jX];go_simp
 go_at_call 87
 refine(bv _).mono ?_;rintro e X1 ⟨rfl,hb⟩
 go_wp2_with fail
 have zX1:U2.heap.size≤X1.heap.size:=hb.size;replace fE:=af fE hb;replace fR:=af fR hb;replace c1a_:=ah hb c1a_;replace c1b_:=ah hb c1b_;replace h1_:=zq (h1_.out.below hb);replace c2a_:=ah hb c2a_;replace c2b_:=ah hb c2b_;replace h2_:=zq (h2_.out.below hb);replace fC:=zq (aj fC.out hb);refine hK.out _ _ ⟨c1a_,c1b_,c2a_,c2b_⟩ (fun hH1=>?_);clear hK K hH0 hb
 try simp only[jX,hwA]
 refine hwr 4 ka (fun K hK=>?_)
 dsimp only[ka];go_simp
 go_at_call 87
 refine(bv _).mono ?_;rintro e X2 ⟨rfl,hb⟩
 go_wp2_with fail
 have zX2:X1.heap.size≤X2.heap.size:=hb.size;replace fE:=af fE hb;replace fR:=af fR hb;replace c1a_:=ah hb c1a_;replace c1b_:=ah hb c1b_;replace h1_:=zq (h1_.out.below hb);replace c2a_:=ah hb c2a_;replace c2b_:=ah hb c2b_;replace h2_:=zq (h2_.out.below hb);replace fC:=zq (aj fC.out hb);refine hK.out _ _ ⟨c1a_,c1b_,c2a_,c2b_⟩ (fun hH2=>?_);clear hK K hH1 hb
 try simp only[ka,hwA]
 refine hwr 5 kf (fun K hK=>?_)
 dsimp only[kf];go_simp
 go_at_call 58
 refine(bY _ _ _ S.int _ _ _ h1_.out (ao.leaf 2) V1.out rfl).mono ?_;rintro e X3 ⟨rfl,hb⟩;rw[D1.out]
 go_wp2_with fail
 have zX3:X2.heap.size≤X3.heap.size:=hb.size;replace fE:=af fE hb;replace fR:=af fR hb;replace c1a_:=ah hb c1a_;replace c1b_:=ah hb c1b_;replace h1_:=zq (h1_.out.below hb);replace c2a_:=ah hb c2a_;replace c2b_:=ah hb c2b_;replace h2_:=zq (h2_.out.below hb);replace fC:=zq (aj fC.out hb);refine hK.out _ _ ⟨c1a_,c1b_,c2a_,c2b_⟩ (fun hH3=>?_);clear hK K hH2 hb
 try simp only[kf,hwA]
 refine hwt 6 kg (.bool true) hH3 ?_ ?_
 ·intro w' hSw;dsimp only[kg];go_simp
 try simp only[kg,hwA]
 refine hwt 7 lD (.slice (some ⟨b,off,none⟩) 2 cap) hH3 ?_ ?_
 ·intro w' hSw;dsimp only[lD];go_simp
 try simp only[lD,hwA]
 refine hwt 8 lF (.pointer (some ⟨b,off+2,none⟩)) hH3 ?_ ?_
 ·intro w' hSw;dsimp only[lF];go_simp
 try simp only[lF,hwA]
 refine hwt 9 lG (.agg #[.int .i64 k2,.slice c2 m2 q2]) hH3 ?_ ?_
 ·intro w' hSw;dsimp only[lG];go_simp
 try simp only[lG,hwA]
 refine hwr 10 js (fun K hK=>?_)
 dsimp only[js];go_simp
 go_at_call 87
 refine(bv _).mono ?_;rintro e X4 ⟨rfl,hb⟩
 go_wp2_with fail
 have zX4:X3.heap.size≤X4.heap.size:=hb.size;replace fE:=af fE hb;replace fR:=af fR hb;replace c1a_:=ah hb c1a_;replace c1b_:=ah hb c1b_;replace h1_:=zq (h1_.out.below hb);replace c2a_:=ah hb c2a_;replace c2b_:=ah hb c2b_;replace h2_:=zq (h2_.out.below hb);replace fC:=zq (aj fC.out hb);refine hK.out _ _ ⟨c1a_,c1b_,c2a_,c2b_⟩ (fun hH4=>?_);clear hK K hH3 hb
 try simp only[js,hwA]
 refine hwr 11 jt (fun K hK=>?_)
 dsimp only[jt];go_simp
 go_at_call 58
 refine(bY _ _ _ S.int _ _ _ h2_.out (ao.leaf 2) V2.out rfl).mono ?_;rintro e X5 ⟨rfl,hb⟩;rw[D2.out]
 go_wp2_with fail
 have zX5:X4.heap.size≤X5.heap.size:=hb.size;replace fE:=af fE hb;replace fR:=af fR hb;replace c1a_:=ah hb c1a_;replace c1b_:=ah hb c1b_;replace h1_:=zq (h1_.out.below hb);replace c2a_:=ah hb c2a_;replace c2b_:=ah hb c2b_;replace h2_:=zq (h2_.out.below hb);replace fC:=zq (aj fC.out hb);refine hK.out _ _ ⟨c1a_,c1b_,c2a_,c2b_⟩ (fun hH5=>?_);clear hK K hH4 hb
 try simp only[jt,hwA]
 refine hwt 12 gE (.bool d2) hH5 ?_ ?_
 ·intro w' hSw;dsimp only[gE];go_simp
 try simp only[gE,hwA]
 refine hwr 13 gF (fun K hK=>?_);obtain⟨r0,r1,rf0,rf1⟩:=co fR
 dsimp only[gF];go_simp
 (try go_wp2_with fail);have hQq:=bw fR (.int .i64 2) (.slice none 0 0);clear fR r0 rf0 r1 rf1;obtain⟨X6,hXq,hsq,fR,zX6a,zX6b⟩:=hQq;rw[hXq];replace fE:=hsq.blk (by omega) fE;replace c1a_:=hsq.cell (by show b≠w.heap.size+1;omega) c1a_;replace c1b_:=hsq.cell (by show b≠w.heap.size+1;omega) c1b_;replace h1_:=zq (hsq.rep (fun b hb=>by have:b<w.heap.size:=hb;omega) h1_.out);replace c2a_:=hsq.cell (by show b≠w.heap.size+1;omega) c2a_;replace c2b_:=hsq.cell (by show b≠w.heap.size+1;omega) c2b_;replace h2_:=zq (hsq.rep (fun b hb=>by have:b<w.heap.size:=hb;omega) h2_.out);replace fC:=zq (hsq.bel fC.out (by omega));refine hK.out _ _ ⟨c1a_,c1b_,c2a_,c2b_⟩ (fun hH6=>?_);clear hK K hH5 hsq hXq
 try simp only[gF,hwA]
 refine hwt 14 gG (.bool d2) hH6 ?_ ?_
 ·intro w' hSw;dsimp only[gG];go_simp
 try simp only[gG,hwA]
 refine wpAnyH_done (by kernel_rfl) ?_ _;refine NoPanic.normal ?_;clear hH6;have HN:O=if d2=true then some (.mk 2 []) else none:=by rw[HO.out,HOO.out,D1.out,D2.out];cases d2<;>rfl
 obtain⟨rc0,rc1⟩:=blk2 fR
 go_wp2_with fail
 refine bodyPost_ret (v:=.tuple #[.agg #[.int .i64 2,.slice none 0 0],.bool d2]) (by simp[results,Tryz.results118,go_sem,rc0,rc1]) rfl ?_
 exact⟨_,_,_,_,_,.mk 2 [],rfl,by rw[HN];cases d2<;>rfl,ao.leafG 2,(by rw[HN];intro s h;cases d2 with | false=>cases h | true=>exact Option.some.inj h),fC.out⟩
def kh:Oper:=⟨some 53,.call {callee:=.value (.func 85),args:=#[],argTypes:=#[]},25,"l3_typing.go:78",#[],none⟩
def ki:Oper:=⟨some 54,.move (.tmp 1),23,"l3_typing.go:78",#[],none⟩
def kj:Oper:=⟨some 55,.indexAddr 23 (.tmp 54) (.const (.int .i64 0)),0,"l3_typing.go:78",#[⟨1,.data⟩],none⟩
def kl:Oper:=⟨some 56,.load 25 (.tmp 55),25,"l3_typing.go:78",#[⟨2,.data⟩],none⟩
def ko:Oper:=⟨some 57,.call {callee:=.value (.func 87),args:=#[],argTypes:=#[]},25,"l3_typing.go:78",#[⟨0,.chain⟩],none⟩
def kp:Oper:=⟨some 58,.call {callee:=.value (.func 58),args:=#[.tmp 56,.tmp 57],argTypes:=#[25,25]},4,"l3_typing.go:78",#[⟨3,.data⟩,⟨4,.data⟩,⟨4,.chain⟩],none⟩
def kq:Oper:=⟨some 59,.move (.tmp 58),4,"l3_typing.go:78",#[⟨5,.data⟩,⟨5,.chain⟩],none⟩
def lH:Oper:=⟨some 60,.move (.tmp 1),23,"l3_typing.go:78",#[⟨6,.guard⟩],some (6,true)⟩
def lI:Oper:=⟨some 61,.indexAddr 23 (.tmp 60) (.const (.int .i64 1)),0,"l3_typing.go:78",#[⟨7,.data⟩,⟨6,.guard⟩],some (6,true)⟩
def lJ:Oper:=⟨some 62,.load 25 (.tmp 61),25,"l3_typing.go:78",#[⟨8,.data⟩,⟨6,.guard⟩],some (6,true)⟩
def ju:Oper:=⟨some 63,.call {callee:=.value (.func 87),args:=#[],argTypes:=#[]},25,"l3_typing.go:78",#[⟨6,.chain⟩,⟨6,.guard⟩],some (6,true)⟩
def jv:Oper:=⟨some 64,.call {callee:=.value (.func 58),args:=#[.tmp 62,.tmp 63],argTypes:=#[25,25]},4,"l3_typing.go:78",#[⟨9,.data⟩,⟨10,.data⟩,⟨10,.chain⟩,⟨6,.guard⟩],some (6,true)⟩
def gH:Oper:=⟨some 65,.pick (.tmp 59) (.tmp 64) (.const (.bool false)),4,"l3_typing.go:78",#[⟨6,.data⟩,⟨11,.data⟩,⟨13,.gcOnly .lateStores⟩],none⟩
def gI:Oper:=⟨none,.store 25 (.tmp 4) (.tmp 53),0,"l3_typing.go:78",#[⟨0,.data⟩,⟨11,.chain⟩,⟨0,.phase⟩,⟨1,.textOnly .lateStores⟩,⟨2,.textOnly .lateStores⟩,⟨3,.textOnly .lateStores⟩,⟨4,.textOnly .lateStoresUnsure⟩,⟨5,.textOnly .lateStoresUnsure⟩,⟨6,.textOnly .lateStores⟩,⟨7,.textOnly .lateStores⟩,⟨8,.textOnly .lateStores⟩,⟨9,.textOnly .lateStores⟩,⟨10,.textOnly .lateStoresUnsure⟩,⟨11,.textOnly .lateStoresUnsure⟩,⟨12,.textOnly .lateStores⟩],none⟩
def gJ:Oper:=⟨some 5,.assign (.tmp 65),4,"l3_typing.go:78",#[⟨12,.data⟩,⟨13,.chain⟩,⟨0,.phase⟩,⟨1,.phase⟩,⟨2,.phase⟩,⟨3,.phase⟩,⟨4,.phase⟩,⟨5,.phase⟩,⟨6,.phase⟩,⟨7,.phase⟩,⟨8,.phase⟩,⟨9,.phase⟩,⟨10,.phase⟩,⟨11,.phase⟩,⟨12,.phase⟩,⟨13,.phase⟩],none⟩
theorem l4 (G1 G2 G3:Nat→Prop)(nm:ByteArray)(u lb tk fk:Int)(ty src:Ty)(ta fa ca:Option Addr)(tn tq fn fq cm cq:Nat)(w:World)(hty:ao G1 w ty (.agg #[.int .i64 tk,.slice ta tn tq]))(hsrc:ao G2 w src (.agg #[.int .i64 fk,.slice fa fn fq]))(y:Value)(h1 h2:S)(d1:h1.cons .int=false)(hv1:h1.vd=true)(hv2:h2.vd=true)(hy:aA G3 w [h1.ty,h2.ty] y) :
  Calls Tryz.prog 118 #[.agg #[.int .i64 8,.string nm,.int .i64 u,.int .i64 tk,.slice ta tn tq,.int .i64 fk,.slice fa fn fq,.int .i64 lb,.slice ca cm cq],y] w (bH ((aZ 8 ty [h1,h2]).map S.ty) w):=by
 obtain⟨b,off,cap,k1,c1,m1,q1,k2,c2,m2,q2,rfl,-,-,hlb,e1a,e1b,e2a,e2b,ht1,ht2⟩:=hy.two;obtain⟨O,hOO⟩ : ∃O:Option Ty,O=((aZ 8 ty [h1,h2]).map S.ty):=⟨_,rfl⟩
 rw[←hOO];have HO:=zq hOO;clear hOO;have HOO:=zq (oQ (k:=8) (ty:=ty) (g:=h1) (h:=h2) (by omega));obtain⟨d2,hd2⟩ : ∃d2,h2.cons .int=d2:=⟨_,rfl⟩
 have D1:=zq d1;have D2:=zq hd2;have V1:=zq hv1;have V2:=zq hv2;clear d1 hd2 hv1 hv2;have H1:=zq ht1.old;have H2:=zq ht2.old;clear hty hsrc hy ht1 ht2
 go_enter Tryz.func118,Tryz.ntmps118
 go_wp2_with fail
 obtain⟨VV,hVV⟩ : ∃X,X=((w.alloc (.cells #[.int .i64 8,.string nm,.int .i64 u,.int .i64 tk,.slice ta tn tq,.int .i64 fk,.slice fa fn fq,.int .i64 lb,.slice ca cm cq] 28)).alloc (.cells #[.int .i64 0,.slice none 0 0] 25)):=⟨_,rfl⟩
 have fE:VV.heap[w.heap.size]?=some (.cells #[.int .i64 8,.string nm,.int .i64 u,.int .i64 tk,.slice ta tn tq,.int .i64 fk,.slice fa fn fq,.int .i64 lb,.slice ca cm cq] 28 (0,0)):=by rw[hVV];exact af (aB rfl) ai
 have fR:VV.heap[w.heap.size+1]?=some (.cells #[.int .i64 0,.slice none 0 0] 25 (0,0)):=by rw[hVV];exact aB (by simp)
 have c1a_:VV.cell? ⟨b,off,none⟩=some (.int .i64 k1):=by rw[hVV];exact ah ai (ah ai e1a)
 have c1b_:VV.cell? ⟨b,off+1,none⟩=some (.slice c1 m1 q1):=by rw[hVV];exact ah ai (ah ai e1b)
 have h1_:Hid (ao (· < w.heap.size) VV h1.ty (.agg #[.int .i64 k1,.slice c1 m1 q1])):=by rw[hVV];exact zq ((H1.out.below ai).below ai)
 have c2a_:VV.cell? ⟨b,off+2,none⟩=some (.int .i64 k2):=by rw[hVV];exact ah ai (ah ai e2a)
 have c2b_:VV.cell? ⟨b,off+3,none⟩=some (.slice c2 m2 q2):=by rw[hVV];exact ah ai (ah ai e2b)
 have h2_:Hid (ao (· < w.heap.size) VV h2.ty (.agg #[.int .i64 k2,.slice c2 m2 q2])):=by rw[hVV];exact zq ((H2.out.below ai).below ai)
 have fC:Hid (Below w.heap.size w VV):=by rw[hVV];exact zq (aj ai ai)
 rw[←hVV];have zV:VV.heap.size=_:=congrArg (fun X:World=>X.heap.size) hVV;simp only[World.size_alloc] at zV;refine wp_region_noPanic ?_;refine wp_region_held_drew (S:=fun w'=>w'.cell? ⟨b,off,none⟩=some (.int .i64 k1)∧w'.cell? ⟨b,off+1,none⟩=some (.slice c1 m1 q1)∧w'.cell? ⟨b,off+2,none⟩=some (.int .i64 k2)∧w'.cell? ⟨b,off+3,none⟩=some (.slice c2 m2 q2)) (by kernel_rfl) ?_ (fun hH0=>?_)
 ·exact⟨c1a_,c1b_,c2a_,c2b_⟩
 obtain⟨U3,hU,hb,zU3a,zU3b⟩:=bD VV;rw[hU] at hH0 ⊢;replace fE:=af fE hb;replace fR:=af fR hb;replace c1a_:=ah hb c1a_;replace c1b_:=ah hb c1b_;replace h1_:=zq (h1_.out.below hb);replace c2a_:=ah hb c2a_;replace c2b_:=ah hb c2b_;replace h2_:=zq (h2_.out.below hb);replace fC:=zq (aj fC.out hb);rw[zV] at zU3a zU3b;clear hU hb hVV zV;refine hwt 1 ki (.slice (some ⟨b,off,none⟩) 2 cap) hH0 ?_ ?_
 ·intro w' hSw;dsimp only[ki];go_simp
 try simp only[ki,hwA]
 refine hwt 2 kj (.pointer (some ⟨b,off,none⟩)) hH0 ?_ ?_
 ·intro w' hSw;dsimp only[kj];go_simp
 try simp only[kj,hwA]
 refine hwt 3 kl (.agg #[.int .i64 k1,.slice c1 m1 q1]) hH0 ?_ ?_
 ·intro w' hSw;dsimp only[kl];go_simp
 try simp only[kl,hwA]
 refine hwr 0 kh (fun K hK=>?_)
 dsimp only[kh];go_simp
 go_at_call 85
 refine(dh _).mono ?_;rintro e X1 ⟨rfl,hb⟩
 go_wp2_with fail
 have zX1:U3.heap.size≤X1.heap.size:=hb.size;replace fE:=af fE hb;replace fR:=af fR hb;replace c1a_:=ah hb c1a_;replace c1b_:=ah hb c1b_;replace h1_:=zq (h1_.out.below hb);replace c2a_:=ah hb c2a_;replace c2b_:=ah hb c2b_;replace h2_:=zq (h2_.out.below hb);replace fC:=zq (aj fC.out hb);refine hK.out _ _ ⟨c1a_,c1b_,c2a_,c2b_⟩ (fun hH1=>?_);clear hK K hH0 hb
 try simp only[kh,hwA]
 refine hwr 4 ko (fun K hK=>?_)
 dsimp only[ko];go_simp
 go_at_call 87
 refine(bv _).mono ?_;rintro e X2 ⟨rfl,hb⟩
 go_wp2_with fail
 have zX2:X1.heap.size≤X2.heap.size:=hb.size;replace fE:=af fE hb;replace fR:=af fR hb;replace c1a_:=ah hb c1a_;replace c1b_:=ah hb c1b_;replace h1_:=zq (h1_.out.below hb);replace c2a_:=ah hb c2a_;replace c2b_:=ah hb c2b_;replace h2_:=zq (h2_.out.below hb);replace fC:=zq (aj fC.out hb);refine hK.out _ _ ⟨c1a_,c1b_,c2a_,c2b_⟩ (fun hH2=>?_);clear hK K hH1 hb
 try simp only[ko,hwA]
 refine hwr 5 kp (fun K hK=>?_)
 dsimp only[kp];go_simp
 go_at_call 58
 refine(bY _ _ _ S.int _ _ _ h1_.out (ao.leaf 2) V1.out rfl).mono ?_;rintro e X3 ⟨rfl,hb⟩;rw[D1.out]
 go_wp2_with fail
 have zX3:X2.heap.size≤X3.heap.size:=hb.size;replace fE:=af fE hb;replace fR:=af fR hb;replace c1a_:=ah hb c1a_;replace c1b_:=ah hb c1b_;replace h1_:=zq (h1_.out.below hb);replace c2a_:=ah hb c2a_;replace c2b_:=ah hb c2b_;replace h2_:=zq (h2_.out.below hb);replace fC:=zq (aj fC.out hb);refine hK.out _ _ ⟨c1a_,c1b_,c2a_,c2b_⟩ (fun hH3=>?_);clear hK K hH2 hb
 try simp only[kp,hwA]
 refine hwt 6 kq (.bool false) hH3 ?_ ?_
 ·intro w' hSw;dsimp only[kq];go_simp
 try simp only[kq,hwA]
 refine hwn 7 lH hH3 ?_
 try simp only[lH,hwA]
 refine hwn 8 lI hH3 ?_
 try simp only[lI,hwA]
 refine hwn 9 lJ hH3 ?_
 try simp only[lJ,hwA]
 refine hwn 10 ju hH3 ?_
 try simp only[ju,hwA]
 refine hwn 11 jv hH3 ?_
 try simp only[jv,hwA]
 refine hwt 12 gH (.bool false) hH3 ?_ ?_
 ·intro w' hSw;dsimp only[gH];go_simp
 try simp only[gH,hwA]
 refine hwr 13 gI (fun K hK=>?_);obtain⟨r0,r1,rf0,rf1⟩:=co fR
 dsimp only[gI];go_simp
 (try go_wp2_with fail);have hQq:=bw fR (.int .i64 3) (.slice none 0 0);clear fR r0 rf0 r1 rf1;obtain⟨X4,hXq,hsq,fR,zX4a,zX4b⟩:=hQq;rw[hXq];replace fE:=hsq.blk (by omega) fE;replace c1a_:=hsq.cell (by show b≠w.heap.size+1;omega) c1a_;replace c1b_:=hsq.cell (by show b≠w.heap.size+1;omega) c1b_;replace h1_:=zq (hsq.rep (fun b hb=>by have:b<w.heap.size:=hb;omega) h1_.out);replace c2a_:=hsq.cell (by show b≠w.heap.size+1;omega) c2a_;replace c2b_:=hsq.cell (by show b≠w.heap.size+1;omega) c2b_;replace h2_:=zq (hsq.rep (fun b hb=>by have:b<w.heap.size:=hb;omega) h2_.out);replace fC:=zq (hsq.bel fC.out (by omega));refine hK.out _ _ ⟨c1a_,c1b_,c2a_,c2b_⟩ (fun hH4=>?_);clear hK K hH3 hsq hXq
 try simp only[gI,hwA]
 refine hwt 14 gJ (.bool false) hH4 ?_ ?_
 ·intro w' hSw;dsimp only[gJ];go_simp
 try simp only[gJ,hwA]
 refine wpAnyH_done (by kernel_rfl) ?_ _;refine NoPanic.normal ?_;clear hH4;have HN:O=none:=by rw[HO.out,HOO.out,D1.out,D2.out];rfl
 obtain⟨rc0,rc1⟩:=blk2 fR
 go_wp2_with fail
 refine bodyPost_ret (v:=.tuple #[.agg #[.int .i64 3,.slice none 0 0],.bool false]) (by simp[results,Tryz.results118,go_sem,rc0,rc1]) rfl ?_
 exact⟨_,_,_,_,_,.mk 3 [],rfl,by rw[HN];rfl,ao.leafG 3,(by rw[HN];intro s h;cases h),fC.out⟩
theorem l5 (G1 G2 G3:Nat→Prop)(nm:ByteArray)(u lb tk fk:Int)(ty src:Ty)(ta fa ca:Option Addr)(tn tq fn fq cm cq:Nat)(w:World)(hty:ao G1 w ty (.agg #[.int .i64 tk,.slice ta tn tq]))(hsrc:ao G2 w src (.agg #[.int .i64 fk,.slice fa fn fq]))(y:Value)(h1 h2:S)(d1:h1.cons .int=true)(hv1:h1.vd=true)(hv2:h2.vd=true)(hy:aA G3 w [h1.ty,h2.ty] y) :
  Calls Tryz.prog 118 #[.agg #[.int .i64 8,.string nm,.int .i64 u,.int .i64 tk,.slice ta tn tq,.int .i64 fk,.slice fa fn fq,.int .i64 lb,.slice ca cm cq],y] w (bH ((aZ 8 ty [h1,h2]).map S.ty) w):=by
 obtain⟨b,off,cap,k1,c1,m1,q1,k2,c2,m2,q2,rfl,-,-,hlb,e1a,e1b,e2a,e2b,ht1,ht2⟩:=hy.two;obtain⟨O,hOO⟩ : ∃O:Option Ty,O=((aZ 8 ty [h1,h2]).map S.ty):=⟨_,rfl⟩
 rw[←hOO];have HO:=zq hOO;clear hOO;have HOO:=zq (oQ (k:=8) (ty:=ty) (g:=h1) (h:=h2) (by omega));obtain⟨d2,hd2⟩ : ∃d2,h2.cons .int=d2:=⟨_,rfl⟩
 have D1:=zq d1;have D2:=zq hd2;have V1:=zq hv1;have V2:=zq hv2;clear d1 hd2 hv1 hv2;have H1:=zq ht1.old;have H2:=zq ht2.old;clear hty hsrc hy ht1 ht2
 go_enter Tryz.func118,Tryz.ntmps118
 go_wp2_with fail
 obtain⟨VV,hVV⟩ : ∃X,X=((w.alloc (.cells #[.int .i64 8,.string nm,.int .i64 u,.int .i64 tk,.slice ta tn tq,.int .i64 fk,.slice fa fn fq,.int .i64 lb,.slice ca cm cq] 28)).alloc (.cells #[.int .i64 0,.slice none 0 0] 25)):=⟨_,rfl⟩
 have fE:VV.heap[w.heap.size]?=some (.cells #[.int .i64 8,.string nm,.int .i64 u,.int .i64 tk,.slice ta tn tq,.int .i64 fk,.slice fa fn fq,.int .i64 lb,.slice ca cm cq] 28 (0,0)):=by rw[hVV];exact af (aB rfl) ai
 have fR:VV.heap[w.heap.size+1]?=some (.cells #[.int .i64 0,.slice none 0 0] 25 (0,0)):=by rw[hVV];exact aB (by simp)
 have c1a_:VV.cell? ⟨b,off,none⟩=some (.int .i64 k1):=by rw[hVV];exact ah ai (ah ai e1a)
 have c1b_:VV.cell? ⟨b,off+1,none⟩=some (.slice c1 m1 q1):=by rw[hVV];exact ah ai (ah ai e1b)
 have h1_:Hid (ao (· < w.heap.size) VV h1.ty (.agg #[.int .i64 k1,.slice c1 m1 q1])):=by rw[hVV];exact zq ((H1.out.below ai).below ai)
 have c2a_:VV.cell? ⟨b,off+2,none⟩=some (.int .i64 k2):=by rw[hVV];exact ah ai (ah ai e2a)
 have c2b_:VV.cell? ⟨b,off+3,none⟩=some (.slice c2 m2 q2):=by rw[hVV];exact ah ai (ah ai e2b)
 have h2_:Hid (ao (· < w.heap.size) VV h2.ty (.agg #[.int .i64 k2,.slice c2 m2 q2])):=by rw[hVV];exact zq ((H2.out.below ai).below ai)
 have fC:Hid (Below w.heap.size w VV):=by rw[hVV];exact zq (aj ai ai)
 rw[←hVV];have zV:VV.heap.size=_:=congrArg (fun X:World=>X.heap.size) hVV;simp only[World.size_alloc] at zV;refine wp_region_noPanic ?_;refine wp_region_held_drew (S:=fun w'=>w'.cell? ⟨b,off,none⟩=some (.int .i64 k1)∧w'.cell? ⟨b,off+1,none⟩=some (.slice c1 m1 q1)∧w'.cell? ⟨b,off+2,none⟩=some (.int .i64 k2)∧w'.cell? ⟨b,off+3,none⟩=some (.slice c2 m2 q2)) (by kernel_rfl) ?_ (fun hH0=>?_)
 ·exact⟨c1a_,c1b_,c2a_,c2b_⟩
 obtain⟨U4,hU,hb,zU4a,zU4b⟩:=bD VV;rw[hU] at hH0 ⊢;replace fE:=af fE hb;replace fR:=af fR hb;replace c1a_:=ah hb c1a_;replace c1b_:=ah hb c1b_;replace h1_:=zq (h1_.out.below hb);replace c2a_:=ah hb c2a_;replace c2b_:=ah hb c2b_;replace h2_:=zq (h2_.out.below hb);replace fC:=zq (aj fC.out hb);rw[zV] at zU4a zU4b;clear hU hb hVV zV;refine hwt 1 ki (.slice (some ⟨b,off,none⟩) 2 cap) hH0 ?_ ?_
 ·intro w' hSw;dsimp only[ki];go_simp
 try simp only[ki,hwA]
 refine hwt 2 kj (.pointer (some ⟨b,off,none⟩)) hH0 ?_ ?_
 ·intro w' hSw;dsimp only[kj];go_simp
 try simp only[kj,hwA]
 refine hwt 3 kl (.agg #[.int .i64 k1,.slice c1 m1 q1]) hH0 ?_ ?_
 ·intro w' hSw;dsimp only[kl];go_simp
 try simp only[kl,hwA]
 refine hwr 0 kh (fun K hK=>?_)
 dsimp only[kh];go_simp
 go_at_call 85
 refine(dh _).mono ?_;rintro e X1 ⟨rfl,hb⟩
 go_wp2_with fail
 have zX1:U4.heap.size≤X1.heap.size:=hb.size;replace fE:=af fE hb;replace fR:=af fR hb;replace c1a_:=ah hb c1a_;replace c1b_:=ah hb c1b_;replace h1_:=zq (h1_.out.below hb);replace c2a_:=ah hb c2a_;replace c2b_:=ah hb c2b_;replace h2_:=zq (h2_.out.below hb);replace fC:=zq (aj fC.out hb);refine hK.out _ _ ⟨c1a_,c1b_,c2a_,c2b_⟩ (fun hH1=>?_);clear hK K hH0 hb
 try simp only[kh,hwA]
 refine hwr 4 ko (fun K hK=>?_)
 dsimp only[ko];go_simp
 go_at_call 87
 refine(bv _).mono ?_;rintro e X2 ⟨rfl,hb⟩
 go_wp2_with fail
 have zX2:X1.heap.size≤X2.heap.size:=hb.size;replace fE:=af fE hb;replace fR:=af fR hb;replace c1a_:=ah hb c1a_;replace c1b_:=ah hb c1b_;replace h1_:=zq (h1_.out.below hb);replace c2a_:=ah hb c2a_;replace c2b_:=ah hb c2b_;replace h2_:=zq (h2_.out.below hb);replace fC:=zq (aj fC.out hb);refine hK.out _ _ ⟨c1a_,c1b_,c2a_,c2b_⟩ (fun hH2=>?_);clear hK K hH1 hb
 try simp only[ko,hwA]
 refine hwr 5 kp (fun K hK=>?_)
 dsimp only[kp];go_simp
 go_at_call 58
 refine(bY _ _ _ S.int _ _ _ h1_.out (ao.leaf 2) V1.out rfl).mono ?_;rintro e X3 ⟨rfl,hb⟩;rw[D1.out]
 go_wp2_with fail
 have zX3:X2.heap.size≤X3.heap.size:=hb.size;replace fE:=af fE hb;replace fR:=af fR hb;replace c1a_:=ah hb c1a_;replace c1b_:=ah hb c1b_;replace h1_:=zq (h1_.out.below hb);replace c2a_:=ah hb c2a_;replace c2b_:=ah hb c2b_;replace h2_:=zq (h2_.out.below hb);replace fC:=zq (aj fC.out hb);refine hK.out _ _ ⟨c1a_,c1b_,c2a_,c2b_⟩ (fun hH3=>?_);clear hK K hH2 hb
 try simp only[kp,hwA]
 refine hwt 6 kq (.bool true) hH3 ?_ ?_
 ·intro w' hSw;dsimp only[kq];go_simp
 try simp only[kq,hwA]
 refine hwt 7 lH (.slice (some ⟨b,off,none⟩) 2 cap) hH3 ?_ ?_
 ·intro w' hSw;dsimp only[lH];go_simp
 try simp only[lH,hwA]
 refine hwt 8 lI (.pointer (some ⟨b,off+2,none⟩)) hH3 ?_ ?_
 ·intro w' hSw;dsimp only[lI];go_simp
 try simp only[lI,hwA]
 refine hwt 9 lJ (.agg #[.int .i64 k2,.slice c2 m2 q2]) hH3 ?_ ?_
 ·intro w' hSw;dsimp only[lJ];go_simp
 try simp only[lJ,hwA]
 refine hwr 10 ju (fun K hK=>?_)
 dsimp only[ju];go_simp
 go_at_call 87
 refine(bv _).mono ?_;rintro e X4 ⟨rfl,hb⟩
 go_wp2_with fail
 have zX4:X3.heap.size≤X4.heap.size:=hb.size;replace fE:=af fE hb;replace fR:=af fR hb;replace c1a_:=ah hb c1a_;replace c1b_:=ah hb c1b_;replace h1_:=zq (h1_.out.below hb);replace c2a_:=ah hb c2a_;replace c2b_:=ah hb c2b_;replace h2_:=zq (h2_.out.below hb);replace fC:=zq (aj fC.out hb);refine hK.out _ _ ⟨c1a_,c1b_,c2a_,c2b_⟩ (fun hH4=>?_);clear hK K hH3 hb
 try simp only[ju,hwA]
 refine hwr 11 jv (fun K hK=>?_)
 dsimp only[jv];go_simp
 go_at_call 58
 refine(bY _ _ _ S.int _ _ _ h2_.out (ao.leaf 2) V2.out rfl).mono ?_;rintro e X5 ⟨rfl,hb⟩;rw[D2.out]
 go_wp2_with fail
 have zX5:X4.heap.size≤X5.heap.size:=hb.size;replace fE:=af fE hb;replace fR:=af fR hb;replace c1a_:=ah hb c1a_;replace c1b_:=ah hb c1b_;replace h1_:=zq (h1_.out.below hb);replace c2a_:=ah hb c2a_;replace c2b_:=ah hb c2b_;replace h2_:=zq (h2_.out.below hb);replace fC:=zq (aj fC.out hb);refine hK.out _ _ ⟨c1a_,c1b_,c2a_,c2b_⟩ (fun hH5=>?_);clear hK K hH4 hb
 try simp only[jv,hwA]
 refine hwt 12 gH (.bool d2) hH5 ?_ ?_
 ·intro w' hSw;dsimp only[gH];go_simp
 try simp only[gH,hwA]
 refine hwr 13 gI (fun K hK=>?_);obtain⟨r0,r1,rf0,rf1⟩:=co fR
 dsimp only[gI];go_simp
 (try go_wp2_with fail);have hQq:=bw fR (.int .i64 3) (.slice none 0 0);clear fR r0 rf0 r1 rf1;obtain⟨X6,hXq,hsq,fR,zX6a,zX6b⟩:=hQq;rw[hXq];replace fE:=hsq.blk (by omega) fE;replace c1a_:=hsq.cell (by show b≠w.heap.size+1;omega) c1a_;replace c1b_:=hsq.cell (by show b≠w.heap.size+1;omega) c1b_;replace h1_:=zq (hsq.rep (fun b hb=>by have:b<w.heap.size:=hb;omega) h1_.out);replace c2a_:=hsq.cell (by show b≠w.heap.size+1;omega) c2a_;replace c2b_:=hsq.cell (by show b≠w.heap.size+1;omega) c2b_;replace h2_:=zq (hsq.rep (fun b hb=>by have:b<w.heap.size:=hb;omega) h2_.out);replace fC:=zq (hsq.bel fC.out (by omega));refine hK.out _ _ ⟨c1a_,c1b_,c2a_,c2b_⟩ (fun hH6=>?_);clear hK K hH5 hsq hXq
 try simp only[gI,hwA]
 refine hwt 14 gJ (.bool d2) hH6 ?_ ?_
 ·intro w' hSw;dsimp only[gJ];go_simp
 try simp only[gJ,hwA]
 refine wpAnyH_done (by kernel_rfl) ?_ _;refine NoPanic.normal ?_;clear hH6;have HN:O=if d2=true then some (.mk 3 []) else none:=by rw[HO.out,HOO.out,D1.out,D2.out];cases d2<;>rfl
 obtain⟨rc0,rc1⟩:=blk2 fR
 go_wp2_with fail
 refine bodyPost_ret (v:=.tuple #[.agg #[.int .i64 3,.slice none 0 0],.bool d2]) (by simp[results,Tryz.results118,go_sem,rc0,rc1]) rfl ?_
 exact⟨_,_,_,_,_,.mk 3 [],rfl,by rw[HN];cases d2<;>rfl,ao.leafG 3,(by rw[HN];intro s h;cases d2 with | false=>cases h | true=>exact Option.some.inj h),fC.out⟩
def rY:Oper:=⟨some 91,.move (.tmp 1),23,"l3_typing.go:85",#[],none⟩
def rZ:Oper:=⟨some 92,.indexAddr 23 (.tmp 91) (.const (.int .i64 0)),0,"l3_typing.go:85",#[⟨0,.data⟩],none⟩
def sa:Oper:=⟨some 93,.load 25 (.tmp 92),25,"l3_typing.go:85",#[⟨1,.data⟩],none⟩
def sb:Oper:=⟨some 94,.move (.tmp 1),23,"l3_typing.go:85",#[],none⟩
def sd:Oper:=⟨some 95,.indexAddr 23 (.tmp 94) (.const (.int .i64 1)),0,"l3_typing.go:85",#[⟨3,.data⟩],none⟩
def se:Oper:=⟨some 96,.load 25 (.tmp 95),25,"l3_typing.go:85",#[⟨4,.data⟩],none⟩
def sf:Oper:=⟨some 97,.call {callee:=.value (.func 117),args:=#[.const (.int .i64 5),.tmp 93,.tmp 96],argTypes:=#[3,25,25]},73,"l3_typing.go:85",#[⟨2,.data⟩,⟨5,.data⟩],none⟩
def sg:Oper:=⟨some 98,.extract (.tmp 97) 0,25,"l3_typing.go:85",#[⟨6,.data⟩],none⟩
def sh:Oper:=⟨some 99,.extract (.tmp 97) 1,4,"l3_typing.go:85",#[⟨6,.data⟩],none⟩
def si:Oper:=⟨none,.store 25 (.tmp 4) (.tmp 98),0,"l3_typing.go:85",#[⟨7,.data⟩,⟨6,.chain⟩,⟨0,.phase⟩,⟨1,.phase⟩,⟨2,.phase⟩,⟨3,.phase⟩,⟨4,.phase⟩,⟨5,.phase⟩,⟨6,.phase⟩,⟨7,.phase⟩,⟨8,.phase⟩],none⟩
def nI:Oper:=⟨some 5,.assign (.tmp 99),4,"l3_typing.go:85",#[⟨8,.data⟩,⟨9,.chain⟩,⟨0,.phase⟩,⟨1,.phase⟩,⟨2,.phase⟩,⟨3,.phase⟩,⟨4,.phase⟩,⟨5,.phase⟩,⟨6,.phase⟩,⟨7,.phase⟩,⟨8,.phase⟩,⟨9,.phase⟩],none⟩
theorem lW (G1 G2 G3:Nat→Prop)(nm:ByteArray)(u lb tk fk:Int)(ty src:Ty)(ta fa ca:Option Addr)(tn tq fn fq cm cq:Nat)(w:World)(hty:ao G1 w ty (.agg #[.int .i64 tk,.slice ta tn tq]))(hsrc:ao G2 w src (.agg #[.int .i64 fk,.slice fa fn fq]))(y:Value)(h1 h2:S)(hv1:h1.vd=true)(hv2:h2.vd=true)(hy:aA G3 w [h1.ty,h2.ty] y) :
  Calls Tryz.prog 118 #[.agg #[.int .i64 10,.string nm,.int .i64 u,.int .i64 tk,.slice ta tn tq,.int .i64 fk,.slice fa fn fq,.int .i64 lb,.slice ca cm cq],y] w (bH ((aZ 10 ty [h1,h2]).map S.ty) w):=by
 obtain⟨b,off,cap,k1,c1,m1,q1,k2,c2,m2,q2,rfl,-,-,hlb,e1a,e1b,e2a,e2b,ht1,ht2⟩:=hy.two;obtain⟨OO',hOO⟩ : ∃O:Option Ty,O=((aZ 10 ty [h1,h2]).map S.ty):=⟨_,rfl⟩
 rw[←hOO];have HO:=zq hOO;clear hOO;have HC1:=zq (S.cnt_ok hv1);have HC2:=zq (S.cnt_ok hv2);clear hv1 hv2;have H1:=zq ht1.old;have H2:=zq ht2.old;clear hty hsrc hy ht1 ht2
 go_enter Tryz.func118,Tryz.ntmps118
 go_wp2_with fail
 obtain⟨VV,hVV⟩ : ∃X,X=((w.alloc (.cells #[.int .i64 10,.string nm,.int .i64 u,.int .i64 tk,.slice ta tn tq,.int .i64 fk,.slice fa fn fq,.int .i64 lb,.slice ca cm cq] 28)).alloc (.cells #[.int .i64 0,.slice none 0 0] 25)):=⟨_,rfl⟩
 have fE:VV.heap[w.heap.size]?=some (.cells #[.int .i64 10,.string nm,.int .i64 u,.int .i64 tk,.slice ta tn tq,.int .i64 fk,.slice fa fn fq,.int .i64 lb,.slice ca cm cq] 28 (0,0)):=by rw[hVV];exact af (aB rfl) ai
 have fR:VV.heap[w.heap.size+1]?=some (.cells #[.int .i64 0,.slice none 0 0] 25 (0,0)):=by rw[hVV];exact aB (by simp)
 have c1a_:VV.cell? ⟨b,off,none⟩=some (.int .i64 k1):=by rw[hVV];exact ah ai (ah ai e1a)
 have c1b_:VV.cell? ⟨b,off+1,none⟩=some (.slice c1 m1 q1):=by rw[hVV];exact ah ai (ah ai e1b)
 have h1_:Hid (ao (· < w.heap.size) VV h1.ty (.agg #[.int .i64 k1,.slice c1 m1 q1])):=by rw[hVV];exact zq ((H1.out.below ai).below ai)
 have c2a_:VV.cell? ⟨b,off+2,none⟩=some (.int .i64 k2):=by rw[hVV];exact ah ai (ah ai e2a)
 have c2b_:VV.cell? ⟨b,off+3,none⟩=some (.slice c2 m2 q2):=by rw[hVV];exact ah ai (ah ai e2b)
 have h2_:Hid (ao (· < w.heap.size) VV h2.ty (.agg #[.int .i64 k2,.slice c2 m2 q2])):=by rw[hVV];exact zq ((H2.out.below ai).below ai)
 have fC:Hid (Below w.heap.size w VV):=by rw[hVV];exact zq (aj ai ai)
 rw[←hVV];have zV:VV.heap.size=_:=congrArg (fun X:World=>X.heap.size) hVV;simp only[World.size_alloc] at zV;refine wp_region_noPanic ?_;refine wp_region_held_drew (S:=fun w'=>w'.cell? ⟨b,off,none⟩=some (.int .i64 k1)∧w'.cell? ⟨b,off+1,none⟩=some (.slice c1 m1 q1)∧w'.cell? ⟨b,off+2,none⟩=some (.int .i64 k2)∧w'.cell? ⟨b,off+3,none⟩=some (.slice c2 m2 q2)) (by kernel_rfl) ?_ (fun hH0=>?_)
 ·exact⟨c1a_,c1b_,c2a_,c2b_⟩
 obtain⟨U5,hU,hb,zU5a,zU5b⟩:=bD VV;rw[hU] at hH0 ⊢;replace fE:=af fE hb;replace fR:=af fR hb;replace c1a_:=ah hb c1a_;replace c1b_:=ah hb c1b_;replace h1_:=zq (h1_.out.below hb);replace c2a_:=ah hb c2a_;replace c2b_:=ah hb c2b_;replace h2_:=zq (h2_.out.below hb);replace fC:=zq (aj fC.out hb);rw[zV] at zU5a zU5b;clear hU hb hVV zV;refine hwt 0 rY (.slice (some ⟨b,off,none⟩) 2 cap) hH0 ?_ ?_
 ·intro w' hSw;dsimp only[rY];go_simp
 try simp only[rY,hwA]
 refine hwt 1 rZ (.pointer (some ⟨b,off,none⟩)) hH0 ?_ ?_
 ·intro w' hSw;dsimp only[rZ];go_simp
 try simp only[rZ,hwA]
 refine hwt 2 sa (.agg #[.int .i64 k1,.slice c1 m1 q1]) hH0 ?_ ?_
 ·intro w' hSw;dsimp only[sa];go_simp
 try simp only[sa,hwA]
 refine hwt 3 sb (.slice (some ⟨b,off,none⟩) 2 cap) hH0 ?_ ?_
 ·intro w' hSw;dsimp only[sb];go_simp
 try simp only[sb,hwA]
 refine hwt 4 sd (.pointer (some ⟨b,off+2,none⟩)) hH0 ?_ ?_
 ·intro w' hSw;dsimp only[sd];go_simp
 try simp only[sd,hwA]
 refine hwt 5 se (.agg #[.int .i64 k2,.slice c2 m2 q2]) hH0 ?_ ?_
 ·intro w' hSw;dsimp only[se];go_simp
 try simp only[se,hwA]
 refine hwr 6 sf (fun K hK=>?_)
 dsimp only[sf];go_simp
 go_at_call 117
 refine(dL _ _ 5 h1.ty h2.ty _ _ _ _ _ _ _ _ _ h1_.out h2_.out HC1.out HC2.out).mono ?_;rintro e X1 ⟨kr,ar,nr,qr,br,tr,rfl,hbr,htr,hor,hb⟩;have hN1':Hid (ao (fun b=>U5.heap.size≤b∧b<X1.heap.size) X1 tr (.agg #[.int .i64 kr,.slice ar nr qr])):=zq (htr.move (.weaken fun b h1 h2=>⟨h1.elim False.elim id,h2⟩));have HBR:=zq hbr;have HOR:=zq hor;clear hbr htr hor
 go_wp2_with fail
 have zX1:U5.heap.size≤X1.heap.size:=hb.size;replace fE:=af fE hb;replace fR:=af fR hb;replace c1a_:=ah hb c1a_;replace c1b_:=ah hb c1b_;replace h1_:=zq (h1_.out.below hb);replace c2a_:=ah hb c2a_;replace c2b_:=ah hb c2b_;replace h2_:=zq (h2_.out.below hb);replace fC:=zq (aj fC.out hb);have hN1:=hN1';clear hN1';refine hK.out _ _ ⟨c1a_,c1b_,c2a_,c2b_⟩ (fun hH1=>?_);clear hK K hH0 hb
 try simp only[sf,hwA]
 refine hwt 7 sg (.agg #[.int .i64 kr,.slice ar nr qr]) hH1 ?_ ?_
 ·intro w' hSw;dsimp only[sg];go_simp
 try simp only[sg,hwA]
 refine hwt 8 sh (.bool br) hH1 ?_ ?_
 ·intro w' hSw;dsimp only[sh];go_simp
 try simp only[sh,hwA]
 refine hwr 9 si (fun K hK=>?_);obtain⟨r0,r1,rf0,rf1⟩:=co fR
 dsimp only[si];go_simp
 (try go_wp2_with fail);have hQq:=bw fR (.int .i64 kr) (.slice ar nr qr);clear fR r0 rf0 r1 rf1;obtain⟨X2,hXq,hsq,fR,zX2a,zX2b⟩:=hQq;rw[hXq];replace fE:=hsq.blk (by omega) fE;replace c1a_:=hsq.cell (by show b≠w.heap.size+1;omega) c1a_;replace c1b_:=hsq.cell (by show b≠w.heap.size+1;omega) c1b_;replace h1_:=zq (hsq.rep (fun b hb=>by have:b<w.heap.size:=hb;omega) h1_.out);replace c2a_:=hsq.cell (by show b≠w.heap.size+1;omega) c2a_;replace c2b_:=hsq.cell (by show b≠w.heap.size+1;omega) c2b_;replace h2_:=zq (hsq.rep (fun b hb=>by have:b<w.heap.size:=hb;omega) h2_.out);replace fC:=zq (hsq.bel fC.out (by omega));replace hN1:=zq (hsq.rep (fun b hb=>by have h1:U5.heap.size≤b:=hb.1;have h2:b<X1.heap.size:=hb.2;omega) hN1.out);refine hK.out _ _ ⟨c1a_,c1b_,c2a_,c2b_⟩ (fun hH2=>?_);clear hK K hH1 hsq hXq
 try simp only[si,hwA]
 refine hwt 10 nI (.bool br) hH2 ?_ ?_
 ·intro w' hSw;dsimp only[nI];go_simp
 try simp only[nI,hwA]
 refine wpAnyH_done (by kernel_rfl) ?_ _;refine NoPanic.normal ?_;clear hH2;obtain⟨rc0,rc1⟩:=blk2 fR
 go_wp2_with fail
 refine bodyPost_ret (v:=.tuple #[.agg #[.int .i64 kr,.slice ar nr qr],.bool br]) (by simp[results,Tryz.results118,go_sem,rc0,rc1]) rfl ?_
 exact⟨_,_,_,_,_,tr,rfl,by rw[HO.out,ui,HBR.out],hN1.out.move (.weaken fun b h _=>.inr (by have h1:=h.1;omega)),(by rw[HO.out,ui];intro s h;exact HOR.out s h),fC.out⟩
def sk:Oper:=⟨some 126,.fieldAddr 28 (.tmp 2) 3,0,"l3_typing.go:93",#[],none⟩
def so:Oper:=⟨some 127,.load 25 (.tmp 126),25,"l3_typing.go:93",#[⟨0,.data⟩],none⟩
def sp:Oper:=⟨some 128,.call {callee:=.value (.func 81),args:=#[.tmp 127],argTypes:=#[25]},25,"l3_typing.go:93",#[⟨1,.data⟩],none⟩
def sq:Oper:=⟨some 129,.move (.tmp 1),23,"l3_typing.go:93",#[],none⟩
def sw:Oper:=⟨some 130,.indexAddr 23 (.tmp 129) (.const (.int .i64 0)),0,"l3_typing.go:93",#[⟨3,.data⟩],none⟩
def sx:Oper:=⟨some 131,.load 25 (.tmp 130),25,"l3_typing.go:93",#[⟨4,.data⟩],none⟩
def sA:Oper:=⟨some 132,.fieldAddr 28 (.tmp 2) 3,0,"l3_typing.go:93",#[],none⟩
def sB:Oper:=⟨some 133,.load 25 (.tmp 132),25,"l3_typing.go:93",#[⟨6,.data⟩],none⟩
def sC:Oper:=⟨some 134,.call {callee:=.value (.func 58),args:=#[.tmp 131,.tmp 133],argTypes:=#[25,25]},4,"l3_typing.go:93",#[⟨5,.data⟩,⟨7,.data⟩,⟨2,.chain⟩],none⟩
def sD:Oper:=⟨none,.store 25 (.tmp 4) (.tmp 128),0,"l3_typing.go:93",#[⟨2,.data⟩,⟨8,.chain⟩,⟨0,.phase⟩,⟨1,.phase⟩,⟨2,.phase⟩,⟨3,.textOnly .lateStores⟩,⟨4,.textOnly .lateStores⟩,⟨5,.textOnly .lateStores⟩,⟨6,.textOnly .lateStores⟩,⟨7,.textOnly .lateStores⟩,⟨8,.textOnly .lateStoresUnsure⟩],none⟩
def nJ:Oper:=⟨some 5,.assign (.tmp 134),4,"l3_typing.go:93",#[⟨8,.data⟩,⟨9,.chain⟩,⟨0,.phase⟩,⟨1,.phase⟩,⟨2,.phase⟩,⟨3,.phase⟩,⟨4,.phase⟩,⟨5,.phase⟩,⟨6,.phase⟩,⟨7,.phase⟩,⟨8,.phase⟩,⟨9,.phase⟩],none⟩
theorem lZ (G1 G2 G3:Nat→Prop)(nm:ByteArray)(u lb tk fk:Int)(ty src:Ty)(ta fa ca:Option Addr)(tn tq fn fq cm cq:Nat)(w:World)(hty:ao G1 w ty (.agg #[.int .i64 tk,.slice ta tn tq]))(hsrc:ao G2 w src (.agg #[.int .i64 fk,.slice fa fn fq]))(y:Value)(hv:ty.valid=true)(h1:S)(hv1:h1.vd=true)(hy:aA G3 w [h1.ty] y) :
  Calls Tryz.prog 118 #[.agg #[.int .i64 13,.string nm,.int .i64 u,.int .i64 tk,.slice ta tn tq,.int .i64 fk,.slice fa fn fq,.int .i64 lb,.slice ca cm cq],y] w (bH ((aZ 13 ty [h1]).map S.ty) w):=by
 obtain⟨b,off,cap,k1,c1,m1,q1,rfl,hlb,e1a,e1b,ht1⟩:=hy.one;obtain⟨O,hOO⟩ : ∃O:Option Ty,O=((aZ 13 ty [h1]).map S.ty):=⟨_,rfl⟩
 rw[←hOO];have HO:=zq hOO;clear hOO;have HCN:=zq (Ty.cnt_valid hv);have HVT:=zq hv;have HTY0:=zq hty.old;obtain⟨dd,hdd⟩ : ∃dd,h1.cons ty.toS=dd:=⟨_,rfl⟩
 have HD:=zq hdd;have HCC:=zq (fun(Fa Fb:Nat→Prop) (ya yb:Value) (W:World) (ha:ao Fa W h1.ty ya) (hb:ao Fb W ty yb)=>(by
   have h:=bY Fa Fb h1 ty.toS ya yb W ha (by rw[Ty.toS_ty hv];exact hb) hv1 (Ty.toS_vd hv)
   rwa [hdd] at h:Calls Tryz.prog 58 #[ya,yb] W fun e w'=>e = .returned (.bool dd)∧Below W.heap.size W w'))
 clear hdd hv hv1;have H1:=zq ht1.old;clear hty hsrc hy ht1
 go_enter Tryz.func118,Tryz.ntmps118
 go_wp2_with fail
 obtain⟨VV,hVV⟩ : ∃X,X=((w.alloc (.cells #[.int .i64 13,.string nm,.int .i64 u,.int .i64 tk,.slice ta tn tq,.int .i64 fk,.slice fa fn fq,.int .i64 lb,.slice ca cm cq] 28)).alloc (.cells #[.int .i64 0,.slice none 0 0] 25)):=⟨_,rfl⟩
 have fE:VV.heap[w.heap.size]?=some (.cells #[.int .i64 13,.string nm,.int .i64 u,.int .i64 tk,.slice ta tn tq,.int .i64 fk,.slice fa fn fq,.int .i64 lb,.slice ca cm cq] 28 (0,0)):=by rw[hVV];exact af (aB rfl) ai
 have fR:VV.heap[w.heap.size+1]?=some (.cells #[.int .i64 0,.slice none 0 0] 25 (0,0)):=by rw[hVV];exact aB (by simp)
 have c1a_:VV.cell? ⟨b,off,none⟩=some (.int .i64 k1):=by rw[hVV];exact ah ai (ah ai e1a)
 have c1b_:VV.cell? ⟨b,off+1,none⟩=some (.slice c1 m1 q1):=by rw[hVV];exact ah ai (ah ai e1b)
 have h1_:Hid (ao (· < w.heap.size) VV h1.ty (.agg #[.int .i64 k1,.slice c1 m1 q1])):=by rw[hVV];exact zq ((H1.out.below ai).below ai)
 have fC:Hid (Below w.heap.size w VV):=by rw[hVV];exact zq (aj ai ai)
 have hT:Hid (ao (· < w.heap.size) VV ty (.agg #[.int .i64 tk,.slice ta tn tq])):=by rw[hVV];exact zq ((HTY0.out.below ai).below ai)
 rw[←hVV];have zV:VV.heap.size=_:=congrArg (fun X:World=>X.heap.size) hVV;simp only[World.size_alloc] at zV;refine wp_region_noPanic ?_;refine wp_region_held_drew (S:=fun w'=>w'.cell? ⟨w.heap.size,3,none⟩=some (.int .i64 tk)∧w'.cell? ⟨w.heap.size,4,none⟩=some (.slice ta tn tq)∧w'.cell? ⟨b,off,none⟩=some (.int .i64 k1)∧w'.cell? ⟨b,off+1,none⟩=some (.slice c1 m1 q1)) (by kernel_rfl) ?_ (fun hH0=>?_)
 ·exact⟨ag fE rfl,ag fE rfl,c1a_,c1b_⟩
 obtain⟨U6,hU,hb,zU6a,zU6b⟩:=bD VV;rw[hU] at hH0 ⊢;replace fE:=af fE hb;replace fR:=af fR hb;replace c1a_:=ah hb c1a_;replace c1b_:=ah hb c1b_;replace h1_:=zq (h1_.out.below hb);replace fC:=zq (aj fC.out hb);replace hT:=zq (hT.out.below hb);rw[zV] at zU6a zU6b;clear hU hb hVV zV;refine hwt 0 sk (.pointer (some ⟨w.heap.size,3,none⟩)) hH0 ?_ ?_
 ·intro w' hSw;dsimp only[sk];go_simp
 try simp only[sk,hwA]
 refine hwt 1 so (.agg #[.int .i64 tk,.slice ta tn tq]) hH0 ?_ ?_
 ·intro w' hSw;dsimp only[so];go_simp
 try simp only[so,hwA]
 refine hwt 3 sq (.slice (some ⟨b,off,none⟩) 1 cap) hH0 ?_ ?_
 ·intro w' hSw;dsimp only[sq];go_simp
 try simp only[sq,hwA]
 refine hwt 4 sw (.pointer (some ⟨b,off,none⟩)) hH0 ?_ ?_
 ·intro w' hSw;dsimp only[sw];go_simp
 try simp only[sw,hwA]
 refine hwt 5 sx (.agg #[.int .i64 k1,.slice c1 m1 q1]) hH0 ?_ ?_
 ·intro w' hSw;dsimp only[sx];go_simp
 try simp only[sx,hwA]
 refine hwt 6 sA (.pointer (some ⟨w.heap.size,3,none⟩)) hH0 ?_ ?_
 ·intro w' hSw;dsimp only[sA];go_simp
 try simp only[sA,hwA]
 refine hwt 7 sB (.agg #[.int .i64 tk,.slice ta tn tq]) hH0 ?_ ?_
 ·intro w' hSw;dsimp only[sB];go_simp
 try simp only[sB,hwA]
 refine hwr 2 sp (fun K hK=>?_)
 dsimp only[sp];go_simp
 go_at_call 81
 refine(be _ ty _ _ hT.out HCN.out).mono ?_;rintro e X1 ⟨v,rfl,hv,hb⟩;obtain⟨ke,ae,ne,qe,rfl⟩:=hv.shape;have hN1':=hv.rep.rg;clear hv
 go_wp2_with fail
 have zX1:U6.heap.size≤X1.heap.size:=hb.size;replace fE:=af fE hb;replace fR:=af fR hb;replace c1a_:=ah hb c1a_;replace c1b_:=ah hb c1b_;replace h1_:=zq (h1_.out.below hb);replace fC:=zq (aj fC.out hb);replace hT:=zq (hT.out.below hb);have hN1:=hN1';clear hN1';refine hK.out _ _ ⟨ag fE rfl,ag fE rfl,c1a_,c1b_⟩ (fun hH1=>?_);clear hK K hH0 hb
 try simp only[sp,hwA]
 refine hwr 8 sC (fun K hK=>?_)
 dsimp only[sC];go_simp
 go_at_call 58
 refine(HCC.out _ _ _ _ _ h1_.out hT.out).mono ?_;rintro e X2 ⟨rfl,hb⟩
 go_wp2_with fail
 have zX2:X1.heap.size≤X2.heap.size:=hb.size;replace fE:=af fE hb;replace fR:=af fR hb;replace c1a_:=ah hb c1a_;replace c1b_:=ah hb c1b_;replace h1_:=zq (h1_.out.below hb);replace fC:=zq (aj fC.out hb);replace hT:=zq (hT.out.below hb);replace hN1:=zq (hN1.out.below hb);refine hK.out _ _ ⟨ag fE rfl,ag fE rfl,c1a_,c1b_⟩ (fun hH2=>?_);clear hK K hH1 hb
 try simp only[sC,hwA]
 refine hwr 9 sD (fun K hK=>?_);obtain⟨r0,r1,rf0,rf1⟩:=co fR
 dsimp only[sD];go_simp
 (try go_wp2_with fail);have hQq:=bw fR (.int .i64 ke) (.slice ae ne qe);clear fR r0 rf0 r1 rf1;obtain⟨X3,hXq,hsq,fR,zX3a,zX3b⟩:=hQq;rw[hXq];replace fE:=hsq.blk (by omega) fE;replace c1a_:=hsq.cell (by show b≠w.heap.size+1;omega) c1a_;replace c1b_:=hsq.cell (by show b≠w.heap.size+1;omega) c1b_;replace h1_:=zq (hsq.rep (fun b hb=>by have:b<w.heap.size:=hb;omega) h1_.out);replace fC:=zq (hsq.bel fC.out (by omega));replace hT:=zq (hsq.rep (fun b hb=>by have:b<w.heap.size:=hb;omega) hT.out);replace hN1:=zq (hsq.rep (fun b hb=>by have h1:U6.heap.size≤b:=hb.1;have h2:b<X1.heap.size:=hb.2;omega) hN1.out);refine hK.out _ _ ⟨ag fE rfl,ag fE rfl,c1a_,c1b_⟩ (fun hH3=>?_);clear hK K hH2 hsq hXq
 try simp only[sD,hwA]
 refine hwt 10 nJ (.bool dd) hH3 ?_ ?_
 ·intro w' hSw;dsimp only[nJ];go_simp
 try simp only[nJ,hwA]
 refine wpAnyH_done (by kernel_rfl) ?_ _;refine NoPanic.normal ?_;clear hH3;have HN:O=if dd=true then some ty else none:=by rw[HO.out];simp only[aZ,HD.out];cases dd<;>simp[Ty.toS_ty HVT.out]
 obtain⟨rc0,rc1⟩:=blk2 fR
 go_wp2_with fail
 refine bodyPost_ret (v:=.tuple #[.agg #[.int .i64 ke,.slice ae ne qe],.bool dd]) (by simp[results,Tryz.results118,go_sem,rc0,rc1]) rfl ?_
 exact⟨_,_,_,_,_,ty,rfl,by rw[HN];cases dd<;>rfl,hN1.out.move (.weaken fun b h _=>.inr (by have h1:=h.1;omega)),(by rw[HN];intro s h;cases dd with | false=>cases h | true=>exact Option.some.inj h),fC.out⟩
end Go.Proofs.YtfahhonmiimmdaaGreat

/- spec.l3Result at conditions. And what else its parts name. -/
import Derived.Test.YtfahhonmiimmdaaGreatB29
import Derived.Test.YtfahhonmiimmdaaGreatB31
import Derived.Test.YtfahhonmiimmdaaGreatB32
set_option linter.unusedSimpArgs false
set_option linter.unusedVariables false
set_option maxRecDepth 100000
set_option maxHeartbeats 16000000
namespace Go.Proofs.YtfahhonmiimmdaaGreat
open Go.RowKit
theorem S.ty_meetT : ∀s u:S,s.cons u=true→s.ty.meet u.ty=(s.meet u).ty:=by
 intro s
 induction s with
 | fn a b ha hb=>
  intro u h
  cases u<;>simp[S.cons] at h
  ·simp[S.ty,Ty.meet,S.meet]
  ·simp[S.ty,Ty.meet,Ty.meets,S.meet,ha _ h.1,hb _ h.2]
 | pr a b ha hb=>
  intro u h
  cases u<;>simp[S.cons] at h
  ·simp[S.ty,Ty.meet,S.meet]
  ·simp[S.ty,Ty.meet,Ty.meets,S.meet,ha _ h.1,hb _ h.2]
 | _=>intro u h;cases u<;>simp[S.cons] at h<;>simp[S.ty,Ty.meet,Ty.meets,S.meet]
def gv:Oper:=⟨some 68,.move (.tmp 1),23,"l3_typing.go:80",#[],none⟩
def gw:Oper:=⟨some 69,.indexAddr 23 (.tmp 68) (.const (.int .i64 1)),0,"l3_typing.go:80",#[⟨0,.data⟩],none⟩
def gx:Oper:=⟨some 70,.load 25 (.tmp 69),25,"l3_typing.go:80",#[⟨1,.data⟩],none⟩
def gy:Oper:=⟨some 71,.move (.tmp 1),23,"l3_typing.go:80",#[],none⟩
def gz:Oper:=⟨some 72,.indexAddr 23 (.tmp 71) (.const (.int .i64 2)),0,"l3_typing.go:80",#[⟨3,.data⟩],none⟩
def gA:Oper:=⟨some 73,.load 25 (.tmp 72),25,"l3_typing.go:80",#[⟨4,.data⟩],none⟩
def gB:Oper:=⟨some 74,.call {callee:=.value (.func 58),args:=#[.tmp 70,.tmp 73],argTypes:=#[25,25]},4,"l3_typing.go:80",#[⟨2,.data⟩,⟨5,.data⟩],none⟩
def gC:Oper:=⟨some 75,.unOp .not 4 (.tmp 74),4,"l3_typing.go:80",#[⟨6,.data⟩],none⟩
theorem l6 (G1 G2 G3:Nat→Prop)(nm:ByteArray)(u lb tk fk:Int)(ty src:Ty)(ta fa ca:Option Addr)(tn tq fn fq cm cq:Nat)(w:World)(hty:ao G1 w ty (.agg #[.int .i64 tk,.slice ta tn tq]))(hsrc:ao G2 w src (.agg #[.int .i64 fk,.slice fa fn fq]))(y:Value)(h1 h2 h3:S)(d2:h2.cons h3=false)(hv1:h1.vd=true)(hv2:h2.vd=true)(hv3:h3.vd=true)(hy:aA G3 w [h1.ty,h2.ty,h3.ty] y) :
  Calls Tryz.prog 118 #[.agg #[.int .i64 9,.string nm,.int .i64 u,.int .i64 tk,.slice ta tn tq,.int .i64 fk,.slice fa fn fq,.int .i64 lb,.slice ca cm cq],y] w (bH ((aZ 9 ty [h1,h2,h3]).map S.ty) w):=by
 obtain⟨b,off,cap,k1,c1,m1,q1,k2,c2,m2,q2,k3,c3,m3,q3,rfl,hlb,e1a,e1b,e2a,e2b,e3a,e3b,ht1,ht2,ht3⟩:=hy.three;obtain⟨O,hOO⟩ : ∃O:Option Ty,O=((aZ 9 ty [h1,h2,h3]).map S.ty):=⟨_,rfl⟩
 rw[←hOO];have HO:=zq hOO;clear hOO;have D2:=zq d2;have V1:=zq hv1;have V2:=zq hv2;have V3:=zq hv3;obtain⟨d1,hd1⟩ : ∃d1,h1.cons .bool=d1:=⟨_,rfl⟩
 have D1:=zq hd1;clear d2 hv1 hv2 hv3 hd1;have H1:=zq ht1.old;have H2:=zq ht2.old;have H3:=zq ht3.old;clear hty hsrc hy ht1 ht2 ht3
 go_enter Tryz.func118,Tryz.ntmps118
 go_wp2_with fail
 obtain⟨VV,hVV⟩ : ∃X,X=((w.alloc (.cells #[.int .i64 9,.string nm,.int .i64 u,.int .i64 tk,.slice ta tn tq,.int .i64 fk,.slice fa fn fq,.int .i64 lb,.slice ca cm cq] 28)).alloc (.cells #[.int .i64 0,.slice none 0 0] 25)):=⟨_,rfl⟩
 have fE:VV.heap[w.heap.size]?=some (.cells #[.int .i64 9,.string nm,.int .i64 u,.int .i64 tk,.slice ta tn tq,.int .i64 fk,.slice fa fn fq,.int .i64 lb,.slice ca cm cq] 28 (0,0)):=by rw[hVV];exact af (aB rfl) ai
 have fR:VV.heap[w.heap.size+1]?=some (.cells #[.int .i64 0,.slice none 0 0] 25 (0,0)):=by rw[hVV];exact aB (by simp)
 have c1a_:VV.cell? ⟨b,off,none⟩=some (.int .i64 k1):=by rw[hVV];exact ah ai (ah ai e1a)
 have c1b_:VV.cell? ⟨b,off+1,none⟩=some (.slice c1 m1 q1):=by rw[hVV];exact ah ai (ah ai e1b)
 have h1_:Hid (ao (· < w.heap.size) VV h1.ty (.agg #[.int .i64 k1,.slice c1 m1 q1])):=by rw[hVV];exact zq ((H1.out.below ai).below ai)
 have c2a_:VV.cell? ⟨b,off+2,none⟩=some (.int .i64 k2):=by rw[hVV];exact ah ai (ah ai e2a)
 have c2b_:VV.cell? ⟨b,off+3,none⟩=some (.slice c2 m2 q2):=by rw[hVV];exact ah ai (ah ai e2b)
 have h2_:Hid (ao (· < w.heap.size) VV h2.ty (.agg #[.int .i64 k2,.slice c2 m2 q2])):=by rw[hVV];exact zq ((H2.out.below ai).below ai)
 have c3a_:VV.cell? ⟨b,off+4,none⟩=some (.int .i64 k3):=by rw[hVV];exact ah ai (ah ai e3a)
 have c3b_:VV.cell? ⟨b,off+5,none⟩=some (.slice c3 m3 q3):=by rw[hVV];exact ah ai (ah ai e3b)
 have h3_:Hid (ao (· < w.heap.size) VV h3.ty (.agg #[.int .i64 k3,.slice c3 m3 q3])):=by rw[hVV];exact zq ((H3.out.below ai).below ai)
 have fC:Hid (Below w.heap.size w VV):=by rw[hVV];exact zq (aj ai ai)
 rw[←hVV];have zV:VV.heap.size=_:=congrArg (fun X:World=>X.heap.size) hVV;simp only[World.size_alloc] at zV;refine wp_region_noPanic ?_;refine wp_region_held_drew (S:=fun w'=>w'.cell? ⟨b,off+2,none⟩=some (.int .i64 k2)∧w'.cell? ⟨b,off+3,none⟩=some (.slice c2 m2 q2)∧w'.cell? ⟨b,off+4,none⟩=some (.int .i64 k3)∧w'.cell? ⟨b,off+5,none⟩=some (.slice c3 m3 q3)) (by kernel_rfl) ?_ (fun hH0=>?_)
 ·exact⟨c2a_,c2b_,c3a_,c3b_⟩
 obtain⟨U9,hU,hb,zU9a,zU9b⟩:=bD VV;rw[hU] at hH0 ⊢;replace fE:=af fE hb;replace fR:=af fR hb;replace c1a_:=ah hb c1a_;replace c1b_:=ah hb c1b_;replace h1_:=zq (h1_.out.below hb);replace c2a_:=ah hb c2a_;replace c2b_:=ah hb c2b_;replace h2_:=zq (h2_.out.below hb);replace c3a_:=ah hb c3a_;replace c3b_:=ah hb c3b_;replace h3_:=zq (h3_.out.below hb);replace fC:=zq (aj fC.out hb);rw[zV] at zU9a zU9b;clear hU hb hVV zV;refine hwt 0 gv (.slice (some ⟨b,off,none⟩) 3 cap) hH0 ?_ ?_
 ·intro w' hSw;dsimp only[gv];go_simp
 try simp only[gv,hwA]
 refine hwt 1 gw (.pointer (some ⟨b,off+2,none⟩)) hH0 ?_ ?_
 ·intro w' hSw;dsimp only[gw];go_simp
 try simp only[gw,hwA]
 refine hwt 2 gx (.agg #[.int .i64 k2,.slice c2 m2 q2]) hH0 ?_ ?_
 ·intro w' hSw;dsimp only[gx];go_simp
 try simp only[gx,hwA]
 refine hwt 3 gy (.slice (some ⟨b,off,none⟩) 3 cap) hH0 ?_ ?_
 ·intro w' hSw;dsimp only[gy];go_simp
 try simp only[gy,hwA]
 refine hwt 4 gz (.pointer (some ⟨b,off+4,none⟩)) hH0 ?_ ?_
 ·intro w' hSw;dsimp only[gz];go_simp
 try simp only[gz,hwA]
 refine hwt 5 gA (.agg #[.int .i64 k3,.slice c3 m3 q3]) hH0 ?_ ?_
 ·intro w' hSw;dsimp only[gA];go_simp
 try simp only[gA,hwA]
 refine hwr 6 gB (fun K hK=>?_)
 dsimp only[gB];go_simp
 go_at_call 58
 refine(bY _ _ _ _ _ _ _ h2_.out h3_.out V2.out V3.out).mono ?_;rintro e X1 ⟨rfl,hb⟩;rw[D2.out]
 go_wp2_with fail
 have zX1:U9.heap.size≤X1.heap.size:=hb.size;replace fE:=af fE hb;replace fR:=af fR hb;replace c1a_:=ah hb c1a_;replace c1b_:=ah hb c1b_;replace h1_:=zq (h1_.out.below hb);replace c2a_:=ah hb c2a_;replace c2b_:=ah hb c2b_;replace h2_:=zq (h2_.out.below hb);replace c3a_:=ah hb c3a_;replace c3b_:=ah hb c3b_;replace h3_:=zq (h3_.out.below hb);replace fC:=zq (aj fC.out hb);refine hK.out _ _ ⟨c2a_,c2b_,c3a_,c3b_⟩ (fun hH1=>?_);clear hK K hH0 hb
 try simp only[gB,hwA]
 refine hwt 7 gC (.bool true) hH1 ?_ ?_
 ·intro w' hSw;dsimp only[gC];go_simp
 try simp only[gC,hwA]
 refine wpAnyH_done (by kernel_rfl) ?_ _;refine NoPanic.normal ?_;clear hH1;obtain⟨r0,r1,rf0,rf1⟩:=co fR
 go_wp2_with fail
 have hY:((X1.setCell ⟨w.heap.size+1,0,none⟩ (.int .i64 0)).setCell ⟨w.heap.size+1,1,none⟩ (.slice none 0 0)).heap[w.heap.size+1]?=some (.cells #[.int .i64 0,.slice none 0 0] 25 (0,0)):=aI (aI fR rfl) rfl;obtain⟨rc0,rc1⟩:=blk2 hY;refine bodyPost_ret (v:=.tuple #[.agg #[.int .i64 0,.slice none 0 0],.bool false]) (by simp[results,Tryz.results118,go_sem,rc0,rc1]) rfl ?_;have HN:O=none:=by rw[HO.out];simp only[aZ,D2.out];rfl
 exact⟨_,_,_,_,_,_,rfl,by rw[HN];rfl,ao.zeroG,(by rw[HN];intro s h;cases h),(fC.out.setCell (p:=⟨w.heap.size+1,0,none⟩) (by show w.heap.size≤w.heap.size+1;omega) _).setCell (p:=⟨w.heap.size+1,1,none⟩) (by show w.heap.size≤w.heap.size+1;omega) _⟩
def rO:Oper:=⟨some 77,.move (.tmp 1),23,"l3_typing.go:83",#[],none⟩
def rP:Oper:=⟨some 78,.indexAddr 23 (.tmp 77) (.const (.int .i64 1)),0,"l3_typing.go:83",#[⟨0,.data⟩],none⟩
def rQ:Oper:=⟨some 79,.load 25 (.tmp 78),25,"l3_typing.go:83",#[⟨1,.data⟩],none⟩
def rR:Oper:=⟨some 80,.move (.tmp 1),23,"l3_typing.go:83",#[],none⟩
def rS:Oper:=⟨some 81,.indexAddr 23 (.tmp 80) (.const (.int .i64 2)),0,"l3_typing.go:83",#[⟨3,.data⟩],none⟩
def rT:Oper:=⟨some 82,.load 25 (.tmp 81),25,"l3_typing.go:83",#[⟨4,.data⟩],none⟩
def rU:Oper:=⟨some 83,.call {callee:=.value (.func 120),args:=#[.tmp 79,.tmp 82],argTypes:=#[25,25]},25,"l3_typing.go:83",#[⟨2,.data⟩,⟨5,.data⟩],none⟩
def rV:Oper:=⟨some 84,.move (.tmp 1),23,"l3_typing.go:83",#[],none⟩
def rW:Oper:=⟨some 85,.indexAddr 23 (.tmp 84) (.const (.int .i64 0)),0,"l3_typing.go:83",#[⟨7,.data⟩],none⟩
def rX:Oper:=⟨some 86,.load 25 (.tmp 85),25,"l3_typing.go:83",#[⟨8,.data⟩],none⟩
def nE:Oper:=⟨some 87,.call {callee:=.value (.func 85),args:=#[],argTypes:=#[]},25,"l3_typing.go:83",#[⟨6,.chain⟩],none⟩
def nF:Oper:=⟨some 88,.call {callee:=.value (.func 58),args:=#[.tmp 86,.tmp 87],argTypes:=#[25,25]},4,"l3_typing.go:83",#[⟨9,.data⟩,⟨10,.data⟩,⟨10,.chain⟩],none⟩
def nG:Oper:=⟨none,.store 25 (.tmp 4) (.tmp 83),0,"l3_typing.go:83",#[⟨6,.data⟩,⟨11,.chain⟩,⟨0,.phase⟩,⟨1,.phase⟩,⟨2,.phase⟩,⟨3,.phase⟩,⟨4,.phase⟩,⟨5,.phase⟩,⟨6,.phase⟩,⟨7,.textOnly .lateStores⟩,⟨8,.textOnly .lateStores⟩,⟨9,.textOnly .lateStores⟩,⟨10,.textOnly .lateStoresUnsure⟩,⟨11,.textOnly .lateStoresUnsure⟩],none⟩
def nH:Oper:=⟨some 5,.assign (.tmp 88),4,"l3_typing.go:83",#[⟨11,.data⟩,⟨12,.chain⟩,⟨0,.phase⟩,⟨1,.phase⟩,⟨2,.phase⟩,⟨3,.phase⟩,⟨4,.phase⟩,⟨5,.phase⟩,⟨6,.phase⟩,⟨7,.phase⟩,⟨8,.phase⟩,⟨9,.phase⟩,⟨10,.phase⟩,⟨11,.phase⟩,⟨12,.phase⟩],none⟩
theorem l7 (G1 G2 G3:Nat→Prop)(nm:ByteArray)(u lb tk fk:Int)(ty src:Ty)(ta fa ca:Option Addr)(tn tq fn fq cm cq:Nat)(w:World)(hty:ao G1 w ty (.agg #[.int .i64 tk,.slice ta tn tq]))(hsrc:ao G2 w src (.agg #[.int .i64 fk,.slice fa fn fq]))(y:Value)(h1 h2 h3:S)(d2:h2.cons h3=true)(hv1:h1.vd=true)(hv2:h2.vd=true)(hv3:h3.vd=true)(hy:aA G3 w [h1.ty,h2.ty,h3.ty] y) :
  Calls Tryz.prog 118 #[.agg #[.int .i64 9,.string nm,.int .i64 u,.int .i64 tk,.slice ta tn tq,.int .i64 fk,.slice fa fn fq,.int .i64 lb,.slice ca cm cq],y] w (bH ((aZ 9 ty [h1,h2,h3]).map S.ty) w):=by
 obtain⟨b,off,cap,k1,c1,m1,q1,k2,c2,m2,q2,k3,c3,m3,q3,rfl,hlb,e1a,e1b,e2a,e2b,e3a,e3b,ht1,ht2,ht3⟩:=hy.three;obtain⟨O,hOO⟩ : ∃O:Option Ty,O=((aZ 9 ty [h1,h2,h3]).map S.ty):=⟨_,rfl⟩
 rw[←hOO];have HO:=zq hOO;clear hOO;have D2:=zq d2;have V1:=zq hv1;have V2:=zq hv2;have V3:=zq hv3;obtain⟨d1,hd1⟩ : ∃d1,h1.cons .bool=d1:=⟨_,rfl⟩
 have D1:=zq hd1;have HMT:=zq (fun(Fa Fb:Nat→Prop) (ya yb:Value) (W:World) (ha:ao Fa W h2.ty ya) (hb:ao Fb W h3.ty yb)=>(by
   have h:=lM Fa Fb h2.ty h3.ty ya yb W ha hb (by rw[S.ty_cons];exact d2) (S.cnt_ok hv2) (S.cnt_ok hv3)
   rwa [S.ty_meetT _ _ d2] at h:Calls Tryz.prog 120 #[ya,yb] W (eP (h2.meet h3).ty W)))
 clear d2 hv1 hv2 hv3 hd1;have H1:=zq ht1.old;have H2:=zq ht2.old;have H3:=zq ht3.old;clear hty hsrc hy ht1 ht2 ht3
 go_enter Tryz.func118,Tryz.ntmps118
 go_wp2_with fail
 obtain⟨VV,hVV⟩ : ∃X,X=((w.alloc (.cells #[.int .i64 9,.string nm,.int .i64 u,.int .i64 tk,.slice ta tn tq,.int .i64 fk,.slice fa fn fq,.int .i64 lb,.slice ca cm cq] 28)).alloc (.cells #[.int .i64 0,.slice none 0 0] 25)):=⟨_,rfl⟩
 have fE:VV.heap[w.heap.size]?=some (.cells #[.int .i64 9,.string nm,.int .i64 u,.int .i64 tk,.slice ta tn tq,.int .i64 fk,.slice fa fn fq,.int .i64 lb,.slice ca cm cq] 28 (0,0)):=by rw[hVV];exact af (aB rfl) ai
 have fR:VV.heap[w.heap.size+1]?=some (.cells #[.int .i64 0,.slice none 0 0] 25 (0,0)):=by rw[hVV];exact aB (by simp)
 have c1a_:VV.cell? ⟨b,off,none⟩=some (.int .i64 k1):=by rw[hVV];exact ah ai (ah ai e1a)
 have c1b_:VV.cell? ⟨b,off+1,none⟩=some (.slice c1 m1 q1):=by rw[hVV];exact ah ai (ah ai e1b)
 have h1_:Hid (ao (· < w.heap.size) VV h1.ty (.agg #[.int .i64 k1,.slice c1 m1 q1])):=by rw[hVV];exact zq ((H1.out.below ai).below ai)
 have c2a_:VV.cell? ⟨b,off+2,none⟩=some (.int .i64 k2):=by rw[hVV];exact ah ai (ah ai e2a)
 have c2b_:VV.cell? ⟨b,off+3,none⟩=some (.slice c2 m2 q2):=by rw[hVV];exact ah ai (ah ai e2b)
 have h2_:Hid (ao (· < w.heap.size) VV h2.ty (.agg #[.int .i64 k2,.slice c2 m2 q2])):=by rw[hVV];exact zq ((H2.out.below ai).below ai)
 have c3a_:VV.cell? ⟨b,off+4,none⟩=some (.int .i64 k3):=by rw[hVV];exact ah ai (ah ai e3a)
 have c3b_:VV.cell? ⟨b,off+5,none⟩=some (.slice c3 m3 q3):=by rw[hVV];exact ah ai (ah ai e3b)
 have h3_:Hid (ao (· < w.heap.size) VV h3.ty (.agg #[.int .i64 k3,.slice c3 m3 q3])):=by rw[hVV];exact zq ((H3.out.below ai).below ai)
 have fC:Hid (Below w.heap.size w VV):=by rw[hVV];exact zq (aj ai ai)
 rw[←hVV];have zV:VV.heap.size=_:=congrArg (fun X:World=>X.heap.size) hVV;simp only[World.size_alloc] at zV;refine wp_region_noPanic ?_;refine wp_region_held_drew (S:=fun w'=>w'.cell? ⟨b,off+2,none⟩=some (.int .i64 k2)∧w'.cell? ⟨b,off+3,none⟩=some (.slice c2 m2 q2)∧w'.cell? ⟨b,off+4,none⟩=some (.int .i64 k3)∧w'.cell? ⟨b,off+5,none⟩=some (.slice c3 m3 q3)) (by kernel_rfl) ?_ (fun hH0=>?_)
 ·exact⟨c2a_,c2b_,c3a_,c3b_⟩
 obtain⟨U10,hU,hb,zU10a,zU10b⟩:=bD VV;rw[hU] at hH0 ⊢;replace fE:=af fE hb;replace fR:=af fR hb;replace c1a_:=ah hb c1a_;replace c1b_:=ah hb c1b_;replace h1_:=zq (h1_.out.below hb);replace c2a_:=ah hb c2a_;replace c2b_:=ah hb c2b_;replace h2_:=zq (h2_.out.below hb);replace c3a_:=ah hb c3a_;replace c3b_:=ah hb c3b_;replace h3_:=zq (h3_.out.below hb);replace fC:=zq (aj fC.out hb);rw[zV] at zU10a zU10b;clear hU hb hVV zV;refine hwt 0 gv (.slice (some ⟨b,off,none⟩) 3 cap) hH0 ?_ ?_
 ·intro w' hSw;dsimp only[gv];go_simp
 try simp only[gv,hwA]
 refine hwt 1 gw (.pointer (some ⟨b,off+2,none⟩)) hH0 ?_ ?_
 ·intro w' hSw;dsimp only[gw];go_simp
 try simp only[gw,hwA]
 refine hwt 2 gx (.agg #[.int .i64 k2,.slice c2 m2 q2]) hH0 ?_ ?_
 ·intro w' hSw;dsimp only[gx];go_simp
 try simp only[gx,hwA]
 refine hwt 3 gy (.slice (some ⟨b,off,none⟩) 3 cap) hH0 ?_ ?_
 ·intro w' hSw;dsimp only[gy];go_simp
 try simp only[gy,hwA]
 refine hwt 4 gz (.pointer (some ⟨b,off+4,none⟩)) hH0 ?_ ?_
 ·intro w' hSw;dsimp only[gz];go_simp
 try simp only[gz,hwA]
 refine hwt 5 gA (.agg #[.int .i64 k3,.slice c3 m3 q3]) hH0 ?_ ?_
 ·intro w' hSw;dsimp only[gA];go_simp
 try simp only[gA,hwA]
 refine hwr 6 gB (fun K hK=>?_)
 dsimp only[gB];go_simp
 go_at_call 58
 refine(bY _ _ _ _ _ _ _ h2_.out h3_.out V2.out V3.out).mono ?_;rintro e X1 ⟨rfl,hb⟩;rw[D2.out]
 go_wp2_with fail
 have zX1:U10.heap.size≤X1.heap.size:=hb.size;replace fE:=af fE hb;replace fR:=af fR hb;replace c1a_:=ah hb c1a_;replace c1b_:=ah hb c1b_;replace h1_:=zq (h1_.out.below hb);replace c2a_:=ah hb c2a_;replace c2b_:=ah hb c2b_;replace h2_:=zq (h2_.out.below hb);replace c3a_:=ah hb c3a_;replace c3b_:=ah hb c3b_;replace h3_:=zq (h3_.out.below hb);replace fC:=zq (aj fC.out hb);refine hK.out _ _ ⟨c2a_,c2b_,c3a_,c3b_⟩ (fun hH1=>?_);clear hK K hH0 hb
 try simp only[gB,hwA]
 refine hwt 7 gC (.bool false) hH1 ?_ ?_
 ·intro w' hSw;dsimp only[gC];go_simp
 try simp only[gC,hwA]
 refine wpAnyH_done (by kernel_rfl) ?_ _;refine NoPanic.normal ?_;clear hH1
 go_wp2_with fail
 refine wp_region_noPanic ?_;refine wp_region_held_drew (S:=fun w'=>w'.cell? ⟨b,off,none⟩=some (.int .i64 k1)∧w'.cell? ⟨b,off+1,none⟩=some (.slice c1 m1 q1)∧w'.cell? ⟨b,off+2,none⟩=some (.int .i64 k2)∧w'.cell? ⟨b,off+3,none⟩=some (.slice c2 m2 q2)∧w'.cell? ⟨b,off+4,none⟩=some (.int .i64 k3)∧w'.cell? ⟨b,off+5,none⟩=some (.slice c3 m3 q3)) (by kernel_rfl) ?_ (fun hH0=>?_)
 ·exact⟨c1a_,c1b_,c2a_,c2b_,c3a_,c3b_⟩
 obtain⟨U11,hU,hb,zU11a,zU11b⟩:=bD X1;rw[hU] at hH0 ⊢;replace fE:=af fE hb;replace fR:=af fR hb;replace c1a_:=ah hb c1a_;replace c1b_:=ah hb c1b_;replace h1_:=zq (h1_.out.below hb);replace c2a_:=ah hb c2a_;replace c2b_:=ah hb c2b_;replace h2_:=zq (h2_.out.below hb);replace c3a_:=ah hb c3a_;replace c3b_:=ah hb c3b_;replace h3_:=zq (h3_.out.below hb);replace fC:=zq (aj fC.out hb);(try simp only[World.size_alloc] at zU11a zU11b);clear hU hb;refine hwt 0 rO (.slice (some ⟨b,off,none⟩) 3 cap) hH0 ?_ ?_
 ·intro w' hSw;dsimp only[rO];go_simp
 try simp only[rO,hwA]
 refine hwt 1 rP (.pointer (some ⟨b,off+2,none⟩)) hH0 ?_ ?_
 ·intro w' hSw;dsimp only[rP];go_simp
 try simp only[rP,hwA]
 refine hwt 2 rQ (.agg #[.int .i64 k2,.slice c2 m2 q2]) hH0 ?_ ?_
 ·intro w' hSw;dsimp only[rQ];go_simp
 try simp only[rQ,hwA]
 refine hwt 3 rR (.slice (some ⟨b,off,none⟩) 3 cap) hH0 ?_ ?_
 ·intro w' hSw;dsimp only[rR];go_simp
 try simp only[rR,hwA]
 refine hwt 4 rS (.pointer (some ⟨b,off+4,none⟩)) hH0 ?_ ?_
 ·intro w' hSw;dsimp only[rS];go_simp
 try simp only[rS,hwA]
 refine hwt 5 rT (.agg #[.int .i64 k3,.slice c3 m3 q3]) hH0 ?_ ?_
 ·intro w' hSw;dsimp only[rT];go_simp
 try simp only[rT,hwA]
 refine hwt 7 rV (.slice (some ⟨b,off,none⟩) 3 cap) hH0 ?_ ?_
 ·intro w' hSw;dsimp only[rV];go_simp
 try simp only[rV,hwA]
 refine hwt 8 rW (.pointer (some ⟨b,off,none⟩)) hH0 ?_ ?_
 ·intro w' hSw;dsimp only[rW];go_simp
 try simp only[rW,hwA]
 refine hwt 9 rX (.agg #[.int .i64 k1,.slice c1 m1 q1]) hH0 ?_ ?_
 ·intro w' hSw;dsimp only[rX];go_simp
 try simp only[rX,hwA]
 refine hwr 6 rU (fun K hK=>?_)
 dsimp only[rU];go_simp
 go_at_call 120
 refine(HMT.out _ _ _ _ _ h2_.out h3_.out).mono ?_;rintro e X22 ⟨v,rfl,hv,hb⟩;obtain⟨km,am,nx,qm,rfl⟩:=hv.shape;have hM':=hv.rep.rg;clear hv
 go_wp2_with fail
 have zX22:U11.heap.size≤X22.heap.size:=hb.size;replace fE:=af fE hb;replace fR:=af fR hb;replace c1a_:=ah hb c1a_;replace c1b_:=ah hb c1b_;replace h1_:=zq (h1_.out.below hb);replace c2a_:=ah hb c2a_;replace c2b_:=ah hb c2b_;replace h2_:=zq (h2_.out.below hb);replace c3a_:=ah hb c3a_;replace c3b_:=ah hb c3b_;replace h3_:=zq (h3_.out.below hb);replace fC:=zq (aj fC.out hb);have hM:=hM';clear hM';refine hK.out _ _ ⟨c1a_,c1b_,c2a_,c2b_,c3a_,c3b_⟩ (fun hH42=>?_);clear hK K hH0 hb
 try simp only[rU,hwA]
 refine hwr 10 nE (fun K hK=>?_)
 dsimp only[nE];go_simp
 go_at_call 85
 refine(dh _).mono ?_;rintro e X23 ⟨rfl,hb⟩
 go_wp2_with fail
 have zX23:X22.heap.size≤X23.heap.size:=hb.size;replace fE:=af fE hb;replace fR:=af fR hb;replace c1a_:=ah hb c1a_;replace c1b_:=ah hb c1b_;replace h1_:=zq (h1_.out.below hb);replace c2a_:=ah hb c2a_;replace c2b_:=ah hb c2b_;replace h2_:=zq (h2_.out.below hb);replace c3a_:=ah hb c3a_;replace c3b_:=ah hb c3b_;replace h3_:=zq (h3_.out.below hb);replace fC:=zq (aj fC.out hb);replace hM:=zq (hM.out.below hb);refine hK.out _ _ ⟨c1a_,c1b_,c2a_,c2b_,c3a_,c3b_⟩ (fun hH43=>?_);clear hK K hH42 hb
 try simp only[nE,hwA]
 refine hwr 11 nF (fun K hK=>?_)
 dsimp only[nF];go_simp
 go_at_call 58
 refine(bY _ _ _ S.bool _ _ _ h1_.out (ao.leaf 3) V1.out rfl).mono ?_;rintro e X24 ⟨rfl,hb⟩;rw[D1.out]
 go_wp2_with fail
 have zX24:X23.heap.size≤X24.heap.size:=hb.size;replace fE:=af fE hb;replace fR:=af fR hb;replace c1a_:=ah hb c1a_;replace c1b_:=ah hb c1b_;replace h1_:=zq (h1_.out.below hb);replace c2a_:=ah hb c2a_;replace c2b_:=ah hb c2b_;replace h2_:=zq (h2_.out.below hb);replace c3a_:=ah hb c3a_;replace c3b_:=ah hb c3b_;replace h3_:=zq (h3_.out.below hb);replace fC:=zq (aj fC.out hb);replace hM:=zq (hM.out.below hb);refine hK.out _ _ ⟨c1a_,c1b_,c2a_,c2b_,c3a_,c3b_⟩ (fun hH44=>?_);clear hK K hH43 hb
 try simp only[nF,hwA]
 refine hwr 12 nG (fun K hK=>?_);obtain⟨r0,r1,rf0,rf1⟩:=co fR
 dsimp only[nG];go_simp
 (try go_wp2_with fail);have hQq:=bw fR (.int .i64 km) (.slice am nx qm);clear fR r0 rf0 r1 rf1;obtain⟨X25,hXq,hsq,fR,zX25a,zX25b⟩:=hQq;rw[hXq];replace fE:=hsq.blk (by omega) fE;replace c1a_:=hsq.cell (by show b≠w.heap.size+1;omega) c1a_;replace c1b_:=hsq.cell (by show b≠w.heap.size+1;omega) c1b_;replace h1_:=zq (hsq.rep (fun b hb=>by have:b<w.heap.size:=hb;omega) h1_.out);replace c2a_:=hsq.cell (by show b≠w.heap.size+1;omega) c2a_;replace c2b_:=hsq.cell (by show b≠w.heap.size+1;omega) c2b_;replace h2_:=zq (hsq.rep (fun b hb=>by have:b<w.heap.size:=hb;omega) h2_.out);replace c3a_:=hsq.cell (by show b≠w.heap.size+1;omega) c3a_;replace c3b_:=hsq.cell (by show b≠w.heap.size+1;omega) c3b_;replace h3_:=zq (hsq.rep (fun b hb=>by have:b<w.heap.size:=hb;omega) h3_.out);replace fC:=zq (hsq.bel fC.out (by omega));replace hM:=zq (hsq.rep (fun b hb=>by have h1:U11.heap.size≤b:=hb.1;have h2:b<X22.heap.size:=hb.2;omega) hM.out);refine hK.out _ _ ⟨c1a_,c1b_,c2a_,c2b_,c3a_,c3b_⟩ (fun hH45=>?_);clear hK K hH44 hsq hXq
 try simp only[nG,hwA]
 refine hwt 13 nH (.bool d1) hH45 ?_ ?_
 ·intro w' hSw;dsimp only[nH];go_simp
 try simp only[nH,hwA]
 refine wpAnyH_done (by kernel_rfl) ?_ _;refine NoPanic.normal ?_;clear hH45;have HN:O=if d1=true then some (h2.meet h3).ty else none:=by rw[HO.out];simp only[aZ,D2.out,D1.out,Bool.true_and];cases d1<;>rfl
 obtain⟨rc0,rc1⟩:=blk2 fR
 go_wp2_with fail
 refine bodyPost_ret (v:=.tuple #[.agg #[.int .i64 km,.slice am nx qm],.bool d1]) (by simp[results,Tryz.results118,go_sem,rc0,rc1]) rfl ?_
 exact⟨_,_,_,_,_,(h2.meet h3).ty,rfl,by rw[HN];cases d1<;>rfl,hM.out.move (.weaken fun b h _=>.inr (by have h1:=h.1;omega)),(by rw[HN];intro s h;cases d1 with | false=>cases h | true=>exact Option.some.inj h),fC.out⟩
theorem sO (k:Int)(hs:List S)(hk:6≤k∧k≤13)(hlen:aD k=(hs.length:Int))(hv : ∀h∈hs,h.vd=true)(G1 G2 G3:Nat→Prop)(nm:ByteArray)(u lb tk fk:Int)(ty src:Ty)(ta fa ca:Option Addr)(tn tq fn fq cm cq:Nat)(w:World)(hty:ao G1 w ty (.agg #[.int .i64 tk,.slice ta tn tq]))(hsrc:ao G2 w src (.agg #[.int .i64 fk,.slice fa fn fq]))(hvt:k=13→ty.valid=true)(y:Value)(hy:aA G3 w (hs.map S.ty) y) :
  Calls Tryz.prog 118 #[.agg #[.int .i64 k,.string nm,.int .i64 u,.int .i64 tk,.slice ta tn tq,.int .i64 fk,.slice fa fn fq,.int .i64 lb,.slice ca cm cq],y] w (bH ((aZ k ty hs).map S.ty) w):=by
 have hcase:k=6∨k=7∨k=8∨k=9∨k=10∨k=11∨k=12∨k=13:=by omega
 have two : ∀ {l:List S},l.length=2→∃a b,l = [a,b]:=fun {l} h=>by
  match l,h with
  | [a,b],_=>exact⟨a,b,rfl⟩
 rcases hcase with rfl | rfl | rfl | rfl | rfl | rfl | rfl | rfl
 ·obtain⟨h1,h2,rfl⟩:=two (l:=hs) (by simp[aD] at hlen;omega)
  cases e:(h1.mat 4).2.2 with
  | false=>exact kW G1 G2 G3 nm u lb tk fk ty src ta fa ca tn tq fn fq cm cq w hty hsrc y h1 h2 e (hv h1 (by simp)) (hv h2 (by simp)) hy
  | true=>exact kX G1 G2 G3 nm u lb tk fk ty src ta fa ca tn tq fn fq cm cq w hty hsrc y h1 h2 e (hv h1 (by simp)) (hv h2 (by simp)) hy
 ·obtain⟨h1,h2,rfl⟩:=two (l:=hs) (by simp[aD] at hlen;omega)
  cases e:h1.cons .int with
  | false=>exact kY G1 G2 G3 nm u lb tk fk ty src ta fa ca tn tq fn fq cm cq w hty hsrc y h1 h2 e (hv h1 (by simp)) (hv h2 (by simp)) hy
  | true=>exact kZ G1 G2 G3 nm u lb tk fk ty src ta fa ca tn tq fn fq cm cq w hty hsrc y h1 h2 e (hv h1 (by simp)) (hv h2 (by simp)) hy
 ·obtain⟨h1,h2,rfl⟩:=two (l:=hs) (by simp[aD] at hlen;omega)
  cases e:h1.cons .int with
  | false=>exact l4 G1 G2 G3 nm u lb tk fk ty src ta fa ca tn tq fn fq cm cq w hty hsrc y h1 h2 e (hv h1 (by simp)) (hv h2 (by simp)) hy
  | true=>exact l5 G1 G2 G3 nm u lb tk fk ty src ta fa ca tn tq fn fq cm cq w hty hsrc y h1 h2 e (hv h1 (by simp)) (hv h2 (by simp)) hy
 ·obtain⟨h1,h2,h3,rfl⟩ : ∃a b c,hs = [a,b,c]:=by
   have:hs.length=3:=by simp[aD] at hlen;omega
   match hs,this with
   | [a,b,c],_=>exact⟨a,b,c,rfl⟩
  cases e:h2.cons h3 with
  | false=>exact l6 G1 G2 G3 nm u lb tk fk ty src ta fa ca tn tq fn fq cm cq w hty hsrc y h1 h2 h3 e (hv h1 (by simp)) (hv h2 (by simp)) (hv h3 (by simp)) hy
  | true=>exact l7 G1 G2 G3 nm u lb tk fk ty src ta fa ca tn tq fn fq cm cq w hty hsrc y h1 h2 h3 e (hv h1 (by simp)) (hv h2 (by simp)) (hv h3 (by simp)) hy
 ·obtain⟨h1,h2,rfl⟩:=two (l:=hs) (by simp[aD] at hlen;omega)
  exact lW G1 G2 G3 nm u lb tk fk ty src ta fa ca tn tq fn fq cm cq w hty hsrc y h1 h2 (hv h1 (by simp)) (hv h2 (by simp)) hy
 ·obtain⟨h1,rfl⟩ : ∃h1,hs = [h1]:=List.length_eq_one_iff.1 (by simp[aD] at hlen;omega)
  exact lX G1 G2 G3 nm u lb tk fk ty src ta fa ca tn tq fn fq cm cq w hty hsrc y h1 (hv h1 (by simp)) hy
 ·obtain⟨h1,rfl⟩ : ∃h1,hs = [h1]:=List.length_eq_one_iff.1 (by simp[aD] at hlen;omega)
  exact lY G1 G2 G3 nm u lb tk fk ty src ta fa ca tn tq fn fq cm cq w hty hsrc y h1 (hv h1 (by simp)) hy
 ·obtain⟨h1,rfl⟩ : ∃h1,hs = [h1]:=List.length_eq_one_iff.1 (by simp[aD] at hlen;omega)
  exact lZ G1 G2 G3 nm u lb tk fk ty src ta fa ca tn tq fn fq cm cq w hty hsrc y (hvt rfl) h1 (hv h1 (by simp)) hy
theorem uW {ts:List Tm}{l:List Bd}{j:Nat}(h:j<ts.length):Tm.typsS (ts.drop j) l=match ts[j].typS l with
  | none=>none
  | some h=>(match Tm.typsS (ts.drop (j+1)) l with
    | none=>none
    | some hs=>some (h :: hs)):=by
 rw[List.drop_eq_getElem_cons h,Tm.typsS]
 cases ts[j].typS l with
 | none=>rfl
 | some x=>cases Tm.typsS (ts.drop (j+1)) l<;>rfl
theorem uV {k:Int}{nm:ByteArray}{u lb:Int}{ty src:Ty}{ts:List Tm}{l:List Bd}(hk:6≤k):(Tm.mk k nm u ty src lb ts).typS l=match Tm.typsS ts l with
  | some hs=>aZ k ty hs
  | none=>none:=by
 rw[Tm.typS,if_neg (by omega),if_neg (by omega),if_neg (by omega),if_neg (by omega)]
 cases Tm.typsS ts l<;>rfl
theorem ub (G:Nat→Prop)(k:Int)(nm:ByteArray)(u lb tk fk:Int)(ty src:Ty)(ts:List Tm)(l:List Bd)(xa ta fa ca:Option Addr)(xn xq tn tq fn fq cm cq:Nat)(w:World)
  (he:ax G w (.mk k nm u ty src lb ts) (.agg #[.int .i64 k,.string nm,.int .i64 u,.int .i64 tk,.slice ta tn tq,.int .i64 fk,.slice fa fn fq,.int .i64 lb,.slice ca cm cq]))
  (IH : ∀t'∈ts,∀(W:World) (y':Value),Below w.heap.size w W→ax G W t' y'→Calls Tryz.prog 112 #[.slice xa xn xq,y'] W (bH ((t'.typS l).map S.ty) W))
  (IV : ∀t'∈ts,∀h,t'.typS l=some h→h.vd=true)
  (hk:6≤k∧k≤13) (hlen:aD k=(ts.length:Int)) (hvt:k=13→ty.valid=true) (hsm:ts.length≤3) :
  Calls Tryz.prog 112 #[.slice xa xn xq,.agg #[.int .i64 k,.string nm,.int .i64 u,.int .i64 tk,.slice ta tn tq,.int .i64 fk,.slice fa fn fq,.int .i64 lb,.slice ca cm cq]] w (bH (((Tm.mk k nm u ty src lb ts).typS l).map S.ty) w):=by
 obtain⟨-,-,-,-,-,-,-,-,hm,hnm,hmq,hqm,hty,hsrc,hks⟩:=he.parts;simp only[Tm.type,Tm.src,Tm.kids] at hm hty hsrc hks;obtain⟨i0,hi,hz0,hz1,hz2⟩:=info_parts Tryz.infoTy;have Z0:=zq hz0;have Z1:=zq hz1;have Z2:=zq hz2;have HI:=zq hi;have q1:(k==1)=false:=by rw[beq_eq_false_iff_ne];omega
 have q2:(k==2)=false:=by rw[beq_eq_false_iff_ne];omega
 have q3:(k==3)=false:=by rw[beq_eq_false_iff_ne];omega
 have q4:(k==4)=false:=by rw[beq_eq_false_iff_ne];omega
 have q5:(k==5)=false:=by rw[beq_eq_false_iff_ne];omega
 have hm3:cm≤3:=by omega
 have HM:=zq hm;have HKS:=zq hks;have HIH:=zq IH;have HIV:=zq IV;have HEX:=zq (fun(hs:List S) (h1:hs.length=ts.length) (h2 : ∀h∈hs,h.vd=true) (W:World) (hW:Below w.heap.size w W) (G3:Nat→Prop) (y:Value) (hy:aA G3 W (hs.map S.ty) y)=>sO k hs hk (by rw[h1];exact hlen) h2 G G G3 nm u lb tk fk ty src ta fa ca tn tq fn fq cm cq W (hty.below hW) (hsrc.below hW) hvt y hy);obtain⟨O,hO⟩ : ∃O:Option Ty,O=((Tm.mk k nm u ty src lb ts).typS l).map S.ty:=⟨_,rfl⟩
 rw[←hO];have HO:=zq (show O=(match Tm.typsS ts l with
   | some hs=>aZ k ty hs
   | none=>none:Option S).map S.ty from by rw[hO,uV (by omega)])
 have fE:=zq (af (af (aB (w:=w) (o:=.cells #[.int .i64 k,.string nm,.int .i64 u,.int .i64 tk,.slice ta tn tq,.int .i64 fk,.slice fa fn fq,.int .i64 lb,.slice ca cm cq] 28) rfl) (ai (o:=.cells #[.int .i64 0,.slice none 0 0] 25))) (ai (o:=.cells #[] 25)));have fR:=zq (af (aB (w:=w.alloc (.cells #[.int .i64 k,.string nm,.int .i64 u,.int .i64 tk,.slice ta tn tq,.int .i64 fk,.slice fa fn fq,.int .i64 lb,.slice ca cm cq] 28)) (o:=.cells #[.int .i64 0,.slice none 0 0] 25) (b:=w.heap.size+1) (by simp)) (ai (o:=.cells #[] 25)));have fK:=zq (aB (w:=(w.alloc (.cells #[.int .i64 k,.string nm,.int .i64 u,.int .i64 tk,.slice ta tn tq,.int .i64 fk,.slice fa fn fq,.int .i64 lb,.slice ca cm cq] 28)).alloc (.cells #[.int .i64 0,.slice none 0 0] 25)) (o:=.cells #[] 25) (b:=w.heap.size+1+1) (by simp));clear hO he IH IV hty hsrc hks hi hz0 hz1 hz2 hm hlen hvt hk
 go_enter Tryz.func112,Tryz.ntmps112
 go_wp2_with fail
 go_loopw [8,9] (fun s8 s9 wr=>∃(j:Nat) (hs:List S) (cv:Option Addr) (qv:Nat),j≤cm∧s8 = .slice cv j qv∧s9 = .int .i64 j∧Hid (Below w.heap.size w wr)∧w.heap.size+1+1<wr.heap.size ∧
     Hid (wr.heap[w.heap.size]?=some (.cells #[.int .i64 k,.string nm,.int .i64 u,.int .i64 tk,.slice ta tn tq,.int .i64 fk,.slice fa fn fq,.int .i64 lb,.slice ca cm cq] 28 (0,0)))∧Hid (wr.heap[w.heap.size+1]?=some (.cells #[.int .i64 0,.slice none 0 0] 25 (0,0)))∧Hid (bG (w.heap.size+1+1) 25 2 wr (.slice cv j qv) j (Ty.rows (hs.map S.ty))) ∧
     Hid (hs.length=j∧(∀h∈hs,h.vd=true)∧Tm.typsS ts l=(Tm.typsS (ts.drop j) l).map (hs ++ ·))) (fun _ i _=>cm-(intOf i).toNat)
 case atStart=>exact⟨0,[],_,_,by omega,rfl,rfl,zq (aj (aj ai ai) ai),by simp,fE,fR,zq ⟨rfl,[],⟨rfl,.inr ⟨_,0,#[],rfl,Nat.le_refl _,fK.out,Nat.le_refl _,by unfold maxLen;omega,rfl,by simp⟩⟩,rfl⟩,zq ⟨rfl,by simp,by simp⟩⟩
 case round=>
  obtain⟨j,hs,cv,qv,hj,rfl,rfl,hbw,hsz,hE,hR,hrow,hrel2⟩:=hrel;clear fE fR fK;have x0:=ag hE.out (o:=6) rfl;have x8:=ag hE.out (o:=8) rfl;have lx8:w.heap.size<wr.heap.size:=by omega
  by_cases hlt:j<cm
  ·have hjt:j<ts.length:=by rw[←HM.out];exact hlt
   obtain⟨b,off,kk0,nn0,uu0,tk0,ta0,tn0,tq0,fk0,fa0,fn0,fq0,ll0,a0,m0,q0,rfl,lb_,e0,e1,e2,e3,e4,e5,e6,e7,e8,ht⟩:=HKS.out.at hbw.out hjt;have HC:=zq (HIH.out ts[j] (List.getElem_mem hjt) wr _ hbw.out ht);have HCV:=zq (HIV.out ts[j] (List.getElem_mem hjt));have HCD:=zq (uW (l:=l) hjt);generalize hoj:ts[j].typS l=oj at HC HCV HCD;have lr:=aC hR.out;have hz3:j+1≤3:=by omega
   clear hoj ht
   cases oj with
   | none=>
    have HREL:=zq (show O=none from by rw[HO.out,hrel2.out.2.2,HCD.out];rfl);have r0:=ag hR.out (o:=0) rfl
    go_wp2_with fail
    refine HC.out.mono ?_;rintro e w1 ⟨kt,at_,nt,qt,bt,tt,rfl,hbt,htt,hot,hst⟩;obtain rfl:bt=false:=hbt;have hR1:=af hR.out hst;have HB1:=zq (aj hbw.out hst);have hz1:=hst.size;clear htt hot hst r0;obtain⟨r0,r1⟩:=blk2 hR1;have rf0:=al hR1 0;have rf1:=al hR1 1;have lr1:=aC hR1;have lr2:w.heap.size+1<w1.heap.size+1:=by omega
    go_wp2_with fail
    have hY:(((w1.setCell ⟨w.heap.size+1,0,none⟩ (.int .i64 0)).setCell ⟨w.heap.size+1,1,none⟩ (.slice none 0 0)).alloc (.cells #[.int .i64 kt,.slice at_ nt qt] 25)).heap[w.heap.size+1]?=some (.cells #[.int .i64 0,.slice none 0 0] 25 (0,0)):=af (aI (aI hR1 rfl) rfl) ai;obtain⟨rc0,rc1⟩:=blk2 hY;refine bodyPost_ret (v:=.tuple #[.agg #[.int .i64 0,.slice none 0 0],.bool false]) (by simp[results,Tryz.results112,go_sem,rc0,rc1]) rfl ?_
    exact⟨_,_,_,_,_,_,rfl,by rw[HREL.out];rfl,ao.zeroG,(by rw[HREL.out];intro s h;cases h),aj ((HB1.out.setCell (p:=⟨w.heap.size+1,0,none⟩) (by show w.heap.size≤w.heap.size+1;omega) _).setCell (p:=⟨w.heap.size+1,1,none⟩) (by show w.heap.size≤w.heap.size+1;omega) _) ai⟩
   | some hh=>
    have HVD:=zq (HCV.out hh rfl);have HNX:=zq (show Tm.typsS ts l=(Tm.typsS (ts.drop (j+1)) l).map ((hs ++ [hh]) ++ ·) from by
      rw[hrel2.out.2.2,HCD.out]
      cases Tm.typsS (ts.drop (j+1)) l<;>simp)
    obtain⟨hlenr,xs,ho,hvals⟩:=hrow.out;have HLEN:=zq hlenr;have HOW:=zq ho;have HV:=zq hvals;clear hlenr ho hvals hrow
    go_wp2_with fail
    refine HC.out.mono ?_;rintro e w1 ⟨kt,at_,nt,qt,bt,tt,rfl,hbt,htt,hot,hst⟩;obtain rfl:bt=true:=hbt;obtain rfl:tt=hh.ty:=hot _ rfl;have HT1:=zq htt;have HST:=zq hst;have hE1:=af hE.out hst;have hR1:=af hR.out hst;have HB1:=zq (aj hbw.out hst);have hz1:=hst.size;have hW:=zq (show Below wr.heap.size wr ((w1.alloc (.cells #[.int .i64 kt,.slice at_ nt qt] 25)).alloc (.cells #[.int .i64 kt,.slice at_ nt qt] 25)) from aj (aj hst ai) ai);clear htt hot hst
    go_wp2_with (first | (at_builtin;refine wpList_append_lies _ rfl (.tmp 75) (.tmp 77) 23 rfl (w.heap.size+1+1) 25 i0 _ 2 32 Tryz.underlying23 HI.out Z0.out Z1.out Z2.out rfl (by omega) (.slice cv j qv) j xs rfl (aP HOW.out hW.out) ⟨w1.heap.size+1,0,none⟩ 1 1 [.int .i64 kt,.slice at_ nt qt] rfl rfl (World.news_of_block (cs:=#[.int .i64 kt,.slice at_ nt qt]) (t:=25) (fr:=(0,0)) (aB (by simp))) (by simp[Value.oneCell']) (by omega) (by unfold maxLen;omega) (by omega) (by simp;omega) _ rfl ?_) | fail)
    intro gg cap2 w6 hown2 hgrow hat hlt2;have HROW:=zq (bG.push (r:=w.heap.size) HLEN.out HOW.out HV.out (by omega) (Chg.of_below hW.out) (((HT1.out.move (.weaken fun b h _=>h.elim False.elim id)).below ai).below ai).srep (by omega) hown2 hgrow (by simpa using hat));have HBEL:=zq (bj hbw.out hW.out HOW.out (by omega) hgrow);have hfar:=cr hW.out HOW.out hgrow;have HFAR:=zq hfar;have hsz6:wr.heap.size≤w6.heap.size:=Nat.le_trans hW.out.size hgrow.size;clear hown2 hgrow hat hfar
    go_wp2_with fail
    go_roundw
    case rel=>exact⟨j+1,hs ++ [hh],_,_,by omega,rfl,by go_num,HBEL,by omega,zq ((HFAR.out w.heap.size (by omega) (by omega)).trans hE.out),zq ((HFAR.out (w.heap.size+1) (by omega) (by omega)).trans hR.out),(by
        unfold Hid;have e1:Ty.rows ((hs ++ [hh]).map S.ty)=Ty.rows (hs.map S.ty) ++ [hh.ty.row]:=by simp[Ty.rows_eq]
        rw[e1]
        exact HROW.out),zq ⟨by simp[hrel2.out.1],fun h hm=>(List.mem_append.1 hm).elim (hrel2.out.2.1 h) (fun q=>by simp at q;subst q;exact HVD.out),HNX.out⟩⟩
    case measure=>simp[intOf];omega
  ·have HJE:=zq (show j=cm by omega)
   have HJL:=zq (show ts.drop j = [] from List.drop_eq_nil_of_le (by have:=HM.out;have:=HJE.out;omega));have HREL:=zq (show O=(aZ k ty hs).map S.ty from by
     rw[HO.out,hrel2.out.2.2,HJL.out,Tm.typsS]
     simp)
   have HTY:=zq (show aA (w.heap.size+1+1 ≤ ·) wr (hs.map S.ty) (.slice cv j qv) from hrow.out.rep);have HCX:=zq (HEX.out hs (by have:=hrel2.out.1;have:=HM.out;have:=HJE.out;omega) hrel2.out.2.1 wr hbw.out _ _ HTY.out);have d0:=ag hE.out (o:=0) rfl;have d1:=ag hE.out (o:=1) rfl;have d2:=ag hE.out (o:=2) rfl;have d3:=ag hE.out (o:=3) rfl;have d4:=ag hE.out (o:=4) rfl;have d5:=ag hE.out (o:=5) rfl;have d7:=ag hE.out (o:=7) rfl;clear hrow
   go_wp2_with fail
   refine HCX.out.mono ?_;rintro e w1 ⟨kt,at_,nt,qt,bt,tt,rfl,hbt,htt,hot,hst⟩;have HBT:=zq hbt;have HTT:=zq htt;have HOT:=zq hot;have hR1:=af hR.out hst;have HB1:=zq (aj hbw.out hst);have hz1:=hst.size;clear htt hot hst hbt d0 d1 d2 d3 d4 d5 d7 x0 x8;obtain⟨r0,r1⟩:=blk2 hR1;have rf0:=al hR1 0;have rf1:=al hR1 1
   go_wp2_with fail
   have hY:((w1.setCell ⟨w.heap.size+1,0,none⟩ (.int .i64 kt)).setCell ⟨w.heap.size+1,1,none⟩ (.slice at_ nt qt)).heap[w.heap.size+1]?=some (.cells #[.int .i64 kt,.slice at_ nt qt] 25 (0,0)):=aI (aI hR1 rfl) rfl;obtain⟨rc0,rc1⟩:=blk2 hY;refine bodyPost_ret (v:=.tuple #[.agg #[.int .i64 kt,.slice at_ nt qt],.bool bt]) (by simp[results,Tryz.results112,go_sem,rc0,rc1]) rfl ?_;have hne : ∀b,(False∨wr.heap.size≤b)→b≠w.heap.size+1:=fun b h=>by
    have h1:=h.elim False.elim id
    omega
   exact⟨_,_,_,_,_,tt,rfl,by rw[HREL.out];exact HBT.out,(ao.setN (ao.setN HTT.out hne) hne).move (.weaken fun b h _=>.inr (by have h1:=h.elim False.elim id;omega)),(by rw[HREL.out];exact HOT.out),(HB1.out.setCell (p:=⟨w.heap.size+1,0,none⟩) (by show w.heap.size≤w.heap.size+1;omega) _).setCell (p:=⟨w.heap.size+1,1,none⟩) (by show w.heap.size≤w.heap.size+1;omega) _⟩
theorem eh {nm:ByteArray}{u lb:Int}{ty src:Ty}{t1:Tm}{l:List Bd}(h:t1.typS (l ++ [⟨nm,ty⟩])=none):(Tm.mk 5 nm u ty src lb [t1]).typS l=none:=by
 rw[Tm.typS,if_neg (by omega),if_neg (by omega),if_neg (by omega),if_pos rfl]
 simp[Tm.typsS,h]
theorem ei {nm:ByteArray}{u lb:Int}{ty src:Ty}{t1:Tm}{l:List Bd}{h1:S}(hv:ty.valid=true)(h:t1.typS (l ++ [⟨nm,ty⟩])=some h1):((Tm.mk 5 nm u ty src lb [t1]).typS l).map S.ty=if (Ty.mk 4 [ty,h1.ty]).valid=true then some (.mk 4 [ty,h1.ty]) else none:=by
 rw[Tm.typS,if_neg (by omega),if_neg (by omega),if_neg (by omega),if_pos rfl];have e:(S.fn ty.toS h1).ty = .mk 4 [ty,h1.ty]:=by rw[S.ty,Ty.toS_ty hv]
 have e2:(S.fn ty.toS h1).vd=(Ty.mk 4 [ty,h1.ty]).valid:=by rw[←e,S.valid]
 simp only[Tm.typsS,h];rw[e2]
 cases (Ty.mk 4 [ty,h1.ty]).valid<;>simp[e]
def gi:Oper:=⟨some 32,.move (.tmp 0),96,"l3_typing.go:108",#[],none⟩
def gj:Oper:=⟨some 33,.fieldAddr 28 (.tmp 3) 1,0,"l3_typing.go:108",#[],none⟩
def gk:Oper:=⟨some 34,.load 9 (.tmp 33),9,"l3_typing.go:108",#[⟨1,.data⟩],none⟩
def gm:Oper:=⟨some 35,.fieldAddr 28 (.tmp 3) 3,0,"l3_typing.go:108",#[],none⟩
def gn:Oper:=⟨some 36,.load 25 (.tmp 35),25,"l3_typing.go:108",#[⟨3,.data⟩],none⟩
def dj:Oper:=⟨some 37,.call {callee:=.value (.func 109),args:=#[.tmp 32,.tmp 34,.tmp 36],argTypes:=#[96,9,25]},96,"l3_typing.go:108",#[⟨0,.data⟩,⟨2,.data⟩,⟨4,.data⟩],none⟩
def gp:Oper:=⟨some 38,.fieldAddr 28 (.tmp 3) 6,0,"l3_typing.go:108",#[],none⟩
def gq:Oper:=⟨some 39,.load 26 (.tmp 38),26,"l3_typing.go:108",#[⟨6,.data⟩],none⟩
def gr:Oper:=⟨some 40,.indexAddr 26 (.tmp 39) (.const (.int .i64 0)),0,"l3_typing.go:108",#[⟨7,.data⟩],none⟩
def gu:Oper:=⟨some 41,.load 28 (.tmp 40),28,"l3_typing.go:108",#[⟨8,.data⟩],none⟩
def bM:Oper:=⟨some 42,.call {callee:=.value (.func 112),args:=#[.tmp 37,.tmp 41],argTypes:=#[96,28]},73,"l3_typing.go:108",#[⟨5,.data⟩,⟨9,.data⟩,⟨5,.chain⟩],none⟩
def bN:Oper:=⟨some 31,.move (.tmp 42),73,"l3_typing.go:108",#[⟨10,.data⟩],none⟩
def bO:Oper:=⟨some 43,.extract (.tmp 31) 0,25,"l3_typing.go:108",#[⟨11,.data⟩],none⟩
def bP:Oper:=⟨some 44,.extract (.tmp 31) 1,4,"l3_typing.go:108",#[⟨11,.data⟩,⟨15,.gcOnly .lateStores⟩],none⟩
def bQ:Oper:=⟨some 6,.alloc 25,0,"l3_typing.go:108",#[],none⟩
def bR:Oper:=⟨none,.store 25 (.tmp 6) (.tmp 43),0,"l3_typing.go:108",#[⟨14,.data⟩,⟨12,.data⟩,⟨10,.chain⟩,⟨0,.phase⟩,⟨1,.phase⟩,⟨2,.phase⟩,⟨3,.phase⟩,⟨4,.phase⟩,⟨5,.phase⟩,⟨6,.phase⟩,⟨7,.phase⟩,⟨8,.phase⟩,⟨9,.phase⟩,⟨10,.phase⟩,⟨11,.phase⟩,⟨12,.phase⟩,⟨13,.textOnly .lateStores⟩,⟨14,.phase⟩],none⟩
def bS:Oper:=⟨some 7,.assign (.tmp 44),4,"l3_typing.go:108",#[⟨13,.data⟩,⟨15,.chain⟩,⟨0,.phase⟩,⟨1,.phase⟩,⟨2,.phase⟩,⟨3,.phase⟩,⟨4,.phase⟩,⟨5,.phase⟩,⟨6,.phase⟩,⟨7,.phase⟩,⟨8,.phase⟩,⟨9,.phase⟩,⟨10,.phase⟩,⟨11,.phase⟩,⟨12,.phase⟩,⟨13,.phase⟩,⟨14,.phase⟩,⟨15,.phase⟩],none⟩
theorem nT (G:Nat→Prop)(nm:ByteArray)(u lb tk fk:Int)(ty src:Ty)(t1:Tm)(l:List Bd)(xa ta fa ca:Option Addr)(xn xq tn tq fn fq cm cq:Nat)(w:World)
    (he:ax G w (.mk 5 nm u ty src lb [t1]) (.agg #[.int .i64 5,.string nm,.int .i64 u,.int .i64 tk,.slice ta tn tq,.int .i64 fk,.slice fa fn fq,.int .i64 lb,.slice ca cm cq])) (hv:ty.valid=true)
    (HM:Hid (∀W,Below w.heap.size w W→Calls Tryz.prog 109 #[.slice xa xn xq,.string nm,.agg #[.int .i64 tk,.slice ta tn tq]] W (RetC (l ++ [⟨nm,ty⟩]) W)))
    (IH:Hid (∀(W:World) (c' y':Value),Below w.heap.size w W→aE (fun _=>True) W (l ++ [⟨nm,ty⟩]) c'→ax G W t1 y'→(∃a m q,c' = .slice (some a) m q)→Calls Tryz.prog 112 #[c',y'] W (bH ((t1.typS (l ++ [⟨nm,ty⟩])).map S.ty) W)))
    (hco:t1.typS (l ++ [⟨nm,ty⟩])=none) :
    Calls Tryz.prog 112 #[.slice xa xn xq,.agg #[.int .i64 5,.string nm,.int .i64 u,.int .i64 tk,.slice ta tn tq,.int .i64 fk,.slice fa fn fq,.int .i64 lb,.slice ca cm cq]] w (bH (((Tm.mk 5 nm u ty src lb [t1]).typS l).map S.ty) w):=by
  obtain⟨-,-,-,-,-,-,-,-,hm,hnm,hmq,hqm,hty,hsrc,hks⟩:=he.parts;simp only[Tm.type,Tm.src,Tm.kids,List.length_cons,List.length_nil] at hm hty hsrc hks;obtain rfl:cm=1:=by omega
  obtain⟨b,off,kk0,nn0,uu0,tk0,ta0,tn0,tq0,fk0,fa0,fn0,fq0,ll0,a0,m0,q0,rfl,hlb,e0,e1,e2,e3,e4,e5,e6,e7,e8,ht⟩:=hks.at (Below.refl _ _) (i:=0) (by simp);simp only[Nat.zero_mul,Nat.add_zero] at e0 e1 e2 e3 e4 e5 e6 e7 e8;have HTK:=zq (show ax G w t1 _ from ht);have HTY:=zq hty.old;have HCN:=zq (Ty.cnt_valid hv);have HVT:=zq hv;have HCO:=zq hco;obtain⟨O,hO⟩ : ∃O:Option Ty,O=(((Tm.mk 5 nm u ty src lb [t1]).typS l).map S.ty):=⟨_,rfl⟩
  rw[←hO];have HO:=zq hO;clear hO he hm hty hsrc hks ht hv hco
  go_enter Tryz.func112,Tryz.ntmps112
  go_wp2_with fail
  obtain⟨VV,hVV⟩ : ∃X,X=((w.alloc (.cells #[.int .i64 5,.string nm,.int .i64 u,.int .i64 tk,.slice ta tn tq,.int .i64 fk,.slice fa fn fq,.int .i64 lb,.slice (some ⟨b,off,none⟩) 1 cq] 28)).alloc (.cells #[.int .i64 0,.slice none 0 0] 25)):=⟨_,rfl⟩
  have fE:VV.heap[w.heap.size]?=some (.cells #[.int .i64 5,.string nm,.int .i64 u,.int .i64 tk,.slice ta tn tq,.int .i64 fk,.slice fa fn fq,.int .i64 lb,.slice (some ⟨b,off,none⟩) 1 cq] 28 (0,0)):=by rw[hVV];exact af (aB rfl) ai
  have fR:VV.heap[w.heap.size+1]?=some (.cells #[.int .i64 0,.slice none 0 0] 25 (0,0)):=by rw[hVV];exact aB (by simp)
  have c0_:VV.cell? ⟨b,off,none⟩=some (.int .i64 kk0):=by rw[hVV];exact ah ai (ah ai e0)
  have c1_:VV.cell? ⟨b,off+1,none⟩=some (.string nn0):=by rw[hVV];exact ah ai (ah ai e1)
  have c2_:VV.cell? ⟨b,off+2,none⟩=some (.int .i64 uu0):=by rw[hVV];exact ah ai (ah ai e2)
  have c3_:VV.cell? ⟨b,off+3,none⟩=some (.int .i64 tk0):=by rw[hVV];exact ah ai (ah ai e3)
  have c4_:VV.cell? ⟨b,off+4,none⟩=some (.slice ta0 tn0 tq0):=by rw[hVV];exact ah ai (ah ai e4)
  have c5_:VV.cell? ⟨b,off+5,none⟩=some (.int .i64 fk0):=by rw[hVV];exact ah ai (ah ai e5)
  have c6_:VV.cell? ⟨b,off+6,none⟩=some (.slice fa0 fn0 fq0):=by rw[hVV];exact ah ai (ah ai e6)
  have c7_:VV.cell? ⟨b,off+7,none⟩=some (.int .i64 ll0):=by rw[hVV];exact ah ai (ah ai e7)
  have c8_:VV.cell? ⟨b,off+8,none⟩=some (.slice a0 m0 q0):=by rw[hVV];exact ah ai (ah ai e8)
  have fC:Hid (Below w.heap.size w VV):=by rw[hVV];exact zq (aj ai ai)
  have hT:Hid (ao (· < w.heap.size) VV ty (.agg #[.int .i64 tk,.slice ta tn tq])):=by rw[hVV];exact zq ((HTY.out.below ai).below ai)
  rw[←hVV];have zV:VV.heap.size=_:=congrArg (fun X:World=>X.heap.size) hVV;simp only[World.size_alloc] at zV;refine wp_region_noPanic ?_;refine wp_region_held_drew (S:=fun w'=>w'.cell? ⟨w.heap.size,1,none⟩=some (.string nm)∧w'.cell? ⟨w.heap.size,3,none⟩=some (.int .i64 tk)∧w'.cell? ⟨w.heap.size,4,none⟩=some (.slice ta tn tq)∧w'.cell? ⟨w.heap.size,8,none⟩=some (.slice (some ⟨b,off,none⟩) 1 cq)∧w'.cell? ⟨b,off,none⟩=some (.int .i64 kk0)∧w'.cell? ⟨b,off+1,none⟩=some (.string nn0)∧w'.cell? ⟨b,off+2,none⟩=some (.int .i64 uu0)∧w'.cell? ⟨b,off+3,none⟩=some (.int .i64 tk0)∧w'.cell? ⟨b,off+4,none⟩=some (.slice ta0 tn0 tq0)∧w'.cell? ⟨b,off+5,none⟩=some (.int .i64 fk0)∧w'.cell? ⟨b,off+6,none⟩=some (.slice fa0 fn0 fq0)∧w'.cell? ⟨b,off+7,none⟩=some (.int .i64 ll0)∧w'.cell? ⟨b,off+8,none⟩=some (.slice a0 m0 q0)) (by kernel_rfl) ?_ (fun hH0=>?_)
  · exact⟨ag fE rfl,ag fE rfl,ag fE rfl,ag fE rfl,c0_,c1_,c2_,c3_,c4_,c5_,c6_,c7_,c8_⟩
  obtain⟨U1,hU,hb,zU1a,zU1b⟩:=bD VV;rw[hU] at hH0 ⊢;replace fE:=af fE hb;replace fR:=af fR hb;replace c0_:=ah hb c0_;replace c1_:=ah hb c1_;replace c2_:=ah hb c2_;replace c3_:=ah hb c3_;replace c4_:=ah hb c4_;replace c5_:=ah hb c5_;replace c6_:=ah hb c6_;replace c7_:=ah hb c7_;replace c8_:=ah hb c8_;replace fC:=zq (aj fC.out hb);replace hT:=zq (hT.out.below hb);rw[zV] at zU1a zU1b;clear hU hb hVV zV;refine hwt 0 gi (.slice xa xn xq) hH0 ?_ ?_
  · intro w' hSw;dsimp only[gi];go_simp
  try simp only[gi,hwA]
  refine hwt 1 gj (.pointer (some ⟨w.heap.size,1,none⟩)) hH0 ?_ ?_
  · intro w' hSw;dsimp only[gj];go_simp
  try simp only[gj,hwA]
  refine hwt 2 gk (.string nm) hH0 ?_ ?_
  · intro w' hSw;dsimp only[gk];go_simp
  try simp only[gk,hwA]
  refine hwt 3 gm (.pointer (some ⟨w.heap.size,3,none⟩)) hH0 ?_ ?_
  · intro w' hSw;dsimp only[gm];go_simp
  try simp only[gm,hwA]
  refine hwt 4 gn (.agg #[.int .i64 tk,.slice ta tn tq]) hH0 ?_ ?_
  · intro w' hSw;dsimp only[gn];go_simp
  try simp only[gn,hwA]
  refine hwt 6 gp (.pointer (some ⟨w.heap.size,8,none⟩)) hH0 ?_ ?_
  · intro w' hSw;dsimp only[gp];go_simp
  try simp only[gp,hwA]
  refine hwt 7 gq (.slice (some ⟨b,off,none⟩) 1 cq) hH0 ?_ ?_
  · intro w' hSw;dsimp only[gq];go_simp
  try simp only[gq,hwA]
  refine hwt 8 gr (.pointer (some ⟨b,off,none⟩)) hH0 ?_ ?_
  · intro w' hSw;dsimp only[gr];go_simp
  try simp only[gr,hwA]
  refine hwt 9 gu (.agg #[.int .i64 kk0,.string nn0,.int .i64 uu0,.int .i64 tk0,.slice ta0 tn0 tq0,.int .i64 fk0,.slice fa0 fn0 fq0,.int .i64 ll0,.slice a0 m0 q0]) hH0 ?_ ?_
  · intro w' hSw;dsimp only[gu];go_simp
  try simp only[gu,hwA]
  refine wpAnyH_ready (rs:= [5,14]) (by kernel_rfl) (by simp) ?_;refine(AllReadyH.cons (o:=dj) rfl (fun K hK=>?_) (AllReadyH.cons (o:=bQ) rfl (fun K hK=>?_) AllReadyH.nil))
  ·skip
   dsimp only[dj];go_simp
   go_at_call 109
   refine(HM.out _ fC.out).mono ?_;rintro e X1 ⟨xa2,xm2,xq2,rfl,hcx,hb⟩;have hX':Hid (aE (fun _=>True) X1 (l ++ [⟨nm,ty⟩]) (.slice (some xa2) xm2 xq2)):=zq hcx;clear hcx
   go_wp2_with fail
   have zX1:U1.heap.size≤X1.heap.size:=hb.size;replace fE:=af fE hb;replace fR:=af fR hb;replace c0_:=ah hb c0_;replace c1_:=ah hb c1_;replace c2_:=ah hb c2_;replace c3_:=ah hb c3_;replace c4_:=ah hb c4_;replace c5_:=ah hb c5_;replace c6_:=ah hb c6_;replace c7_:=ah hb c7_;replace c8_:=ah hb c8_;replace fC:=zq (aj fC.out hb);replace hT:=zq (hT.out.below hb);have hX:=hX';clear hX';refine hK.out _ _ ⟨ag fE rfl,ag fE rfl,ag fE rfl,ag fE rfl,c0_,c1_,c2_,c3_,c4_,c5_,c6_,c7_,c8_⟩ (fun hH1=>?_);clear hK K hH0 hb
   try simp only[dj,hwA]
   refine wpAnyH_ready (rs:= [10,14]) (by kernel_rfl) (by simp) ?_;refine(AllReadyH.cons (o:=bM) rfl (fun K hK=>?_) (AllReadyH.cons (o:=bQ) rfl (fun K hK=>?_) AllReadyH.nil))
   ·skip
    dsimp only[bM];go_simp
    go_at_call 112
    refine(IH.out _ _ _ fC.out hX.out (HTK.out.below fC.out) ⟨_,_,_,rfl⟩).mono ?_;rintro e X2 ⟨kt,at_,nt,qt,bt,tt,rfl,hbt,htt,hot,hb⟩;rw[HCO.out] at hbt hot;obtain rfl:bt=false:=hbt;have hN':Hid (ao (fun b=>X1.heap.size≤b∧b<X2.heap.size) X2 tt (.agg #[.int .i64 kt,.slice at_ nt qt])):=zq (htt.move (.weaken fun b h1 h2=>⟨h1.elim False.elim id,h2⟩));clear htt hot
    go_wp2_with fail
    have zX2:X1.heap.size≤X2.heap.size:=hb.size;replace fE:=af fE hb;replace fR:=af fR hb;replace c0_:=ah hb c0_;replace c1_:=ah hb c1_;replace c2_:=ah hb c2_;replace c3_:=ah hb c3_;replace c4_:=ah hb c4_;replace c5_:=ah hb c5_;replace c6_:=ah hb c6_;replace c7_:=ah hb c7_;replace c8_:=ah hb c8_;replace fC:=zq (aj fC.out hb);replace hT:=zq (hT.out.below hb);replace hX:=zq (hX.out.below hb);have hN:=hN';clear hN';refine hK.out _ _ ⟨ag fE rfl,ag fE rfl,ag fE rfl,ag fE rfl,c0_,c1_,c2_,c3_,c4_,c5_,c6_,c7_,c8_⟩ (fun hH2=>?_);clear hK K hH1 hb
    try simp only[bM,hwA]
    refine hwt 11 bN (.tuple #[.agg #[.int .i64 kt,.slice at_ nt qt],.bool false]) hH2 ?_ ?_
    · intro w' hSw;dsimp only[bN];go_simp
    try simp only[bN,hwA]
    refine hwt 12 bO (.agg #[.int .i64 kt,.slice at_ nt qt]) hH2 ?_ ?_
    · intro w' hSw;dsimp only[bO];go_simp
    try simp only[bO,hwA]
    refine hwt 13 bP (.bool false) hH2 ?_ ?_
    · intro w' hSw;dsimp only[bP];go_simp
    try simp only[bP,hwA]
    refine hwr 14 bQ (fun K hK=>?_)
    dsimp only[bQ];go_simp
    (try go_wp2_with fail);obtain⟨X3,hXq,hb,fV,zX3a,zX3b⟩:=aU X2 (.cells #[.int .i64 0,.slice none 0 0] 25);rw[hXq];replace fE:=af fE hb;replace fR:=af fR hb;replace c0_:=ah hb c0_;replace c1_:=ah hb c1_;replace c2_:=ah hb c2_;replace c3_:=ah hb c3_;replace c4_:=ah hb c4_;replace c5_:=ah hb c5_;replace c6_:=ah hb c6_;replace c7_:=ah hb c7_;replace c8_:=ah hb c8_;replace fC:=zq (aj fC.out hb);replace hT:=zq (hT.out.below hb);replace hX:=zq (hX.out.below hb);replace hN:=zq (hN.out.below hb);refine hK.out _ _ ⟨ag fE rfl,ag fE rfl,ag fE rfl,ag fE rfl,c0_,c1_,c2_,c3_,c4_,c5_,c6_,c7_,c8_⟩ (fun hH3=>?_);clear hK K hH2 hb hXq
    try simp only[bQ,hwA]
    refine hwr 15 bR (fun K hK=>?_);obtain⟨r0,r1,rf0,rf1⟩:=co fV
    dsimp only[bR];go_simp
    (try go_wp2_with fail);have hQq:=bw fV (.int .i64 kt) (.slice at_ nt qt);clear fV r0 rf0 r1 rf1;obtain⟨X4,hXq,hsq,fV,zX4a,zX4b⟩:=hQq;rw[hXq];replace fE:=hsq.blk (by omega) fE;replace fR:=hsq.blk (by omega) fR;replace c0_:=hsq.cell (by show b≠X2.heap.size;omega) c0_;replace c1_:=hsq.cell (by show b≠X2.heap.size;omega) c1_;replace c2_:=hsq.cell (by show b≠X2.heap.size;omega) c2_;replace c3_:=hsq.cell (by show b≠X2.heap.size;omega) c3_;replace c4_:=hsq.cell (by show b≠X2.heap.size;omega) c4_;replace c5_:=hsq.cell (by show b≠X2.heap.size;omega) c5_;replace c6_:=hsq.cell (by show b≠X2.heap.size;omega) c6_;replace c7_:=hsq.cell (by show b≠X2.heap.size;omega) c7_;replace c8_:=hsq.cell (by show b≠X2.heap.size;omega) c8_;replace fC:=zq (hsq.bel fC.out (by omega));replace hT:=zq (hsq.rep (fun b hb=>by have:b<w.heap.size:=hb;omega) hT.out);replace hN:=zq (hsq.rep (fun b hb=>by have h1:X1.heap.size≤b:=hb.1;have h2:b<X2.heap.size:=hb.2;omega) hN.out);refine hK.out _ _ ⟨ag fE rfl,ag fE rfl,ag fE rfl,ag fE rfl,c0_,c1_,c2_,c3_,c4_,c5_,c6_,c7_,c8_⟩ (fun hH4=>?_);clear hK K hH3 hsq hXq hX
    try simp only[bR,hwA]
    refine hwt 16 bS (.bool false) hH4 ?_ ?_
    · intro w' hSw;dsimp only[bS];go_simp
    try simp only[bS,hwA]
    refine wpAnyH_done (by kernel_rfl) ?_ _;refine NoPanic.normal ?_;clear hH4;obtain⟨r0,r1⟩:=blk2 fR;have rf0:=al fR 0;have rf1:=al fR 1
    go_wp2_with fail
    have hY:((X4.setCell ⟨w.heap.size+1,0,none⟩ (.int .i64 0)).setCell ⟨w.heap.size+1,1,none⟩ (.slice none 0 0)).heap[w.heap.size+1]?=some (.cells #[.int .i64 0,.slice none 0 0] 25 (0,0)):=aI (aI fR rfl) rfl;obtain⟨rc0,rc1⟩:=blk2 hY;refine bodyPost_ret (v:=.tuple #[.agg #[.int .i64 0,.slice none 0 0],.bool false]) (by simp[results,Tryz.results112,go_sem,rc0,rc1]) rfl ?_
    exact⟨_,_,_,_,_,_,rfl,by rw[HO.out,eh HCO.out];rfl,ao.zeroG,(by rw[HO.out,eh HCO.out];intro s h;simp at h),(fC.out.setCell (p:=⟨w.heap.size+1,0,none⟩) (by show w.heap.size≤w.heap.size+1;omega) _).setCell (p:=⟨w.heap.size+1,1,none⟩) (by show w.heap.size≤w.heap.size+1;omega) _⟩
   ·skip
    dsimp only[bQ];go_simp
    (try go_wp2_with fail);obtain⟨X5,hXq,hb,fV,zX5a,zX5b⟩:=aU X1 (.cells #[.int .i64 0,.slice none 0 0] 25);rw[hXq];replace fE:=af fE hb;replace fR:=af fR hb;replace c0_:=ah hb c0_;replace c1_:=ah hb c1_;replace c2_:=ah hb c2_;replace c3_:=ah hb c3_;replace c4_:=ah hb c4_;replace c5_:=ah hb c5_;replace c6_:=ah hb c6_;replace c7_:=ah hb c7_;replace c8_:=ah hb c8_;replace fC:=zq (aj fC.out hb);replace hT:=zq (hT.out.below hb);replace hX:=zq (hX.out.below hb);refine hK.out _ _ ⟨ag fE rfl,ag fE rfl,ag fE rfl,ag fE rfl,c0_,c1_,c2_,c3_,c4_,c5_,c6_,c7_,c8_⟩ (fun hH2=>?_);clear hK K hH1 hb hXq
    try simp only[bQ,hwA]
    refine hwr 10 bM (fun K hK=>?_)
    dsimp only[bM];go_simp
    go_at_call 112
    refine(IH.out _ _ _ fC.out hX.out (HTK.out.below fC.out) ⟨_,_,_,rfl⟩).mono ?_;rintro e X6 ⟨kt,at_,nt,qt,bt,tt,rfl,hbt,htt,hot,hb⟩;rw[HCO.out] at hbt hot;obtain rfl:bt=false:=hbt;have hN':Hid (ao (fun b=>X5.heap.size≤b∧b<X6.heap.size) X6 tt (.agg #[.int .i64 kt,.slice at_ nt qt])):=zq (htt.move (.weaken fun b h1 h2=>⟨h1.elim False.elim id,h2⟩));clear htt hot
    go_wp2_with fail
    have zX6:X5.heap.size≤X6.heap.size:=hb.size;replace fE:=af fE hb;replace fR:=af fR hb;replace c0_:=ah hb c0_;replace c1_:=ah hb c1_;replace c2_:=ah hb c2_;replace c3_:=ah hb c3_;replace c4_:=ah hb c4_;replace c5_:=ah hb c5_;replace c6_:=ah hb c6_;replace c7_:=ah hb c7_;replace c8_:=ah hb c8_;replace fC:=zq (aj fC.out hb);replace hT:=zq (hT.out.below hb);replace hX:=zq (hX.out.below hb);replace fV:=af fV hb;have hN:=hN';clear hN';refine hK.out _ _ ⟨ag fE rfl,ag fE rfl,ag fE rfl,ag fE rfl,c0_,c1_,c2_,c3_,c4_,c5_,c6_,c7_,c8_⟩ (fun hH5=>?_);clear hK K hH2 hb
    try simp only[bM,hwA]
    refine hwt 11 bN (.tuple #[.agg #[.int .i64 kt,.slice at_ nt qt],.bool false]) hH5 ?_ ?_
    · intro w' hSw;dsimp only[bN];go_simp
    try simp only[bN,hwA]
    refine hwt 12 bO (.agg #[.int .i64 kt,.slice at_ nt qt]) hH5 ?_ ?_
    · intro w' hSw;dsimp only[bO];go_simp
    try simp only[bO,hwA]
    refine hwt 13 bP (.bool false) hH5 ?_ ?_
    · intro w' hSw;dsimp only[bP];go_simp
    try simp only[bP,hwA]
    refine hwr 15 bR (fun K hK=>?_);obtain⟨r0,r1,rf0,rf1⟩:=co fV
    dsimp only[bR];go_simp
    (try go_wp2_with fail);have hQq:=bw fV (.int .i64 kt) (.slice at_ nt qt);clear fV r0 rf0 r1 rf1;obtain⟨X7,hXq,hsq,fV,zX7a,zX7b⟩:=hQq;rw[hXq];replace fE:=hsq.blk (by omega) fE;replace fR:=hsq.blk (by omega) fR;replace c0_:=hsq.cell (by show b≠X1.heap.size;omega) c0_;replace c1_:=hsq.cell (by show b≠X1.heap.size;omega) c1_;replace c2_:=hsq.cell (by show b≠X1.heap.size;omega) c2_;replace c3_:=hsq.cell (by show b≠X1.heap.size;omega) c3_;replace c4_:=hsq.cell (by show b≠X1.heap.size;omega) c4_;replace c5_:=hsq.cell (by show b≠X1.heap.size;omega) c5_;replace c6_:=hsq.cell (by show b≠X1.heap.size;omega) c6_;replace c7_:=hsq.cell (by show b≠X1.heap.size;omega) c7_;replace c8_:=hsq.cell (by show b≠X1.heap.size;omega) c8_;replace fC:=zq (hsq.bel fC.out (by omega));replace hT:=zq (hsq.rep (fun b hb=>by have:b<w.heap.size:=hb;omega) hT.out);replace hN:=zq (hsq.rep (fun b hb=>by have h1:X5.heap.size≤b:=hb.1;have h2:b<X6.heap.size:=hb.2;omega) hN.out);refine hK.out _ _ ⟨ag fE rfl,ag fE rfl,ag fE rfl,ag fE rfl,c0_,c1_,c2_,c3_,c4_,c5_,c6_,c7_,c8_⟩ (fun hH6=>?_);clear hK K hH5 hsq hXq hX
    try simp only[bR,hwA]
    refine hwt 16 bS (.bool false) hH6 ?_ ?_
    · intro w' hSw;dsimp only[bS];go_simp
    try simp only[bS,hwA]
    refine wpAnyH_done (by kernel_rfl) ?_ _;refine NoPanic.normal ?_;clear hH6;obtain⟨r0,r1⟩:=blk2 fR;have rf0:=al fR 0;have rf1:=al fR 1
    go_wp2_with fail
    have hY:((X7.setCell ⟨w.heap.size+1,0,none⟩ (.int .i64 0)).setCell ⟨w.heap.size+1,1,none⟩ (.slice none 0 0)).heap[w.heap.size+1]?=some (.cells #[.int .i64 0,.slice none 0 0] 25 (0,0)):=aI (aI fR rfl) rfl;obtain⟨rc0,rc1⟩:=blk2 hY;refine bodyPost_ret (v:=.tuple #[.agg #[.int .i64 0,.slice none 0 0],.bool false]) (by simp[results,Tryz.results112,go_sem,rc0,rc1]) rfl ?_
    exact⟨_,_,_,_,_,_,rfl,by rw[HO.out,eh HCO.out];rfl,ao.zeroG,(by rw[HO.out,eh HCO.out];intro s h;simp at h),(fC.out.setCell (p:=⟨w.heap.size+1,0,none⟩) (by show w.heap.size≤w.heap.size+1;omega) _).setCell (p:=⟨w.heap.size+1,1,none⟩) (by show w.heap.size≤w.heap.size+1;omega) _⟩
  ·skip
   dsimp only[bQ];go_simp
   (try go_wp2_with fail);obtain⟨X8,hXq,hb,fV,zX8a,zX8b⟩:=aU U1 (.cells #[.int .i64 0,.slice none 0 0] 25);rw[hXq];replace fE:=af fE hb;replace fR:=af fR hb;replace c0_:=ah hb c0_;replace c1_:=ah hb c1_;replace c2_:=ah hb c2_;replace c3_:=ah hb c3_;replace c4_:=ah hb c4_;replace c5_:=ah hb c5_;replace c6_:=ah hb c6_;replace c7_:=ah hb c7_;replace c8_:=ah hb c8_;replace fC:=zq (aj fC.out hb);replace hT:=zq (hT.out.below hb);refine hK.out _ _ ⟨ag fE rfl,ag fE rfl,ag fE rfl,ag fE rfl,c0_,c1_,c2_,c3_,c4_,c5_,c6_,c7_,c8_⟩ (fun hH1=>?_);clear hK K hH0 hb hXq
   try simp only[bQ,hwA]
   refine hwr 5 dj (fun K hK=>?_)
   dsimp only[dj];go_simp
   go_at_call 109
   refine(HM.out _ fC.out).mono ?_;rintro e X9 ⟨xa2,xm2,xq2,rfl,hcx,hb⟩;have hX':Hid (aE (fun _=>True) X9 (l ++ [⟨nm,ty⟩]) (.slice (some xa2) xm2 xq2)):=zq hcx;clear hcx
   go_wp2_with fail
   have zX9:X8.heap.size≤X9.heap.size:=hb.size;replace fE:=af fE hb;replace fR:=af fR hb;replace c0_:=ah hb c0_;replace c1_:=ah hb c1_;replace c2_:=ah hb c2_;replace c3_:=ah hb c3_;replace c4_:=ah hb c4_;replace c5_:=ah hb c5_;replace c6_:=ah hb c6_;replace c7_:=ah hb c7_;replace c8_:=ah hb c8_;replace fC:=zq (aj fC.out hb);replace hT:=zq (hT.out.below hb);replace fV:=af fV hb;have hX:=hX';clear hX';refine hK.out _ _ ⟨ag fE rfl,ag fE rfl,ag fE rfl,ag fE rfl,c0_,c1_,c2_,c3_,c4_,c5_,c6_,c7_,c8_⟩ (fun hH7=>?_);clear hK K hH1 hb
   try simp only[dj,hwA]
   refine hwr 10 bM (fun K hK=>?_)
   dsimp only[bM];go_simp
   go_at_call 112
   refine(IH.out _ _ _ fC.out hX.out (HTK.out.below fC.out) ⟨_,_,_,rfl⟩).mono ?_;rintro e X10 ⟨kt,at_,nt,qt,bt,tt,rfl,hbt,htt,hot,hb⟩;rw[HCO.out] at hbt hot;obtain rfl:bt=false:=hbt;have hN':Hid (ao (fun b=>X9.heap.size≤b∧b<X10.heap.size) X10 tt (.agg #[.int .i64 kt,.slice at_ nt qt])):=zq (htt.move (.weaken fun b h1 h2=>⟨h1.elim False.elim id,h2⟩));clear htt hot
   go_wp2_with fail
   have zX10:X9.heap.size≤X10.heap.size:=hb.size;replace fE:=af fE hb;replace fR:=af fR hb;replace c0_:=ah hb c0_;replace c1_:=ah hb c1_;replace c2_:=ah hb c2_;replace c3_:=ah hb c3_;replace c4_:=ah hb c4_;replace c5_:=ah hb c5_;replace c6_:=ah hb c6_;replace c7_:=ah hb c7_;replace c8_:=ah hb c8_;replace fC:=zq (aj fC.out hb);replace hT:=zq (hT.out.below hb);replace fV:=af fV hb;replace hX:=zq (hX.out.below hb);have hN:=hN';clear hN';refine hK.out _ _ ⟨ag fE rfl,ag fE rfl,ag fE rfl,ag fE rfl,c0_,c1_,c2_,c3_,c4_,c5_,c6_,c7_,c8_⟩ (fun hH8=>?_);clear hK K hH7 hb
   try simp only[bM,hwA]
   refine hwt 11 bN (.tuple #[.agg #[.int .i64 kt,.slice at_ nt qt],.bool false]) hH8 ?_ ?_
   · intro w' hSw;dsimp only[bN];go_simp
   try simp only[bN,hwA]
   refine hwt 12 bO (.agg #[.int .i64 kt,.slice at_ nt qt]) hH8 ?_ ?_
   · intro w' hSw;dsimp only[bO];go_simp
   try simp only[bO,hwA]
   refine hwt 13 bP (.bool false) hH8 ?_ ?_
   · intro w' hSw;dsimp only[bP];go_simp
   try simp only[bP,hwA]
   refine hwr 15 bR (fun K hK=>?_);obtain⟨r0,r1,rf0,rf1⟩:=co fV
   dsimp only[bR];go_simp
   (try go_wp2_with fail);have hQq:=bw fV (.int .i64 kt) (.slice at_ nt qt);clear fV r0 rf0 r1 rf1;obtain⟨X11,hXq,hsq,fV,zX11a,zX11b⟩:=hQq;rw[hXq];replace fE:=hsq.blk (by omega) fE;replace fR:=hsq.blk (by omega) fR;replace c0_:=hsq.cell (by show b≠U1.heap.size;omega) c0_;replace c1_:=hsq.cell (by show b≠U1.heap.size;omega) c1_;replace c2_:=hsq.cell (by show b≠U1.heap.size;omega) c2_;replace c3_:=hsq.cell (by show b≠U1.heap.size;omega) c3_;replace c4_:=hsq.cell (by show b≠U1.heap.size;omega) c4_;replace c5_:=hsq.cell (by show b≠U1.heap.size;omega) c5_;replace c6_:=hsq.cell (by show b≠U1.heap.size;omega) c6_;replace c7_:=hsq.cell (by show b≠U1.heap.size;omega) c7_;replace c8_:=hsq.cell (by show b≠U1.heap.size;omega) c8_;replace fC:=zq (hsq.bel fC.out (by omega));replace hT:=zq (hsq.rep (fun b hb=>by have:b<w.heap.size:=hb;omega) hT.out);replace hN:=zq (hsq.rep (fun b hb=>by have h1:X9.heap.size≤b:=hb.1;have h2:b<X10.heap.size:=hb.2;omega) hN.out);refine hK.out _ _ ⟨ag fE rfl,ag fE rfl,ag fE rfl,ag fE rfl,c0_,c1_,c2_,c3_,c4_,c5_,c6_,c7_,c8_⟩ (fun hH9=>?_);clear hK K hH8 hsq hXq hX
   try simp only[bR,hwA]
   refine hwt 16 bS (.bool false) hH9 ?_ ?_
   · intro w' hSw;dsimp only[bS];go_simp
   try simp only[bS,hwA]
   refine wpAnyH_done (by kernel_rfl) ?_ _;refine NoPanic.normal ?_;clear hH9;obtain⟨r0,r1⟩:=blk2 fR;have rf0:=al fR 0;have rf1:=al fR 1
   go_wp2_with fail
   have hY:((X11.setCell ⟨w.heap.size+1,0,none⟩ (.int .i64 0)).setCell ⟨w.heap.size+1,1,none⟩ (.slice none 0 0)).heap[w.heap.size+1]?=some (.cells #[.int .i64 0,.slice none 0 0] 25 (0,0)):=aI (aI fR rfl) rfl;obtain⟨rc0,rc1⟩:=blk2 hY;refine bodyPost_ret (v:=.tuple #[.agg #[.int .i64 0,.slice none 0 0],.bool false]) (by simp[results,Tryz.results112,go_sem,rc0,rc1]) rfl ?_
   exact⟨_,_,_,_,_,_,rfl,by rw[HO.out,eh HCO.out];rfl,ao.zeroG,(by rw[HO.out,eh HCO.out];intro s h;simp at h),(fC.out.setCell (p:=⟨w.heap.size+1,0,none⟩) (by show w.heap.size≤w.heap.size+1;omega) _).setCell (p:=⟨w.heap.size+1,1,none⟩) (by show w.heap.size≤w.heap.size+1;omega) _⟩
theorem nU (G:Nat→Prop)(nm:ByteArray)(u lb tk fk:Int)(ty src:Ty)(t1:Tm)(l:List Bd)(xa ta fa ca:Option Addr)(xn xq tn tq fn fq cm cq:Nat)(w:World)
    (he:ax G w (.mk 5 nm u ty src lb [t1]) (.agg #[.int .i64 5,.string nm,.int .i64 u,.int .i64 tk,.slice ta tn tq,.int .i64 fk,.slice fa fn fq,.int .i64 lb,.slice ca cm cq])) (hv:ty.valid=true)
    (HM:Hid (∀W,Below w.heap.size w W→Calls Tryz.prog 109 #[.slice xa xn xq,.string nm,.agg #[.int .i64 tk,.slice ta tn tq]] W (RetC (l ++ [⟨nm,ty⟩]) W)))
    (IH:Hid (∀(W:World) (c' y':Value),Below w.heap.size w W→aE (fun _=>True) W (l ++ [⟨nm,ty⟩]) c'→ax G W t1 y'→(∃a m q,c' = .slice (some a) m q)→Calls Tryz.prog 112 #[c',y'] W (bH ((t1.typS (l ++ [⟨nm,ty⟩])).map S.ty) W)))
    (h1:S) (hv1:h1.vd=true) (hco:t1.typS (l ++ [⟨nm,ty⟩])=some h1) :
    Calls Tryz.prog 112 #[.slice xa xn xq,.agg #[.int .i64 5,.string nm,.int .i64 u,.int .i64 tk,.slice ta tn tq,.int .i64 fk,.slice fa fn fq,.int .i64 lb,.slice ca cm cq]] w (bH (((Tm.mk 5 nm u ty src lb [t1]).typS l).map S.ty) w):=by
  obtain⟨-,-,-,-,-,-,-,-,hm,hnm,hmq,hqm,hty,hsrc,hks⟩:=he.parts;simp only[Tm.type,Tm.src,Tm.kids,List.length_cons,List.length_nil] at hm hty hsrc hks;obtain rfl:cm=1:=by omega
  obtain⟨b,off,kk0,nn0,uu0,tk0,ta0,tn0,tq0,fk0,fa0,fn0,fq0,ll0,a0,m0,q0,rfl,hlb,e0,e1,e2,e3,e4,e5,e6,e7,e8,ht⟩:=hks.at (Below.refl _ _) (i:=0) (by simp);simp only[Nat.zero_mul,Nat.add_zero] at e0 e1 e2 e3 e4 e5 e6 e7 e8;have HTK:=zq (show ax G w t1 _ from ht);have HTY:=zq hty.old;have HCN:=zq (Ty.cnt_valid hv);have HVT:=zq hv;have HCO:=zq hco;have HV1:=zq hv1;clear hv1;obtain⟨O,hO⟩ : ∃O:Option Ty,O=(((Tm.mk 5 nm u ty src lb [t1]).typS l).map S.ty):=⟨_,rfl⟩
  rw[←hO];have HO:=zq hO;clear hO he hm hty hsrc hks ht hv hco
  go_enter Tryz.func112,Tryz.ntmps112
  go_wp2_with fail
  obtain⟨VV,hVV⟩ : ∃X,X=((w.alloc (.cells #[.int .i64 5,.string nm,.int .i64 u,.int .i64 tk,.slice ta tn tq,.int .i64 fk,.slice fa fn fq,.int .i64 lb,.slice (some ⟨b,off,none⟩) 1 cq] 28)).alloc (.cells #[.int .i64 0,.slice none 0 0] 25)):=⟨_,rfl⟩
  have fE:VV.heap[w.heap.size]?=some (.cells #[.int .i64 5,.string nm,.int .i64 u,.int .i64 tk,.slice ta tn tq,.int .i64 fk,.slice fa fn fq,.int .i64 lb,.slice (some ⟨b,off,none⟩) 1 cq] 28 (0,0)):=by rw[hVV];exact af (aB rfl) ai
  have fR:VV.heap[w.heap.size+1]?=some (.cells #[.int .i64 0,.slice none 0 0] 25 (0,0)):=by rw[hVV];exact aB (by simp)
  have c0_:VV.cell? ⟨b,off,none⟩=some (.int .i64 kk0):=by rw[hVV];exact ah ai (ah ai e0)
  have c1_:VV.cell? ⟨b,off+1,none⟩=some (.string nn0):=by rw[hVV];exact ah ai (ah ai e1)
  have c2_:VV.cell? ⟨b,off+2,none⟩=some (.int .i64 uu0):=by rw[hVV];exact ah ai (ah ai e2)
  have c3_:VV.cell? ⟨b,off+3,none⟩=some (.int .i64 tk0):=by rw[hVV];exact ah ai (ah ai e3)
  have c4_:VV.cell? ⟨b,off+4,none⟩=some (.slice ta0 tn0 tq0):=by rw[hVV];exact ah ai (ah ai e4)
  have c5_:VV.cell? ⟨b,off+5,none⟩=some (.int .i64 fk0):=by rw[hVV];exact ah ai (ah ai e5)
  have c6_:VV.cell? ⟨b,off+6,none⟩=some (.slice fa0 fn0 fq0):=by rw[hVV];exact ah ai (ah ai e6)
  have c7_:VV.cell? ⟨b,off+7,none⟩=some (.int .i64 ll0):=by rw[hVV];exact ah ai (ah ai e7)
  have c8_:VV.cell? ⟨b,off+8,none⟩=some (.slice a0 m0 q0):=by rw[hVV];exact ah ai (ah ai e8)
  have fC:Hid (Below w.heap.size w VV):=by rw[hVV];exact zq (aj ai ai)
  have hT:Hid (ao (· < w.heap.size) VV ty (.agg #[.int .i64 tk,.slice ta tn tq])):=by rw[hVV];exact zq ((HTY.out.below ai).below ai)
  rw[←hVV];have zV:VV.heap.size=_:=congrArg (fun X:World=>X.heap.size) hVV;simp only[World.size_alloc] at zV;refine wp_region_noPanic ?_;refine wp_region_held_drew (S:=fun w'=>w'.cell? ⟨w.heap.size,1,none⟩=some (.string nm)∧w'.cell? ⟨w.heap.size,3,none⟩=some (.int .i64 tk)∧w'.cell? ⟨w.heap.size,4,none⟩=some (.slice ta tn tq)∧w'.cell? ⟨w.heap.size,8,none⟩=some (.slice (some ⟨b,off,none⟩) 1 cq)∧w'.cell? ⟨b,off,none⟩=some (.int .i64 kk0)∧w'.cell? ⟨b,off+1,none⟩=some (.string nn0)∧w'.cell? ⟨b,off+2,none⟩=some (.int .i64 uu0)∧w'.cell? ⟨b,off+3,none⟩=some (.int .i64 tk0)∧w'.cell? ⟨b,off+4,none⟩=some (.slice ta0 tn0 tq0)∧w'.cell? ⟨b,off+5,none⟩=some (.int .i64 fk0)∧w'.cell? ⟨b,off+6,none⟩=some (.slice fa0 fn0 fq0)∧w'.cell? ⟨b,off+7,none⟩=some (.int .i64 ll0)∧w'.cell? ⟨b,off+8,none⟩=some (.slice a0 m0 q0)) (by kernel_rfl) ?_ (fun hH0=>?_)
  · exact⟨ag fE rfl,ag fE rfl,ag fE rfl,ag fE rfl,c0_,c1_,c2_,c3_,c4_,c5_,c6_,c7_,c8_⟩
  obtain⟨U2,hU,hb,zU2a,zU2b⟩:=bD VV;rw[hU] at hH0 ⊢;replace fE:=af fE hb;replace fR:=af fR hb;replace c0_:=ah hb c0_;replace c1_:=ah hb c1_;replace c2_:=ah hb c2_;replace c3_:=ah hb c3_;replace c4_:=ah hb c4_;replace c5_:=ah hb c5_;replace c6_:=ah hb c6_;replace c7_:=ah hb c7_;replace c8_:=ah hb c8_;replace fC:=zq (aj fC.out hb);replace hT:=zq (hT.out.below hb);rw[zV] at zU2a zU2b;clear hU hb hVV zV;refine hwt 0 gi (.slice xa xn xq) hH0 ?_ ?_
  · intro w' hSw;dsimp only[gi];go_simp
  try simp only[gi,hwA]
  refine hwt 1 gj (.pointer (some ⟨w.heap.size,1,none⟩)) hH0 ?_ ?_
  · intro w' hSw;dsimp only[gj];go_simp
  try simp only[gj,hwA]
  refine hwt 2 gk (.string nm) hH0 ?_ ?_
  · intro w' hSw;dsimp only[gk];go_simp
  try simp only[gk,hwA]
  refine hwt 3 gm (.pointer (some ⟨w.heap.size,3,none⟩)) hH0 ?_ ?_
  · intro w' hSw;dsimp only[gm];go_simp
  try simp only[gm,hwA]
  refine hwt 4 gn (.agg #[.int .i64 tk,.slice ta tn tq]) hH0 ?_ ?_
  · intro w' hSw;dsimp only[gn];go_simp
  try simp only[gn,hwA]
  refine hwt 6 gp (.pointer (some ⟨w.heap.size,8,none⟩)) hH0 ?_ ?_
  · intro w' hSw;dsimp only[gp];go_simp
  try simp only[gp,hwA]
  refine hwt 7 gq (.slice (some ⟨b,off,none⟩) 1 cq) hH0 ?_ ?_
  · intro w' hSw;dsimp only[gq];go_simp
  try simp only[gq,hwA]
  refine hwt 8 gr (.pointer (some ⟨b,off,none⟩)) hH0 ?_ ?_
  · intro w' hSw;dsimp only[gr];go_simp
  try simp only[gr,hwA]
  refine hwt 9 gu (.agg #[.int .i64 kk0,.string nn0,.int .i64 uu0,.int .i64 tk0,.slice ta0 tn0 tq0,.int .i64 fk0,.slice fa0 fn0 fq0,.int .i64 ll0,.slice a0 m0 q0]) hH0 ?_ ?_
  · intro w' hSw;dsimp only[gu];go_simp
  try simp only[gu,hwA]
  refine wpAnyH_ready (rs:= [5,14]) (by kernel_rfl) (by simp) ?_;refine(AllReadyH.cons (o:=dj) rfl (fun K hK=>?_) (AllReadyH.cons (o:=bQ) rfl (fun K hK=>?_) AllReadyH.nil))
  ·skip
   dsimp only[dj];go_simp
   go_at_call 109
   refine(HM.out _ fC.out).mono ?_;rintro e X1 ⟨xa2,xm2,xq2,rfl,hcx,hb⟩;have hX':Hid (aE (fun _=>True) X1 (l ++ [⟨nm,ty⟩]) (.slice (some xa2) xm2 xq2)):=zq hcx;clear hcx
   go_wp2_with fail
   have zX1:U2.heap.size≤X1.heap.size:=hb.size;replace fE:=af fE hb;replace fR:=af fR hb;replace c0_:=ah hb c0_;replace c1_:=ah hb c1_;replace c2_:=ah hb c2_;replace c3_:=ah hb c3_;replace c4_:=ah hb c4_;replace c5_:=ah hb c5_;replace c6_:=ah hb c6_;replace c7_:=ah hb c7_;replace c8_:=ah hb c8_;replace fC:=zq (aj fC.out hb);replace hT:=zq (hT.out.below hb);have hX:=hX';clear hX';refine hK.out _ _ ⟨ag fE rfl,ag fE rfl,ag fE rfl,ag fE rfl,c0_,c1_,c2_,c3_,c4_,c5_,c6_,c7_,c8_⟩ (fun hH1=>?_);clear hK K hH0 hb
   try simp only[dj,hwA]
   refine wpAnyH_ready (rs:= [10,14]) (by kernel_rfl) (by simp) ?_;refine(AllReadyH.cons (o:=bM) rfl (fun K hK=>?_) (AllReadyH.cons (o:=bQ) rfl (fun K hK=>?_) AllReadyH.nil))
   ·skip
    dsimp only[bM];go_simp
    go_at_call 112
    refine(IH.out _ _ _ fC.out hX.out (HTK.out.below fC.out) ⟨_,_,_,rfl⟩).mono ?_;rintro e X2 ⟨kt,at_,nt,qt,bt,tt,rfl,hbt,htt,hot,hb⟩;rw[HCO.out] at hbt hot;obtain rfl:bt=true:=hbt;obtain rfl:tt=h1.ty:=hot _ rfl;have hN':Hid (ao (fun b=>X1.heap.size≤b∧b<X2.heap.size) X2 h1.ty (.agg #[.int .i64 kt,.slice at_ nt qt])):=zq (htt.move (.weaken fun b h1 h2=>⟨h1.elim False.elim id,h2⟩));clear htt hot
    go_wp2_with fail
    have zX2:X1.heap.size≤X2.heap.size:=hb.size;replace fE:=af fE hb;replace fR:=af fR hb;replace c0_:=ah hb c0_;replace c1_:=ah hb c1_;replace c2_:=ah hb c2_;replace c3_:=ah hb c3_;replace c4_:=ah hb c4_;replace c5_:=ah hb c5_;replace c6_:=ah hb c6_;replace c7_:=ah hb c7_;replace c8_:=ah hb c8_;replace fC:=zq (aj fC.out hb);replace hT:=zq (hT.out.below hb);replace hX:=zq (hX.out.below hb);have hN:=hN';clear hN';refine hK.out _ _ ⟨ag fE rfl,ag fE rfl,ag fE rfl,ag fE rfl,c0_,c1_,c2_,c3_,c4_,c5_,c6_,c7_,c8_⟩ (fun hH2=>?_);clear hK K hH1 hb
    try simp only[bM,hwA]
    refine hwt 11 bN (.tuple #[.agg #[.int .i64 kt,.slice at_ nt qt],.bool true]) hH2 ?_ ?_
    · intro w' hSw;dsimp only[bN];go_simp
    try simp only[bN,hwA]
    refine hwt 12 bO (.agg #[.int .i64 kt,.slice at_ nt qt]) hH2 ?_ ?_
    · intro w' hSw;dsimp only[bO];go_simp
    try simp only[bO,hwA]
    refine hwt 13 bP (.bool true) hH2 ?_ ?_
    · intro w' hSw;dsimp only[bP];go_simp
    try simp only[bP,hwA]
    refine hwr 14 bQ (fun K hK=>?_)
    dsimp only[bQ];go_simp
    (try go_wp2_with fail);obtain⟨X3,hXq,hb,fV,zX3a,zX3b⟩:=aU X2 (.cells #[.int .i64 0,.slice none 0 0] 25);rw[hXq];replace fE:=af fE hb;replace fR:=af fR hb;replace c0_:=ah hb c0_;replace c1_:=ah hb c1_;replace c2_:=ah hb c2_;replace c3_:=ah hb c3_;replace c4_:=ah hb c4_;replace c5_:=ah hb c5_;replace c6_:=ah hb c6_;replace c7_:=ah hb c7_;replace c8_:=ah hb c8_;replace fC:=zq (aj fC.out hb);replace hT:=zq (hT.out.below hb);replace hX:=zq (hX.out.below hb);replace hN:=zq (hN.out.below hb);refine hK.out _ _ ⟨ag fE rfl,ag fE rfl,ag fE rfl,ag fE rfl,c0_,c1_,c2_,c3_,c4_,c5_,c6_,c7_,c8_⟩ (fun hH3=>?_);clear hK K hH2 hb hXq
    try simp only[bQ,hwA]
    refine hwr 15 bR (fun K hK=>?_);obtain⟨r0,r1,rf0,rf1⟩:=co fV
    dsimp only[bR];go_simp
    (try go_wp2_with fail);have hQq:=bw fV (.int .i64 kt) (.slice at_ nt qt);clear fV r0 rf0 r1 rf1;obtain⟨X4,hXq,hsq,fV,zX4a,zX4b⟩:=hQq;rw[hXq];replace fE:=hsq.blk (by omega) fE;replace fR:=hsq.blk (by omega) fR;replace c0_:=hsq.cell (by show b≠X2.heap.size;omega) c0_;replace c1_:=hsq.cell (by show b≠X2.heap.size;omega) c1_;replace c2_:=hsq.cell (by show b≠X2.heap.size;omega) c2_;replace c3_:=hsq.cell (by show b≠X2.heap.size;omega) c3_;replace c4_:=hsq.cell (by show b≠X2.heap.size;omega) c4_;replace c5_:=hsq.cell (by show b≠X2.heap.size;omega) c5_;replace c6_:=hsq.cell (by show b≠X2.heap.size;omega) c6_;replace c7_:=hsq.cell (by show b≠X2.heap.size;omega) c7_;replace c8_:=hsq.cell (by show b≠X2.heap.size;omega) c8_;replace fC:=zq (hsq.bel fC.out (by omega));replace hT:=zq (hsq.rep (fun b hb=>by have:b<w.heap.size:=hb;omega) hT.out);replace hN:=zq (hsq.rep (fun b hb=>by have h1:X1.heap.size≤b:=hb.1;have h2:b<X2.heap.size:=hb.2;omega) hN.out);refine hK.out _ _ ⟨ag fE rfl,ag fE rfl,ag fE rfl,ag fE rfl,c0_,c1_,c2_,c3_,c4_,c5_,c6_,c7_,c8_⟩ (fun hH4=>?_);clear hK K hH3 hsq hXq hX
    try simp only[bR,hwA]
    refine hwt 16 bS (.bool true) hH4 ?_ ?_
    · intro w' hSw;dsimp only[bS];go_simp
    try simp only[bS,hwA]
    refine wpAnyH_done (by kernel_rfl) ?_ _;refine NoPanic.normal ?_;clear hH4;have d3:=ag fE (o:=3) rfl;have d4:=ag fE (o:=4) rfl;obtain⟨v0,v1⟩:=blk2 fV;have HT9:=zq (dL _ _ 4 ty h1.ty _ _ _ _ _ _ _ _ _ hT.out hN.out HCN.out (S.cnt_ok HV1.out))
    go_wp2_with fail
    refine HT9.out.mono ?_;rintro e X9 ⟨kr,ar,nr,qr,br,tr,rfl,hbr,htr,hor,hb⟩;have HBR:=zq hbr;have HTR:=zq htr;have HOR:=zq hor;have fR9:=af fR hb;have fC9:=zq (aj fC.out hb);have z9:=hb.size;have lR9:=aC fR;clear hbr htr hor hb d3 d4 v0 v1;obtain⟨r0,r1⟩:=blk2 fR9;have rf0:=al fR9 0;have rf1:=al fR9 1
    go_wp2_with fail
    have hY:((X9.setCell ⟨w.heap.size+1,0,none⟩ (.int .i64 kr)).setCell ⟨w.heap.size+1,1,none⟩ (.slice ar nr qr)).heap[w.heap.size+1]?=some (.cells #[.int .i64 kr,.slice ar nr qr] 25 (0,0)):=aI (aI fR9 rfl) rfl;obtain⟨rc0,rc1⟩:=blk2 hY;refine bodyPost_ret (v:=.tuple #[.agg #[.int .i64 kr,.slice ar nr qr],.bool br]) (by simp[results,Tryz.results112,go_sem,rc0,rc1]) rfl ?_;have hne : ∀b,(False∨X4.heap.size≤b)→b≠w.heap.size+1:=fun b h=>by
      have h1:=h.elim False.elim id
      omega
    have hw0:=fC.out.size
    exact⟨_,_,_,_,_,tr,rfl,by rw[HO.out,ei HVT.out HCO.out];exact HBR.out,(ao.setN (ao.setN HTR.out hne) hne).move (.weaken fun b h _=>.inr (by have h1:=h.elim False.elim id;omega)),(by rw[HO.out,ei HVT.out HCO.out];exact HOR.out),(fC9.out.setCell (p:=⟨w.heap.size+1,0,none⟩) (by show w.heap.size≤w.heap.size+1;omega) _).setCell (p:=⟨w.heap.size+1,1,none⟩) (by show w.heap.size≤w.heap.size+1;omega) _⟩
   ·skip
    dsimp only[bQ];go_simp
    (try go_wp2_with fail);obtain⟨X5,hXq,hb,fV,zX5a,zX5b⟩:=aU X1 (.cells #[.int .i64 0,.slice none 0 0] 25);rw[hXq];replace fE:=af fE hb;replace fR:=af fR hb;replace c0_:=ah hb c0_;replace c1_:=ah hb c1_;replace c2_:=ah hb c2_;replace c3_:=ah hb c3_;replace c4_:=ah hb c4_;replace c5_:=ah hb c5_;replace c6_:=ah hb c6_;replace c7_:=ah hb c7_;replace c8_:=ah hb c8_;replace fC:=zq (aj fC.out hb);replace hT:=zq (hT.out.below hb);replace hX:=zq (hX.out.below hb);refine hK.out _ _ ⟨ag fE rfl,ag fE rfl,ag fE rfl,ag fE rfl,c0_,c1_,c2_,c3_,c4_,c5_,c6_,c7_,c8_⟩ (fun hH2=>?_);clear hK K hH1 hb hXq
    try simp only[bQ,hwA]
    refine hwr 10 bM (fun K hK=>?_)
    dsimp only[bM];go_simp
    go_at_call 112
    refine(IH.out _ _ _ fC.out hX.out (HTK.out.below fC.out) ⟨_,_,_,rfl⟩).mono ?_;rintro e X6 ⟨kt,at_,nt,qt,bt,tt,rfl,hbt,htt,hot,hb⟩;rw[HCO.out] at hbt hot;obtain rfl:bt=true:=hbt;obtain rfl:tt=h1.ty:=hot _ rfl;have hN':Hid (ao (fun b=>X5.heap.size≤b∧b<X6.heap.size) X6 h1.ty (.agg #[.int .i64 kt,.slice at_ nt qt])):=zq (htt.move (.weaken fun b h1 h2=>⟨h1.elim False.elim id,h2⟩));clear htt hot
    go_wp2_with fail
    have zX6:X5.heap.size≤X6.heap.size:=hb.size;replace fE:=af fE hb;replace fR:=af fR hb;replace c0_:=ah hb c0_;replace c1_:=ah hb c1_;replace c2_:=ah hb c2_;replace c3_:=ah hb c3_;replace c4_:=ah hb c4_;replace c5_:=ah hb c5_;replace c6_:=ah hb c6_;replace c7_:=ah hb c7_;replace c8_:=ah hb c8_;replace fC:=zq (aj fC.out hb);replace hT:=zq (hT.out.below hb);replace hX:=zq (hX.out.below hb);replace fV:=af fV hb;have hN:=hN';clear hN';refine hK.out _ _ ⟨ag fE rfl,ag fE rfl,ag fE rfl,ag fE rfl,c0_,c1_,c2_,c3_,c4_,c5_,c6_,c7_,c8_⟩ (fun hH5=>?_);clear hK K hH2 hb
    try simp only[bM,hwA]
    refine hwt 11 bN (.tuple #[.agg #[.int .i64 kt,.slice at_ nt qt],.bool true]) hH5 ?_ ?_
    · intro w' hSw;dsimp only[bN];go_simp
    try simp only[bN,hwA]
    refine hwt 12 bO (.agg #[.int .i64 kt,.slice at_ nt qt]) hH5 ?_ ?_
    · intro w' hSw;dsimp only[bO];go_simp
    try simp only[bO,hwA]
    refine hwt 13 bP (.bool true) hH5 ?_ ?_
    · intro w' hSw;dsimp only[bP];go_simp
    try simp only[bP,hwA]
    refine hwr 15 bR (fun K hK=>?_);obtain⟨r0,r1,rf0,rf1⟩:=co fV
    dsimp only[bR];go_simp
    (try go_wp2_with fail);have hQq:=bw fV (.int .i64 kt) (.slice at_ nt qt);clear fV r0 rf0 r1 rf1;obtain⟨X7,hXq,hsq,fV,zX7a,zX7b⟩:=hQq;rw[hXq];replace fE:=hsq.blk (by omega) fE;replace fR:=hsq.blk (by omega) fR;replace c0_:=hsq.cell (by show b≠X1.heap.size;omega) c0_;replace c1_:=hsq.cell (by show b≠X1.heap.size;omega) c1_;replace c2_:=hsq.cell (by show b≠X1.heap.size;omega) c2_;replace c3_:=hsq.cell (by show b≠X1.heap.size;omega) c3_;replace c4_:=hsq.cell (by show b≠X1.heap.size;omega) c4_;replace c5_:=hsq.cell (by show b≠X1.heap.size;omega) c5_;replace c6_:=hsq.cell (by show b≠X1.heap.size;omega) c6_;replace c7_:=hsq.cell (by show b≠X1.heap.size;omega) c7_;replace c8_:=hsq.cell (by show b≠X1.heap.size;omega) c8_;replace fC:=zq (hsq.bel fC.out (by omega));replace hT:=zq (hsq.rep (fun b hb=>by have:b<w.heap.size:=hb;omega) hT.out);replace hN:=zq (hsq.rep (fun b hb=>by have h1:X5.heap.size≤b:=hb.1;have h2:b<X6.heap.size:=hb.2;omega) hN.out);refine hK.out _ _ ⟨ag fE rfl,ag fE rfl,ag fE rfl,ag fE rfl,c0_,c1_,c2_,c3_,c4_,c5_,c6_,c7_,c8_⟩ (fun hH6=>?_);clear hK K hH5 hsq hXq hX
    try simp only[bR,hwA]
    refine hwt 16 bS (.bool true) hH6 ?_ ?_
    · intro w' hSw;dsimp only[bS];go_simp
    try simp only[bS,hwA]
    refine wpAnyH_done (by kernel_rfl) ?_ _;refine NoPanic.normal ?_;clear hH6;have d3:=ag fE (o:=3) rfl;have d4:=ag fE (o:=4) rfl;obtain⟨v0,v1⟩:=blk2 fV;have HT9:=zq (dL _ _ 4 ty h1.ty _ _ _ _ _ _ _ _ _ hT.out hN.out HCN.out (S.cnt_ok HV1.out))
    go_wp2_with fail
    refine HT9.out.mono ?_;rintro e X9 ⟨kr,ar,nr,qr,br,tr,rfl,hbr,htr,hor,hb⟩;have HBR:=zq hbr;have HTR:=zq htr;have HOR:=zq hor;have fR9:=af fR hb;have fC9:=zq (aj fC.out hb);have z9:=hb.size;have lR9:=aC fR;clear hbr htr hor hb d3 d4 v0 v1;obtain⟨r0,r1⟩:=blk2 fR9;have rf0:=al fR9 0;have rf1:=al fR9 1
    go_wp2_with fail
    have hY:((X9.setCell ⟨w.heap.size+1,0,none⟩ (.int .i64 kr)).setCell ⟨w.heap.size+1,1,none⟩ (.slice ar nr qr)).heap[w.heap.size+1]?=some (.cells #[.int .i64 kr,.slice ar nr qr] 25 (0,0)):=aI (aI fR9 rfl) rfl;obtain⟨rc0,rc1⟩:=blk2 hY;refine bodyPost_ret (v:=.tuple #[.agg #[.int .i64 kr,.slice ar nr qr],.bool br]) (by simp[results,Tryz.results112,go_sem,rc0,rc1]) rfl ?_;have hne : ∀b,(False∨X7.heap.size≤b)→b≠w.heap.size+1:=fun b h=>by
      have h1:=h.elim False.elim id
      omega
    have hw0:=fC.out.size
    exact⟨_,_,_,_,_,tr,rfl,by rw[HO.out,ei HVT.out HCO.out];exact HBR.out,(ao.setN (ao.setN HTR.out hne) hne).move (.weaken fun b h _=>.inr (by have h1:=h.elim False.elim id;omega)),(by rw[HO.out,ei HVT.out HCO.out];exact HOR.out),(fC9.out.setCell (p:=⟨w.heap.size+1,0,none⟩) (by show w.heap.size≤w.heap.size+1;omega) _).setCell (p:=⟨w.heap.size+1,1,none⟩) (by show w.heap.size≤w.heap.size+1;omega) _⟩
  ·skip
   dsimp only[bQ];go_simp
   (try go_wp2_with fail);obtain⟨X8,hXq,hb,fV,zX8a,zX8b⟩:=aU U2 (.cells #[.int .i64 0,.slice none 0 0] 25);rw[hXq];replace fE:=af fE hb;replace fR:=af fR hb;replace c0_:=ah hb c0_;replace c1_:=ah hb c1_;replace c2_:=ah hb c2_;replace c3_:=ah hb c3_;replace c4_:=ah hb c4_;replace c5_:=ah hb c5_;replace c6_:=ah hb c6_;replace c7_:=ah hb c7_;replace c8_:=ah hb c8_;replace fC:=zq (aj fC.out hb);replace hT:=zq (hT.out.below hb);refine hK.out _ _ ⟨ag fE rfl,ag fE rfl,ag fE rfl,ag fE rfl,c0_,c1_,c2_,c3_,c4_,c5_,c6_,c7_,c8_⟩ (fun hH1=>?_);clear hK K hH0 hb hXq
   try simp only[bQ,hwA]
   refine hwr 5 dj (fun K hK=>?_)
   dsimp only[dj];go_simp
   go_at_call 109
   refine(HM.out _ fC.out).mono ?_;rintro e X9 ⟨xa2,xm2,xq2,rfl,hcx,hb⟩;have hX':Hid (aE (fun _=>True) X9 (l ++ [⟨nm,ty⟩]) (.slice (some xa2) xm2 xq2)):=zq hcx;clear hcx
   go_wp2_with fail
   have zX9:X8.heap.size≤X9.heap.size:=hb.size;replace fE:=af fE hb;replace fR:=af fR hb;replace c0_:=ah hb c0_;replace c1_:=ah hb c1_;replace c2_:=ah hb c2_;replace c3_:=ah hb c3_;replace c4_:=ah hb c4_;replace c5_:=ah hb c5_;replace c6_:=ah hb c6_;replace c7_:=ah hb c7_;replace c8_:=ah hb c8_;replace fC:=zq (aj fC.out hb);replace hT:=zq (hT.out.below hb);replace fV:=af fV hb;have hX:=hX';clear hX';refine hK.out _ _ ⟨ag fE rfl,ag fE rfl,ag fE rfl,ag fE rfl,c0_,c1_,c2_,c3_,c4_,c5_,c6_,c7_,c8_⟩ (fun hH7=>?_);clear hK K hH1 hb
   try simp only[dj,hwA]
   refine hwr 10 bM (fun K hK=>?_)
   dsimp only[bM];go_simp
   go_at_call 112
   refine(IH.out _ _ _ fC.out hX.out (HTK.out.below fC.out) ⟨_,_,_,rfl⟩).mono ?_;rintro e X10 ⟨kt,at_,nt,qt,bt,tt,rfl,hbt,htt,hot,hb⟩;rw[HCO.out] at hbt hot;obtain rfl:bt=true:=hbt;obtain rfl:tt=h1.ty:=hot _ rfl;have hN':Hid (ao (fun b=>X9.heap.size≤b∧b<X10.heap.size) X10 h1.ty (.agg #[.int .i64 kt,.slice at_ nt qt])):=zq (htt.move (.weaken fun b h1 h2=>⟨h1.elim False.elim id,h2⟩));clear htt hot
   go_wp2_with fail
   have zX10:X9.heap.size≤X10.heap.size:=hb.size;replace fE:=af fE hb;replace fR:=af fR hb;replace c0_:=ah hb c0_;replace c1_:=ah hb c1_;replace c2_:=ah hb c2_;replace c3_:=ah hb c3_;replace c4_:=ah hb c4_;replace c5_:=ah hb c5_;replace c6_:=ah hb c6_;replace c7_:=ah hb c7_;replace c8_:=ah hb c8_;replace fC:=zq (aj fC.out hb);replace hT:=zq (hT.out.below hb);replace fV:=af fV hb;replace hX:=zq (hX.out.below hb);have hN:=hN';clear hN';refine hK.out _ _ ⟨ag fE rfl,ag fE rfl,ag fE rfl,ag fE rfl,c0_,c1_,c2_,c3_,c4_,c5_,c6_,c7_,c8_⟩ (fun hH8=>?_);clear hK K hH7 hb
   try simp only[bM,hwA]
   refine hwt 11 bN (.tuple #[.agg #[.int .i64 kt,.slice at_ nt qt],.bool true]) hH8 ?_ ?_
   · intro w' hSw;dsimp only[bN];go_simp
   try simp only[bN,hwA]
   refine hwt 12 bO (.agg #[.int .i64 kt,.slice at_ nt qt]) hH8 ?_ ?_
   · intro w' hSw;dsimp only[bO];go_simp
   try simp only[bO,hwA]
   refine hwt 13 bP (.bool true) hH8 ?_ ?_
   · intro w' hSw;dsimp only[bP];go_simp
   try simp only[bP,hwA]
   refine hwr 15 bR (fun K hK=>?_);obtain⟨r0,r1,rf0,rf1⟩:=co fV
   dsimp only[bR];go_simp
   (try go_wp2_with fail);have hQq:=bw fV (.int .i64 kt) (.slice at_ nt qt);clear fV r0 rf0 r1 rf1;obtain⟨X11,hXq,hsq,fV,zX11a,zX11b⟩:=hQq;rw[hXq];replace fE:=hsq.blk (by omega) fE;replace fR:=hsq.blk (by omega) fR;replace c0_:=hsq.cell (by show b≠U2.heap.size;omega) c0_;replace c1_:=hsq.cell (by show b≠U2.heap.size;omega) c1_;replace c2_:=hsq.cell (by show b≠U2.heap.size;omega) c2_;replace c3_:=hsq.cell (by show b≠U2.heap.size;omega) c3_;replace c4_:=hsq.cell (by show b≠U2.heap.size;omega) c4_;replace c5_:=hsq.cell (by show b≠U2.heap.size;omega) c5_;replace c6_:=hsq.cell (by show b≠U2.heap.size;omega) c6_;replace c7_:=hsq.cell (by show b≠U2.heap.size;omega) c7_;replace c8_:=hsq.cell (by show b≠U2.heap.size;omega) c8_;replace fC:=zq (hsq.bel fC.out (by omega));replace hT:=zq (hsq.rep (fun b hb=>by have:b<w.heap.size:=hb;omega) hT.out);replace hN:=zq (hsq.rep (fun b hb=>by have h1:X9.heap.size≤b:=hb.1;have h2:b<X10.heap.size:=hb.2;omega) hN.out);refine hK.out _ _ ⟨ag fE rfl,ag fE rfl,ag fE rfl,ag fE rfl,c0_,c1_,c2_,c3_,c4_,c5_,c6_,c7_,c8_⟩ (fun hH9=>?_);clear hK K hH8 hsq hXq hX
   try simp only[bR,hwA]
   refine hwt 16 bS (.bool true) hH9 ?_ ?_
   · intro w' hSw;dsimp only[bS];go_simp
   try simp only[bS,hwA]
   refine wpAnyH_done (by kernel_rfl) ?_ _;refine NoPanic.normal ?_;clear hH9;have d3:=ag fE (o:=3) rfl;have d4:=ag fE (o:=4) rfl;obtain⟨v0,v1⟩:=blk2 fV;have HT9:=zq (dL _ _ 4 ty h1.ty _ _ _ _ _ _ _ _ _ hT.out hN.out HCN.out (S.cnt_ok HV1.out))
   go_wp2_with fail
   refine HT9.out.mono ?_;rintro e X9 ⟨kr,ar,nr,qr,br,tr,rfl,hbr,htr,hor,hb⟩;have HBR:=zq hbr;have HTR:=zq htr;have HOR:=zq hor;have fR9:=af fR hb;have fC9:=zq (aj fC.out hb);have z9:=hb.size;have lR9:=aC fR;clear hbr htr hor hb d3 d4 v0 v1;obtain⟨r0,r1⟩:=blk2 fR9;have rf0:=al fR9 0;have rf1:=al fR9 1
   go_wp2_with fail
   have hY:((X9.setCell ⟨w.heap.size+1,0,none⟩ (.int .i64 kr)).setCell ⟨w.heap.size+1,1,none⟩ (.slice ar nr qr)).heap[w.heap.size+1]?=some (.cells #[.int .i64 kr,.slice ar nr qr] 25 (0,0)):=aI (aI fR9 rfl) rfl;obtain⟨rc0,rc1⟩:=blk2 hY;refine bodyPost_ret (v:=.tuple #[.agg #[.int .i64 kr,.slice ar nr qr],.bool br]) (by simp[results,Tryz.results112,go_sem,rc0,rc1]) rfl ?_;have hne : ∀b,(False∨X11.heap.size≤b)→b≠w.heap.size+1:=fun b h=>by
     have h1:=h.elim False.elim id
     omega
   have hw0:=fC.out.size
   exact⟨_,_,_,_,_,tr,rfl,by rw[HO.out,ei HVT.out HCO.out];exact HBR.out,(ao.setN (ao.setN HTR.out hne) hne).move (.weaken fun b h _=>.inr (by have h1:=h.elim False.elim id;omega)),(by rw[HO.out,ei HVT.out HCO.out];exact HOR.out),(fC9.out.setCell (p:=⟨w.heap.size+1,0,none⟩) (by show w.heap.size≤w.heap.size+1;omega) _).setCell (p:=⟨w.heap.size+1,1,none⟩) (by show w.heap.size≤w.heap.size+1;omega) _⟩
end Go.Proofs.YtfahhonmiimmdaaGreat

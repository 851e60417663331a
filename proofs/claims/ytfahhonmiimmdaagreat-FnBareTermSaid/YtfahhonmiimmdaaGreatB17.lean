/- spec.l3Result at conditions. And what else its parts name. -/
import Derived.Test.YtfahhonmiimmdaaGreatTyMeet
import Derived.Test.YtfahhonmiimmdaaGreatTtRa
import Derived.Test.YtfahhonmiimmdaaGreatB16
set_option linter.unusedSimpArgs false
set_option linter.unusedVariables false
set_option maxRecDepth 100000
set_option maxHeartbeats 16000000
namespace Go.Proofs.YtfahhonmiimmdaaGreat
open Go.RowKit
theorem S.ty_meetT : ∀s u:S,s.cons u=true→s.ty.meet u.ty=(s.meet u).ty:=by
 intro s
 induction s with
 | fn a b ha hb=>
  intro u h
  cases u<;>simp[S.cons] at h
  ·simp[S.ty,Ty.meet,S.meet]
  ·simp[S.ty,Ty.meet,Ty.meets,S.meet,ha _ h.1,hb _ h.2]
 | pr a b ha hb=>
  intro u h
  cases u<;>simp[S.cons] at h
  ·simp[S.ty,Ty.meet,S.meet]
  ·simp[S.ty,Ty.meet,Ty.meets,S.meet,ha _ h.1,hb _ h.2]
 | _=>intro u h;cases u<;>simp[S.cons] at h<;>simp[S.ty,Ty.meet,Ty.meets,S.meet]
def fm:Oper:=⟨some 68,.move (.tmp 1),23,"l3_typing.go:80",#[],none⟩
def fo:Oper:=⟨some 69,.indexAddr 23 (.tmp 68) (.const (.int .i64 1)),0,"l3_typing.go:80",#[⟨0,.data⟩],none⟩
def fs:Oper:=⟨some 70,.load 25 (.tmp 69),25,"l3_typing.go:80",#[⟨1,.data⟩],none⟩
def ft:Oper:=⟨some 71,.move (.tmp 1),23,"l3_typing.go:80",#[],none⟩
def fu:Oper:=⟨some 72,.indexAddr 23 (.tmp 71) (.const (.int .i64 2)),0,"l3_typing.go:80",#[⟨3,.data⟩],none⟩
def fw:Oper:=⟨some 73,.load 25 (.tmp 72),25,"l3_typing.go:80",#[⟨4,.data⟩],none⟩
def fx:Oper:=⟨some 74,.call {callee:=.value (.func 58),args:=#[.tmp 70,.tmp 73],argTypes:=#[25,25]},4,"l3_typing.go:80",#[⟨2,.data⟩,⟨5,.data⟩],none⟩
def fy:Oper:=⟨some 75,.unOp .not 4 (.tmp 74),4,"l3_typing.go:80",#[⟨6,.data⟩],none⟩
theorem ki (G1 G2 G3:Nat→Prop)(nm:ByteArray)(u lb tk fk:Int)(ty src:Ty)(ta fa ca:Option Addr)(tn tq fn fq cm cq:Nat)(w:World)(hty:ap G1 w ty (.agg #[.int .i64 tk,.slice ta tn tq]))(hsrc:ap G2 w src (.agg #[.int .i64 fk,.slice fa fn fq]))(y:Value)(h1 h2 h3:S)(d2:h2.cons h3=false)(hv1:h1.vd=true)(hv2:h2.vd=true)(hv3:h3.vd=true)(hy:aE G3 w [h1.ty,h2.ty,h3.ty] y) :
  Calls Tryz.prog 118 #[.agg #[.int .i64 9,.string nm,.int .i64 u,.int .i64 tk,.slice ta tn tq,.int .i64 fk,.slice fa fn fq,.int .i64 lb,.slice ca cm cq],y] w (bM ((bd 9 ty [h1,h2,h3]).map S.ty) w):=by
 obtain⟨b,off,cap,k1,c1,m1,q1,k2,c2,m2,q2,k3,c3,m3,q3,rfl,hlb,e1a,e1b,e2a,e2b,e3a,e3b,ht1,ht2,ht3⟩:=hy.three;obtain⟨O,hOO⟩ : ∃O:Option Ty,O=((bd 9 ty [h1,h2,h3]).map S.ty):=⟨_,rfl⟩
 rw[←hOO];have HO:=zq hOO;clear hOO;have D2:=zq d2;have V1:=zq hv1;have V2:=zq hv2;have V3:=zq hv3;obtain⟨d1,hd1⟩ : ∃d1,h1.cons .bool=d1:=⟨_,rfl⟩
 have D1:=zq hd1;clear d2 hv1 hv2 hv3 hd1;have H1:=zq ht1.old;have H2:=zq ht2.old;have H3:=zq ht3.old;clear hty hsrc hy ht1 ht2 ht3
 go_enter Tryz.func118,Tryz.ntmps118
 go_wp2_with fail
 obtain⟨VV,hVV⟩ : ∃X,X=((w.alloc (.cells #[.int .i64 9,.string nm,.int .i64 u,.int .i64 tk,.slice ta tn tq,.int .i64 fk,.slice fa fn fq,.int .i64 lb,.slice ca cm cq] 28)).alloc (.cells #[.int .i64 0,.slice none 0 0] 25)):=⟨_,rfl⟩
 have fE:VV.heap[w.heap.size]?=some (.cells #[.int .i64 9,.string nm,.int .i64 u,.int .i64 tk,.slice ta tn tq,.int .i64 fk,.slice fa fn fq,.int .i64 lb,.slice ca cm cq] 28 (0,0)):=by rw[hVV];exact ag (aF rfl) aj
 have fR:VV.heap[w.heap.size+1]?=some (.cells #[.int .i64 0,.slice none 0 0] 25 (0,0)):=by rw[hVV];exact aF (by simp)
 have c1a_:VV.cell? ⟨b,off,none⟩=some (.int .i64 k1):=by rw[hVV];exact af aj (af aj e1a)
 have c1b_:VV.cell? ⟨b,off+1,none⟩=some (.slice c1 m1 q1):=by rw[hVV];exact af aj (af aj e1b)
 have h1_:Hid (ap (· < w.heap.size) VV h1.ty (.agg #[.int .i64 k1,.slice c1 m1 q1])):=by rw[hVV];exact zq ((H1.out.below aj).below aj)
 have c2a_:VV.cell? ⟨b,off+2,none⟩=some (.int .i64 k2):=by rw[hVV];exact af aj (af aj e2a)
 have c2b_:VV.cell? ⟨b,off+3,none⟩=some (.slice c2 m2 q2):=by rw[hVV];exact af aj (af aj e2b)
 have h2_:Hid (ap (· < w.heap.size) VV h2.ty (.agg #[.int .i64 k2,.slice c2 m2 q2])):=by rw[hVV];exact zq ((H2.out.below aj).below aj)
 have c3a_:VV.cell? ⟨b,off+4,none⟩=some (.int .i64 k3):=by rw[hVV];exact af aj (af aj e3a)
 have c3b_:VV.cell? ⟨b,off+5,none⟩=some (.slice c3 m3 q3):=by rw[hVV];exact af aj (af aj e3b)
 have h3_:Hid (ap (· < w.heap.size) VV h3.ty (.agg #[.int .i64 k3,.slice c3 m3 q3])):=by rw[hVV];exact zq ((H3.out.below aj).below aj)
 have fC:Hid (Below w.heap.size w VV):=by rw[hVV];exact zq (al aj aj)
 rw[←hVV];have zV:VV.heap.size=_:=congrArg (fun X:World=>X.heap.size) hVV;simp only[World.size_alloc] at zV;refine wp_region_noPanic ?_;refine wp_region_held_drew (S:=fun w'=>w'.cell? ⟨b,off+2,none⟩=some (.int .i64 k2)∧w'.cell? ⟨b,off+3,none⟩=some (.slice c2 m2 q2)∧w'.cell? ⟨b,off+4,none⟩=some (.int .i64 k3)∧w'.cell? ⟨b,off+5,none⟩=some (.slice c3 m3 q3)) (by kernel_rfl) ?_ (fun hH0=>?_)
 ·exact⟨c2a_,c2b_,c3a_,c3b_⟩
 obtain⟨U9,hU,hb,zU9a,zU9b⟩:=bK VV;rw[hU] at hH0 ⊢;replace fE:=ag fE hb;replace fR:=ag fR hb;replace c1a_:=af hb c1a_;replace c1b_:=af hb c1b_;replace h1_:=zq (h1_.out.below hb);replace c2a_:=af hb c2a_;replace c2b_:=af hb c2b_;replace h2_:=zq (h2_.out.below hb);replace c3a_:=af hb c3a_;replace c3b_:=af hb c3b_;replace h3_:=zq (h3_.out.below hb);replace fC:=zq (al fC.out hb);rw[zV] at zU9a zU9b;clear hU hb hVV zV;refine hwt 0 fm (.slice (some ⟨b,off,none⟩) 3 cap) hH0 ?_ ?_
 ·intro w' hSw;dsimp only[fm];go_simp
 try simp only[fm,hwA]
 refine hwt 1 fo (.pointer (some ⟨b,off+2,none⟩)) hH0 ?_ ?_
 ·intro w' hSw;dsimp only[fo];go_simp
 try simp only[fo,hwA]
 refine hwt 2 fs (.agg #[.int .i64 k2,.slice c2 m2 q2]) hH0 ?_ ?_
 ·intro w' hSw;dsimp only[fs];go_simp
 try simp only[fs,hwA]
 refine hwt 3 ft (.slice (some ⟨b,off,none⟩) 3 cap) hH0 ?_ ?_
 ·intro w' hSw;dsimp only[ft];go_simp
 try simp only[ft,hwA]
 refine hwt 4 fu (.pointer (some ⟨b,off+4,none⟩)) hH0 ?_ ?_
 ·intro w' hSw;dsimp only[fu];go_simp
 try simp only[fu,hwA]
 refine hwt 5 fw (.agg #[.int .i64 k3,.slice c3 m3 q3]) hH0 ?_ ?_
 ·intro w' hSw;dsimp only[fw];go_simp
 try simp only[fw,hwA]
 refine hwr 6 fx (fun K hK=>?_)
 dsimp only[fx];go_simp
 go_at_call 58
 refine(ce _ _ _ _ _ _ _ h2_.out h3_.out V2.out V3.out).mono ?_;rintro e X1 ⟨rfl,hb⟩;rw[D2.out]
 go_wp2_with fail
 have zX1:U9.heap.size≤X1.heap.size:=hb.size;replace fE:=ag fE hb;replace fR:=ag fR hb;replace c1a_:=af hb c1a_;replace c1b_:=af hb c1b_;replace h1_:=zq (h1_.out.below hb);replace c2a_:=af hb c2a_;replace c2b_:=af hb c2b_;replace h2_:=zq (h2_.out.below hb);replace c3a_:=af hb c3a_;replace c3b_:=af hb c3b_;replace h3_:=zq (h3_.out.below hb);replace fC:=zq (al fC.out hb);refine hK.out _ _ ⟨c2a_,c2b_,c3a_,c3b_⟩ (fun hH1=>?_);clear hK K hH0 hb
 try simp only[fx,hwA]
 refine hwt 7 fy (.bool true) hH1 ?_ ?_
 ·intro w' hSw;dsimp only[fy];go_simp
 try simp only[fy,hwA]
 refine wpAnyH_done (by kernel_rfl) ?_ _;refine NoPanic.normal ?_;clear hH1;obtain⟨r0,r1,rf0,rf1⟩:=co fR
 go_wp2_with fail
 have hY:((X1.setCell ⟨w.heap.size+1,0,none⟩ (.int .i64 0)).setCell ⟨w.heap.size+1,1,none⟩ (.slice none 0 0)).heap[w.heap.size+1]?=some (.cells #[.int .i64 0,.slice none 0 0] 25 (0,0)):=aN (aN fR rfl) rfl;obtain⟨rc0,rc1⟩:=blk2 hY;refine bodyPost_ret (v:=.tuple #[.agg #[.int .i64 0,.slice none 0 0],.bool false]) (by simp[results,Tryz.results118,go_sem,rc0,rc1]) rfl ?_;have HN:O=none:=by rw[HO.out];simp only[bd,D2.out];rfl
 exact⟨_,_,_,_,_,_,rfl,by rw[HN];rfl,ap.zeroG,(by rw[HN];intro s h;cases h),(fC.out.setCell (p:=⟨w.heap.size+1,0,none⟩) (by show w.heap.size≤w.heap.size+1;omega) _).setCell (p:=⟨w.heap.size+1,1,none⟩) (by show w.heap.size≤w.heap.size+1;omega) _⟩
def qE:Oper:=⟨some 77,.move (.tmp 1),23,"l3_typing.go:83",#[],none⟩
def qF:Oper:=⟨some 78,.indexAddr 23 (.tmp 77) (.const (.int .i64 1)),0,"l3_typing.go:83",#[⟨0,.data⟩],none⟩
def qG:Oper:=⟨some 79,.load 25 (.tmp 78),25,"l3_typing.go:83",#[⟨1,.data⟩],none⟩
def qH:Oper:=⟨some 80,.move (.tmp 1),23,"l3_typing.go:83",#[],none⟩
def qI:Oper:=⟨some 81,.indexAddr 23 (.tmp 80) (.const (.int .i64 2)),0,"l3_typing.go:83",#[⟨3,.data⟩],none⟩
def qJ:Oper:=⟨some 82,.load 25 (.tmp 81),25,"l3_typing.go:83",#[⟨4,.data⟩],none⟩
def qK:Oper:=⟨some 83,.call {callee:=.value (.func 120),args:=#[.tmp 79,.tmp 82],argTypes:=#[25,25]},25,"l3_typing.go:83",#[⟨2,.data⟩,⟨5,.data⟩],none⟩
def qL:Oper:=⟨some 84,.move (.tmp 1),23,"l3_typing.go:83",#[],none⟩
def qM:Oper:=⟨some 85,.indexAddr 23 (.tmp 84) (.const (.int .i64 0)),0,"l3_typing.go:83",#[⟨7,.data⟩],none⟩
def qN:Oper:=⟨some 86,.load 25 (.tmp 85),25,"l3_typing.go:83",#[⟨8,.data⟩],none⟩
def mJ:Oper:=⟨some 87,.call {callee:=.value (.func 85),args:=#[],argTypes:=#[]},25,"l3_typing.go:83",#[⟨6,.chain⟩],none⟩
def mK:Oper:=⟨some 88,.call {callee:=.value (.func 58),args:=#[.tmp 86,.tmp 87],argTypes:=#[25,25]},4,"l3_typing.go:83",#[⟨9,.data⟩,⟨10,.data⟩,⟨10,.chain⟩],none⟩
def mL:Oper:=⟨none,.store 25 (.tmp 4) (.tmp 83),0,"l3_typing.go:83",#[⟨6,.data⟩,⟨11,.chain⟩,⟨0,.phase⟩,⟨1,.phase⟩,⟨2,.phase⟩,⟨3,.phase⟩,⟨4,.phase⟩,⟨5,.phase⟩,⟨6,.phase⟩,⟨7,.textOnly .lateStores⟩,⟨8,.textOnly .lateStores⟩,⟨9,.textOnly .lateStores⟩,⟨10,.textOnly .lateStoresUnsure⟩,⟨11,.textOnly .lateStoresUnsure⟩],none⟩
def mM:Oper:=⟨some 5,.assign (.tmp 88),4,"l3_typing.go:83",#[⟨11,.data⟩,⟨12,.chain⟩,⟨0,.phase⟩,⟨1,.phase⟩,⟨2,.phase⟩,⟨3,.phase⟩,⟨4,.phase⟩,⟨5,.phase⟩,⟨6,.phase⟩,⟨7,.phase⟩,⟨8,.phase⟩,⟨9,.phase⟩,⟨10,.phase⟩,⟨11,.phase⟩,⟨12,.phase⟩],none⟩
theorem kj (G1 G2 G3:Nat→Prop)(nm:ByteArray)(u lb tk fk:Int)(ty src:Ty)(ta fa ca:Option Addr)(tn tq fn fq cm cq:Nat)(w:World)(hty:ap G1 w ty (.agg #[.int .i64 tk,.slice ta tn tq]))(hsrc:ap G2 w src (.agg #[.int .i64 fk,.slice fa fn fq]))(y:Value)(h1 h2 h3:S)(d2:h2.cons h3=true)(hv1:h1.vd=true)(hv2:h2.vd=true)(hv3:h3.vd=true)(hy:aE G3 w [h1.ty,h2.ty,h3.ty] y) :
  Calls Tryz.prog 118 #[.agg #[.int .i64 9,.string nm,.int .i64 u,.int .i64 tk,.slice ta tn tq,.int .i64 fk,.slice fa fn fq,.int .i64 lb,.slice ca cm cq],y] w (bM ((bd 9 ty [h1,h2,h3]).map S.ty) w):=by
 obtain⟨b,off,cap,k1,c1,m1,q1,k2,c2,m2,q2,k3,c3,m3,q3,rfl,hlb,e1a,e1b,e2a,e2b,e3a,e3b,ht1,ht2,ht3⟩:=hy.three;obtain⟨O,hOO⟩ : ∃O:Option Ty,O=((bd 9 ty [h1,h2,h3]).map S.ty):=⟨_,rfl⟩
 rw[←hOO];have HO:=zq hOO;clear hOO;have D2:=zq d2;have V1:=zq hv1;have V2:=zq hv2;have V3:=zq hv3;obtain⟨d1,hd1⟩ : ∃d1,h1.cons .bool=d1:=⟨_,rfl⟩
 have D1:=zq hd1;have HMT:=zq (fun(Fa Fb:Nat→Prop) (ya yb:Value) (W:World) (ha:ap Fa W h2.ty ya) (hb:ap Fb W h3.ty yb)=>(by
   have h:=kW Fa Fb h2.ty h3.ty ya yb W ha hb (by rw[S.ty_cons];exact d2) (S.cnt_ok hv2) (S.cnt_ok hv3)
   rwa [S.ty_meetT _ _ d2] at h:Calls Tryz.prog 120 #[ya,yb] W (eg (h2.meet h3).ty W)))
 clear d2 hv1 hv2 hv3 hd1;have H1:=zq ht1.old;have H2:=zq ht2.old;have H3:=zq ht3.old;clear hty hsrc hy ht1 ht2 ht3
 go_enter Tryz.func118,Tryz.ntmps118
 go_wp2_with fail
 obtain⟨VV,hVV⟩ : ∃X,X=((w.alloc (.cells #[.int .i64 9,.string nm,.int .i64 u,.int .i64 tk,.slice ta tn tq,.int .i64 fk,.slice fa fn fq,.int .i64 lb,.slice ca cm cq] 28)).alloc (.cells #[.int .i64 0,.slice none 0 0] 25)):=⟨_,rfl⟩
 have fE:VV.heap[w.heap.size]?=some (.cells #[.int .i64 9,.string nm,.int .i64 u,.int .i64 tk,.slice ta tn tq,.int .i64 fk,.slice fa fn fq,.int .i64 lb,.slice ca cm cq] 28 (0,0)):=by rw[hVV];exact ag (aF rfl) aj
 have fR:VV.heap[w.heap.size+1]?=some (.cells #[.int .i64 0,.slice none 0 0] 25 (0,0)):=by rw[hVV];exact aF (by simp)
 have c1a_:VV.cell? ⟨b,off,none⟩=some (.int .i64 k1):=by rw[hVV];exact af aj (af aj e1a)
 have c1b_:VV.cell? ⟨b,off+1,none⟩=some (.slice c1 m1 q1):=by rw[hVV];exact af aj (af aj e1b)
 have h1_:Hid (ap (· < w.heap.size) VV h1.ty (.agg #[.int .i64 k1,.slice c1 m1 q1])):=by rw[hVV];exact zq ((H1.out.below aj).below aj)
 have c2a_:VV.cell? ⟨b,off+2,none⟩=some (.int .i64 k2):=by rw[hVV];exact af aj (af aj e2a)
 have c2b_:VV.cell? ⟨b,off+3,none⟩=some (.slice c2 m2 q2):=by rw[hVV];exact af aj (af aj e2b)
 have h2_:Hid (ap (· < w.heap.size) VV h2.ty (.agg #[.int .i64 k2,.slice c2 m2 q2])):=by rw[hVV];exact zq ((H2.out.below aj).below aj)
 have c3a_:VV.cell? ⟨b,off+4,none⟩=some (.int .i64 k3):=by rw[hVV];exact af aj (af aj e3a)
 have c3b_:VV.cell? ⟨b,off+5,none⟩=some (.slice c3 m3 q3):=by rw[hVV];exact af aj (af aj e3b)
 have h3_:Hid (ap (· < w.heap.size) VV h3.ty (.agg #[.int .i64 k3,.slice c3 m3 q3])):=by rw[hVV];exact zq ((H3.out.below aj).below aj)
 have fC:Hid (Below w.heap.size w VV):=by rw[hVV];exact zq (al aj aj)
 rw[←hVV];have zV:VV.heap.size=_:=congrArg (fun X:World=>X.heap.size) hVV;simp only[World.size_alloc] at zV;refine wp_region_noPanic ?_;refine wp_region_held_drew (S:=fun w'=>w'.cell? ⟨b,off+2,none⟩=some (.int .i64 k2)∧w'.cell? ⟨b,off+3,none⟩=some (.slice c2 m2 q2)∧w'.cell? ⟨b,off+4,none⟩=some (.int .i64 k3)∧w'.cell? ⟨b,off+5,none⟩=some (.slice c3 m3 q3)) (by kernel_rfl) ?_ (fun hH0=>?_)
 ·exact⟨c2a_,c2b_,c3a_,c3b_⟩
 obtain⟨U10,hU,hb,zU10a,zU10b⟩:=bK VV;rw[hU] at hH0 ⊢;replace fE:=ag fE hb;replace fR:=ag fR hb;replace c1a_:=af hb c1a_;replace c1b_:=af hb c1b_;replace h1_:=zq (h1_.out.below hb);replace c2a_:=af hb c2a_;replace c2b_:=af hb c2b_;replace h2_:=zq (h2_.out.below hb);replace c3a_:=af hb c3a_;replace c3b_:=af hb c3b_;replace h3_:=zq (h3_.out.below hb);replace fC:=zq (al fC.out hb);rw[zV] at zU10a zU10b;clear hU hb hVV zV;refine hwt 0 fm (.slice (some ⟨b,off,none⟩) 3 cap) hH0 ?_ ?_
 ·intro w' hSw;dsimp only[fm];go_simp
 try simp only[fm,hwA]
 refine hwt 1 fo (.pointer (some ⟨b,off+2,none⟩)) hH0 ?_ ?_
 ·intro w' hSw;dsimp only[fo];go_simp
 try simp only[fo,hwA]
 refine hwt 2 fs (.agg #[.int .i64 k2,.slice c2 m2 q2]) hH0 ?_ ?_
 ·intro w' hSw;dsimp only[fs];go_simp
 try simp only[fs,hwA]
 refine hwt 3 ft (.slice (some ⟨b,off,none⟩) 3 cap) hH0 ?_ ?_
 ·intro w' hSw;dsimp only[ft];go_simp
 try simp only[ft,hwA]
 refine hwt 4 fu (.pointer (some ⟨b,off+4,none⟩)) hH0 ?_ ?_
 ·intro w' hSw;dsimp only[fu];go_simp
 try simp only[fu,hwA]
 refine hwt 5 fw (.agg #[.int .i64 k3,.slice c3 m3 q3]) hH0 ?_ ?_
 ·intro w' hSw;dsimp only[fw];go_simp
 try simp only[fw,hwA]
 refine hwr 6 fx (fun K hK=>?_)
 dsimp only[fx];go_simp
 go_at_call 58
 refine(ce _ _ _ _ _ _ _ h2_.out h3_.out V2.out V3.out).mono ?_;rintro e X1 ⟨rfl,hb⟩;rw[D2.out]
 go_wp2_with fail
 have zX1:U10.heap.size≤X1.heap.size:=hb.size;replace fE:=ag fE hb;replace fR:=ag fR hb;replace c1a_:=af hb c1a_;replace c1b_:=af hb c1b_;replace h1_:=zq (h1_.out.below hb);replace c2a_:=af hb c2a_;replace c2b_:=af hb c2b_;replace h2_:=zq (h2_.out.below hb);replace c3a_:=af hb c3a_;replace c3b_:=af hb c3b_;replace h3_:=zq (h3_.out.below hb);replace fC:=zq (al fC.out hb);refine hK.out _ _ ⟨c2a_,c2b_,c3a_,c3b_⟩ (fun hH1=>?_);clear hK K hH0 hb
 try simp only[fx,hwA]
 refine hwt 7 fy (.bool false) hH1 ?_ ?_
 ·intro w' hSw;dsimp only[fy];go_simp
 try simp only[fy,hwA]
 refine wpAnyH_done (by kernel_rfl) ?_ _;refine NoPanic.normal ?_;clear hH1
 go_wp2_with fail
 refine wp_region_noPanic ?_;refine wp_region_held_drew (S:=fun w'=>w'.cell? ⟨b,off,none⟩=some (.int .i64 k1)∧w'.cell? ⟨b,off+1,none⟩=some (.slice c1 m1 q1)∧w'.cell? ⟨b,off+2,none⟩=some (.int .i64 k2)∧w'.cell? ⟨b,off+3,none⟩=some (.slice c2 m2 q2)∧w'.cell? ⟨b,off+4,none⟩=some (.int .i64 k3)∧w'.cell? ⟨b,off+5,none⟩=some (.slice c3 m3 q3)) (by kernel_rfl) ?_ (fun hH0=>?_)
 ·exact⟨c1a_,c1b_,c2a_,c2b_,c3a_,c3b_⟩
 obtain⟨U11,hU,hb,zU11a,zU11b⟩:=bK X1;rw[hU] at hH0 ⊢;replace fE:=ag fE hb;replace fR:=ag fR hb;replace c1a_:=af hb c1a_;replace c1b_:=af hb c1b_;replace h1_:=zq (h1_.out.below hb);replace c2a_:=af hb c2a_;replace c2b_:=af hb c2b_;replace h2_:=zq (h2_.out.below hb);replace c3a_:=af hb c3a_;replace c3b_:=af hb c3b_;replace h3_:=zq (h3_.out.below hb);replace fC:=zq (al fC.out hb);(try simp only[World.size_alloc] at zU11a zU11b);clear hU hb;refine hwt 0 qE (.slice (some ⟨b,off,none⟩) 3 cap) hH0 ?_ ?_
 ·intro w' hSw;dsimp only[qE];go_simp
 try simp only[qE,hwA]
 refine hwt 1 qF (.pointer (some ⟨b,off+2,none⟩)) hH0 ?_ ?_
 ·intro w' hSw;dsimp only[qF];go_simp
 try simp only[qF,hwA]
 refine hwt 2 qG (.agg #[.int .i64 k2,.slice c2 m2 q2]) hH0 ?_ ?_
 ·intro w' hSw;dsimp only[qG];go_simp
 try simp only[qG,hwA]
 refine hwt 3 qH (.slice (some ⟨b,off,none⟩) 3 cap) hH0 ?_ ?_
 ·intro w' hSw;dsimp only[qH];go_simp
 try simp only[qH,hwA]
 refine hwt 4 qI (.pointer (some ⟨b,off+4,none⟩)) hH0 ?_ ?_
 ·intro w' hSw;dsimp only[qI];go_simp
 try simp only[qI,hwA]
 refine hwt 5 qJ (.agg #[.int .i64 k3,.slice c3 m3 q3]) hH0 ?_ ?_
 ·intro w' hSw;dsimp only[qJ];go_simp
 try simp only[qJ,hwA]
 refine hwt 7 qL (.slice (some ⟨b,off,none⟩) 3 cap) hH0 ?_ ?_
 ·intro w' hSw;dsimp only[qL];go_simp
 try simp only[qL,hwA]
 refine hwt 8 qM (.pointer (some ⟨b,off,none⟩)) hH0 ?_ ?_
 ·intro w' hSw;dsimp only[qM];go_simp
 try simp only[qM,hwA]
 refine hwt 9 qN (.agg #[.int .i64 k1,.slice c1 m1 q1]) hH0 ?_ ?_
 ·intro w' hSw;dsimp only[qN];go_simp
 try simp only[qN,hwA]
 refine hwr 6 qK (fun K hK=>?_)
 dsimp only[qK];go_simp
 go_at_call 120
 refine(HMT.out _ _ _ _ _ h2_.out h3_.out).mono ?_;rintro e X22 ⟨v,rfl,hv,hb⟩;obtain⟨km,am,nx,qm,rfl⟩:=hv.shape;have hM':=hv.rep.rg;clear hv
 go_wp2_with fail
 have zX22:U11.heap.size≤X22.heap.size:=hb.size;replace fE:=ag fE hb;replace fR:=ag fR hb;replace c1a_:=af hb c1a_;replace c1b_:=af hb c1b_;replace h1_:=zq (h1_.out.below hb);replace c2a_:=af hb c2a_;replace c2b_:=af hb c2b_;replace h2_:=zq (h2_.out.below hb);replace c3a_:=af hb c3a_;replace c3b_:=af hb c3b_;replace h3_:=zq (h3_.out.below hb);replace fC:=zq (al fC.out hb);have hM:=hM';clear hM';refine hK.out _ _ ⟨c1a_,c1b_,c2a_,c2b_,c3a_,c3b_⟩ (fun hH42=>?_);clear hK K hH0 hb
 try simp only[qK,hwA]
 refine hwr 10 mJ (fun K hK=>?_)
 dsimp only[mJ];go_simp
 go_at_call 85
 refine(dc _).mono ?_;rintro e X23 ⟨rfl,hb⟩
 go_wp2_with fail
 have zX23:X22.heap.size≤X23.heap.size:=hb.size;replace fE:=ag fE hb;replace fR:=ag fR hb;replace c1a_:=af hb c1a_;replace c1b_:=af hb c1b_;replace h1_:=zq (h1_.out.below hb);replace c2a_:=af hb c2a_;replace c2b_:=af hb c2b_;replace h2_:=zq (h2_.out.below hb);replace c3a_:=af hb c3a_;replace c3b_:=af hb c3b_;replace h3_:=zq (h3_.out.below hb);replace fC:=zq (al fC.out hb);replace hM:=zq (hM.out.below hb);refine hK.out _ _ ⟨c1a_,c1b_,c2a_,c2b_,c3a_,c3b_⟩ (fun hH43=>?_);clear hK K hH42 hb
 try simp only[mJ,hwA]
 refine hwr 11 mK (fun K hK=>?_)
 dsimp only[mK];go_simp
 go_at_call 58
 refine(ce _ _ _ S.bool _ _ _ h1_.out (ap.leaf 3) V1.out rfl).mono ?_;rintro e X24 ⟨rfl,hb⟩;rw[D1.out]
 go_wp2_with fail
 have zX24:X23.heap.size≤X24.heap.size:=hb.size;replace fE:=ag fE hb;replace fR:=ag fR hb;replace c1a_:=af hb c1a_;replace c1b_:=af hb c1b_;replace h1_:=zq (h1_.out.below hb);replace c2a_:=af hb c2a_;replace c2b_:=af hb c2b_;replace h2_:=zq (h2_.out.below hb);replace c3a_:=af hb c3a_;replace c3b_:=af hb c3b_;replace h3_:=zq (h3_.out.below hb);replace fC:=zq (al fC.out hb);replace hM:=zq (hM.out.below hb);refine hK.out _ _ ⟨c1a_,c1b_,c2a_,c2b_,c3a_,c3b_⟩ (fun hH44=>?_);clear hK K hH43 hb
 try simp only[mK,hwA]
 refine hwr 12 mL (fun K hK=>?_);obtain⟨r0,r1,rf0,rf1⟩:=co fR
 dsimp only[mL];go_simp
 (try go_wp2_with fail);have hQq:=bC fR (.int .i64 km) (.slice am nx qm);clear fR r0 rf0 r1 rf1;obtain⟨X25,hXq,hsq,fR,zX25a,zX25b⟩:=hQq;rw[hXq];replace fE:=hsq.blk (by omega) fE;replace c1a_:=hsq.cell (by show b≠w.heap.size+1;omega) c1a_;replace c1b_:=hsq.cell (by show b≠w.heap.size+1;omega) c1b_;replace h1_:=zq (hsq.rep (fun b hb=>by have:b<w.heap.size:=hb;omega) h1_.out);replace c2a_:=hsq.cell (by show b≠w.heap.size+1;omega) c2a_;replace c2b_:=hsq.cell (by show b≠w.heap.size+1;omega) c2b_;replace h2_:=zq (hsq.rep (fun b hb=>by have:b<w.heap.size:=hb;omega) h2_.out);replace c3a_:=hsq.cell (by show b≠w.heap.size+1;omega) c3a_;replace c3b_:=hsq.cell (by show b≠w.heap.size+1;omega) c3b_;replace h3_:=zq (hsq.rep (fun b hb=>by have:b<w.heap.size:=hb;omega) h3_.out);replace fC:=zq (hsq.bel fC.out (by omega));replace hM:=zq (hsq.rep (fun b hb=>by have h1:U11.heap.size≤b:=hb.1;have h2:b<X22.heap.size:=hb.2;omega) hM.out);refine hK.out _ _ ⟨c1a_,c1b_,c2a_,c2b_,c3a_,c3b_⟩ (fun hH45=>?_);clear hK K hH44 hsq hXq
 try simp only[mL,hwA]
 refine hwt 13 mM (.bool d1) hH45 ?_ ?_
 ·intro w' hSw;dsimp only[mM];go_simp
 try simp only[mM,hwA]
 refine wpAnyH_done (by kernel_rfl) ?_ _;refine NoPanic.normal ?_;clear hH45;have HN:O=if d1=true then some (h2.meet h3).ty else none:=by rw[HO.out];simp only[bd,D2.out,D1.out,Bool.true_and];cases d1<;>rfl
 obtain⟨rc0,rc1⟩:=blk2 fR
 go_wp2_with fail
 refine bodyPost_ret (v:=.tuple #[.agg #[.int .i64 km,.slice am nx qm],.bool d1]) (by simp[results,Tryz.results118,go_sem,rc0,rc1]) rfl ?_
 exact⟨_,_,_,_,_,(h2.meet h3).ty,rfl,by rw[HN];cases d1<;>rfl,hM.out.move (.weaken fun b h _=>.inr (by have h1:=h.1;omega)),(by rw[HN];intro s h;cases d1 with | false=>cases h | true=>exact Option.some.inj h),fC.out⟩
theorem rC (k:Int)(hs:List S)(hk:6≤k∧k≤13)(hlen:aG k=(hs.length:Int))(hv : ∀h∈hs,h.vd=true)(G1 G2 G3:Nat→Prop)(nm:ByteArray)(u lb tk fk:Int)(ty src:Ty)(ta fa ca:Option Addr)(tn tq fn fq cm cq:Nat)(w:World)(hty:ap G1 w ty (.agg #[.int .i64 tk,.slice ta tn tq]))(hsrc:ap G2 w src (.agg #[.int .i64 fk,.slice fa fn fq]))(hvt:k=13→ty.valid=true)(y:Value)(hy:aE G3 w (hs.map S.ty) y) :
  Calls Tryz.prog 118 #[.agg #[.int .i64 k,.string nm,.int .i64 u,.int .i64 tk,.slice ta tn tq,.int .i64 fk,.slice fa fn fq,.int .i64 lb,.slice ca cm cq],y] w (bM ((bd k ty hs).map S.ty) w):=by
 have hcase:k=6∨k=7∨k=8∨k=9∨k=10∨k=11∨k=12∨k=13:=by omega
 have two : ∀ {l:List S},l.length=2→∃a b,l = [a,b]:=fun {l} h=>by
  match l,h with
  | [a,b],_=>exact⟨a,b,rfl⟩
 rcases hcase with rfl | rfl | rfl | rfl | rfl | rfl | rfl | rfl
 ·obtain⟨h1,h2,rfl⟩:=two (l:=hs) (by simp[aG] at hlen;omega)
  cases e:(h1.mat 4).2.2 with
  | false=>exact jZ G1 G2 G3 nm u lb tk fk ty src ta fa ca tn tq fn fq cm cq w hty hsrc y h1 h2 e (hv h1 (by simp)) (hv h2 (by simp)) hy
  | true=>exact k7 G1 G2 G3 nm u lb tk fk ty src ta fa ca tn tq fn fq cm cq w hty hsrc y h1 h2 e (hv h1 (by simp)) (hv h2 (by simp)) hy
 ·obtain⟨h1,h2,rfl⟩:=two (l:=hs) (by simp[aG] at hlen;omega)
  cases e:h1.cons .int with
  | false=>exact ka G1 G2 G3 nm u lb tk fk ty src ta fa ca tn tq fn fq cm cq w hty hsrc y h1 h2 e (hv h1 (by simp)) (hv h2 (by simp)) hy
  | true=>exact kf G1 G2 G3 nm u lb tk fk ty src ta fa ca tn tq fn fq cm cq w hty hsrc y h1 h2 e (hv h1 (by simp)) (hv h2 (by simp)) hy
 ·obtain⟨h1,h2,rfl⟩:=two (l:=hs) (by simp[aG] at hlen;omega)
  cases e:h1.cons .int with
  | false=>exact kg G1 G2 G3 nm u lb tk fk ty src ta fa ca tn tq fn fq cm cq w hty hsrc y h1 h2 e (hv h1 (by simp)) (hv h2 (by simp)) hy
  | true=>exact kh G1 G2 G3 nm u lb tk fk ty src ta fa ca tn tq fn fq cm cq w hty hsrc y h1 h2 e (hv h1 (by simp)) (hv h2 (by simp)) hy
 ·obtain⟨h1,h2,h3,rfl⟩ : ∃a b c,hs = [a,b,c]:=by
   have:hs.length=3:=by simp[aG] at hlen;omega
   match hs,this with
   | [a,b,c],_=>exact⟨a,b,c,rfl⟩
  cases e:h2.cons h3 with
  | false=>exact ki G1 G2 G3 nm u lb tk fk ty src ta fa ca tn tq fn fq cm cq w hty hsrc y h1 h2 h3 e (hv h1 (by simp)) (hv h2 (by simp)) (hv h3 (by simp)) hy
  | true=>exact kj G1 G2 G3 nm u lb tk fk ty src ta fa ca tn tq fn fq cm cq w hty hsrc y h1 h2 h3 e (hv h1 (by simp)) (hv h2 (by simp)) (hv h3 (by simp)) hy
 ·obtain⟨h1,h2,rfl⟩:=two (l:=hs) (by simp[aG] at hlen;omega)
  exact lc G1 G2 G3 nm u lb tk fk ty src ta fa ca tn tq fn fq cm cq w hty hsrc y h1 h2 (hv h1 (by simp)) (hv h2 (by simp)) hy
 ·obtain⟨h1,rfl⟩ : ∃h1,hs = [h1]:=List.length_eq_one_iff.1 (by simp[aG] at hlen;omega)
  exact lf G1 G2 G3 nm u lb tk fk ty src ta fa ca tn tq fn fq cm cq w hty hsrc y h1 (hv h1 (by simp)) hy
 ·obtain⟨h1,rfl⟩ : ∃h1,hs = [h1]:=List.length_eq_one_iff.1 (by simp[aG] at hlen;omega)
  exact lg G1 G2 G3 nm u lb tk fk ty src ta fa ca tn tq fn fq cm cq w hty hsrc y h1 (hv h1 (by simp)) hy
 ·obtain⟨h1,rfl⟩ : ∃h1,hs = [h1]:=List.length_eq_one_iff.1 (by simp[aG] at hlen;omega)
  exact lh G1 G2 G3 nm u lb tk fk ty src ta fa ca tn tq fn fq cm cq w hty hsrc y (hvt rfl) h1 (hv h1 (by simp)) hy
theorem tN {ts:List Tm}{l:List Bd}{j:Nat}(h:j<ts.length):Tm.typsS (ts.drop j) l=match ts[j].typS l with
  | none=>none
  | some h=>(match Tm.typsS (ts.drop (j+1)) l with
    | none=>none
    | some hs=>some (h :: hs)):=by
 rw[List.drop_eq_getElem_cons h,Tm.typsS]
 cases ts[j].typS l with
 | none=>rfl
 | some x=>cases Tm.typsS (ts.drop (j+1)) l<;>rfl
theorem tM {k:Int}{nm:ByteArray}{u lb:Int}{ty src:Ty}{ts:List Tm}{l:List Bd}(hk:6≤k):(Tm.mk k nm u ty src lb ts).typS l=match Tm.typsS ts l with
  | some hs=>bd k ty hs
  | none=>none:=by
 rw[Tm.typS,if_neg (by omega),if_neg (by omega),if_neg (by omega),if_neg (by omega)]
 cases Tm.typsS ts l<;>rfl
theorem sQ (G:Nat→Prop)(k:Int)(nm:ByteArray)(u lb tk fk:Int)(ty src:Ty)(ts:List Tm)(l:List Bd)(xa ta fa ca:Option Addr)(xn xq tn tq fn fq cm cq:Nat)(w:World)
  (he:aA G w (.mk k nm u ty src lb ts) (.agg #[.int .i64 k,.string nm,.int .i64 u,.int .i64 tk,.slice ta tn tq,.int .i64 fk,.slice fa fn fq,.int .i64 lb,.slice ca cm cq]))
  (IH : ∀t'∈ts,∀(W:World) (y':Value),Below w.heap.size w W→aA G W t' y'→Calls Tryz.prog 112 #[.slice xa xn xq,y'] W (bM ((t'.typS l).map S.ty) W))
  (IV : ∀t'∈ts,∀h,t'.typS l=some h→h.vd=true)
  (hk:6≤k∧k≤13) (hlen:aG k=(ts.length:Int)) (hvt:k=13→ty.valid=true) (hsm:ts.length≤3) :
  Calls Tryz.prog 112 #[.slice xa xn xq,.agg #[.int .i64 k,.string nm,.int .i64 u,.int .i64 tk,.slice ta tn tq,.int .i64 fk,.slice fa fn fq,.int .i64 lb,.slice ca cm cq]] w (bM (((Tm.mk k nm u ty src lb ts).typS l).map S.ty) w):=by
 obtain⟨-,-,-,-,-,-,-,-,hm,hnm,hmq,hqm,hty,hsrc,hks⟩:=he.parts;simp only[Tm.type,Tm.src,Tm.kids] at hm hty hsrc hks;obtain⟨i0,hi,hz0,hz1,hz2⟩:=info_parts Tryz.infoTy;have Z0:=zq hz0;have Z1:=zq hz1;have Z2:=zq hz2;have HI:=zq hi;have q1:(k==1)=false:=by rw[beq_eq_false_iff_ne];omega
 have q2:(k==2)=false:=by rw[beq_eq_false_iff_ne];omega
 have q3:(k==3)=false:=by rw[beq_eq_false_iff_ne];omega
 have q4:(k==4)=false:=by rw[beq_eq_false_iff_ne];omega
 have q5:(k==5)=false:=by rw[beq_eq_false_iff_ne];omega
 have hm3:cm≤3:=by omega
 have HM:=zq hm;have HKS:=zq hks;have HIH:=zq IH;have HIV:=zq IV;have HEX:=zq (fun(hs:List S) (h1:hs.length=ts.length) (h2 : ∀h∈hs,h.vd=true) (W:World) (hW:Below w.heap.size w W) (G3:Nat→Prop) (y:Value) (hy:aE G3 W (hs.map S.ty) y)=>rC k hs hk (by rw[h1];exact hlen) h2 G G G3 nm u lb tk fk ty src ta fa ca tn tq fn fq cm cq W (hty.below hW) (hsrc.below hW) hvt y hy);obtain⟨O,hO⟩ : ∃O:Option Ty,O=((Tm.mk k nm u ty src lb ts).typS l).map S.ty:=⟨_,rfl⟩
 rw[←hO];have HO:=zq (show O=(match Tm.typsS ts l with
   | some hs=>bd k ty hs
   | none=>none:Option S).map S.ty from by rw[hO,tM (by omega)])
 have fE:=zq (ag (ag (aF (w:=w) (o:=.cells #[.int .i64 k,.string nm,.int .i64 u,.int .i64 tk,.slice ta tn tq,.int .i64 fk,.slice fa fn fq,.int .i64 lb,.slice ca cm cq] 28) rfl) (aj (o:=.cells #[.int .i64 0,.slice none 0 0] 25))) (aj (o:=.cells #[] 25)));have fR:=zq (ag (aF (w:=w.alloc (.cells #[.int .i64 k,.string nm,.int .i64 u,.int .i64 tk,.slice ta tn tq,.int .i64 fk,.slice fa fn fq,.int .i64 lb,.slice ca cm cq] 28)) (o:=.cells #[.int .i64 0,.slice none 0 0] 25) (b:=w.heap.size+1) (by simp)) (aj (o:=.cells #[] 25)));have fK:=zq (aF (w:=(w.alloc (.cells #[.int .i64 k,.string nm,.int .i64 u,.int .i64 tk,.slice ta tn tq,.int .i64 fk,.slice fa fn fq,.int .i64 lb,.slice ca cm cq] 28)).alloc (.cells #[.int .i64 0,.slice none 0 0] 25)) (o:=.cells #[] 25) (b:=w.heap.size+1+1) (by simp));clear hO he IH IV hty hsrc hks hi hz0 hz1 hz2 hm hlen hvt hk
 go_enter Tryz.func112,Tryz.ntmps112
 go_wp2_with fail
 go_loopw [8,9] (fun s8 s9 wr=>∃(j:Nat) (hs:List S) (cv:Option Addr) (qv:Nat),j≤cm∧s8 = .slice cv j qv∧s9 = .int .i64 j∧Hid (Below w.heap.size w wr)∧w.heap.size+1+1<wr.heap.size ∧
     Hid (wr.heap[w.heap.size]?=some (.cells #[.int .i64 k,.string nm,.int .i64 u,.int .i64 tk,.slice ta tn tq,.int .i64 fk,.slice fa fn fq,.int .i64 lb,.slice ca cm cq] 28 (0,0)))∧Hid (wr.heap[w.heap.size+1]?=some (.cells #[.int .i64 0,.slice none 0 0] 25 (0,0)))∧Hid (bL (w.heap.size+1+1) 25 2 wr (.slice cv j qv) j (Ty.rows (hs.map S.ty))) ∧
     Hid (hs.length=j∧(∀h∈hs,h.vd=true)∧Tm.typsS ts l=(Tm.typsS (ts.drop j) l).map (hs ++ ·))) (fun _ i _=>cm-(intOf i).toNat)
 case atStart=>exact⟨0,[],_,_,by omega,rfl,rfl,zq (al (al aj aj) aj),by simp,fE,fR,zq ⟨rfl,[],⟨rfl,.inr ⟨_,0,#[],rfl,Nat.le_refl _,fK.out,Nat.le_refl _,by unfold maxLen;omega,rfl,by simp⟩⟩,rfl⟩,zq ⟨rfl,by simp,by simp⟩⟩
 case round=>
  obtain⟨j,hs,cv,qv,hj,rfl,rfl,hbw,hsz,hE,hR,hrow,hrel2⟩:=hrel;clear fE fR fK;have x0:=ah hE.out (o:=6) rfl;have x8:=ah hE.out (o:=8) rfl;have lx8:w.heap.size<wr.heap.size:=by omega
  by_cases hlt:j<cm
  ·have hjt:j<ts.length:=by rw[←HM.out];exact hlt
   obtain⟨b,off,kk0,nn0,uu0,tk0,ta0,tn0,tq0,fk0,fa0,fn0,fq0,ll0,a0,m0,q0,rfl,lb_,e0,e1,e2,e3,e4,e5,e6,e7,e8,ht⟩:=HKS.out.at hbw.out hjt;have HC:=zq (HIH.out ts[j] (List.getElem_mem hjt) wr _ hbw.out ht);have HCV:=zq (HIV.out ts[j] (List.getElem_mem hjt));have HCD:=zq (tN (l:=l) hjt);generalize hoj:ts[j].typS l=oj at HC HCV HCD;have lr:=aD hR.out;have hz3:j+1≤3:=by omega
   clear hoj ht
   cases oj with
   | none=>
    have HREL:=zq (show O=none from by rw[HO.out,hrel2.out.2.2,HCD.out];rfl);have r0:=ah hR.out (o:=0) rfl
    go_wp2_with fail
    refine HC.out.mono ?_;rintro e w1 ⟨kt,at_,nt,qt,bt,tt,rfl,hbt,htt,hot,hst⟩;obtain rfl:bt=false:=hbt;have hR1:=ag hR.out hst;have HB1:=zq (al hbw.out hst);have hz1:=hst.size;clear htt hot hst r0;obtain⟨r0,r1⟩:=blk2 hR1;have rf0:=ao hR1 0;have rf1:=ao hR1 1;have lr1:=aD hR1;have lr2:w.heap.size+1<w1.heap.size+1:=by omega
    go_wp2_with fail
    have hY:(((w1.setCell ⟨w.heap.size+1,0,none⟩ (.int .i64 0)).setCell ⟨w.heap.size+1,1,none⟩ (.slice none 0 0)).alloc (.cells #[.int .i64 kt,.slice at_ nt qt] 25)).heap[w.heap.size+1]?=some (.cells #[.int .i64 0,.slice none 0 0] 25 (0,0)):=ag (aN (aN hR1 rfl) rfl) aj;obtain⟨rc0,rc1⟩:=blk2 hY;refine bodyPost_ret (v:=.tuple #[.agg #[.int .i64 0,.slice none 0 0],.bool false]) (by simp[results,Tryz.results112,go_sem,rc0,rc1]) rfl ?_
    exact⟨_,_,_,_,_,_,rfl,by rw[HREL.out];rfl,ap.zeroG,(by rw[HREL.out];intro s h;cases h),al ((HB1.out.setCell (p:=⟨w.heap.size+1,0,none⟩) (by show w.heap.size≤w.heap.size+1;omega) _).setCell (p:=⟨w.heap.size+1,1,none⟩) (by show w.heap.size≤w.heap.size+1;omega) _) aj⟩
   | some hh=>
    have HVD:=zq (HCV.out hh rfl);have HNX:=zq (show Tm.typsS ts l=(Tm.typsS (ts.drop (j+1)) l).map ((hs ++ [hh]) ++ ·) from by
      rw[hrel2.out.2.2,HCD.out]
      cases Tm.typsS (ts.drop (j+1)) l<;>simp)
    obtain⟨hlenr,xs,ho,hvals⟩:=hrow.out;have HLEN:=zq hlenr;have HOW:=zq ho;have HV:=zq hvals;clear hlenr ho hvals hrow
    go_wp2_with fail
    refine HC.out.mono ?_;rintro e w1 ⟨kt,at_,nt,qt,bt,tt,rfl,hbt,htt,hot,hst⟩;obtain rfl:bt=true:=hbt;obtain rfl:tt=hh.ty:=hot _ rfl;have HT1:=zq htt;have HST:=zq hst;have hE1:=ag hE.out hst;have hR1:=ag hR.out hst;have HB1:=zq (al hbw.out hst);have hz1:=hst.size;have hW:=zq (show Below wr.heap.size wr ((w1.alloc (.cells #[.int .i64 kt,.slice at_ nt qt] 25)).alloc (.cells #[.int .i64 kt,.slice at_ nt qt] 25)) from al (al hst aj) aj);clear htt hot hst
    go_wp2_with (first | (at_builtin;refine wpList_append_lies _ rfl (.tmp 75) (.tmp 77) 23 rfl (w.heap.size+1+1) 25 i0 _ 2 32 Tryz.underlying23 HI.out Z0.out Z1.out Z2.out rfl (by omega) (.slice cv j qv) j xs rfl (aY HOW.out hW.out) ⟨w1.heap.size+1,0,none⟩ 1 1 [.int .i64 kt,.slice at_ nt qt] rfl rfl (World.news_of_block (cs:=#[.int .i64 kt,.slice at_ nt qt]) (t:=25) (fr:=(0,0)) (aF (by simp))) (by simp[Value.oneCell']) (by omega) (by unfold maxLen;omega) (by omega) (by simp;omega) _ rfl ?_) | fail)
    intro gg cap2 w6 hown2 hgrow hat hlt2;have HROW:=zq (bL.push (r:=w.heap.size) HLEN.out HOW.out HV.out (by omega) (Chg.of_below hW.out) (((HT1.out.move (.weaken fun b h _=>h.elim False.elim id)).below aj).below aj).srep (by omega) hown2 hgrow (by simpa using hat));have HBEL:=zq (bH hbw.out hW.out HOW.out (by omega) hgrow);have hfar:=cV hW.out HOW.out hgrow;have HFAR:=zq hfar;have hsz6:wr.heap.size≤w6.heap.size:=Nat.le_trans hW.out.size hgrow.size;clear hown2 hgrow hat hfar
    go_wp2_with fail
    go_roundw
    case rel=>exact⟨j+1,hs ++ [hh],_,_,by omega,rfl,by go_num,HBEL,by omega,zq ((HFAR.out w.heap.size (by omega) (by omega)).trans hE.out),zq ((HFAR.out (w.heap.size+1) (by omega) (by omega)).trans hR.out),(by
        unfold Hid;have e1:Ty.rows ((hs ++ [hh]).map S.ty)=Ty.rows (hs.map S.ty) ++ [hh.ty.row]:=by simp[Ty.rows_eq]
        rw[e1]
        exact HROW.out),zq ⟨by simp[hrel2.out.1],fun h hm=>(List.mem_append.1 hm).elim (hrel2.out.2.1 h) (fun q=>by simp at q;subst q;exact HVD.out),HNX.out⟩⟩
    case measure=>simp[intOf];omega
  ·have HJE:=zq (show j=cm by omega)
   have HJL:=zq (show ts.drop j = [] from List.drop_eq_nil_of_le (by have:=HM.out;have:=HJE.out;omega));have HREL:=zq (show O=(bd k ty hs).map S.ty from by
     rw[HO.out,hrel2.out.2.2,HJL.out,Tm.typsS]
     simp)
   have HTY:=zq (show aE (w.heap.size+1+1 ≤ ·) wr (hs.map S.ty) (.slice cv j qv) from hrow.out.rep);have HCX:=zq (HEX.out hs (by have:=hrel2.out.1;have:=HM.out;have:=HJE.out;omega) hrel2.out.2.1 wr hbw.out _ _ HTY.out);have d0:=ah hE.out (o:=0) rfl;have d1:=ah hE.out (o:=1) rfl;have d2:=ah hE.out (o:=2) rfl;have d3:=ah hE.out (o:=3) rfl;have d4:=ah hE.out (o:=4) rfl;have d5:=ah hE.out (o:=5) rfl;have d7:=ah hE.out (o:=7) rfl;clear hrow
   go_wp2_with fail
   refine HCX.out.mono ?_;rintro e w1 ⟨kt,at_,nt,qt,bt,tt,rfl,hbt,htt,hot,hst⟩;have HBT:=zq hbt;have HTT:=zq htt;have HOT:=zq hot;have hR1:=ag hR.out hst;have HB1:=zq (al hbw.out hst);have hz1:=hst.size;clear htt hot hst hbt d0 d1 d2 d3 d4 d5 d7 x0 x8;obtain⟨r0,r1⟩:=blk2 hR1;have rf0:=ao hR1 0;have rf1:=ao hR1 1
   go_wp2_with fail
   have hY:((w1.setCell ⟨w.heap.size+1,0,none⟩ (.int .i64 kt)).setCell ⟨w.heap.size+1,1,none⟩ (.slice at_ nt qt)).heap[w.heap.size+1]?=some (.cells #[.int .i64 kt,.slice at_ nt qt] 25 (0,0)):=aN (aN hR1 rfl) rfl;obtain⟨rc0,rc1⟩:=blk2 hY;refine bodyPost_ret (v:=.tuple #[.agg #[.int .i64 kt,.slice at_ nt qt],.bool bt]) (by simp[results,Tryz.results112,go_sem,rc0,rc1]) rfl ?_;have hne : ∀b,(False∨wr.heap.size≤b)→b≠w.heap.size+1:=fun b h=>by
    have h1:=h.elim False.elim id
    omega
   exact⟨_,_,_,_,_,tt,rfl,by rw[HREL.out];exact HBT.out,(ap.setN (ap.setN HTT.out hne) hne).move (.weaken fun b h _=>.inr (by have h1:=h.elim False.elim id;omega)),(by rw[HREL.out];exact HOT.out),(HB1.out.setCell (p:=⟨w.heap.size+1,0,none⟩) (by show w.heap.size≤w.heap.size+1;omega) _).setCell (p:=⟨w.heap.size+1,1,none⟩) (by show w.heap.size≤w.heap.size+1;omega) _⟩
theorem ee {nm:ByteArray}{u lb:Int}{ty src:Ty}{t1:Tm}{l:List Bd}(h:t1.typS (l ++ [⟨nm,ty⟩])=none):(Tm.mk 5 nm u ty src lb [t1]).typS l=none:=by
 rw[Tm.typS,if_neg (by omega),if_neg (by omega),if_neg (by omega),if_pos rfl]
 simp[Tm.typsS,h]
theorem ef {nm:ByteArray}{u lb:Int}{ty src:Ty}{t1:Tm}{l:List Bd}{h1:S}(hv:ty.valid=true)(h:t1.typS (l ++ [⟨nm,ty⟩])=some h1):((Tm.mk 5 nm u ty src lb [t1]).typS l).map S.ty=if (Ty.mk 4 [ty,h1.ty]).valid=true then some (.mk 4 [ty,h1.ty]) else none:=by
 rw[Tm.typS,if_neg (by omega),if_neg (by omega),if_neg (by omega),if_pos rfl];have e:(S.fn ty.toS h1).ty = .mk 4 [ty,h1.ty]:=by rw[S.ty,Ty.toS_ty hv]
 have e2:(S.fn ty.toS h1).vd=(Ty.mk 4 [ty,h1.ty]).valid:=by rw[←e,S.valid]
 simp only[Tm.typsS,h];rw[e2]
 cases (Ty.mk 4 [ty,h1.ty]).valid<;>simp[e]
end Go.Proofs.YtfahhonmiimmdaaGreat

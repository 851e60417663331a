/-
  spec.l3Result at sums, comparisons, pairs, statements of a type.
-/
import Derived.Test.YtnaoghknnenfoaaB11
import Derived.Test.YtnaoghknnenfoaaB11
import Derived.Test.YtnaoghknnenfoaaB15
import Derived.Test.YtnaoghknnenfoaaB5
set_option linter.unusedSimpArgs false
set_option linter.unusedVariables false
set_option maxRecDepth 100000
namespace Go.Proofs.Ytnaoghknnenfoaa
open Go.RowKit
def gB:Oper:=⟨some 38,Op.call { callee:=Callee.value (Operand.func 48),args:=#[],argTypes:=#[] },25,"l3_typing.go:76",#[],none⟩
def gv:Oper:=⟨some 39,Op.move (Operand.tmp 1),23,"l3_typing.go:76",#[],none⟩
def gl:Oper:=⟨some 40,Op.indexAddr 23 (Operand.tmp 39) (Operand.const (Value.int IntKind.i64 0)),0,"l3_typing.go:76",#[⟨1,.data⟩],none⟩
def gp:Oper:=⟨some 41,Op.load 25 (Operand.tmp 40),25,"l3_typing.go:76",#[⟨2,.data⟩],none⟩
def gu:Oper:=⟨some 42,Op.call { callee:=Callee.value (Operand.func 48),args:=#[],argTypes:=#[] },25,"l3_typing.go:76",#[⟨0,.chain⟩],none⟩
def gM:Oper:=⟨some 43,Op.call { callee:=Callee.value (Operand.func 42),args:=#[Operand.tmp 41,Operand.tmp 42],argTypes:=#[25,25] },4,"l3_typing.go:76",#[⟨3,.data⟩,⟨4,.data⟩,⟨4,.chain⟩],none⟩
def gw:Oper:=⟨some 44,Op.move (Operand.tmp 43),4,"l3_typing.go:76",#[⟨5,.data⟩,⟨5,.chain⟩],none⟩
def ir:Oper:=⟨some 45,Op.move (Operand.tmp 1),23,"l3_typing.go:76",#[⟨6,.guard⟩],some (6,true)⟩
def j4:Oper:=⟨some 46,Op.indexAddr 23 (Operand.tmp 45) (Operand.const (Value.int IntKind.i64 1)),0,"l3_typing.go:76",#[⟨7,.data⟩,⟨6,.guard⟩],some (6,true)⟩
def iz:Oper:=⟨some 47,Op.load 25 (Operand.tmp 46),25,"l3_typing.go:76",#[⟨8,.data⟩,⟨6,.guard⟩],some (6,true)⟩
def fY:Oper:=⟨some 48,Op.call { callee:=Callee.value (Operand.func 48),args:=#[],argTypes:=#[] },25,"l3_typing.go:76",#[⟨6,.chain⟩,⟨6,.guard⟩],some (6,true)⟩
def fU:Oper:=⟨some 49,Op.call { callee:=Callee.value (Operand.func 42),args:=#[Operand.tmp 47,Operand.tmp 48],argTypes:=#[25,25] },4,"l3_typing.go:76",#[⟨9,.data⟩,⟨10,.data⟩,⟨10,.chain⟩,⟨6,.guard⟩],some (6,true)⟩
def ec:Oper:=⟨some 50,Op.pick (Operand.tmp 44) (Operand.tmp 49) (Operand.const (Value.bool false)),4,"l3_typing.go:76",#[⟨6,.data⟩,⟨11,.data⟩,⟨13,.gcOnly .lateStores⟩],none⟩
def dX:Oper:=⟨none,Op.store 25 (Operand.tmp 4) (Operand.tmp 38),0,"l3_typing.go:76",#[⟨0,.data⟩,⟨11,.chain⟩,⟨0,.phase⟩,⟨1,.textOnly .lateStores⟩,⟨2,.textOnly .lateStores⟩,⟨3,.textOnly .lateStores⟩,⟨4,.textOnly .lateStoresUnsure⟩,⟨5,.textOnly .lateStoresUnsure⟩,⟨6,.textOnly .lateStores⟩,⟨7,.textOnly .lateStores⟩,⟨8,.textOnly .lateStores⟩,⟨9,.textOnly .lateStores⟩,⟨10,.textOnly .lateStoresUnsure⟩,⟨11,.textOnly .lateStoresUnsure⟩,⟨12,.textOnly .lateStores⟩],none⟩
def dK:Oper:=⟨some 5,Op.assign (Operand.tmp 50),4,"l3_typing.go:76",#[⟨12,.data⟩,⟨13,.chain⟩,⟨0,.phase⟩,⟨1,.phase⟩,⟨2,.phase⟩,⟨3,.phase⟩,⟨4,.phase⟩,⟨5,.phase⟩,⟨6,.phase⟩,⟨7,.phase⟩,⟨8,.phase⟩,⟨9,.phase⟩,⟨10,.phase⟩,⟨11,.phase⟩,⟨12,.phase⟩,⟨13,.phase⟩],none⟩
set_option maxHeartbeats 4000000 in
theorem il (G1 G2 G3:Nat→Prop)(nm:ByteArray)(u lb tk fk:Int)(ty src:Ty)(ta fa ca:Option Addr)(tn tq fn fq cm cq:Nat)(w:World)(hty:ap G1 w ty (.agg #[.int .i64 tk,.slice ta tn tq]))(hsrc:ap G2 w src (.agg #[.int .i64 fk,.slice fa fn fq]))(y:Value)(h1 h2:S)(d1:h1.cons .int=false)(hv1:h1.vd=true)(hv2:h2.vd=true)(hy:aF G3 w [h1.ty,h2.ty] y) :
  Calls Try.prog 77 #[.agg #[.int .i64 7,.string nm,.int .i64 u,.int .i64 tk,.slice ta tn tq,.int .i64 fk,.slice fa fn fq,.int .i64 lb,.slice ca cm cq],y] w (bC ((bd 7 ty [h1,h2]).map S.ty) w):=by
 obtain⟨b,off,cap,k1,c1,m1,q1,k2,c2,m2,q2,rfl,-,-,hlb,e1a,e1b,e2a,e2b,ht1,ht2⟩:=hy.two
 obtain⟨O,hOO⟩ : ∃O:Option Ty,O=((bd 7 ty [h1,h2]).map S.ty):=⟨_,rfl⟩
 rw [←hOO]
 have HO:=Lib.hid hOO
 clear hOO
 have HOO:=Lib.hid (li (k:=7) (ty:=ty) (g:=h1) (h:=h2) (by omega))
 obtain⟨d2,hd2⟩ : ∃d2,h2.cons .int=d2:=⟨_,rfl⟩
 have D1:=Lib.hid d1
 have D2:=Lib.hid hd2
 have V1:=Lib.hid hv1
 have V2:=Lib.hid hv2
 clear d1 hd2 hv1 hv2
 have H1:=Lib.hid ht1.old
 have H2:=Lib.hid ht2.old
 clear hty hsrc hy ht1 ht2
 go_enter Try.func77,Try.ntmps77
 go_wp2_with fail
 obtain⟨VV,hVV⟩ : ∃X,X=((w.alloc (.cells #[.int .i64 7,.string nm,.int .i64 u,.int .i64 tk,.slice ta tn tq,.int .i64 fk,.slice fa fn fq,.int .i64 lb,.slice ca cm cq] 28)).alloc (.cells #[.int .i64 0,.slice none 0 0] 25)):=⟨_,rfl⟩
 have fE:VV.heap[w.heap.size]?=some (.cells #[.int .i64 7,.string nm,.int .i64 u,.int .i64 tk,.slice ta tn tq,.int .i64 fk,.slice fa fn fq,.int .i64 lb,.slice ca cm cq] 28 (0,0)):=by rw [hVV];exact af (aD rfl) ah
 have fR:VV.heap[w.heap.size+1]?=some (.cells #[.int .i64 0,.slice none 0 0] 25 (0,0)):=by rw [hVV];exact aD (by simp)
 have c1a_:VV.cell? ⟨b,off,none⟩=some (.int .i64 k1):=by rw [hVV];exact a9 ah (a9 ah e1a)
 have c1b_:VV.cell? ⟨b,off+1,none⟩=some (.slice c1 m1 q1):=by rw [hVV];exact a9 ah (a9 ah e1b)
 have h1_:Hid (ap (· < w.heap.size) VV h1.ty (.agg #[.int .i64 k1,.slice c1 m1 q1])):=by rw [hVV];exact Lib.hid ((H1.out.below ah).below ah)
 have c2a_:VV.cell? ⟨b,off+2,none⟩=some (.int .i64 k2):=by rw [hVV];exact a9 ah (a9 ah e2a)
 have c2b_:VV.cell? ⟨b,off+3,none⟩=some (.slice c2 m2 q2):=by rw [hVV];exact a9 ah (a9 ah e2b)
 have h2_:Hid (ap (· < w.heap.size) VV h2.ty (.agg #[.int .i64 k2,.slice c2 m2 q2])):=by rw [hVV];exact Lib.hid ((H2.out.below ah).below ah)
 have fC:Hid (Below w.heap.size w VV):=by rw [hVV];exact Lib.hid (ai ah ah)
 rw [←hVV]
 have zV:VV.heap.size=_:=congrArg (fun X:World=>X.heap.size) hVV
 simp only [World.size_alloc] at zV
 refine wp_region_noPanic ?_
 refine wp_region_held_drew (S:=fun w'=>w'.cell? ⟨b,off,none⟩=some (.int .i64 k1)∧w'.cell? ⟨b,off+1,none⟩=some (.slice c1 m1 q1)∧w'.cell? ⟨b,off+2,none⟩=some (.int .i64 k2)∧w'.cell? ⟨b,off+3,none⟩=some (.slice c2 m2 q2)) (by kernel_rfl) ?_ (fun hHeld0=>?_)
 ·exact⟨c1a_,c1b_,c2a_,c2b_⟩
 obtain⟨U1,hU,hb,zU1a,zU1b⟩:=bO VV
 rw [hU] at hHeld0 ⊢
 replace fE:=af fE hb;replace fR:=af fR hb;replace c1a_:=a9 hb c1a_;replace c1b_:=a9 hb c1b_
 replace h1_:=Lib.hid (h1_.out.below hb);replace c2a_:=a9 hb c2a_;replace c2b_:=a9 hb c2b_;replace h2_:=Lib.hid (h2_.out.below hb)
 replace fC:=Lib.hid (ai fC.out hb)
 rw [zV] at zU1a zU1b
 clear hU hb hVV zV
 refine hwt 1 gv (.slice (some ⟨b,off,none⟩) 2 cap) hHeld0 ?_ ?_
 ·intro w' hSw;dsimp only [gv];go_simp
 try simp only [gv,hwA]
 refine hwt 2 gl (.pointer (some ⟨b,off,none⟩)) hHeld0 ?_ ?_
 ·intro w' hSw;dsimp only [gl];go_simp
 try simp only [gl,hwA]
 refine hwt 3 gp (.agg #[.int .i64 k1,.slice c1 m1 q1]) hHeld0 ?_ ?_
 ·intro w' hSw;dsimp only [gp];go_simp
 try simp only [gp,hwA]
 refine hwr 0 gB (fun K hK=>?_)
 dsimp only [gB];go_simp
 go_at_call 48
 refine(bw _).mono ?_
 rintro e X1 ⟨rfl,hb⟩
 go_wp2_with fail
 have zX1:U1.heap.size≤X1.heap.size:=hb.size
 replace fE:=af fE hb;replace fR:=af fR hb;replace c1a_:=a9 hb c1a_;replace c1b_:=a9 hb c1b_
 replace h1_:=Lib.hid (h1_.out.below hb);replace c2a_:=a9 hb c2a_;replace c2b_:=a9 hb c2b_;replace h2_:=Lib.hid (h2_.out.below hb)
 replace fC:=Lib.hid (ai fC.out hb)
 refine hK.out _ _ ⟨c1a_,c1b_,c2a_,c2b_⟩ (fun hHeld1=>?_)
 clear hK K hHeld0 hb
 try simp only [gB,hwA]
 refine hwr 4 gu (fun K hK=>?_)
 dsimp only [gu];go_simp
 go_at_call 48
 refine(bw _).mono ?_
 rintro e X2 ⟨rfl,hb⟩
 go_wp2_with fail
 have zX2:X1.heap.size≤X2.heap.size:=hb.size
 replace fE:=af fE hb;replace fR:=af fR hb;replace c1a_:=a9 hb c1a_;replace c1b_:=a9 hb c1b_
 replace h1_:=Lib.hid (h1_.out.below hb);replace c2a_:=a9 hb c2a_;replace c2b_:=a9 hb c2b_;replace h2_:=Lib.hid (h2_.out.below hb)
 replace fC:=Lib.hid (ai fC.out hb)
 refine hK.out _ _ ⟨c1a_,c1b_,c2a_,c2b_⟩ (fun hHeld2=>?_)
 clear hK K hHeld1 hb
 try simp only [gu,hwA]
 refine hwr 5 gM (fun K hK=>?_)
 dsimp only [gM];go_simp
 go_at_call 42
 refine(bV _ _ _ S.int _ _ _ h1_.out (ap.leaf 2) V1.out rfl).mono ?_
 rintro e X3 ⟨rfl,hb⟩
 rw [D1.out]
 go_wp2_with fail
 have zX3:X2.heap.size≤X3.heap.size:=hb.size
 replace fE:=af fE hb;replace fR:=af fR hb;replace c1a_:=a9 hb c1a_;replace c1b_:=a9 hb c1b_
 replace h1_:=Lib.hid (h1_.out.below hb);replace c2a_:=a9 hb c2a_;replace c2b_:=a9 hb c2b_;replace h2_:=Lib.hid (h2_.out.below hb)
 replace fC:=Lib.hid (ai fC.out hb)
 refine hK.out _ _ ⟨c1a_,c1b_,c2a_,c2b_⟩ (fun hHeld3=>?_)
 clear hK K hHeld2 hb
 try simp only [gM,hwA]
 refine hwt 6 gw (.bool false) hHeld3 ?_ ?_
 ·intro w' hSw;dsimp only [gw];go_simp
 try simp only [gw,hwA]
 refine hwn 7 ir hHeld3 ?_
 try simp only [ir,hwA]
 refine hwn 8 j4 hHeld3 ?_
 try simp only [j4,hwA]
 refine hwn 9 iz hHeld3 ?_
 try simp only [iz,hwA]
 refine hwn 10 fY hHeld3 ?_
 try simp only [fY,hwA]
 refine hwn 11 fU hHeld3 ?_
 try simp only [fU,hwA]
 refine hwt 12 ec (.bool false) hHeld3 ?_ ?_
 ·intro w' hSw;dsimp only [ec];go_simp
 try simp only [ec,hwA]
 refine hwr 13 dX (fun K hK=>?_)
 obtain⟨r0,r1,rf0,rf1⟩:=cg fR
 dsimp only [dX];go_simp
 (try go_wp2_with fail)
 have hQq:=bx fR (.int .i64 2) (.slice none 0 0)
 clear fR r0 rf0 r1 rf1
 obtain⟨X4,hXq,hsq,fR,zX4a,zX4b⟩:=hQq
 rw [hXq]
 replace fE:=hsq.blk (by omega) fE;replace c1a_:=hsq.cell (by show b≠w.heap.size+1;omega) c1a_;replace c1b_:=hsq.cell (by show b≠w.heap.size+1;omega) c1b_;replace h1_:=Lib.hid (hsq.rep (fun b hb=>by have:b<w.heap.size:=hb;omega) h1_.out)
 replace c2a_:=hsq.cell (by show b≠w.heap.size+1;omega) c2a_;replace c2b_:=hsq.cell (by show b≠w.heap.size+1;omega) c2b_;replace h2_:=Lib.hid (hsq.rep (fun b hb=>by have:b<w.heap.size:=hb;omega) h2_.out);replace fC:=Lib.hid (hsq.bel fC.out (by omega))
 refine hK.out _ _ ⟨c1a_,c1b_,c2a_,c2b_⟩ (fun hHeld4=>?_)
 clear hK K hHeld3 hsq hXq
 try simp only [dX,hwA]
 refine hwt 14 dK (.bool false) hHeld4 ?_ ?_
 ·intro w' hSw;dsimp only [dK];go_simp
 try simp only [dK,hwA]
 refine wpAnyH_done (by kernel_rfl) ?_ _
 refine NoPanic.normal ?_
 clear hHeld4
 have HN:O=none:=by rw [HO.out,HOO.out,D1.out,D2.out];rfl
 obtain⟨rc0,rc1⟩:=blk2 fR
 go_wp2_with fail
 refine bodyPost_ret (v:=.tuple #[.agg #[.int .i64 2,.slice none 0 0],.bool false]) (by simp [results,Try.results77,go_sem,rc0,rc1]) rfl ?_
 exact⟨_,_,_,_,_,.mk 2 [],rfl,by rw [HN];rfl,ap.leafG 2,(by rw [HN];intro s h;cases h),fC.out⟩
set_option maxHeartbeats 4000000 in
theorem ig (G1 G2 G3:Nat→Prop)(nm:ByteArray)(u lb tk fk:Int)(ty src:Ty)(ta fa ca:Option Addr)(tn tq fn fq cm cq:Nat)(w:World)(hty:ap G1 w ty (.agg #[.int .i64 tk,.slice ta tn tq]))(hsrc:ap G2 w src (.agg #[.int .i64 fk,.slice fa fn fq]))(y:Value)(h1 h2:S)(d1:h1.cons .int=true)(hv1:h1.vd=true)(hv2:h2.vd=true)(hy:aF G3 w [h1.ty,h2.ty] y) :
  Calls Try.prog 77 #[.agg #[.int .i64 7,.string nm,.int .i64 u,.int .i64 tk,.slice ta tn tq,.int .i64 fk,.slice fa fn fq,.int .i64 lb,.slice ca cm cq],y] w (bC ((bd 7 ty [h1,h2]).map S.ty) w):=by
 obtain⟨b,off,cap,k1,c1,m1,q1,k2,c2,m2,q2,rfl,-,-,hlb,e1a,e1b,e2a,e2b,ht1,ht2⟩:=hy.two
 obtain⟨O,hOO⟩ : ∃O:Option Ty,O=((bd 7 ty [h1,h2]).map S.ty):=⟨_,rfl⟩
 rw [←hOO]
 have HO:=Lib.hid hOO
 clear hOO
 have HOO:=Lib.hid (li (k:=7) (ty:=ty) (g:=h1) (h:=h2) (by omega))
 obtain⟨d2,hd2⟩ : ∃d2,h2.cons .int=d2:=⟨_,rfl⟩
 have D1:=Lib.hid d1
 have D2:=Lib.hid hd2
 have V1:=Lib.hid hv1
 have V2:=Lib.hid hv2
 clear d1 hd2 hv1 hv2
 have H1:=Lib.hid ht1.old
 have H2:=Lib.hid ht2.old
 clear hty hsrc hy ht1 ht2
 go_enter Try.func77,Try.ntmps77
 go_wp2_with fail
 obtain⟨VV,hVV⟩ : ∃X,X=((w.alloc (.cells #[.int .i64 7,.string nm,.int .i64 u,.int .i64 tk,.slice ta tn tq,.int .i64 fk,.slice fa fn fq,.int .i64 lb,.slice ca cm cq] 28)).alloc (.cells #[.int .i64 0,.slice none 0 0] 25)):=⟨_,rfl⟩
 have fE:VV.heap[w.heap.size]?=some (.cells #[.int .i64 7,.string nm,.int .i64 u,.int .i64 tk,.slice ta tn tq,.int .i64 fk,.slice fa fn fq,.int .i64 lb,.slice ca cm cq] 28 (0,0)):=by rw [hVV];exact af (aD rfl) ah
 have fR:VV.heap[w.heap.size+1]?=some (.cells #[.int .i64 0,.slice none 0 0] 25 (0,0)):=by rw [hVV];exact aD (by simp)
 have c1a_:VV.cell? ⟨b,off,none⟩=some (.int .i64 k1):=by rw [hVV];exact a9 ah (a9 ah e1a)
 have c1b_:VV.cell? ⟨b,off+1,none⟩=some (.slice c1 m1 q1):=by rw [hVV];exact a9 ah (a9 ah e1b)
 have h1_:Hid (ap (· < w.heap.size) VV h1.ty (.agg #[.int .i64 k1,.slice c1 m1 q1])):=by rw [hVV];exact Lib.hid ((H1.out.below ah).below ah)
 have c2a_:VV.cell? ⟨b,off+2,none⟩=some (.int .i64 k2):=by rw [hVV];exact a9 ah (a9 ah e2a)
 have c2b_:VV.cell? ⟨b,off+3,none⟩=some (.slice c2 m2 q2):=by rw [hVV];exact a9 ah (a9 ah e2b)
 have h2_:Hid (ap (· < w.heap.size) VV h2.ty (.agg #[.int .i64 k2,.slice c2 m2 q2])):=by rw [hVV];exact Lib.hid ((H2.out.below ah).below ah)
 have fC:Hid (Below w.heap.size w VV):=by rw [hVV];exact Lib.hid (ai ah ah)
 rw [←hVV]
 have zV:VV.heap.size=_:=congrArg (fun X:World=>X.heap.size) hVV
 simp only [World.size_alloc] at zV
 refine wp_region_noPanic ?_
 refine wp_region_held_drew (S:=fun w'=>w'.cell? ⟨b,off,none⟩=some (.int .i64 k1)∧w'.cell? ⟨b,off+1,none⟩=some (.slice c1 m1 q1)∧w'.cell? ⟨b,off+2,none⟩=some (.int .i64 k2)∧w'.cell? ⟨b,off+3,none⟩=some (.slice c2 m2 q2)) (by kernel_rfl) ?_ (fun hHeld0=>?_)
 ·exact⟨c1a_,c1b_,c2a_,c2b_⟩
 obtain⟨U2,hU,hb,zU2a,zU2b⟩:=bO VV
 rw [hU] at hHeld0 ⊢
 replace fE:=af fE hb;replace fR:=af fR hb;replace c1a_:=a9 hb c1a_;replace c1b_:=a9 hb c1b_
 replace h1_:=Lib.hid (h1_.out.below hb);replace c2a_:=a9 hb c2a_;replace c2b_:=a9 hb c2b_;replace h2_:=Lib.hid (h2_.out.below hb)
 replace fC:=Lib.hid (ai fC.out hb)
 rw [zV] at zU2a zU2b
 clear hU hb hVV zV
 refine hwt 1 gv (.slice (some ⟨b,off,none⟩) 2 cap) hHeld0 ?_ ?_
 ·intro w' hSw;dsimp only [gv];go_simp
 try simp only [gv,hwA]
 refine hwt 2 gl (.pointer (some ⟨b,off,none⟩)) hHeld0 ?_ ?_
 ·intro w' hSw;dsimp only [gl];go_simp
 try simp only [gl,hwA]
 refine hwt 3 gp (.agg #[.int .i64 k1,.slice c1 m1 q1]) hHeld0 ?_ ?_
 ·intro w' hSw;dsimp only [gp];go_simp
 try simp only [gp,hwA]
 refine hwr 0 gB (fun K hK=>?_)
 dsimp only [gB];go_simp
 go_at_call 48
 refine(bw _).mono ?_
 rintro e X1 ⟨rfl,hb⟩
 go_wp2_with fail
 have zX1:U2.heap.size≤X1.heap.size:=hb.size
 replace fE:=af fE hb;replace fR:=af fR hb;replace c1a_:=a9 hb c1a_;replace c1b_:=a9 hb c1b_
 replace h1_:=Lib.hid (h1_.out.below hb);replace c2a_:=a9 hb c2a_;replace c2b_:=a9 hb c2b_;replace h2_:=Lib.hid (h2_.out.below hb)
 replace fC:=Lib.hid (ai fC.out hb)
 refine hK.out _ _ ⟨c1a_,c1b_,c2a_,c2b_⟩ (fun hHeld1=>?_)
 clear hK K hHeld0 hb
 try simp only [gB,hwA]
 refine hwr 4 gu (fun K hK=>?_)
 dsimp only [gu];go_simp
 go_at_call 48
 refine(bw _).mono ?_
 rintro e X2 ⟨rfl,hb⟩
 go_wp2_with fail
 have zX2:X1.heap.size≤X2.heap.size:=hb.size
 replace fE:=af fE hb;replace fR:=af fR hb;replace c1a_:=a9 hb c1a_;replace c1b_:=a9 hb c1b_
 replace h1_:=Lib.hid (h1_.out.below hb);replace c2a_:=a9 hb c2a_;replace c2b_:=a9 hb c2b_;replace h2_:=Lib.hid (h2_.out.below hb)
 replace fC:=Lib.hid (ai fC.out hb)
 refine hK.out _ _ ⟨c1a_,c1b_,c2a_,c2b_⟩ (fun hHeld2=>?_)
 clear hK K hHeld1 hb
 try simp only [gu,hwA]
 refine hwr 5 gM (fun K hK=>?_)
 dsimp only [gM];go_simp
 go_at_call 42
 refine(bV _ _ _ S.int _ _ _ h1_.out (ap.leaf 2) V1.out rfl).mono ?_
 rintro e X3 ⟨rfl,hb⟩
 rw [D1.out]
 go_wp2_with fail
 have zX3:X2.heap.size≤X3.heap.size:=hb.size
 replace fE:=af fE hb;replace fR:=af fR hb;replace c1a_:=a9 hb c1a_;replace c1b_:=a9 hb c1b_
 replace h1_:=Lib.hid (h1_.out.below hb);replace c2a_:=a9 hb c2a_;replace c2b_:=a9 hb c2b_;replace h2_:=Lib.hid (h2_.out.below hb)
 replace fC:=Lib.hid (ai fC.out hb)
 refine hK.out _ _ ⟨c1a_,c1b_,c2a_,c2b_⟩ (fun hHeld3=>?_)
 clear hK K hHeld2 hb
 try simp only [gM,hwA]
 refine hwt 6 gw (.bool true) hHeld3 ?_ ?_
 ·intro w' hSw;dsimp only [gw];go_simp
 try simp only [gw,hwA]
 refine hwt 7 ir (.slice (some ⟨b,off,none⟩) 2 cap) hHeld3 ?_ ?_
 ·intro w' hSw;dsimp only [ir];go_simp
 try simp only [ir,hwA]
 refine hwt 8 j4 (.pointer (some ⟨b,off+2,none⟩)) hHeld3 ?_ ?_
 ·intro w' hSw;dsimp only [j4];go_simp
 try simp only [j4,hwA]
 refine hwt 9 iz (.agg #[.int .i64 k2,.slice c2 m2 q2]) hHeld3 ?_ ?_
 ·intro w' hSw;dsimp only [iz];go_simp
 try simp only [iz,hwA]
 refine hwr 10 fY (fun K hK=>?_)
 dsimp only [fY];go_simp
 go_at_call 48
 refine(bw _).mono ?_
 rintro e X4 ⟨rfl,hb⟩
 go_wp2_with fail
 have zX4:X3.heap.size≤X4.heap.size:=hb.size
 replace fE:=af fE hb;replace fR:=af fR hb;replace c1a_:=a9 hb c1a_;replace c1b_:=a9 hb c1b_
 replace h1_:=Lib.hid (h1_.out.below hb);replace c2a_:=a9 hb c2a_;replace c2b_:=a9 hb c2b_;replace h2_:=Lib.hid (h2_.out.below hb)
 replace fC:=Lib.hid (ai fC.out hb)
 refine hK.out _ _ ⟨c1a_,c1b_,c2a_,c2b_⟩ (fun hHeld4=>?_)
 clear hK K hHeld3 hb
 try simp only [fY,hwA]
 refine hwr 11 fU (fun K hK=>?_)
 dsimp only [fU];go_simp
 go_at_call 42
 refine(bV _ _ _ S.int _ _ _ h2_.out (ap.leaf 2) V2.out rfl).mono ?_
 rintro e X5 ⟨rfl,hb⟩
 rw [D2.out]
 go_wp2_with fail
 have zX5:X4.heap.size≤X5.heap.size:=hb.size
 replace fE:=af fE hb;replace fR:=af fR hb;replace c1a_:=a9 hb c1a_;replace c1b_:=a9 hb c1b_
 replace h1_:=Lib.hid (h1_.out.below hb);replace c2a_:=a9 hb c2a_;replace c2b_:=a9 hb c2b_;replace h2_:=Lib.hid (h2_.out.below hb)
 replace fC:=Lib.hid (ai fC.out hb)
 refine hK.out _ _ ⟨c1a_,c1b_,c2a_,c2b_⟩ (fun hHeld5=>?_)
 clear hK K hHeld4 hb
 try simp only [fU,hwA]
 refine hwt 12 ec (.bool d2) hHeld5 ?_ ?_
 ·intro w' hSw;dsimp only [ec];go_simp
 try simp only [ec,hwA]
 refine hwr 13 dX (fun K hK=>?_)
 obtain⟨r0,r1,rf0,rf1⟩:=cg fR
 dsimp only [dX];go_simp
 (try go_wp2_with fail)
 have hQq:=bx fR (.int .i64 2) (.slice none 0 0)
 clear fR r0 rf0 r1 rf1
 obtain⟨X6,hXq,hsq,fR,zX6a,zX6b⟩:=hQq
 rw [hXq]
 replace fE:=hsq.blk (by omega) fE;replace c1a_:=hsq.cell (by show b≠w.heap.size+1;omega) c1a_;replace c1b_:=hsq.cell (by show b≠w.heap.size+1;omega) c1b_;replace h1_:=Lib.hid (hsq.rep (fun b hb=>by have:b<w.heap.size:=hb;omega) h1_.out)
 replace c2a_:=hsq.cell (by show b≠w.heap.size+1;omega) c2a_;replace c2b_:=hsq.cell (by show b≠w.heap.size+1;omega) c2b_;replace h2_:=Lib.hid (hsq.rep (fun b hb=>by have:b<w.heap.size:=hb;omega) h2_.out);replace fC:=Lib.hid (hsq.bel fC.out (by omega))
 refine hK.out _ _ ⟨c1a_,c1b_,c2a_,c2b_⟩ (fun hHeld6=>?_)
 clear hK K hHeld5 hsq hXq
 try simp only [dX,hwA]
 refine hwt 14 dK (.bool d2) hHeld6 ?_ ?_
 ·intro w' hSw;dsimp only [dK];go_simp
 try simp only [dK,hwA]
 refine wpAnyH_done (by kernel_rfl) ?_ _
 refine NoPanic.normal ?_
 clear hHeld6
 have HN:O=if d2=true then some (.mk 2 []) else none:=by rw [HO.out,HOO.out,D1.out,D2.out];cases d2<;>rfl
 obtain⟨rc0,rc1⟩:=blk2 fR
 go_wp2_with fail
 refine bodyPost_ret (v:=.tuple #[.agg #[.int .i64 2,.slice none 0 0],.bool d2]) (by simp [results,Try.results77,go_sem,rc0,rc1]) rfl ?_
 exact⟨_,_,_,_,_,.mk 2 [],rfl,by rw [HN];cases d2<;>rfl,ap.leafG 2,(by rw [HN];intro s h;cases d2 with | false=>cases h | true=>exact Option.some.inj h),fC.out⟩
def gq:Oper:=⟨some 53,Op.call { callee:=Callee.value (Operand.func 45),args:=#[],argTypes:=#[] },25,"l3_typing.go:78",#[],none⟩
def gC:Oper:=⟨some 54,Op.move (Operand.tmp 1),23,"l3_typing.go:78",#[],none⟩
def gN:Oper:=⟨some 55,Op.indexAddr 23 (Operand.tmp 54) (Operand.const (Value.int IntKind.i64 0)),0,"l3_typing.go:78",#[⟨1,.data⟩],none⟩
def gx:Oper:=⟨some 56,Op.load 25 (Operand.tmp 55),25,"l3_typing.go:78",#[⟨2,.data⟩],none⟩
def gD:Oper:=⟨some 57,Op.call { callee:=Callee.value (Operand.func 48),args:=#[],argTypes:=#[] },25,"l3_typing.go:78",#[⟨0,.chain⟩],none⟩
def gy:Oper:=⟨some 58,Op.call { callee:=Callee.value (Operand.func 42),args:=#[Operand.tmp 56,Operand.tmp 57],argTypes:=#[25,25] },4,"l3_typing.go:78",#[⟨3,.data⟩,⟨4,.data⟩,⟨4,.chain⟩],none⟩
def gA:Oper:=⟨some 59,Op.move (Operand.tmp 58),4,"l3_typing.go:78",#[⟨5,.data⟩,⟨5,.chain⟩],none⟩
def iI:Oper:=⟨some 60,Op.move (Operand.tmp 1),23,"l3_typing.go:78",#[⟨6,.guard⟩],some (6,true)⟩
def iP:Oper:=⟨some 61,Op.indexAddr 23 (Operand.tmp 60) (Operand.const (Value.int IntKind.i64 1)),0,"l3_typing.go:78",#[⟨7,.data⟩,⟨6,.guard⟩],some (6,true)⟩
def j6:Oper:=⟨some 62,Op.load 25 (Operand.tmp 61),25,"l3_typing.go:78",#[⟨8,.data⟩,⟨6,.guard⟩],some (6,true)⟩
def fh:Oper:=⟨some 63,Op.call { callee:=Callee.value (Operand.func 48),args:=#[],argTypes:=#[] },25,"l3_typing.go:78",#[⟨6,.chain⟩,⟨6,.guard⟩],some (6,true)⟩
def fH:Oper:=⟨some 64,Op.call { callee:=Callee.value (Operand.func 42),args:=#[Operand.tmp 62,Operand.tmp 63],argTypes:=#[25,25] },4,"l3_typing.go:78",#[⟨9,.data⟩,⟨10,.data⟩,⟨10,.chain⟩,⟨6,.guard⟩],some (6,true)⟩
def dM:Oper:=⟨some 65,Op.pick (Operand.tmp 59) (Operand.tmp 64) (Operand.const (Value.bool false)),4,"l3_typing.go:78",#[⟨6,.data⟩,⟨11,.data⟩,⟨13,.gcOnly .lateStores⟩],none⟩
def dS:Oper:=⟨none,Op.store 25 (Operand.tmp 4) (Operand.tmp 53),0,"l3_typing.go:78",#[⟨0,.data⟩,⟨11,.chain⟩,⟨0,.phase⟩,⟨1,.textOnly .lateStores⟩,⟨2,.textOnly .lateStores⟩,⟨3,.textOnly .lateStores⟩,⟨4,.textOnly .lateStoresUnsure⟩,⟨5,.textOnly .lateStoresUnsure⟩,⟨6,.textOnly .lateStores⟩,⟨7,.textOnly .lateStores⟩,⟨8,.textOnly .lateStores⟩,⟨9,.textOnly .lateStores⟩,⟨10,.textOnly .lateStoresUnsure⟩,⟨11,.textOnly .lateStoresUnsure⟩,⟨12,.textOnly .lateStores⟩],none⟩
def dR:Oper:=⟨some 5,Op.assign (Operand.tmp 65),4,"l3_typing.go:78",#[⟨12,.data⟩,⟨13,.chain⟩,⟨0,.phase⟩,⟨1,.phase⟩,⟨2,.phase⟩,⟨3,.phase⟩,⟨4,.phase⟩,⟨5,.phase⟩,⟨6,.phase⟩,⟨7,.phase⟩,⟨8,.phase⟩,⟨9,.phase⟩,⟨10,.phase⟩,⟨11,.phase⟩,⟨12,.phase⟩,⟨13,.phase⟩],none⟩
set_option maxHeartbeats 4000000 in
theorem ie (G1 G2 G3:Nat→Prop)(nm:ByteArray)(u lb tk fk:Int)(ty src:Ty)(ta fa ca:Option Addr)(tn tq fn fq cm cq:Nat)(w:World)(hty:ap G1 w ty (.agg #[.int .i64 tk,.slice ta tn tq]))(hsrc:ap G2 w src (.agg #[.int .i64 fk,.slice fa fn fq]))(y:Value)(h1 h2:S)(d1:h1.cons .int=false)(hv1:h1.vd=true)(hv2:h2.vd=true)(hy:aF G3 w [h1.ty,h2.ty] y) :
  Calls Try.prog 77 #[.agg #[.int .i64 8,.string nm,.int .i64 u,.int .i64 tk,.slice ta tn tq,.int .i64 fk,.slice fa fn fq,.int .i64 lb,.slice ca cm cq],y] w (bC ((bd 8 ty [h1,h2]).map S.ty) w):=by
 obtain⟨b,off,cap,k1,c1,m1,q1,k2,c2,m2,q2,rfl,-,-,hlb,e1a,e1b,e2a,e2b,ht1,ht2⟩:=hy.two
 obtain⟨O,hOO⟩ : ∃O:Option Ty,O=((bd 8 ty [h1,h2]).map S.ty):=⟨_,rfl⟩
 rw [←hOO]
 have HO:=Lib.hid hOO
 clear hOO
 have HOO:=Lib.hid (li (k:=8) (ty:=ty) (g:=h1) (h:=h2) (by omega))
 obtain⟨d2,hd2⟩ : ∃d2,h2.cons .int=d2:=⟨_,rfl⟩
 have D1:=Lib.hid d1
 have D2:=Lib.hid hd2
 have V1:=Lib.hid hv1
 have V2:=Lib.hid hv2
 clear d1 hd2 hv1 hv2
 have H1:=Lib.hid ht1.old
 have H2:=Lib.hid ht2.old
 clear hty hsrc hy ht1 ht2
 go_enter Try.func77,Try.ntmps77
 go_wp2_with fail
 obtain⟨VV,hVV⟩ : ∃X,X=((w.alloc (.cells #[.int .i64 8,.string nm,.int .i64 u,.int .i64 tk,.slice ta tn tq,.int .i64 fk,.slice fa fn fq,.int .i64 lb,.slice ca cm cq] 28)).alloc (.cells #[.int .i64 0,.slice none 0 0] 25)):=⟨_,rfl⟩
 have fE:VV.heap[w.heap.size]?=some (.cells #[.int .i64 8,.string nm,.int .i64 u,.int .i64 tk,.slice ta tn tq,.int .i64 fk,.slice fa fn fq,.int .i64 lb,.slice ca cm cq] 28 (0,0)):=by rw [hVV];exact af (aD rfl) ah
 have fR:VV.heap[w.heap.size+1]?=some (.cells #[.int .i64 0,.slice none 0 0] 25 (0,0)):=by rw [hVV];exact aD (by simp)
 have c1a_:VV.cell? ⟨b,off,none⟩=some (.int .i64 k1):=by rw [hVV];exact a9 ah (a9 ah e1a)
 have c1b_:VV.cell? ⟨b,off+1,none⟩=some (.slice c1 m1 q1):=by rw [hVV];exact a9 ah (a9 ah e1b)
 have h1_:Hid (ap (· < w.heap.size) VV h1.ty (.agg #[.int .i64 k1,.slice c1 m1 q1])):=by rw [hVV];exact Lib.hid ((H1.out.below ah).below ah)
 have c2a_:VV.cell? ⟨b,off+2,none⟩=some (.int .i64 k2):=by rw [hVV];exact a9 ah (a9 ah e2a)
 have c2b_:VV.cell? ⟨b,off+3,none⟩=some (.slice c2 m2 q2):=by rw [hVV];exact a9 ah (a9 ah e2b)
 have h2_:Hid (ap (· < w.heap.size) VV h2.ty (.agg #[.int .i64 k2,.slice c2 m2 q2])):=by rw [hVV];exact Lib.hid ((H2.out.below ah).below ah)
 have fC:Hid (Below w.heap.size w VV):=by rw [hVV];exact Lib.hid (ai ah ah)
 rw [←hVV]
 have zV:VV.heap.size=_:=congrArg (fun X:World=>X.heap.size) hVV
 simp only [World.size_alloc] at zV
 refine wp_region_noPanic ?_
 refine wp_region_held_drew (S:=fun w'=>w'.cell? ⟨b,off,none⟩=some (.int .i64 k1)∧w'.cell? ⟨b,off+1,none⟩=some (.slice c1 m1 q1)∧w'.cell? ⟨b,off+2,none⟩=some (.int .i64 k2)∧w'.cell? ⟨b,off+3,none⟩=some (.slice c2 m2 q2)) (by kernel_rfl) ?_ (fun hHeld0=>?_)
 ·exact⟨c1a_,c1b_,c2a_,c2b_⟩
 obtain⟨U3,hU,hb,zU3a,zU3b⟩:=bO VV
 rw [hU] at hHeld0 ⊢
 replace fE:=af fE hb;replace fR:=af fR hb;replace c1a_:=a9 hb c1a_;replace c1b_:=a9 hb c1b_
 replace h1_:=Lib.hid (h1_.out.below hb);replace c2a_:=a9 hb c2a_;replace c2b_:=a9 hb c2b_;replace h2_:=Lib.hid (h2_.out.below hb)
 replace fC:=Lib.hid (ai fC.out hb)
 rw [zV] at zU3a zU3b
 clear hU hb hVV zV
 refine hwt 1 gC (.slice (some ⟨b,off,none⟩) 2 cap) hHeld0 ?_ ?_
 ·intro w' hSw;dsimp only [gC];go_simp
 try simp only [gC,hwA]
 refine hwt 2 gN (.pointer (some ⟨b,off,none⟩)) hHeld0 ?_ ?_
 ·intro w' hSw;dsimp only [gN];go_simp
 try simp only [gN,hwA]
 refine hwt 3 gx (.agg #[.int .i64 k1,.slice c1 m1 q1]) hHeld0 ?_ ?_
 ·intro w' hSw;dsimp only [gx];go_simp
 try simp only [gx,hwA]
 refine hwr 0 gq (fun K hK=>?_)
 dsimp only [gq];go_simp
 go_at_call 45
 refine(cJ _).mono ?_
 rintro e X1 ⟨rfl,hb⟩
 go_wp2_with fail
 have zX1:U3.heap.size≤X1.heap.size:=hb.size
 replace fE:=af fE hb;replace fR:=af fR hb;replace c1a_:=a9 hb c1a_;replace c1b_:=a9 hb c1b_
 replace h1_:=Lib.hid (h1_.out.below hb);replace c2a_:=a9 hb c2a_;replace c2b_:=a9 hb c2b_;replace h2_:=Lib.hid (h2_.out.below hb)
 replace fC:=Lib.hid (ai fC.out hb)
 refine hK.out _ _ ⟨c1a_,c1b_,c2a_,c2b_⟩ (fun hHeld1=>?_)
 clear hK K hHeld0 hb
 try simp only [gq,hwA]
 refine hwr 4 gD (fun K hK=>?_)
 dsimp only [gD];go_simp
 go_at_call 48
 refine(bw _).mono ?_
 rintro e X2 ⟨rfl,hb⟩
 go_wp2_with fail
 have zX2:X1.heap.size≤X2.heap.size:=hb.size
 replace fE:=af fE hb;replace fR:=af fR hb;replace c1a_:=a9 hb c1a_;replace c1b_:=a9 hb c1b_
 replace h1_:=Lib.hid (h1_.out.below hb);replace c2a_:=a9 hb c2a_;replace c2b_:=a9 hb c2b_;replace h2_:=Lib.hid (h2_.out.below hb)
 replace fC:=Lib.hid (ai fC.out hb)
 refine hK.out _ _ ⟨c1a_,c1b_,c2a_,c2b_⟩ (fun hHeld2=>?_)
 clear hK K hHeld1 hb
 try simp only [gD,hwA]
 refine hwr 5 gy (fun K hK=>?_)
 dsimp only [gy];go_simp
 go_at_call 42
 refine(bV _ _ _ S.int _ _ _ h1_.out (ap.leaf 2) V1.out rfl).mono ?_
 rintro e X3 ⟨rfl,hb⟩
 rw [D1.out]
 go_wp2_with fail
 have zX3:X2.heap.size≤X3.heap.size:=hb.size
 replace fE:=af fE hb;replace fR:=af fR hb;replace c1a_:=a9 hb c1a_;replace c1b_:=a9 hb c1b_
 replace h1_:=Lib.hid (h1_.out.below hb);replace c2a_:=a9 hb c2a_;replace c2b_:=a9 hb c2b_;replace h2_:=Lib.hid (h2_.out.below hb)
 replace fC:=Lib.hid (ai fC.out hb)
 refine hK.out _ _ ⟨c1a_,c1b_,c2a_,c2b_⟩ (fun hHeld3=>?_)
 clear hK K hHeld2 hb
 try simp only [gy,hwA]
 refine hwt 6 gA (.bool false) hHeld3 ?_ ?_
 ·intro w' hSw;dsimp only [gA];go_simp
 try simp only [gA,hwA]
 refine hwn 7 iI hHeld3 ?_
 try simp only [iI,hwA]
 refine hwn 8 iP hHeld3 ?_
 try simp only [iP,hwA]
 refine hwn 9 j6 hHeld3 ?_
 try simp only [j6,hwA]
 refine hwn 10 fh hHeld3 ?_
 try simp only [fh,hwA]
 refine hwn 11 fH hHeld3 ?_
 try simp only [fH,hwA]
 refine hwt 12 dM (.bool false) hHeld3 ?_ ?_
 ·intro w' hSw;dsimp only [dM];go_simp
 try simp only [dM,hwA]
 refine hwr 13 dS (fun K hK=>?_)
 obtain⟨r0,r1,rf0,rf1⟩:=cg fR
 dsimp only [dS];go_simp
 (try go_wp2_with fail)
 have hQq:=bx fR (.int .i64 3) (.slice none 0 0)
 clear fR r0 rf0 r1 rf1
 obtain⟨X4,hXq,hsq,fR,zX4a,zX4b⟩:=hQq
 rw [hXq]
 replace fE:=hsq.blk (by omega) fE;replace c1a_:=hsq.cell (by show b≠w.heap.size+1;omega) c1a_;replace c1b_:=hsq.cell (by show b≠w.heap.size+1;omega) c1b_;replace h1_:=Lib.hid (hsq.rep (fun b hb=>by have:b<w.heap.size:=hb;omega) h1_.out)
 replace c2a_:=hsq.cell (by show b≠w.heap.size+1;omega) c2a_;replace c2b_:=hsq.cell (by show b≠w.heap.size+1;omega) c2b_;replace h2_:=Lib.hid (hsq.rep (fun b hb=>by have:b<w.heap.size:=hb;omega) h2_.out);replace fC:=Lib.hid (hsq.bel fC.out (by omega))
 refine hK.out _ _ ⟨c1a_,c1b_,c2a_,c2b_⟩ (fun hHeld4=>?_)
 clear hK K hHeld3 hsq hXq
 try simp only [dS,hwA]
 refine hwt 14 dR (.bool false) hHeld4 ?_ ?_
 ·intro w' hSw;dsimp only [dR];go_simp
 try simp only [dR,hwA]
 refine wpAnyH_done (by kernel_rfl) ?_ _
 refine NoPanic.normal ?_
 clear hHeld4
 have HN:O=none:=by rw [HO.out,HOO.out,D1.out,D2.out];rfl
 obtain⟨rc0,rc1⟩:=blk2 fR
 go_wp2_with fail
 refine bodyPost_ret (v:=.tuple #[.agg #[.int .i64 3,.slice none 0 0],.bool false]) (by simp [results,Try.results77,go_sem,rc0,rc1]) rfl ?_
 exact⟨_,_,_,_,_,.mk 3 [],rfl,by rw [HN];rfl,ap.leafG 3,(by rw [HN];intro s h;cases h),fC.out⟩
set_option maxHeartbeats 4000000 in
theorem ik (G1 G2 G3:Nat→Prop)(nm:ByteArray)(u lb tk fk:Int)(ty src:Ty)(ta fa ca:Option Addr)(tn tq fn fq cm cq:Nat)(w:World)(hty:ap G1 w ty (.agg #[.int .i64 tk,.slice ta tn tq]))(hsrc:ap G2 w src (.agg #[.int .i64 fk,.slice fa fn fq]))(y:Value)(h1 h2:S)(d1:h1.cons .int=true)(hv1:h1.vd=true)(hv2:h2.vd=true)(hy:aF G3 w [h1.ty,h2.ty] y) :
  Calls Try.prog 77 #[.agg #[.int .i64 8,.string nm,.int .i64 u,.int .i64 tk,.slice ta tn tq,.int .i64 fk,.slice fa fn fq,.int .i64 lb,.slice ca cm cq],y] w (bC ((bd 8 ty [h1,h2]).map S.ty) w):=by
 obtain⟨b,off,cap,k1,c1,m1,q1,k2,c2,m2,q2,rfl,-,-,hlb,e1a,e1b,e2a,e2b,ht1,ht2⟩:=hy.two
 obtain⟨O,hOO⟩ : ∃O:Option Ty,O=((bd 8 ty [h1,h2]).map S.ty):=⟨_,rfl⟩
 rw [←hOO]
 have HO:=Lib.hid hOO
 clear hOO
 have HOO:=Lib.hid (li (k:=8) (ty:=ty) (g:=h1) (h:=h2) (by omega))
 obtain⟨d2,hd2⟩ : ∃d2,h2.cons .int=d2:=⟨_,rfl⟩
 have D1:=Lib.hid d1
 have D2:=Lib.hid hd2
 have V1:=Lib.hid hv1
 have V2:=Lib.hid hv2
 clear d1 hd2 hv1 hv2
 have H1:=Lib.hid ht1.old
 have H2:=Lib.hid ht2.old
 clear hty hsrc hy ht1 ht2
 go_enter Try.func77,Try.ntmps77
 go_wp2_with fail
 obtain⟨VV,hVV⟩ : ∃X,X=((w.alloc (.cells #[.int .i64 8,.string nm,.int .i64 u,.int .i64 tk,.slice ta tn tq,.int .i64 fk,.slice fa fn fq,.int .i64 lb,.slice ca cm cq] 28)).alloc (.cells #[.int .i64 0,.slice none 0 0] 25)):=⟨_,rfl⟩
 have fE:VV.heap[w.heap.size]?=some (.cells #[.int .i64 8,.string nm,.int .i64 u,.int .i64 tk,.slice ta tn tq,.int .i64 fk,.slice fa fn fq,.int .i64 lb,.slice ca cm cq] 28 (0,0)):=by rw [hVV];exact af (aD rfl) ah
 have fR:VV.heap[w.heap.size+1]?=some (.cells #[.int .i64 0,.slice none 0 0] 25 (0,0)):=by rw [hVV];exact aD (by simp)
 have c1a_:VV.cell? ⟨b,off,none⟩=some (.int .i64 k1):=by rw [hVV];exact a9 ah (a9 ah e1a)
 have c1b_:VV.cell? ⟨b,off+1,none⟩=some (.slice c1 m1 q1):=by rw [hVV];exact a9 ah (a9 ah e1b)
 have h1_:Hid (ap (· < w.heap.size) VV h1.ty (.agg #[.int .i64 k1,.slice c1 m1 q1])):=by rw [hVV];exact Lib.hid ((H1.out.below ah).below ah)
 have c2a_:VV.cell? ⟨b,off+2,none⟩=some (.int .i64 k2):=by rw [hVV];exact a9 ah (a9 ah e2a)
 have c2b_:VV.cell? ⟨b,off+3,none⟩=some (.slice c2 m2 q2):=by rw [hVV];exact a9 ah (a9 ah e2b)
 have h2_:Hid (ap (· < w.heap.size) VV h2.ty (.agg #[.int .i64 k2,.slice c2 m2 q2])):=by rw [hVV];exact Lib.hid ((H2.out.below ah).below ah)
 have fC:Hid (Below w.heap.size w VV):=by rw [hVV];exact Lib.hid (ai ah ah)
 rw [←hVV]
 have zV:VV.heap.size=_:=congrArg (fun X:World=>X.heap.size) hVV
 simp only [World.size_alloc] at zV
 refine wp_region_noPanic ?_
 refine wp_region_held_drew (S:=fun w'=>w'.cell? ⟨b,off,none⟩=some (.int .i64 k1)∧w'.cell? ⟨b,off+1,none⟩=some (.slice c1 m1 q1)∧w'.cell? ⟨b,off+2,none⟩=some (.int .i64 k2)∧w'.cell? ⟨b,off+3,none⟩=some (.slice c2 m2 q2)) (by kernel_rfl) ?_ (fun hHeld0=>?_)
 ·exact⟨c1a_,c1b_,c2a_,c2b_⟩
 obtain⟨U4,hU,hb,zU4a,zU4b⟩:=bO VV
 rw [hU] at hHeld0 ⊢
 replace fE:=af fE hb;replace fR:=af fR hb;replace c1a_:=a9 hb c1a_;replace c1b_:=a9 hb c1b_
 replace h1_:=Lib.hid (h1_.out.below hb);replace c2a_:=a9 hb c2a_;replace c2b_:=a9 hb c2b_;replace h2_:=Lib.hid (h2_.out.below hb)
 replace fC:=Lib.hid (ai fC.out hb)
 rw [zV] at zU4a zU4b
 clear hU hb hVV zV
 refine hwt 1 gC (.slice (some ⟨b,off,none⟩) 2 cap) hHeld0 ?_ ?_
 ·intro w' hSw;dsimp only [gC];go_simp
 try simp only [gC,hwA]
 refine hwt 2 gN (.pointer (some ⟨b,off,none⟩)) hHeld0 ?_ ?_
 ·intro w' hSw;dsimp only [gN];go_simp
 try simp only [gN,hwA]
 refine hwt 3 gx (.agg #[.int .i64 k1,.slice c1 m1 q1]) hHeld0 ?_ ?_
 ·intro w' hSw;dsimp only [gx];go_simp
 try simp only [gx,hwA]
 refine hwr 0 gq (fun K hK=>?_)
 dsimp only [gq];go_simp
 go_at_call 45
 refine(cJ _).mono ?_
 rintro e X1 ⟨rfl,hb⟩
 go_wp2_with fail
 have zX1:U4.heap.size≤X1.heap.size:=hb.size
 replace fE:=af fE hb;replace fR:=af fR hb;replace c1a_:=a9 hb c1a_;replace c1b_:=a9 hb c1b_
 replace h1_:=Lib.hid (h1_.out.below hb);replace c2a_:=a9 hb c2a_;replace c2b_:=a9 hb c2b_;replace h2_:=Lib.hid (h2_.out.below hb)
 replace fC:=Lib.hid (ai fC.out hb)
 refine hK.out _ _ ⟨c1a_,c1b_,c2a_,c2b_⟩ (fun hHeld1=>?_)
 clear hK K hHeld0 hb
 try simp only [gq,hwA]
 refine hwr 4 gD (fun K hK=>?_)
 dsimp only [gD];go_simp
 go_at_call 48
 refine(bw _).mono ?_
 rintro e X2 ⟨rfl,hb⟩
 go_wp2_with fail
 have zX2:X1.heap.size≤X2.heap.size:=hb.size
 replace fE:=af fE hb;replace fR:=af fR hb;replace c1a_:=a9 hb c1a_;replace c1b_:=a9 hb c1b_
 replace h1_:=Lib.hid (h1_.out.below hb);replace c2a_:=a9 hb c2a_;replace c2b_:=a9 hb c2b_;replace h2_:=Lib.hid (h2_.out.below hb)
 replace fC:=Lib.hid (ai fC.out hb)
 refine hK.out _ _ ⟨c1a_,c1b_,c2a_,c2b_⟩ (fun hHeld2=>?_)
 clear hK K hHeld1 hb
 try simp only [gD,hwA]
 refine hwr 5 gy (fun K hK=>?_)
 dsimp only [gy];go_simp
 go_at_call 42
 refine(bV _ _ _ S.int _ _ _ h1_.out (ap.leaf 2) V1.out rfl).mono ?_
 rintro e X3 ⟨rfl,hb⟩
 rw [D1.out]
 go_wp2_with fail
 have zX3:X2.heap.size≤X3.heap.size:=hb.size
 replace fE:=af fE hb;replace fR:=af fR hb;replace c1a_:=a9 hb c1a_;replace c1b_:=a9 hb c1b_
 replace h1_:=Lib.hid (h1_.out.below hb);replace c2a_:=a9 hb c2a_;replace c2b_:=a9 hb c2b_;replace h2_:=Lib.hid (h2_.out.below hb)
 replace fC:=Lib.hid (ai fC.out hb)
 refine hK.out _ _ ⟨c1a_,c1b_,c2a_,c2b_⟩ (fun hHeld3=>?_)
 clear hK K hHeld2 hb
 try simp only [gy,hwA]
 refine hwt 6 gA (.bool true) hHeld3 ?_ ?_
 ·intro w' hSw;dsimp only [gA];go_simp
 try simp only [gA,hwA]
 refine hwt 7 iI (.slice (some ⟨b,off,none⟩) 2 cap) hHeld3 ?_ ?_
 ·intro w' hSw;dsimp only [iI];go_simp
 try simp only [iI,hwA]
 refine hwt 8 iP (.pointer (some ⟨b,off+2,none⟩)) hHeld3 ?_ ?_
 ·intro w' hSw;dsimp only [iP];go_simp
 try simp only [iP,hwA]
 refine hwt 9 j6 (.agg #[.int .i64 k2,.slice c2 m2 q2]) hHeld3 ?_ ?_
 ·intro w' hSw;dsimp only [j6];go_simp
 try simp only [j6,hwA]
 refine hwr 10 fh (fun K hK=>?_)
 dsimp only [fh];go_simp
 go_at_call 48
 refine(bw _).mono ?_
 rintro e X4 ⟨rfl,hb⟩
 go_wp2_with fail
 have zX4:X3.heap.size≤X4.heap.size:=hb.size
 replace fE:=af fE hb;replace fR:=af fR hb;replace c1a_:=a9 hb c1a_;replace c1b_:=a9 hb c1b_
 replace h1_:=Lib.hid (h1_.out.below hb);replace c2a_:=a9 hb c2a_;replace c2b_:=a9 hb c2b_;replace h2_:=Lib.hid (h2_.out.below hb)
 replace fC:=Lib.hid (ai fC.out hb)
 refine hK.out _ _ ⟨c1a_,c1b_,c2a_,c2b_⟩ (fun hHeld4=>?_)
 clear hK K hHeld3 hb
 try simp only [fh,hwA]
 refine hwr 11 fH (fun K hK=>?_)
 dsimp only [fH];go_simp
 go_at_call 42
 refine(bV _ _ _ S.int _ _ _ h2_.out (ap.leaf 2) V2.out rfl).mono ?_
 rintro e X5 ⟨rfl,hb⟩
 rw [D2.out]
 go_wp2_with fail
 have zX5:X4.heap.size≤X5.heap.size:=hb.size
 replace fE:=af fE hb;replace fR:=af fR hb;replace c1a_:=a9 hb c1a_;replace c1b_:=a9 hb c1b_
 replace h1_:=Lib.hid (h1_.out.below hb);replace c2a_:=a9 hb c2a_;replace c2b_:=a9 hb c2b_;replace h2_:=Lib.hid (h2_.out.below hb)
 replace fC:=Lib.hid (ai fC.out hb)
 refine hK.out _ _ ⟨c1a_,c1b_,c2a_,c2b_⟩ (fun hHeld5=>?_)
 clear hK K hHeld4 hb
 try simp only [fH,hwA]
 refine hwt 12 dM (.bool d2) hHeld5 ?_ ?_
 ·intro w' hSw;dsimp only [dM];go_simp
 try simp only [dM,hwA]
 refine hwr 13 dS (fun K hK=>?_)
 obtain⟨r0,r1,rf0,rf1⟩:=cg fR
 dsimp only [dS];go_simp
 (try go_wp2_with fail)
 have hQq:=bx fR (.int .i64 3) (.slice none 0 0)
 clear fR r0 rf0 r1 rf1
 obtain⟨X6,hXq,hsq,fR,zX6a,zX6b⟩:=hQq
 rw [hXq]
 replace fE:=hsq.blk (by omega) fE;replace c1a_:=hsq.cell (by show b≠w.heap.size+1;omega) c1a_;replace c1b_:=hsq.cell (by show b≠w.heap.size+1;omega) c1b_;replace h1_:=Lib.hid (hsq.rep (fun b hb=>by have:b<w.heap.size:=hb;omega) h1_.out)
 replace c2a_:=hsq.cell (by show b≠w.heap.size+1;omega) c2a_;replace c2b_:=hsq.cell (by show b≠w.heap.size+1;omega) c2b_;replace h2_:=Lib.hid (hsq.rep (fun b hb=>by have:b<w.heap.size:=hb;omega) h2_.out);replace fC:=Lib.hid (hsq.bel fC.out (by omega))
 refine hK.out _ _ ⟨c1a_,c1b_,c2a_,c2b_⟩ (fun hHeld6=>?_)
 clear hK K hHeld5 hsq hXq
 try simp only [dS,hwA]
 refine hwt 14 dR (.bool d2) hHeld6 ?_ ?_
 ·intro w' hSw;dsimp only [dR];go_simp
 try simp only [dR,hwA]
 refine wpAnyH_done (by kernel_rfl) ?_ _
 refine NoPanic.normal ?_
 clear hHeld6
 have HN:O=if d2=true then some (.mk 3 []) else none:=by rw [HO.out,HOO.out,D1.out,D2.out];cases d2<;>rfl
 obtain⟨rc0,rc1⟩:=blk2 fR
 go_wp2_with fail
 refine bodyPost_ret (v:=.tuple #[.agg #[.int .i64 3,.slice none 0 0],.bool d2]) (by simp [results,Try.results77,go_sem,rc0,rc1]) rfl ?_
 exact⟨_,_,_,_,_,.mk 3 [],rfl,by rw [HN];cases d2<;>rfl,ap.leafG 3,(by rw [HN];intro s h;cases d2 with | false=>cases h | true=>exact Option.some.inj h),fC.out⟩
def n7:Oper:=⟨some 91,Op.move (Operand.tmp 1),23,"l3_typing.go:85",#[],none⟩
def nz:Oper:=⟨some 92,Op.indexAddr 23 (Operand.tmp 91) (Operand.const (Value.int IntKind.i64 0)),0,"l3_typing.go:85",#[⟨0,.data⟩],none⟩
def oc:Oper:=⟨some 93,Op.load 25 (Operand.tmp 92),25,"l3_typing.go:85",#[⟨1,.data⟩],none⟩
def mh:Oper:=⟨some 94,Op.move (Operand.tmp 1),23,"l3_typing.go:85",#[],none⟩
def mu:Oper:=⟨some 95,Op.indexAddr 23 (Operand.tmp 94) (Operand.const (Value.int IntKind.i64 1)),0,"l3_typing.go:85",#[⟨3,.data⟩],none⟩
def lK:Oper:=⟨some 96,Op.load 25 (Operand.tmp 95),25,"l3_typing.go:85",#[⟨4,.data⟩],none⟩
def mK:Oper:=⟨some 97,Op.call { callee:=Callee.value (Operand.func 76),args:=#[Operand.const (Value.int IntKind.i64 5),Operand.tmp 93,Operand.tmp 96],argTypes:=#[3,25,25] },54,"l3_typing.go:85",#[⟨2,.data⟩,⟨5,.data⟩],none⟩
def mT:Oper:=⟨some 98,Op.extract (Operand.tmp 97) 0,25,"l3_typing.go:85",#[⟨6,.data⟩],none⟩
def mC:Oper:=⟨some 99,Op.extract (Operand.tmp 97) 1,4,"l3_typing.go:85",#[⟨6,.data⟩],none⟩
def m8:Oper:=⟨none,Op.store 25 (Operand.tmp 4) (Operand.tmp 98),0,"l3_typing.go:85",#[⟨7,.data⟩,⟨6,.chain⟩,⟨0,.phase⟩,⟨1,.phase⟩,⟨2,.phase⟩,⟨3,.phase⟩,⟨4,.phase⟩,⟨5,.phase⟩,⟨6,.phase⟩,⟨7,.phase⟩,⟨8,.phase⟩],none⟩
def kj:Oper:=⟨some 5,Op.assign (Operand.tmp 99),4,"l3_typing.go:85",#[⟨8,.data⟩,⟨9,.chain⟩,⟨0,.phase⟩,⟨1,.phase⟩,⟨2,.phase⟩,⟨3,.phase⟩,⟨4,.phase⟩,⟨5,.phase⟩,⟨6,.phase⟩,⟨7,.phase⟩,⟨8,.phase⟩,⟨9,.phase⟩],none⟩
set_option maxHeartbeats 4000000 in
theorem iX (G1 G2 G3:Nat→Prop)(nm:ByteArray)(u lb tk fk:Int)(ty src:Ty)(ta fa ca:Option Addr)(tn tq fn fq cm cq:Nat)(w:World)(hty:ap G1 w ty (.agg #[.int .i64 tk,.slice ta tn tq]))(hsrc:ap G2 w src (.agg #[.int .i64 fk,.slice fa fn fq]))(y:Value)(h1 h2:S)(hv1:h1.vd=true)(hv2:h2.vd=true)(hy:aF G3 w [h1.ty,h2.ty] y) :
  Calls Try.prog 77 #[.agg #[.int .i64 10,.string nm,.int .i64 u,.int .i64 tk,.slice ta tn tq,.int .i64 fk,.slice fa fn fq,.int .i64 lb,.slice ca cm cq],y] w (bC ((bd 10 ty [h1,h2]).map S.ty) w):=by
 obtain⟨b,off,cap,k1,c1,m1,q1,k2,c2,m2,q2,rfl,-,-,hlb,e1a,e1b,e2a,e2b,ht1,ht2⟩:=hy.two
 obtain⟨OO',hOO⟩ : ∃O:Option Ty,O=((bd 10 ty [h1,h2]).map S.ty):=⟨_,rfl⟩
 rw [←hOO]
 have HO:=Lib.hid hOO
 clear hOO
 have HC1:=Lib.hid (S.cnt_ok hv1)
 have HC2:=Lib.hid (S.cnt_ok hv2)
 clear hv1 hv2
 have H1:=Lib.hid ht1.old
 have H2:=Lib.hid ht2.old
 clear hty hsrc hy ht1 ht2
 go_enter Try.func77,Try.ntmps77
 go_wp2_with fail
 obtain⟨VV,hVV⟩ : ∃X,X=((w.alloc (.cells #[.int .i64 10,.string nm,.int .i64 u,.int .i64 tk,.slice ta tn tq,.int .i64 fk,.slice fa fn fq,.int .i64 lb,.slice ca cm cq] 28)).alloc (.cells #[.int .i64 0,.slice none 0 0] 25)):=⟨_,rfl⟩
 have fE:VV.heap[w.heap.size]?=some (.cells #[.int .i64 10,.string nm,.int .i64 u,.int .i64 tk,.slice ta tn tq,.int .i64 fk,.slice fa fn fq,.int .i64 lb,.slice ca cm cq] 28 (0,0)):=by rw [hVV];exact af (aD rfl) ah
 have fR:VV.heap[w.heap.size+1]?=some (.cells #[.int .i64 0,.slice none 0 0] 25 (0,0)):=by rw [hVV];exact aD (by simp)
 have c1a_:VV.cell? ⟨b,off,none⟩=some (.int .i64 k1):=by rw [hVV];exact a9 ah (a9 ah e1a)
 have c1b_:VV.cell? ⟨b,off+1,none⟩=some (.slice c1 m1 q1):=by rw [hVV];exact a9 ah (a9 ah e1b)
 have h1_:Hid (ap (· < w.heap.size) VV h1.ty (.agg #[.int .i64 k1,.slice c1 m1 q1])):=by rw [hVV];exact Lib.hid ((H1.out.below ah).below ah)
 have c2a_:VV.cell? ⟨b,off+2,none⟩=some (.int .i64 k2):=by rw [hVV];exact a9 ah (a9 ah e2a)
 have c2b_:VV.cell? ⟨b,off+3,none⟩=some (.slice c2 m2 q2):=by rw [hVV];exact a9 ah (a9 ah e2b)
 have h2_:Hid (ap (· < w.heap.size) VV h2.ty (.agg #[.int .i64 k2,.slice c2 m2 q2])):=by rw [hVV];exact Lib.hid ((H2.out.below ah).below ah)
 have fC:Hid (Below w.heap.size w VV):=by rw [hVV];exact Lib.hid (ai ah ah)
 rw [←hVV]
 have zV:VV.heap.size=_:=congrArg (fun X:World=>X.heap.size) hVV
 simp only [World.size_alloc] at zV
 refine wp_region_noPanic ?_
 refine wp_region_held_drew (S:=fun w'=>w'.cell? ⟨b,off,none⟩=some (.int .i64 k1)∧w'.cell? ⟨b,off+1,none⟩=some (.slice c1 m1 q1)∧w'.cell? ⟨b,off+2,none⟩=some (.int .i64 k2)∧w'.cell? ⟨b,off+3,none⟩=some (.slice c2 m2 q2)) (by kernel_rfl) ?_ (fun hHeld0=>?_)
 ·exact⟨c1a_,c1b_,c2a_,c2b_⟩
 obtain⟨U5,hU,hb,zU5a,zU5b⟩:=bO VV
 rw [hU] at hHeld0 ⊢
 replace fE:=af fE hb;replace fR:=af fR hb;replace c1a_:=a9 hb c1a_;replace c1b_:=a9 hb c1b_
 replace h1_:=Lib.hid (h1_.out.below hb);replace c2a_:=a9 hb c2a_;replace c2b_:=a9 hb c2b_;replace h2_:=Lib.hid (h2_.out.below hb)
 replace fC:=Lib.hid (ai fC.out hb)
 rw [zV] at zU5a zU5b
 clear hU hb hVV zV
 refine hwt 0 n7 (.slice (some ⟨b,off,none⟩) 2 cap) hHeld0 ?_ ?_
 ·intro w' hSw;dsimp only [n7];go_simp
 try simp only [n7,hwA]
 refine hwt 1 nz (.pointer (some ⟨b,off,none⟩)) hHeld0 ?_ ?_
 ·intro w' hSw;dsimp only [nz];go_simp
 try simp only [nz,hwA]
 refine hwt 2 oc (.agg #[.int .i64 k1,.slice c1 m1 q1]) hHeld0 ?_ ?_
 ·intro w' hSw;dsimp only [oc];go_simp
 try simp only [oc,hwA]
 refine hwt 3 mh (.slice (some ⟨b,off,none⟩) 2 cap) hHeld0 ?_ ?_
 ·intro w' hSw;dsimp only [mh];go_simp
 try simp only [mh,hwA]
 refine hwt 4 mu (.pointer (some ⟨b,off+2,none⟩)) hHeld0 ?_ ?_
 ·intro w' hSw;dsimp only [mu];go_simp
 try simp only [mu,hwA]
 refine hwt 5 lK (.agg #[.int .i64 k2,.slice c2 m2 q2]) hHeld0 ?_ ?_
 ·intro w' hSw;dsimp only [lK];go_simp
 try simp only [lK,hwA]
 refine hwr 6 mK (fun K hK=>?_)
 dsimp only [mK];go_simp
 go_at_call 76
 refine(dB _ _ 5 h1.ty h2.ty _ _ _ _ _ _ _ _ _ h1_.out h2_.out HC1.out HC2.out).mono ?_
 rintro e X1 ⟨kr,ar,nr,qr,br,tr,rfl,hbr,htr,hor,hb⟩
 have hN1':Hid (ap (fun b=>U5.heap.size≤b∧b<X1.heap.size) X1 tr (.agg #[.int .i64 kr,.slice ar nr qr])):=Lib.hid (htr.move (.weaken fun b h1 h2=>⟨h1.elim False.elim id,h2⟩))
 have HBR:=Lib.hid hbr
 have HOR:=Lib.hid hor
 clear hbr htr hor
 go_wp2_with fail
 have zX1:U5.heap.size≤X1.heap.size:=hb.size
 replace fE:=af fE hb;replace fR:=af fR hb;replace c1a_:=a9 hb c1a_;replace c1b_:=a9 hb c1b_
 replace h1_:=Lib.hid (h1_.out.below hb);replace c2a_:=a9 hb c2a_;replace c2b_:=a9 hb c2b_;replace h2_:=Lib.hid (h2_.out.below hb)
 replace fC:=Lib.hid (ai fC.out hb)
 have hN1:=hN1'
 clear hN1'
 refine hK.out _ _ ⟨c1a_,c1b_,c2a_,c2b_⟩ (fun hHeld1=>?_)
 clear hK K hHeld0 hb
 try simp only [mK,hwA]
 refine hwt 7 mT (.agg #[.int .i64 kr,.slice ar nr qr]) hHeld1 ?_ ?_
 ·intro w' hSw;dsimp only [mT];go_simp
 try simp only [mT,hwA]
 refine hwt 8 mC (.bool br) hHeld1 ?_ ?_
 ·intro w' hSw;dsimp only [mC];go_simp
 try simp only [mC,hwA]
 refine hwr 9 m8 (fun K hK=>?_)
 obtain⟨r0,r1,rf0,rf1⟩:=cg fR
 dsimp only [m8];go_simp
 (try go_wp2_with fail)
 have hQq:=bx fR (.int .i64 kr) (.slice ar nr qr)
 clear fR r0 rf0 r1 rf1
 obtain⟨X2,hXq,hsq,fR,zX2a,zX2b⟩:=hQq
 rw [hXq]
 replace fE:=hsq.blk (by omega) fE;replace c1a_:=hsq.cell (by show b≠w.heap.size+1;omega) c1a_;replace c1b_:=hsq.cell (by show b≠w.heap.size+1;omega) c1b_;replace h1_:=Lib.hid (hsq.rep (fun b hb=>by have:b<w.heap.size:=hb;omega) h1_.out)
 replace c2a_:=hsq.cell (by show b≠w.heap.size+1;omega) c2a_;replace c2b_:=hsq.cell (by show b≠w.heap.size+1;omega) c2b_;replace h2_:=Lib.hid (hsq.rep (fun b hb=>by have:b<w.heap.size:=hb;omega) h2_.out);replace fC:=Lib.hid (hsq.bel fC.out (by omega))
 replace hN1:=Lib.hid (hsq.rep (fun b hb=>by have h1:U5.heap.size≤b:=hb.1;have h2:b<X1.heap.size:=hb.2;omega) hN1.out)
 refine hK.out _ _ ⟨c1a_,c1b_,c2a_,c2b_⟩ (fun hHeld2=>?_)
 clear hK K hHeld1 hsq hXq
 try simp only [m8,hwA]
 refine hwt 10 kj (.bool br) hHeld2 ?_ ?_
 ·intro w' hSw;dsimp only [kj];go_simp
 try simp only [kj,hwA]
 refine wpAnyH_done (by kernel_rfl) ?_ _
 refine NoPanic.normal ?_
 clear hHeld2
 obtain⟨rc0,rc1⟩:=blk2 fR
 go_wp2_with fail
 refine bodyPost_ret (v:=.tuple #[.agg #[.int .i64 kr,.slice ar nr qr],.bool br]) (by simp [results,Try.results77,go_sem,rc0,rc1]) rfl ?_
 exact⟨_,_,_,_,_,tr,rfl,by rw [HO.out,pc,HBR.out],hN1.out.move (.weaken fun b h _=>.inr (by have h1:=h.1;omega)),(by rw [HO.out,pc];intro s h;exact HOR.out s h),fC.out⟩
def lC:Oper:=⟨some 126,Op.fieldAddr 28 (Operand.tmp 2) 3,0,"l3_typing.go:93",#[],none⟩
def mA:Oper:=⟨some 127,Op.load 25 (Operand.tmp 126),25,"l3_typing.go:93",#[⟨0,.data⟩],none⟩
def lu:Oper:=⟨some 128,Op.call { callee:=Callee.value (Operand.func 43),args:=#[Operand.tmp 127],argTypes:=#[25] },25,"l3_typing.go:93",#[⟨1,.data⟩],none⟩
def nF:Oper:=⟨some 129,Op.move (Operand.tmp 1),23,"l3_typing.go:93",#[],none⟩
def na:Oper:=⟨some 130,Op.indexAddr 23 (Operand.tmp 129) (Operand.const (Value.int IntKind.i64 0)),0,"l3_typing.go:93",#[⟨3,.data⟩],none⟩
def lY:Oper:=⟨some 131,Op.load 25 (Operand.tmp 130),25,"l3_typing.go:93",#[⟨4,.data⟩],none⟩
def nP:Oper:=⟨some 132,Op.fieldAddr 28 (Operand.tmp 2) 3,0,"l3_typing.go:93",#[],none⟩
def mf:Oper:=⟨some 133,Op.load 25 (Operand.tmp 132),25,"l3_typing.go:93",#[⟨6,.data⟩],none⟩
def oq:Oper:=⟨some 134,Op.call { callee:=Callee.value (Operand.func 42),args:=#[Operand.tmp 131,Operand.tmp 133],argTypes:=#[25,25] },4,"l3_typing.go:93",#[⟨5,.data⟩,⟨7,.data⟩,⟨2,.chain⟩],none⟩
def nf:Oper:=⟨none,Op.store 25 (Operand.tmp 4) (Operand.tmp 128),0,"l3_typing.go:93",#[⟨2,.data⟩,⟨8,.chain⟩,⟨0,.phase⟩,⟨1,.phase⟩,⟨2,.phase⟩,⟨3,.textOnly .lateStores⟩,⟨4,.textOnly .lateStores⟩,⟨5,.textOnly .lateStores⟩,⟨6,.textOnly .lateStores⟩,⟨7,.textOnly .lateStores⟩,⟨8,.textOnly .lateStoresUnsure⟩],none⟩
def k7:Oper:=⟨some 5,Op.assign (Operand.tmp 134),4,"l3_typing.go:93",#[⟨8,.data⟩,⟨9,.chain⟩,⟨0,.phase⟩,⟨1,.phase⟩,⟨2,.phase⟩,⟨3,.phase⟩,⟨4,.phase⟩,⟨5,.phase⟩,⟨6,.phase⟩,⟨7,.phase⟩,⟨8,.phase⟩,⟨9,.phase⟩],none⟩
set_option maxHeartbeats 4000000 in
theorem iU (G1 G2 G3:Nat→Prop)(nm:ByteArray)(u lb tk fk:Int)(ty src:Ty)(ta fa ca:Option Addr)(tn tq fn fq cm cq:Nat)(w:World)(hty:ap G1 w ty (.agg #[.int .i64 tk,.slice ta tn tq]))(hsrc:ap G2 w src (.agg #[.int .i64 fk,.slice fa fn fq]))(y:Value)(hv:ty.valid=true)(h1:S)(hv1:h1.vd=true)(hy:aF G3 w [h1.ty] y) :
  Calls Try.prog 77 #[.agg #[.int .i64 13,.string nm,.int .i64 u,.int .i64 tk,.slice ta tn tq,.int .i64 fk,.slice fa fn fq,.int .i64 lb,.slice ca cm cq],y] w (bC ((bd 13 ty [h1]).map S.ty) w):=by
 obtain⟨b,off,cap,k1,c1,m1,q1,rfl,hlb,e1a,e1b,ht1⟩:=hy.one
 obtain⟨O,hOO⟩ : ∃O:Option Ty,O=((bd 13 ty [h1]).map S.ty):=⟨_,rfl⟩
 rw [←hOO]
 have HO:=Lib.hid hOO
 clear hOO
 have HCN:=Lib.hid (Ty.cnt_valid hv)
 have HVT:=Lib.hid hv
 have HTY0:=Lib.hid hty.old
 obtain⟨dd,hdd⟩ : ∃dd,h1.cons ty.toS=dd:=⟨_,rfl⟩
 have HD:=Lib.hid hdd
 have HCC:=Lib.hid (fun(Fa Fb:Nat→Prop) (ya yb:Value) (W:World) (ha:ap Fa W h1.ty ya) (hb:ap Fb W ty yb)=>(by
   have h:=bV Fa Fb h1 ty.toS ya yb W ha (by rw [Ty.toS_ty hv];exact hb) hv1 (Ty.toS_vd hv)
   rwa [hdd] at h:Calls Try.prog 42 #[ya,yb] W fun e w'=>e = .returned (.bool dd)∧Below W.heap.size W w'))
 clear hdd hv hv1
 have H1:=Lib.hid ht1.old
 clear hty hsrc hy ht1
 go_enter Try.func77,Try.ntmps77
 go_wp2_with fail
 obtain⟨VV,hVV⟩ : ∃X,X=((w.alloc (.cells #[.int .i64 13,.string nm,.int .i64 u,.int .i64 tk,.slice ta tn tq,.int .i64 fk,.slice fa fn fq,.int .i64 lb,.slice ca cm cq] 28)).alloc (.cells #[.int .i64 0,.slice none 0 0] 25)):=⟨_,rfl⟩
 have fE:VV.heap[w.heap.size]?=some (.cells #[.int .i64 13,.string nm,.int .i64 u,.int .i64 tk,.slice ta tn tq,.int .i64 fk,.slice fa fn fq,.int .i64 lb,.slice ca cm cq] 28 (0,0)):=by rw [hVV];exact af (aD rfl) ah
 have fR:VV.heap[w.heap.size+1]?=some (.cells #[.int .i64 0,.slice none 0 0] 25 (0,0)):=by rw [hVV];exact aD (by simp)
 have c1a_:VV.cell? ⟨b,off,none⟩=some (.int .i64 k1):=by rw [hVV];exact a9 ah (a9 ah e1a)
 have c1b_:VV.cell? ⟨b,off+1,none⟩=some (.slice c1 m1 q1):=by rw [hVV];exact a9 ah (a9 ah e1b)
 have h1_:Hid (ap (· < w.heap.size) VV h1.ty (.agg #[.int .i64 k1,.slice c1 m1 q1])):=by rw [hVV];exact Lib.hid ((H1.out.below ah).below ah)
 have fC:Hid (Below w.heap.size w VV):=by rw [hVV];exact Lib.hid (ai ah ah)
 have hT:Hid (ap (· < w.heap.size) VV ty (.agg #[.int .i64 tk,.slice ta tn tq])):=by rw [hVV];exact Lib.hid ((HTY0.out.below ah).below ah)
 rw [←hVV]
 have zV:VV.heap.size=_:=congrArg (fun X:World=>X.heap.size) hVV
 simp only [World.size_alloc] at zV
 refine wp_region_noPanic ?_
 refine wp_region_held_drew (S:=fun w'=>w'.cell? ⟨w.heap.size,3,none⟩=some (.int .i64 tk)∧w'.cell? ⟨w.heap.size,4,none⟩=some (.slice ta tn tq)∧w'.cell? ⟨b,off,none⟩=some (.int .i64 k1)∧w'.cell? ⟨b,off+1,none⟩=some (.slice c1 m1 q1)) (by kernel_rfl) ?_ (fun hHeld0=>?_)
 ·exact⟨ag fE rfl,ag fE rfl,c1a_,c1b_⟩
 obtain⟨U6,hU,hb,zU6a,zU6b⟩:=bO VV
 rw [hU] at hHeld0 ⊢
 replace fE:=af fE hb;replace fR:=af fR hb;replace c1a_:=a9 hb c1a_;replace c1b_:=a9 hb c1b_
 replace h1_:=Lib.hid (h1_.out.below hb);replace fC:=Lib.hid (ai fC.out hb);replace hT:=Lib.hid (hT.out.below hb)
 rw [zV] at zU6a zU6b
 clear hU hb hVV zV
 refine hwt 0 lC (.pointer (some ⟨w.heap.size,3,none⟩)) hHeld0 ?_ ?_
 ·intro w' hSw;dsimp only [lC];go_simp
 try simp only [lC,hwA]
 refine hwt 1 mA (.agg #[.int .i64 tk,.slice ta tn tq]) hHeld0 ?_ ?_
 ·intro w' hSw;dsimp only [mA];go_simp
 try simp only [mA,hwA]
 refine hwt 3 nF (.slice (some ⟨b,off,none⟩) 1 cap) hHeld0 ?_ ?_
 ·intro w' hSw;dsimp only [nF];go_simp
 try simp only [nF,hwA]
 refine hwt 4 na (.pointer (some ⟨b,off,none⟩)) hHeld0 ?_ ?_
 ·intro w' hSw;dsimp only [na];go_simp
 try simp only [na,hwA]
 refine hwt 5 lY (.agg #[.int .i64 k1,.slice c1 m1 q1]) hHeld0 ?_ ?_
 ·intro w' hSw;dsimp only [lY];go_simp
 try simp only [lY,hwA]
 refine hwt 6 nP (.pointer (some ⟨w.heap.size,3,none⟩)) hHeld0 ?_ ?_
 ·intro w' hSw;dsimp only [nP];go_simp
 try simp only [nP,hwA]
 refine hwt 7 mf (.agg #[.int .i64 tk,.slice ta tn tq]) hHeld0 ?_ ?_
 ·intro w' hSw;dsimp only [mf];go_simp
 try simp only [mf,hwA]
 refine hwr 2 lu (fun K hK=>?_)
 dsimp only [lu];go_simp
 go_at_call 43
 refine(b8 _ ty _ _ hT.out HCN.out).mono ?_
 rintro e X1 ⟨v,rfl,hv,hb⟩
 obtain⟨ke,ae,ne,qe,rfl⟩:=hv.shape
 have hN1':Hid (ap (fun b=>U6.heap.size≤b∧b<X1.heap.size) X1 ty (.agg #[.int .i64 ke,.slice ae ne qe])):=Lib.hid (hv.rep.move (.weaken fun b h1 h2=>⟨h1,h2⟩))
 clear hv
 go_wp2_with fail
 have zX1:U6.heap.size≤X1.heap.size:=hb.size
 replace fE:=af fE hb;replace fR:=af fR hb;replace c1a_:=a9 hb c1a_;replace c1b_:=a9 hb c1b_
 replace h1_:=Lib.hid (h1_.out.below hb);replace fC:=Lib.hid (ai fC.out hb);replace hT:=Lib.hid (hT.out.below hb)
 have hN1:=hN1'
 clear hN1'
 refine hK.out _ _ ⟨ag fE rfl,ag fE rfl,c1a_,c1b_⟩ (fun hHeld1=>?_)
 clear hK K hHeld0 hb
 try simp only [lu,hwA]
 refine hwr 8 oq (fun K hK=>?_)
 dsimp only [oq];go_simp
 go_at_call 42
 refine(HCC.out _ _ _ _ _ h1_.out hT.out).mono ?_
 rintro e X2 ⟨rfl,hb⟩
 go_wp2_with fail
 have zX2:X1.heap.size≤X2.heap.size:=hb.size
 replace fE:=af fE hb;replace fR:=af fR hb;replace c1a_:=a9 hb c1a_;replace c1b_:=a9 hb c1b_
 replace h1_:=Lib.hid (h1_.out.below hb);replace fC:=Lib.hid (ai fC.out hb);replace hT:=Lib.hid (hT.out.below hb);replace hN1:=Lib.hid (hN1.out.below hb)
 refine hK.out _ _ ⟨ag fE rfl,ag fE rfl,c1a_,c1b_⟩ (fun hHeld2=>?_)
 clear hK K hHeld1 hb
 try simp only [oq,hwA]
 refine hwr 9 nf (fun K hK=>?_)
 obtain⟨r0,r1,rf0,rf1⟩:=cg fR
 dsimp only [nf];go_simp
 (try go_wp2_with fail)
 have hQq:=bx fR (.int .i64 ke) (.slice ae ne qe)
 clear fR r0 rf0 r1 rf1
 obtain⟨X3,hXq,hsq,fR,zX3a,zX3b⟩:=hQq
 rw [hXq]
 replace fE:=hsq.blk (by omega) fE;replace c1a_:=hsq.cell (by show b≠w.heap.size+1;omega) c1a_;replace c1b_:=hsq.cell (by show b≠w.heap.size+1;omega) c1b_;replace h1_:=Lib.hid (hsq.rep (fun b hb=>by have:b<w.heap.size:=hb;omega) h1_.out)
 replace fC:=Lib.hid (hsq.bel fC.out (by omega));replace hT:=Lib.hid (hsq.rep (fun b hb=>by have:b<w.heap.size:=hb;omega) hT.out);replace hN1:=Lib.hid (hsq.rep (fun b hb=>by have h1:U6.heap.size≤b:=hb.1;have h2:b<X1.heap.size:=hb.2;omega) hN1.out)
 refine hK.out _ _ ⟨ag fE rfl,ag fE rfl,c1a_,c1b_⟩ (fun hHeld3=>?_)
 clear hK K hHeld2 hsq hXq
 try simp only [nf,hwA]
 refine hwt 10 k7 (.bool dd) hHeld3 ?_ ?_
 ·intro w' hSw;dsimp only [k7];go_simp
 try simp only [k7,hwA]
 refine wpAnyH_done (by kernel_rfl) ?_ _
 refine NoPanic.normal ?_
 clear hHeld3
 have HN:O=if dd=true then some ty else none:=by rw [HO.out];simp only [bd,HD.out];cases dd<;>simp [Ty.toS_ty HVT.out]
 obtain⟨rc0,rc1⟩:=blk2 fR
 go_wp2_with fail
 refine bodyPost_ret (v:=.tuple #[.agg #[.int .i64 ke,.slice ae ne qe],.bool dd]) (by simp [results,Try.results77,go_sem,rc0,rc1]) rfl ?_
 exact⟨_,_,_,_,_,ty,rfl,by rw [HN];cases dd<;>rfl,hN1.out.move (.weaken fun b h _=>.inr (by have h1:=h.1;omega)),(by rw [HN];intro s h;cases dd with | false=>cases h | true=>exact Option.some.inj h),fC.out⟩
end Go.Proofs.Ytnaoghknnenfoaa

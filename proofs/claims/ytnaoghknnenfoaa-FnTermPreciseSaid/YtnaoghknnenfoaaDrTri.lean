/-
  spec.DrawTriple.
-/
import Derived.Test.YtnaoghknnenfoaaB21
import Derived.Test.YtnaoghknnenfoaaB23
import Derived.Test.YtnaoghknnenfoaaB8
set_option linter.unusedSimpArgs false
set_option linter.unusedVariables false
set_option maxRecDepth 100000
namespace Go.Proofs.Ytnaoghknnenfoaa
open Go.RowKit
def oD4_0:Oper:=⟨some 15,Op.load 28 (Operand.tmp 6),28,"l3_typing.go:310",#[],none⟩
def oD4_1:Oper:=⟨some 16,Op.load 28 (Operand.tmp 7),28,"l3_typing.go:310",#[⟨5,.gcOnly .lateStores⟩],none⟩
def oD4_2:Oper:=⟨some 17,Op.move (Operand.tmp 5),36,"l3_typing.go:310",#[],none⟩
def oD4_3:Oper:=⟨some 18,Op.load 28 (Operand.tmp 7),28,"l3_typing.go:310",#[],none⟩
def oD4_4:Oper:=⟨some 19,Op.call { callee:=Callee.value (Operand.func 12),args:=#[Operand.tmp 17,Operand.tmp 18],argTypes:=#[36,28] },28,"l3_typing.go:310",#[⟨2,.data⟩,⟨3,.data⟩],none⟩
def oD4_5:Oper:=⟨none,Op.store 28 (Operand.tmp 2) (Operand.tmp 15),0,"l3_typing.go:310",#[⟨0,.data⟩,⟨4,.chain⟩,⟨0,.phase⟩,⟨1,.textOnly .lateStores⟩,⟨2,.textOnly .lateStores⟩,⟨3,.textOnly .lateStores⟩,⟨4,.textOnly .lateStoresUnsure⟩],none⟩
def oD4_6:Oper:=⟨none,Op.store 28 (Operand.tmp 3) (Operand.tmp 16),0,"l3_typing.go:310",#[⟨1,.data⟩,⟨5,.chain⟩,⟨0,.phase⟩,⟨1,.phase⟩,⟨2,.textOnly .lateStores⟩,⟨3,.textOnly .lateStores⟩,⟨4,.textOnly .lateStoresUnsure⟩,⟨5,.phase⟩],none⟩
def oD4_7:Oper:=⟨none,Op.store 28 (Operand.tmp 4) (Operand.tmp 19),0,"l3_typing.go:310",#[⟨4,.data⟩,⟨6,.chain⟩,⟨0,.phase⟩,⟨1,.phase⟩,⟨2,.phase⟩,⟨3,.phase⟩,⟨4,.phase⟩,⟨5,.phase⟩,⟨6,.phase⟩],none⟩
def DrT3 (w:World)(e:Ending)(w':World):Prop:=∃(t1 t2 t3:Tm) (v1 v2 v3:Value),e = .returned (.tuple #[v1,v2,v3])∧t1.cnt≤5120∧t2.cnt≤5120∧t3.cnt≤5120∧az (w.heap.size ≤ ·) w' t1 v1∧az (w.heap.size ≤ ·) w' t2 v2∧az (w.heap.size ≤ ·) w' t3 v3∧Below w.heap.size w w'
theorem Chg.bel {r:Nat}{w W:World}(h:Chg [r] w W)(hr:w.heap.size≤r):Below w.heap.size w W:=bchg (Below.refl _ _) h hr (Nat.le_refl _)
set_option maxHeartbeats 8000000 in
theorem jK (y:Value)(w:World)(r0:cj w w.heap.size y):Calls Try.prog 4 #[y] w (DrT3 w):=by
 obtain⟨a0,n0,q0,rfl⟩:=r0.shape
 go_enter Try.func4,Try.ntmps4
 go_wp2_with fail
 refine(pI _ _ _ (r0.below bS) (by simp;omega)).mono ?_
 rintro e w1 ⟨r,rfl,hro,hrd1,hb1⟩
 have hrl:=hrd1.1
 simp only [World.size_alloc] at hro
 have z1:=hb1.size
 simp only [World.size_alloc] at z1
 have fR1:w1.heap[w.heap.size]?=some (.cells #[.int .i64 0,.string { data:=#[] },.int .i64 0,.int .i64 0,.slice none 0 0,.int .i64 0,.slice none 0 0,.int .i64 0,.slice none 0 0] 28 (0,0)):=af (af (af (aD rfl) ah) ah) hb1
 have fR2:w1.heap[w.heap.size+1]?=some (.cells #[.int .i64 0,.string { data:=#[] },.int .i64 0,.int .i64 0,.slice none 0 0,.int .i64 0,.slice none 0 0,.int .i64 0,.slice none 0 0] 28 (0,0)):=af (af (aD (by simp)) ah) hb1
 have fR3:w1.heap[w.heap.size+1+1]?=some (.cells #[.int .i64 0,.string { data:=#[] },.int .i64 0,.int .i64 0,.slice none 0 0,.int .i64 0,.slice none 0 0,.int .i64 0,.slice none 0 0] 28 (0,0)):=af (aD (by simp)) hb1
 have fC:Hid (Chg [r] w w1):=Lib.hid (Chg.of_below (ai bS hb1))
 have rd:Hid (aW w1 r 0):=Lib.hid hrd1
 clear hb1 hrd1
 go_wp2_with fail
 refine(oO r 0 _ rd.out (by omega)).mono ?_
 rintro e w2 ⟨t1,v,q1,rfl,hcn1,hv,hq1,hrd,hb⟩
 obtain⟨kt1,nm1,ut1,tk1,ta1,tn1,tq1,fk1,fa1,fn1,fq1,lt1,ct1,mt1,qt1,rfl⟩:=hv.shape
 have z2:=hb.size
 have HC1:=Lib.hid hcn1
 have hb':=ah (w:=w2) (o:=.cells #[.int .i64 kt1,.string nm1,.int .i64 ut1,.int .i64 tk1,.slice ta1 tn1 tq1,.int .i64 fk1,.slice fa1 fn1 fq1,.int .i64 lt1,.slice ct1 mt1 qt1] 28)
 have fA:=aD (w:=w2) (o:=.cells #[.int .i64 kt1,.string nm1,.int .i64 ut1,.int .i64 tk1,.slice ta1 tn1 tq1,.int .i64 fk1,.slice fa1 fn1 fq1,.int .i64 lt1,.slice ct1 mt1 qt1] 28) (b:=w2.heap.size) rfl
 replace fR1:=af (aB fR1 hb (by omega)) hb';replace fR2:=af (aB fR2 hb (by omega)) hb';replace fR3:=af (aB fR3 hb (by omega)) hb';replace fC:=Lib.hid ((fC.out.trans hb).trans (Chg.of_below hb'));replace rd:=Lib.hid (hrd.below hb')
 have h1_:Hid (az (fun b=>w1.heap.size≤b∧b<w2.heap.size) _ t1 (.agg #[.int .i64 kt1,.string nm1,.int .i64 ut1,.int .i64 tk1,.slice ta1 tn1 tq1,.int .i64 fk1,.slice fa1 fn1 fq1,.int .i64 lt1,.slice ct1 mt1 qt1])):=Lib.hid ((hv.move (.weaken fun b h1 h2=>⟨h1,h2⟩)).below hb')
 clear hb hv hb' hrd hcn1
 obtain⟨y0,y1,y2,y3,y4,y5,y6,y7,y8⟩:=blk9 fA
 have lA:=al fA
 go_wp2_with fail
 refine(j8 r q1 t1 _ _ rd.out (h1_.out.move (.weaken fun b h _=>by have h1:=h.1;intro e;omega)) HC1.out (by omega)).mono ?_
 rintro e w3 ⟨t2,v,q2,rfl,hcn2,hv,hq2,hrd,hb⟩
 obtain⟨kt2,nm2,ut2,tk2,ta2,tn2,tq2,fk2,fa2,fn2,fq2,lt2,ct2,mt2,qt2,rfl⟩:=hv.shape
 have z3:=hb.size
 simp only [World.size_alloc] at z3
 have HC2:=Lib.hid hcn2
 clear y0 y1 y2 y3 y4 y5 y6 y7 y8 lA
 replace fR1:=aB fR1 hb (by omega);replace fR2:=aB fR2 hb (by omega);replace fR3:=aB fR3 hb (by omega);replace fA:=aB fA hb (by omega);replace fC:=Lib.hid (fC.out.trans hb);replace rd:=Lib.hid hrd
 replace h1_:=Lib.hid (h1_.out.move (kpN hb (fun b hb=>by have h1:=hb.1;have h2:=hb.2;omega)))
 have h2_:Hid (az (fun b=>w2.heap.size+1≤b∧b<w3.heap.size) w3 t2 (.agg #[.int .i64 kt2,.string nm2,.int .i64 ut2,.int .i64 tk2,.slice ta2 tn2 tq2,.int .i64 fk2,.slice fa2 fn2 fq2,.int .i64 lt2,.slice ct2 mt2 qt2])):=Lib.hid (hv.move (.weaken fun b h1 h2=>⟨by have h3:_≤b:=h1;simp only [World.size_alloc] at h3;exact h3,h2⟩))
 clear hb hv hrd hcn2
 have hb':=ah (w:=w3) (o:=.cells #[.int .i64 kt2,.string nm2,.int .i64 ut2,.int .i64 tk2,.slice ta2 tn2 tq2,.int .i64 fk2,.slice fa2 fn2 fq2,.int .i64 lt2,.slice ct2 mt2 qt2] 28)
 have hB':=aD (w:=w3) (o:=.cells #[.int .i64 kt2,.string nm2,.int .i64 ut2,.int .i64 tk2,.slice ta2 tn2 tq2,.int .i64 fk2,.slice fa2 fn2 fq2,.int .i64 lt2,.slice ct2 mt2 qt2] 28) (b:=w3.heap.size) rfl
 have nfA:(w3.alloc (.cells #[.int .i64 kt2,.string nm2,.int .i64 ut2,.int .i64 tk2,.slice ta2 tn2 tq2,.int .i64 fk2,.slice fa2 fn2 fq2,.int .i64 lt2,.slice ct2 mt2 qt2] 28)).heap[w2.heap.size]?=some (.cells #[.int .i64 kt1,.string nm1,.int .i64 ut1,.int .i64 tk1,.slice ta1 tn1 tq1,.int .i64 fk1,.slice fa1 fn1 fq1,.int .i64 lt1,.slice ct1 mt1 qt1] 28 (0,0)):=af fA hb'
 have nfB:(w3.alloc (.cells #[.int .i64 kt2,.string nm2,.int .i64 ut2,.int .i64 tk2,.slice ta2 tn2 tq2,.int .i64 fk2,.slice fa2 fn2 fq2,.int .i64 lt2,.slice ct2 mt2 qt2] 28)).heap[w3.heap.size]?=some (.cells #[.int .i64 kt2,.string nm2,.int .i64 ut2,.int .i64 tk2,.slice ta2 tn2 tq2,.int .i64 fk2,.slice fa2 fn2 fq2,.int .i64 lt2,.slice ct2 mt2 qt2] 28 (0,0)):=hB'
 have nfR1:(w3.alloc (.cells #[.int .i64 kt2,.string nm2,.int .i64 ut2,.int .i64 tk2,.slice ta2 tn2 tq2,.int .i64 fk2,.slice fa2 fn2 fq2,.int .i64 lt2,.slice ct2 mt2 qt2] 28)).heap[w.heap.size]?=some (.cells #[.int .i64 0,.string { data:=#[] },.int .i64 0,.int .i64 0,.slice none 0 0,.int .i64 0,.slice none 0 0,.int .i64 0,.slice none 0 0] 28 (0,0)):=af fR1 hb'
 have nfR2:(w3.alloc (.cells #[.int .i64 kt2,.string nm2,.int .i64 ut2,.int .i64 tk2,.slice ta2 tn2 tq2,.int .i64 fk2,.slice fa2 fn2 fq2,.int .i64 lt2,.slice ct2 mt2 qt2] 28)).heap[w.heap.size+1]?=some (.cells #[.int .i64 0,.string { data:=#[] },.int .i64 0,.int .i64 0,.slice none 0 0,.int .i64 0,.slice none 0 0,.int .i64 0,.slice none 0 0] 28 (0,0)):=af fR2 hb'
 have nfR3:(w3.alloc (.cells #[.int .i64 kt2,.string nm2,.int .i64 ut2,.int .i64 tk2,.slice ta2 tn2 tq2,.int .i64 fk2,.slice fa2 fn2 fq2,.int .i64 lt2,.slice ct2 mt2 qt2] 28)).heap[w.heap.size+1+1]?=some (.cells #[.int .i64 0,.string { data:=#[] },.int .i64 0,.int .i64 0,.slice none 0 0,.int .i64 0,.slice none 0 0,.int .i64 0,.slice none 0 0] 28 (0,0)):=af fR3 hb'
 have nfC:Hid (Chg [r] w (w3.alloc (.cells #[.int .i64 kt2,.string nm2,.int .i64 ut2,.int .i64 tk2,.slice ta2 tn2 tq2,.int .i64 fk2,.slice fa2 fn2 fq2,.int .i64 lt2,.slice ct2 mt2 qt2] 28))):=Lib.hid (fC.out.trans (Chg.of_below hb'))
 have nrd:Hid (aW (w3.alloc (.cells #[.int .i64 kt2,.string nm2,.int .i64 ut2,.int .i64 tk2,.slice ta2 tn2 tq2,.int .i64 fk2,.slice fa2 fn2 fq2,.int .i64 lt2,.slice ct2 mt2 qt2] 28)) r (q2)):=Lib.hid (rd.out.below hb')
 have nh1_:Hid (az (fun b=>w1.heap.size≤b∧b<w2.heap.size) (w3.alloc (.cells #[.int .i64 kt2,.string nm2,.int .i64 ut2,.int .i64 tk2,.slice ta2 tn2 tq2,.int .i64 fk2,.slice fa2 fn2 fq2,.int .i64 lt2,.slice ct2 mt2 qt2] 28)) t1 (.agg #[.int .i64 kt1,.string nm1,.int .i64 ut1,.int .i64 tk1,.slice ta1 tn1 tq1,.int .i64 fk1,.slice fa1 fn1 fq1,.int .i64 lt1,.slice ct1 mt1 qt1])):=Lib.hid (h1_.out.below hb')
 have nh2_:Hid (az (fun b=>w2.heap.size+1≤b∧b<w3.heap.size) (w3.alloc (.cells #[.int .i64 kt2,.string nm2,.int .i64 ut2,.int .i64 tk2,.slice ta2 tn2 tq2,.int .i64 fk2,.slice fa2 fn2 fq2,.int .i64 lt2,.slice ct2 mt2 qt2] 28)) t2 (.agg #[.int .i64 kt2,.string nm2,.int .i64 ut2,.int .i64 tk2,.slice ta2 tn2 tq2,.int .i64 fk2,.slice fa2 fn2 fq2,.int .i64 lt2,.slice ct2 mt2 qt2])):=Lib.hid (h2_.out.below hb')
 clear fA fR1 fR2 fR3 fC rd h1_ h2_ hB' hb'
 obtain⟨VV,hVV⟩ : ∃X,X=(w3.alloc (.cells #[.int .i64 kt2,.string nm2,.int .i64 ut2,.int .i64 tk2,.slice ta2 tn2 tq2,.int .i64 fk2,.slice fa2 fn2 fq2,.int .i64 lt2,.slice ct2 mt2 qt2] 28)):=⟨_,rfl⟩
 have fA:VV.heap[w2.heap.size]?=some (.cells #[.int .i64 kt1,.string nm1,.int .i64 ut1,.int .i64 tk1,.slice ta1 tn1 tq1,.int .i64 fk1,.slice fa1 fn1 fq1,.int .i64 lt1,.slice ct1 mt1 qt1] 28 (0,0)):=by rw [hVV];exact nfA
 have fB:VV.heap[w3.heap.size]?=some (.cells #[.int .i64 kt2,.string nm2,.int .i64 ut2,.int .i64 tk2,.slice ta2 tn2 tq2,.int .i64 fk2,.slice fa2 fn2 fq2,.int .i64 lt2,.slice ct2 mt2 qt2] 28 (0,0)):=by rw [hVV];exact nfB
 have fR1:VV.heap[w.heap.size]?=some (.cells #[.int .i64 0,.string { data:=#[] },.int .i64 0,.int .i64 0,.slice none 0 0,.int .i64 0,.slice none 0 0,.int .i64 0,.slice none 0 0] 28 (0,0)):=by rw [hVV];exact nfR1
 have fR2:VV.heap[w.heap.size+1]?=some (.cells #[.int .i64 0,.string { data:=#[] },.int .i64 0,.int .i64 0,.slice none 0 0,.int .i64 0,.slice none 0 0,.int .i64 0,.slice none 0 0] 28 (0,0)):=by rw [hVV];exact nfR2
 have fR3:VV.heap[w.heap.size+1+1]?=some (.cells #[.int .i64 0,.string { data:=#[] },.int .i64 0,.int .i64 0,.slice none 0 0,.int .i64 0,.slice none 0 0,.int .i64 0,.slice none 0 0] 28 (0,0)):=by rw [hVV];exact nfR3
 have fC:Hid (Chg [r] w VV):=by rw [hVV];exact nfC
 have rd:Hid (aW VV r (q2)):=by rw [hVV];exact nrd
 have h1_:Hid (az (fun b=>w1.heap.size≤b∧b<w2.heap.size) VV t1 (.agg #[.int .i64 kt1,.string nm1,.int .i64 ut1,.int .i64 tk1,.slice ta1 tn1 tq1,.int .i64 fk1,.slice fa1 fn1 fq1,.int .i64 lt1,.slice ct1 mt1 qt1])):=by rw [hVV];exact nh1_
 have h2_:Hid (az (fun b=>w2.heap.size+1≤b∧b<w3.heap.size) VV t2 (.agg #[.int .i64 kt2,.string nm2,.int .i64 ut2,.int .i64 tk2,.slice ta2 tn2 tq2,.int .i64 fk2,.slice fa2 fn2 fq2,.int .i64 lt2,.slice ct2 mt2 qt2])):=by rw [hVV];exact nh2_
 clear nfA nfB nfR1 nfR2 nfR3 nfC nrd nh1_ nh2_
 go_wp2_with fail
 rw [←hVV]
 have zV:VV.heap.size=_:=congrArg (fun X:World=>X.heap.size) hVV
 simp only [World.size_alloc] at zV
 refine wp_region_noPanic ?_
 refine wp_region_held_drew (S:=fun w'=>w'.cell? ⟨w2.heap.size,0,none⟩=some (.int .i64 kt1)∧w'.cell? ⟨w2.heap.size,1,none⟩=some (.string nm1)∧w'.cell? ⟨w2.heap.size,2,none⟩=some (.int .i64 ut1)∧w'.cell? ⟨w2.heap.size,3,none⟩=some (.int .i64 tk1)∧w'.cell? ⟨w2.heap.size,4,none⟩=some (.slice ta1 tn1 tq1)∧w'.cell? ⟨w2.heap.size,5,none⟩=some (.int .i64 fk1)∧w'.cell? ⟨w2.heap.size,6,none⟩=some (.slice fa1 fn1 fq1)∧w'.cell? ⟨w2.heap.size,7,none⟩=some (.int .i64 lt1)∧w'.cell? ⟨w2.heap.size,8,none⟩=some (.slice ct1 mt1 qt1)∧w'.cell? ⟨w3.heap.size,0,none⟩=some (.int .i64 kt2)∧w'.cell? ⟨w3.heap.size,1,none⟩=some (.string nm2)∧w'.cell? ⟨w3.heap.size,2,none⟩=some (.int .i64 ut2)∧w'.cell? ⟨w3.heap.size,3,none⟩=some (.int .i64 tk2)∧w'.cell? ⟨w3.heap.size,4,none⟩=some (.slice ta2 tn2 tq2)∧w'.cell? ⟨w3.heap.size,5,none⟩=some (.int .i64 fk2)∧w'.cell? ⟨w3.heap.size,6,none⟩=some (.slice fa2 fn2 fq2)∧w'.cell? ⟨w3.heap.size,7,none⟩=some (.int .i64 lt2)∧w'.cell? ⟨w3.heap.size,8,none⟩=some (.slice ct2 mt2 qt2)) (by kernel_rfl) ?_ (fun hHeld0=>?_)
 ·exact⟨ag fA rfl,ag fA rfl,ag fA rfl,ag fA rfl,ag fA rfl,ag fA rfl,ag fA rfl,ag fA rfl,ag fA rfl,ag fB rfl,ag fB rfl,ag fB rfl,ag fB rfl,ag fB rfl,ag fB rfl,ag fB rfl,ag fB rfl,ag fB rfl⟩
 obtain⟨U1,hU,hb,zU1a,zU1b⟩:=bO VV
 rw [hU] at hHeld0 ⊢
 replace fA:=af fA hb;replace fB:=af fB hb;replace fR1:=af fR1 hb;replace fR2:=af fR2 hb
 replace fR3:=af fR3 hb;replace fC:=Lib.hid (fC.out.trans (Chg.of_below hb));replace rd:=Lib.hid (rd.out.below hb);replace h1_:=Lib.hid (h1_.out.below hb)
 replace h2_:=Lib.hid (h2_.out.below hb)
 rw [zV] at zU1a zU1b
 clear hU hb hVV zV
 refine hwt 0 oD4_0 (.agg #[.int .i64 kt1,.string nm1,.int .i64 ut1,.int .i64 tk1,.slice ta1 tn1 tq1,.int .i64 fk1,.slice fa1 fn1 fq1,.int .i64 lt1,.slice ct1 mt1 qt1]) hHeld0 ?_ ?_
 ·intro w' hSw;dsimp only [oD4_0];go_simp
 try simp only [oD4_0,hwA]
 refine hwt 1 oD4_1 (.agg #[.int .i64 kt2,.string nm2,.int .i64 ut2,.int .i64 tk2,.slice ta2 tn2 tq2,.int .i64 fk2,.slice fa2 fn2 fq2,.int .i64 lt2,.slice ct2 mt2 qt2]) hHeld0 ?_ ?_
 ·intro w' hSw;dsimp only [oD4_1];go_simp
 try simp only [oD4_1,hwA]
 refine hwt 2 oD4_2 (.pointer (some ⟨r,0,none⟩)) hHeld0 ?_ ?_
 ·intro w' hSw;dsimp only [oD4_2];go_simp
 try simp only [oD4_2,hwA]
 refine hwt 3 oD4_3 (.agg #[.int .i64 kt2,.string nm2,.int .i64 ut2,.int .i64 tk2,.slice ta2 tn2 tq2,.int .i64 fk2,.slice fa2 fn2 fq2,.int .i64 lt2,.slice ct2 mt2 qt2]) hHeld0 ?_ ?_
 ·intro w' hSw;dsimp only [oD4_3];go_simp
 try simp only [oD4_3,hwA]
 refine hwr 4 oD4_4 (fun K hK=>?_)
 dsimp only [oD4_4];go_simp
 go_at_call 12
 refine(j8 r q2 t2 _ _ rd.out (h2_.out.move (.weaken fun b h _=>by have h1:=h.1;intro e;omega)) HC2.out (by omega)).mono ?_
 rintro e X1 ⟨t3,v,q3,rfl,hcn3,hv,hq3,hrd,hb⟩
 obtain⟨kt3,nm3,ut3,tk3,ta3,tn3,tq3,fk3,fa3,fn3,fq3,lt3,ct3,mt3,qt3,rfl⟩:=hv.shape
 have HC3:=Lib.hid hcn3
 clear hcn3
 have h3_':Hid (az (fun b=>U1.heap.size≤b∧b<X1.heap.size) X1 t3 (.agg #[.int .i64 kt3,.string nm3,.int .i64 ut3,.int .i64 tk3,.slice ta3 tn3 tq3,.int .i64 fk3,.slice fa3 fn3 fq3,.int .i64 lt3,.slice ct3 mt3 qt3])):=Lib.hid (hv.move (.weaken fun b h1 h2=>⟨h1,h2⟩))
 have rd':Hid (aW X1 r q3):=Lib.hid hrd
 clear hv hrd rd'
 go_wp2_with fail
 have zX1:U1.heap.size≤X1.heap.size:=hb.size
 replace fA:=aB fA hb (by omega);replace fB:=aB fB hb (by omega);replace fR1:=aB fR1 hb (by omega);replace fR2:=aB fR2 hb (by omega)
 replace fR3:=aB fR3 hb (by omega);replace fC:=Lib.hid (fC.out.trans hb);replace h1_:=Lib.hid (h1_.out.move (kpN hb (fun b hb=>by have h1:=hb.1;have h2:=hb.2;omega)));replace h2_:=Lib.hid (h2_.out.move (kpN hb (fun b hb=>by have h1:=hb.1;have h2:=hb.2;omega)))
 have h3_:=h3_'
 clear h3_'
 clear rd
 refine hK.out _ _ ⟨ag fA rfl,ag fA rfl,ag fA rfl,ag fA rfl,ag fA rfl,ag fA rfl,ag fA rfl,ag fA rfl,ag fA rfl,ag fB rfl,ag fB rfl,ag fB rfl,ag fB rfl,ag fB rfl,ag fB rfl,ag fB rfl,ag fB rfl,ag fB rfl⟩ (fun hHeld1=>?_)
 clear hK K hHeld0 hb
 try simp only [oD4_4,hwA]
 refine hwr 5 oD4_5 (fun K hK=>?_)
 obtain⟨r0,rf0,r1,rf1,r2,rf2,r3,rf3,r4,rf4,r5,rf5,r6,rf6,r7,rf7,r8,rf8⟩:=blk9f fR1
 dsimp only [oD4_5];go_simp
 (try go_wp2_with fail)
 have hQq:=db fR1 (.int .i64 kt1) (.string nm1) (.int .i64 ut1) (.int .i64 tk1) (.slice ta1 tn1 tq1) (.int .i64 fk1) (.slice fa1 fn1 fq1) (.int .i64 lt1) (.slice ct1 mt1 qt1)
 clear fR1 r0 rf0 r1 rf1 r2 rf2 r3 rf3 r4 rf4 r5 rf5 r6 rf6 r7 rf7 r8 rf8
 obtain⟨X2,hXq,hsq,fR1,zX2a,zX2b⟩:=hQq
 rw [hXq]
 replace fA:=hsq.blk (by omega) fA;replace fB:=hsq.blk (by omega) fB;replace fR2:=hsq.blk (by omega) fR2;replace fR3:=hsq.blk (by omega) fR3
 replace fC:=Lib.hid (hsq.chg fC.out (by omega));replace h1_:=Lib.hid (h1_.out.move (hsq.keeps (fun b hb=>by have h1:=hb.1;have h2:=hb.2;omega)));replace h2_:=Lib.hid (h2_.out.move (hsq.keeps (fun b hb=>by have h1:=hb.1;have h2:=hb.2;omega)));replace h3_:=Lib.hid (h3_.out.move (hsq.keeps (fun b hb=>by have h1:=hb.1;have h2:=hb.2;omega)))
 refine hK.out _ _ ⟨ag fA rfl,ag fA rfl,ag fA rfl,ag fA rfl,ag fA rfl,ag fA rfl,ag fA rfl,ag fA rfl,ag fA rfl,ag fB rfl,ag fB rfl,ag fB rfl,ag fB rfl,ag fB rfl,ag fB rfl,ag fB rfl,ag fB rfl,ag fB rfl⟩ (fun hHeld2=>?_)
 clear hK K hHeld1 hsq hXq
 try simp only [oD4_5,hwA]
 refine hwr 6 oD4_6 (fun K hK=>?_)
 obtain⟨r0,rf0,r1,rf1,r2,rf2,r3,rf3,r4,rf4,r5,rf5,r6,rf6,r7,rf7,r8,rf8⟩:=blk9f fR2
 dsimp only [oD4_6];go_simp
 (try go_wp2_with fail)
 have hQq:=db fR2 (.int .i64 kt2) (.string nm2) (.int .i64 ut2) (.int .i64 tk2) (.slice ta2 tn2 tq2) (.int .i64 fk2) (.slice fa2 fn2 fq2) (.int .i64 lt2) (.slice ct2 mt2 qt2)
 clear fR2 r0 rf0 r1 rf1 r2 rf2 r3 rf3 r4 rf4 r5 rf5 r6 rf6 r7 rf7 r8 rf8
 obtain⟨X3,hXq,hsq,fR2,zX3a,zX3b⟩:=hQq
 rw [hXq]
 replace fA:=hsq.blk (by omega) fA;replace fB:=hsq.blk (by omega) fB;replace fR1:=hsq.blk (by omega) fR1;replace fR3:=hsq.blk (by omega) fR3
 replace fC:=Lib.hid (hsq.chg fC.out (by omega));replace h1_:=Lib.hid (h1_.out.move (hsq.keeps (fun b hb=>by have h1:=hb.1;have h2:=hb.2;omega)));replace h2_:=Lib.hid (h2_.out.move (hsq.keeps (fun b hb=>by have h1:=hb.1;have h2:=hb.2;omega)));replace h3_:=Lib.hid (h3_.out.move (hsq.keeps (fun b hb=>by have h1:=hb.1;have h2:=hb.2;omega)))
 refine hK.out _ _ ⟨ag fA rfl,ag fA rfl,ag fA rfl,ag fA rfl,ag fA rfl,ag fA rfl,ag fA rfl,ag fA rfl,ag fA rfl,ag fB rfl,ag fB rfl,ag fB rfl,ag fB rfl,ag fB rfl,ag fB rfl,ag fB rfl,ag fB rfl,ag fB rfl⟩ (fun hHeld3=>?_)
 clear hK K hHeld2 hsq hXq
 try simp only [oD4_6,hwA]
 refine hwr 7 oD4_7 (fun K hK=>?_)
 obtain⟨r0,rf0,r1,rf1,r2,rf2,r3,rf3,r4,rf4,r5,rf5,r6,rf6,r7,rf7,r8,rf8⟩:=blk9f fR3
 dsimp only [oD4_7];go_simp
 (try go_wp2_with fail)
 have hQq:=db fR3 (.int .i64 kt3) (.string nm3) (.int .i64 ut3) (.int .i64 tk3) (.slice ta3 tn3 tq3) (.int .i64 fk3) (.slice fa3 fn3 fq3) (.int .i64 lt3) (.slice ct3 mt3 qt3)
 clear fR3 r0 rf0 r1 rf1 r2 rf2 r3 rf3 r4 rf4 r5 rf5 r6 rf6 r7 rf7 r8 rf8
 obtain⟨X4,hXq,hsq,fR3,zX4a,zX4b⟩:=hQq
 rw [hXq]
 replace fA:=hsq.blk (by omega) fA;replace fB:=hsq.blk (by omega) fB;replace fR1:=hsq.blk (by omega) fR1;replace fR2:=hsq.blk (by omega) fR2
 replace fC:=Lib.hid (hsq.chg fC.out (by omega));replace h1_:=Lib.hid (h1_.out.move (hsq.keeps (fun b hb=>by have h1:=hb.1;have h2:=hb.2;omega)));replace h2_:=Lib.hid (h2_.out.move (hsq.keeps (fun b hb=>by have h1:=hb.1;have h2:=hb.2;omega)));replace h3_:=Lib.hid (h3_.out.move (hsq.keeps (fun b hb=>by have h1:=hb.1;have h2:=hb.2;omega)))
 refine hK.out _ _ ⟨ag fA rfl,ag fA rfl,ag fA rfl,ag fA rfl,ag fA rfl,ag fA rfl,ag fA rfl,ag fA rfl,ag fA rfl,ag fB rfl,ag fB rfl,ag fB rfl,ag fB rfl,ag fB rfl,ag fB rfl,ag fB rfl,ag fB rfl,ag fB rfl⟩ (fun hHeld4=>?_)
 clear hK K hHeld3 hsq hXq
 try simp only [oD4_7,hwA]
 refine wpAnyH_done (by kernel_rfl) ?_ _
 refine NoPanic.normal ?_
 clear hHeld4
 obtain⟨x10,x11,x12,x13,x14,x15,x16,x17,x18⟩:=blk9 fR1
 obtain⟨x20,x21,x22,x23,x24,x25,x26,x27,x28⟩:=blk9 fR2
 obtain⟨x30,x31,x32,x33,x34,x35,x36,x37,x38⟩:=blk9 fR3
 go_wp2_with fail
 refine bodyPost_ret (v:=.tuple #[.agg #[.int .i64 kt1,.string nm1,.int .i64 ut1,.int .i64 tk1,.slice ta1 tn1 tq1,.int .i64 fk1,.slice fa1 fn1 fq1,.int .i64 lt1,.slice ct1 mt1 qt1],.agg #[.int .i64 kt2,.string nm2,.int .i64 ut2,.int .i64 tk2,.slice ta2 tn2 tq2,.int .i64 fk2,.slice fa2 fn2 fq2,.int .i64 lt2,.slice ct2 mt2 qt2],.agg #[.int .i64 kt3,.string nm3,.int .i64 ut3,.int .i64 tk3,.slice ta3 tn3 tq3,.int .i64 fk3,.slice fa3 fn3 fq3,.int .i64 lt3,.slice ct3 mt3 qt3]]) (by simp [results,Try.results4,go_sem,x10,x11,x12,x13,x14,x15,x16,x17,x18,x20,x21,x22,x23,x24,x25,x26,x27,x28,x30,x31,x32,x33,x34,x35,x36,x37,x38]) rfl ?_
 exact⟨t1,t2,t3,_,_,_,rfl,HC1.out,HC2.out,HC3.out,h1_.out.move (.weaken fun b h _=>by have h1:=h.1;omega),h2_.out.move (.weaken fun b h _=>by have h1:=h.1;omega),h3_.out.move (.weaken fun b h _=>by have h1:=h.1;omega),fC.out.bel (by omega)⟩
end Go.Proofs.Ytnaoghknnenfoaa

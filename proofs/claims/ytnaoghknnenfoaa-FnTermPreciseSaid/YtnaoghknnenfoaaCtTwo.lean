/-
  spec.l3Two, l3Int, l3Bool.
-/
import Derived.Test.YtnaoghknnenfoaaB8
import Derived.Test.YtnaoghknnenfoaaB7
import Derived.Test.YtnaoghknnenfoaaB7
import Derived.Test.YtnaoghknnenfoaaB2
import Derived.Test.YtnaoghknnenfoaaB5
import Derived.Test.YtnaoghknnenfoaaB5
import Derived.Deep.RegionHeld3
set_option linter.unusedSimpArgs false
set_option linter.unusedVariables false
set_option maxRecDepth 100000
namespace Go.Proofs.Ytnaoghknnenfoaa
open Go.RowKit
theorem ap.setN {F:Nat→Prop}{w:World}{t:Ty}{y:Value}{g o:Nat}{v:Value}(h:ap F w t y)(hn : ∀b,F b→b≠g):ap F (w.setCell ⟨g,o,none⟩ v) t y:=
 h.move ⟨by simp [World.setCell],fun b hb _=>hb,fun b hb _=>Below.heap_setCell w ⟨g,o,none⟩ v b (hn b hb)⟩
theorem aF.one {F:Nat→Prop}{w:World}{t:Ty}{y:Value}(h:aF F w [t] y) :
  ∃b off cap k1 c1 m1 q1,y = .slice (some ⟨b,off,none⟩) 1 cap∧b<w.heap.size∧w.cell? ⟨b,off,none⟩=some (.int .i64 k1)∧w.cell? ⟨b,off+1,none⟩=some (.slice c1 m1 q1)∧ap F w t (.agg #[.int .i64 k1,.slice c1 m1 q1]):=by
 obtain⟨a,cap,rfl,h2,h3,hg⟩:=h.open
 obtain⟨b,off,k1,c1,m1,q1,rfl,e0,e1,ht⟩:=hg 0 (by simp)
 exact⟨b,off,cap,k1,c1,m1,q1,rfl,World.block_lt_of_cell? _ _ e0,by simpa using e0,by simpa using e1,ht⟩
theorem ap.leafG {H:Nat→Prop}{w:World}(k:Int):ap H w (.mk k []) (.agg #[.int .i64 k,.slice none 0 0]):=by
 refine⟨_,rfl,?_⟩
 unfold aF aS
 exact⟨none,0,rfl,Nat.le_refl _,by unfold maxLen;omega,.inl rfl⟩
theorem S.cnt_ok {s:S}(h:s.vd=true):s.ty.cnt≤1048576:=Ty.cnt_valid (by rw [S.valid];exact h)
theorem bw (w:World):Calls Try.prog 48 #[] w fun e w'=>e = .returned (.agg #[.int .i64 2,.slice none 0 0])∧Below w.heap.size w w':=by
 go_enter Try.func48,Try.ntmps48
 go_wp2_with fail
 refine bodyPost_ret (v:=.agg #[.int .i64 2,.slice none 0 0]) (by simp [results,Try.results48,go_sem]) rfl ?_
 exact⟨rfl,ah⟩
theorem cJ (w:World):Calls Try.prog 45 #[] w fun e w'=>e = .returned (.agg #[.int .i64 3,.slice none 0 0])∧Below w.heap.size w w':=by
 go_enter Try.func45,Try.ntmps45
 go_wp2_with fail
 refine bodyPost_ret (v:=.agg #[.int .i64 3,.slice none 0 0]) (by simp [results,Try.results45,go_sem]) rfl ?_
 exact⟨rfl,ah⟩
def oT1_0:Oper:=⟨some 9,Op.move (Operand.tmp 0),3,"l3_typing.go:17",#[],none⟩
def oT1_1:Oper:=⟨some 10,Op.load 25 (Operand.tmp 4),25,"l3_typing.go:17",#[],none⟩
def gm:Oper:=⟨some 11,Op.call { callee:=Callee.value (Operand.func 43),args:=#[Operand.tmp 10],argTypes:=#[25] },25,"l3_typing.go:17",#[⟨1,.data⟩],none⟩
def oT1_3:Oper:=⟨some 12,Op.load 25 (Operand.tmp 5),25,"l3_typing.go:17",#[],none⟩
def dl:Oper:=⟨some 13,Op.call { callee:=Callee.value (Operand.func 43),args:=#[Operand.tmp 12],argTypes:=#[25] },25,"l3_typing.go:17",#[⟨3,.data⟩,⟨2,.chain⟩],none⟩
def cR:Oper:=⟨some 14,Op.buildSlice 23 2 #[(0,Operand.tmp 11),(1,Operand.tmp 13)],23,"l3_typing.go:17",#[⟨2,.data⟩,⟨4,.data⟩],none⟩
def cU:Oper:=⟨some 15,Op.build 25 #[(0,Operand.tmp 9),(1,Operand.tmp 14)],25,"l3_typing.go:17",#[⟨0,.data⟩,⟨5,.data⟩],none⟩
def cQ:Oper:=⟨some 8,Op.alloc 25,0,"l3_typing.go:17",#[],none⟩
def cW:Oper:=⟨none,Op.store 25 (Operand.tmp 8) (Operand.tmp 15),0,"l3_typing.go:17",#[⟨7,.data⟩,⟨6,.data⟩,⟨4,.chain⟩,⟨0,.phase⟩,⟨1,.phase⟩,⟨2,.phase⟩,⟨3,.phase⟩,⟨4,.phase⟩,⟨5,.phase⟩,⟨6,.phase⟩,⟨7,.phase⟩],none⟩
def cV:Oper:=⟨some 16,Op.load 25 (Operand.tmp 8),25,"l3_typing.go:18",#[],none⟩
def cX:Oper:=⟨some 17,Op.load 25 (Operand.tmp 8),25,"l3_typing.go:18",#[],none⟩
def cT:Oper:=⟨some 18,Op.call { callee:=Callee.value (Operand.func 41),args:=#[Operand.tmp 17],argTypes:=#[25] },4,"l3_typing.go:18",#[⟨1,.data⟩],none⟩
def cP:Oper:=⟨none,Op.store 25 (Operand.tmp 6) (Operand.tmp 16),0,"l3_typing.go:18",#[⟨0,.data⟩,⟨2,.chain⟩,⟨0,.phase⟩,⟨1,.textOnly .lateStores⟩,⟨2,.textOnly .lateStoresUnsure⟩],none⟩
def cS:Oper:=⟨some 7,Op.assign (Operand.tmp 18),4,"l3_typing.go:18",#[⟨2,.data⟩,⟨3,.chain⟩,⟨0,.phase⟩,⟨1,.phase⟩,⟨2,.phase⟩,⟨3,.phase⟩],none⟩
set_option maxHeartbeats 4000000 in
theorem dB (G1 G2:Nat→Prop)(k:Int)(t u:Ty)(ak bk:Int)(aa ba:Option Addr)(an aq bn bq:Nat)(w:World)(ht:ap G1 w t (.agg #[.int .i64 ak,.slice aa an aq]))(hu:ap G2 w u (.agg #[.int .i64 bk,.slice ba bn bq]))(hct:t.cnt≤1048576)(hcu:u.cnt≤1048576) :
    Calls Try.prog 76 #[.int .i64 k,.agg #[.int .i64 ak,.slice aa an aq],.agg #[.int .i64 bk,.slice ba bn bq]] w (bC (if (Ty.mk k [t,u]).valid then some (.mk k [t,u]) else none) w):=by
  have HT:=Lib.hid ht.old
  have HU:=Lib.hid hu.old
  have HCT:=Lib.hid hct
  have HCU:=Lib.hid hcu
  clear ht hu hct hcu
  generalize hvv:(Ty.mk k [t,u]).valid=vv
  have HVV:=Lib.hid hvv
  obtain⟨O,hO⟩ : ∃O:Option Ty,O=if vv=true then some (.mk k [t,u]) else none:=⟨_,rfl⟩
  rw [←hO]
  have HO:=Lib.hid hO
  clear hvv hO
  go_enter Try.func76,Try.ntmps76
  go_wp2_with fail
  obtain⟨VV,hVV⟩ : ∃X,X=(((w.alloc (.cells #[.int .i64 ak,.slice aa an aq] 25)).alloc (.cells #[.int .i64 bk,.slice ba bn bq] 25)).alloc (.cells #[.int .i64 0,.slice none 0 0] 25)):=⟨_,rfl⟩
  have fA:VV.heap[w.heap.size]?=some (.cells #[.int .i64 ak,.slice aa an aq] 25 (0,0)):=by rw [hVV];exact af (af (aD rfl) ah) ah
  have fB:VV.heap[w.heap.size+1]?=some (.cells #[.int .i64 bk,.slice ba bn bq] 25 (0,0)):=by rw [hVV];exact af (aD (by simp)) ah
  have fR:VV.heap[w.heap.size+1+1]?=some (.cells #[.int .i64 0,.slice none 0 0] 25 (0,0)):=by rw [hVV];exact aD (by simp)
  have fC:Hid (Below w.heap.size w VV):=by rw [hVV];exact Lib.hid (ai (ai ah ah) ah)
  have hT:Hid (ap (· < w.heap.size) VV t (.agg #[.int .i64 ak,.slice aa an aq])):=by rw [hVV];exact Lib.hid (((HT.out.below ah).below ah).below ah)
  have hU_:Hid (ap (· < w.heap.size) VV u (.agg #[.int .i64 bk,.slice ba bn bq])):=by rw [hVV];exact Lib.hid (((HU.out.below ah).below ah).below ah)
  rw [←hVV]
  have zV:VV.heap.size=_:=congrArg (fun X:World=>X.heap.size) hVV
  simp only [World.size_alloc] at zV
  refine wp_region_noPanic ?_
  refine wp_region_held_drew (S:=fun w'=>w'.cell? ⟨w.heap.size,0,none⟩=some (.int .i64 ak)∧w'.cell? ⟨w.heap.size,1,none⟩=some (.slice aa an aq)∧w'.cell? ⟨w.heap.size+1,0,none⟩=some (.int .i64 bk)∧w'.cell? ⟨w.heap.size+1,1,none⟩=some (.slice ba bn bq)) (by kernel_rfl) ?_ (fun hHeld0=>?_)
  · exact⟨ag fA rfl,ag fA rfl,ag fB rfl,ag fB rfl⟩
  obtain⟨U1,hU,hb,zU1a,zU1b⟩:=bO VV
  rw [hU] at hHeld0 ⊢
  replace fA:=af fA hb;replace fB:=af fB hb;replace fR:=af fR hb;replace fC:=Lib.hid (ai fC.out hb)
  replace hT:=Lib.hid (hT.out.below hb);replace hU_:=Lib.hid (hU_.out.below hb)
  rw [zV] at zU1a zU1b
  clear hU hb hVV zV
  refine hwt 0 oT1_0 (.int .i64 k) hHeld0 ?_ ?_
  · intro w' hSw;dsimp only [oT1_0];go_simp
  try simp only [oT1_0,hwA]
  refine hwt 1 oT1_1 (.agg #[.int .i64 ak,.slice aa an aq]) hHeld0 ?_ ?_
  · intro w' hSw;dsimp only [oT1_1];go_simp
  try simp only [oT1_1,hwA]
  refine hwt 3 oT1_3 (.agg #[.int .i64 bk,.slice ba bn bq]) hHeld0 ?_ ?_
  · intro w' hSw;dsimp only [oT1_3];go_simp
  try simp only [oT1_3,hwA]
  refine wpAnyH_ready (rs:= [2,7]) (by kernel_rfl) (by simp) ?_
  refine(AllReadyH.cons (o:=gm) rfl (fun K hK=>?_) (AllReadyH.cons (o:=cQ) rfl (fun K hK=>?_) AllReadyH.nil))
  ·skip
   dsimp only [gm];go_simp
   go_at_call 43
   refine(b8 _ t _ _ hT.out HCT.out).mono ?_
   rintro e X1 ⟨v,rfl,hv,hb⟩
   obtain⟨kc,ac,nc,qc,rfl⟩:=hv.shape
   have hN1':Hid (ap (fun b=>U1.heap.size≤b∧b<X1.heap.size) X1 t (.agg #[.int .i64 kc,.slice ac nc qc])):=Lib.hid (hv.rep.move (.weaken fun b h1 h2=>⟨h1,h2⟩))
   clear hv
   go_wp2_with fail
   have zX1:U1.heap.size≤X1.heap.size:=hb.size
   replace fA:=af fA hb;replace fB:=af fB hb;replace fR:=af fR hb;replace fC:=Lib.hid (ai fC.out hb)
   replace hT:=Lib.hid (hT.out.below hb);replace hU_:=Lib.hid (hU_.out.below hb)
   have hN1:=hN1'
   clear hN1'
   refine hK.out _ _ ⟨ag fA rfl,ag fA rfl,ag fB rfl,ag fB rfl⟩ (fun hHeld1=>?_)
   clear hK K hHeld0 hb
   try simp only [gm,hwA]
   refine wpAnyH_ready (rs:= [4,7]) (by kernel_rfl) (by simp) ?_
   refine(AllReadyH.cons (o:=dl) rfl (fun K hK=>?_) (AllReadyH.cons (o:=cQ) rfl (fun K hK=>?_) AllReadyH.nil))
   ·skip
    dsimp only [dl];go_simp
    go_at_call 43
    refine(b8 _ u _ _ hU_.out HCU.out).mono ?_
    rintro e X2 ⟨v,rfl,hv,hb⟩
    obtain⟨kd,ad,nd,qd,rfl⟩:=hv.shape
    have hN2':Hid (ap (fun b=>X1.heap.size≤b∧b<X2.heap.size) X2 u (.agg #[.int .i64 kd,.slice ad nd qd])):=Lib.hid (hv.rep.move (.weaken fun b h1 h2=>⟨h1,h2⟩))
    clear hv
    go_wp2_with fail
    have zX2:X1.heap.size≤X2.heap.size:=hb.size
    replace fA:=af fA hb;replace fB:=af fB hb;replace fR:=af fR hb;replace fC:=Lib.hid (ai fC.out hb)
    replace hT:=Lib.hid (hT.out.below hb);replace hU_:=Lib.hid (hU_.out.below hb);replace hN1:=Lib.hid (hN1.out.below hb)
    have hN2:=hN2'
    clear hN2'
    refine hK.out _ _ ⟨ag fA rfl,ag fA rfl,ag fB rfl,ag fB rfl⟩ (fun hHeld2=>?_)
    clear hK K hHeld1 hb
    try simp only [dl,hwA]
    refine wpAnyH_ready (rs:= [5,7]) (by kernel_rfl) (by simp) ?_
    refine(AllReadyH.cons (o:=cR) rfl (fun K hK=>?_) (AllReadyH.cons (o:=cQ) rfl (fun K hK=>?_) AllReadyH.nil))
    ·skip
     dsimp only [cR];go_simp
     (try go_wp2_with fail)
     obtain⟨X3,hXq,hb,fN,zX3a,zX3b⟩:=bM X2 (.cells #[.int .i64 kc,.slice ac nc qc,.int .i64 kd,.slice ad nd qd] 25)
     rw [hXq]
     replace fA:=af fA hb;replace fB:=af fB hb;replace fR:=af fR hb;replace fC:=Lib.hid (ai fC.out hb)
     replace hT:=Lib.hid (hT.out.below hb);replace hU_:=Lib.hid (hU_.out.below hb);replace hN1:=Lib.hid (hN1.out.below hb);replace hN2:=Lib.hid (hN2.out.below hb)
     refine hK.out _ _ ⟨ag fA rfl,ag fA rfl,ag fB rfl,ag fB rfl⟩ (fun hHeld3=>?_)
     clear hK K hHeld2 hb hXq
     try simp only [cR,hwA]
     refine hwt 6 cU (.agg #[.int .i64 k,.slice (some ⟨X2.heap.size,0,none⟩) 2 2]) hHeld3 ?_ ?_
     · intro w' hSw;dsimp only [cU];go_simp
     try simp only [cU,hwA]
     refine hwr 7 cQ (fun K hK=>?_)
     dsimp only [cQ];go_simp
     (try go_wp2_with fail)
     obtain⟨X4,hXq,hb,fV,zX4a,zX4b⟩:=bM X3 (.cells #[.int .i64 0,.slice none 0 0] 25)
     rw [hXq]
     replace fA:=af fA hb;replace fB:=af fB hb;replace fR:=af fR hb;replace fC:=Lib.hid (ai fC.out hb)
     replace hT:=Lib.hid (hT.out.below hb);replace hU_:=Lib.hid (hU_.out.below hb);replace hN1:=Lib.hid (hN1.out.below hb);replace hN2:=Lib.hid (hN2.out.below hb)
     replace fN:=af fN hb
     refine hK.out _ _ ⟨ag fA rfl,ag fA rfl,ag fB rfl,ag fB rfl⟩ (fun hHeld4=>?_)
     clear hK K hHeld3 hb hXq
     try simp only [cQ,hwA]
     refine hwr 8 cW (fun K hK=>?_)
     obtain⟨r0,r1,rf0,rf1⟩:=cg fV
     dsimp only [cW];go_simp
     (try go_wp2_with fail)
     have hQq:=bx fV (.int .i64 k) (.slice (some ⟨X2.heap.size,0,none⟩) 2 2)
     clear fV r0 rf0 r1 rf1
     obtain⟨X5,hXq,hsq,fV,zX5a,zX5b⟩:=hQq
     rw [hXq]
     replace fA:=hsq.blk (by omega) fA;replace fB:=hsq.blk (by omega) fB;replace fR:=hsq.blk (by omega) fR;replace fC:=Lib.hid (hsq.bel fC.out (by omega))
     replace hT:=Lib.hid (hsq.rep (fun b hb=>by have:b<w.heap.size:=hb;omega) hT.out);replace hU_:=Lib.hid (hsq.rep (fun b hb=>by have:b<w.heap.size:=hb;omega) hU_.out);replace hN1:=Lib.hid (hsq.rep (fun b hb=>by have h1:U1.heap.size≤b:=hb.1;have h2:b<X1.heap.size:=hb.2;omega) hN1.out);replace hN2:=Lib.hid (hsq.rep (fun b hb=>by have h1:X1.heap.size≤b:=hb.1;have h2:b<X2.heap.size:=hb.2;omega) hN2.out)
     replace fN:=hsq.blk (by omega) fN
     refine hK.out _ _ ⟨ag fA rfl,ag fA rfl,ag fB rfl,ag fB rfl⟩ (fun hHeld5=>?_)
     clear hK K hHeld4 hsq hXq
     try simp only [cW,hwA]
     refine wpAnyH_done (by kernel_rfl) ?_ _
     refine NoPanic.normal ?_
     clear hHeld5
     go_wp2_with fail
     refine wp_region_noPanic ?_
     refine wp_region_held_drew (S:=fun w'=>w'.cell? ⟨X3.heap.size,0,none⟩=some (.int .i64 k)∧w'.cell? ⟨X3.heap.size,1,none⟩=some (.slice (some ⟨X2.heap.size,0,none⟩) 2 2)) (by kernel_rfl) ?_ (fun hHeld0=>?_)
     · exact⟨ag fV rfl,ag fV rfl⟩
     obtain⟨U2,hU,hb,zU2a,zU2b⟩:=bO X5
     rw [hU] at hHeld0 ⊢
     replace fA:=af fA hb;replace fB:=af fB hb;replace fR:=af fR hb;replace fC:=Lib.hid (ai fC.out hb)
     replace hT:=Lib.hid (hT.out.below hb);replace hU_:=Lib.hid (hU_.out.below hb);replace hN1:=Lib.hid (hN1.out.below hb);replace hN2:=Lib.hid (hN2.out.below hb)
     replace fN:=af fN hb;replace fV:=af fV hb
     (try simp only [World.size_alloc] at zU2a zU2b)
     clear hU hb
     refine hwt 0 cV (.agg #[.int .i64 k,.slice (some ⟨X2.heap.size,0,none⟩) 2 2]) hHeld0 ?_ ?_
     · intro w' hSw;dsimp only [cV];go_simp
     try simp only [cV,hwA]
     refine hwt 1 cX (.agg #[.int .i64 k,.slice (some ⟨X2.heap.size,0,none⟩) 2 2]) hHeld0 ?_ ?_
     · intro w' hSw;dsimp only [cX];go_simp
     try simp only [cX,hwA]
     refine hwr 2 cT (fun K hK=>?_)
     dsimp only [cT];go_simp
     go_at_call 41
     have hrd:ap (fun b=>False∨w.heap.size≤b) U2 (.mk k [t,u]) (.agg #[.int .i64 k,.slice (some ⟨X2.heap.size,0,none⟩) 2 2]):=ap.two_mk (F:=fun b=>False∨w.heap.size≤b) (w:=U2) (b:=X2.heap.size) (cap:=2) (k:=k) (t:=t) (u:=u) (k1:=kc) (k2:=kd) (c1:=.slice ac nc qc) (c2:=.slice ad nd qd) (.inr (by omega)) (Nat.le_refl 2) (by unfold maxLen;omega) (ag fN (o:=0) rfl) (ag fN (o:=1) rfl) (ag fN (o:=2) rfl) (ag fN (o:=3) rfl) (hN1.out.move (.weaken fun b h _=>.inr (by have h1:=h.1;omega))) (hN2.out.move (.weaken fun b h _=>.inr (by have h1:=h.1;omega)))
     refine(bW _ (.mk k [t,u]) _ _ hrd).mono ?_
     rintro e X26 ⟨rfl,hb⟩
     rw [HVV.out]
     clear hrd
     go_wp2_with fail
     have zX26:U2.heap.size≤X26.heap.size:=hb.size
     replace fA:=af fA hb;replace fB:=af fB hb;replace fR:=af fR hb;replace fC:=Lib.hid (ai fC.out hb)
     replace hT:=Lib.hid (hT.out.below hb);replace hU_:=Lib.hid (hU_.out.below hb);replace hN1:=Lib.hid (hN1.out.below hb);replace hN2:=Lib.hid (hN2.out.below hb)
     replace fN:=af fN hb;replace fV:=af fV hb
     refine hK.out _ _ ⟨ag fV rfl,ag fV rfl⟩ (fun hHeld46=>?_)
     clear hK K hHeld0 hb
     try simp only [cT,hwA]
     refine hwr 3 cP (fun K hK=>?_)
     obtain⟨r0,r1,rf0,rf1⟩:=cg fR
     dsimp only [cP];go_simp
     (try go_wp2_with fail)
     have hQq:=bx fR (.int .i64 k) (.slice (some ⟨X2.heap.size,0,none⟩) 2 2)
     clear fR r0 rf0 r1 rf1
     obtain⟨X27,hXq,hsq,fR,zX27a,zX27b⟩:=hQq
     rw [hXq]
     replace fA:=hsq.blk (by omega) fA;replace fB:=hsq.blk (by omega) fB;replace fC:=Lib.hid (hsq.bel fC.out (by omega));replace hT:=Lib.hid (hsq.rep (fun b hb=>by have:b<w.heap.size:=hb;omega) hT.out)
     replace hU_:=Lib.hid (hsq.rep (fun b hb=>by have:b<w.heap.size:=hb;omega) hU_.out);replace hN1:=Lib.hid (hsq.rep (fun b hb=>by have h1:U1.heap.size≤b:=hb.1;have h2:b<X1.heap.size:=hb.2;omega) hN1.out);replace hN2:=Lib.hid (hsq.rep (fun b hb=>by have h1:X1.heap.size≤b:=hb.1;have h2:b<X2.heap.size:=hb.2;omega) hN2.out);replace fN:=hsq.blk (by omega) fN
     replace fV:=hsq.blk (by omega) fV
     refine hK.out _ _ ⟨ag fV rfl,ag fV rfl⟩ (fun hHeld47=>?_)
     clear hK K hHeld46 hsq hXq
     try simp only [cP,hwA]
     refine hwt 4 cS (.bool vv) hHeld47 ?_ ?_
     · intro w' hSw;dsimp only [cS];go_simp
     try simp only [cS,hwA]
     refine wpAnyH_done (by kernel_rfl) ?_ _
     refine NoPanic.normal ?_
     clear hHeld47
     obtain⟨rc0,rc1⟩:=blk2 fR
     go_wp2_with fail
     refine bodyPost_ret (v:=.tuple #[.agg #[.int .i64 k,.slice (some ⟨X2.heap.size,0,none⟩) 2 2],.bool vv]) (by simp [results,Try.results76,go_sem,rc0,rc1]) rfl ?_
     have hrd:ap (fun b=>False∨w.heap.size≤b) X27 (.mk k [t,u]) (.agg #[.int .i64 k,.slice (some ⟨X2.heap.size,0,none⟩) 2 2]):=ap.two_mk (F:=fun b=>False∨w.heap.size≤b) (w:=X27) (b:=X2.heap.size) (cap:=2) (k:=k) (t:=t) (u:=u) (k1:=kc) (k2:=kd) (c1:=.slice ac nc qc) (c2:=.slice ad nd qd) (.inr (by omega)) (Nat.le_refl 2) (by unfold maxLen;omega) (ag fN (o:=0) rfl) (ag fN (o:=1) rfl) (ag fN (o:=2) rfl) (ag fN (o:=3) rfl) (hN1.out.move (.weaken fun b h _=>.inr (by have h1:=h.1;omega))) (hN2.out.move (.weaken fun b h _=>.inr (by have h1:=h.1;omega)))
     exact⟨_,_,_,_,_,.mk k [t,u],rfl,(by rw [HO.out];cases vv<;>rfl),hrd,(by rw [HO.out];intro s h;cases vv<;>simp at h;exact h),fC.out⟩
    ·skip
     dsimp only [cQ];go_simp
     (try go_wp2_with fail)
     obtain⟨X28,hXq,hb,fV,zX28a,zX28b⟩:=bM X2 (.cells #[.int .i64 0,.slice none 0 0] 25)
     rw [hXq]
     replace fA:=af fA hb;replace fB:=af fB hb;replace fR:=af fR hb;replace fC:=Lib.hid (ai fC.out hb)
     replace hT:=Lib.hid (hT.out.below hb);replace hU_:=Lib.hid (hU_.out.below hb);replace hN1:=Lib.hid (hN1.out.below hb);replace hN2:=Lib.hid (hN2.out.below hb)
     refine hK.out _ _ ⟨ag fA rfl,ag fA rfl,ag fB rfl,ag fB rfl⟩ (fun hHeld3=>?_)
     clear hK K hHeld2 hb hXq
     try simp only [cQ,hwA]
     refine hwr 5 cR (fun K hK=>?_)
     dsimp only [cR];go_simp
     (try go_wp2_with fail)
     obtain⟨X29,hXq,hb,fN,zX29a,zX29b⟩:=bM X28 (.cells #[.int .i64 kc,.slice ac nc qc,.int .i64 kd,.slice ad nd qd] 25)
     rw [hXq]
     replace fA:=af fA hb;replace fB:=af fB hb;replace fR:=af fR hb;replace fC:=Lib.hid (ai fC.out hb)
     replace hT:=Lib.hid (hT.out.below hb);replace hU_:=Lib.hid (hU_.out.below hb);replace hN1:=Lib.hid (hN1.out.below hb);replace hN2:=Lib.hid (hN2.out.below hb)
     replace fV:=af fV hb
     refine hK.out _ _ ⟨ag fA rfl,ag fA rfl,ag fB rfl,ag fB rfl⟩ (fun hHeld48=>?_)
     clear hK K hHeld3 hb hXq
     try simp only [cR,hwA]
     refine hwt 6 cU (.agg #[.int .i64 k,.slice (some ⟨X28.heap.size,0,none⟩) 2 2]) hHeld48 ?_ ?_
     · intro w' hSw;dsimp only [cU];go_simp
     try simp only [cU,hwA]
     refine hwr 8 cW (fun K hK=>?_)
     obtain⟨r0,r1,rf0,rf1⟩:=cg fV
     dsimp only [cW];go_simp
     (try go_wp2_with fail)
     have hQq:=bx fV (.int .i64 k) (.slice (some ⟨X28.heap.size,0,none⟩) 2 2)
     clear fV r0 rf0 r1 rf1
     obtain⟨X30,hXq,hsq,fV,zX30a,zX30b⟩:=hQq
     rw [hXq]
     replace fA:=hsq.blk (by omega) fA;replace fB:=hsq.blk (by omega) fB;replace fR:=hsq.blk (by omega) fR;replace fC:=Lib.hid (hsq.bel fC.out (by omega))
     replace hT:=Lib.hid (hsq.rep (fun b hb=>by have:b<w.heap.size:=hb;omega) hT.out);replace hU_:=Lib.hid (hsq.rep (fun b hb=>by have:b<w.heap.size:=hb;omega) hU_.out);replace hN1:=Lib.hid (hsq.rep (fun b hb=>by have h1:U1.heap.size≤b:=hb.1;have h2:b<X1.heap.size:=hb.2;omega) hN1.out);replace hN2:=Lib.hid (hsq.rep (fun b hb=>by have h1:X1.heap.size≤b:=hb.1;have h2:b<X2.heap.size:=hb.2;omega) hN2.out)
     replace fN:=hsq.blk (by omega) fN
     refine hK.out _ _ ⟨ag fA rfl,ag fA rfl,ag fB rfl,ag fB rfl⟩ (fun hHeld49=>?_)
     clear hK K hHeld48 hsq hXq
     try simp only [cW,hwA]
     refine wpAnyH_done (by kernel_rfl) ?_ _
     refine NoPanic.normal ?_
     clear hHeld49
     go_wp2_with fail
     refine wp_region_noPanic ?_
     refine wp_region_held_drew (S:=fun w'=>w'.cell? ⟨X2.heap.size,0,none⟩=some (.int .i64 k)∧w'.cell? ⟨X2.heap.size,1,none⟩=some (.slice (some ⟨X28.heap.size,0,none⟩) 2 2)) (by kernel_rfl) ?_ (fun hHeld0=>?_)
     · exact⟨ag fV rfl,ag fV rfl⟩
     obtain⟨U3,hU,hb,zU3a,zU3b⟩:=bO X30
     rw [hU] at hHeld0 ⊢
     replace fA:=af fA hb;replace fB:=af fB hb;replace fR:=af fR hb;replace fC:=Lib.hid (ai fC.out hb)
     replace hT:=Lib.hid (hT.out.below hb);replace hU_:=Lib.hid (hU_.out.below hb);replace hN1:=Lib.hid (hN1.out.below hb);replace hN2:=Lib.hid (hN2.out.below hb)
     replace fV:=af fV hb;replace fN:=af fN hb
     (try simp only [World.size_alloc] at zU3a zU3b)
     clear hU hb
     refine hwt 0 cV (.agg #[.int .i64 k,.slice (some ⟨X28.heap.size,0,none⟩) 2 2]) hHeld0 ?_ ?_
     · intro w' hSw;dsimp only [cV];go_simp
     try simp only [cV,hwA]
     refine hwt 1 cX (.agg #[.int .i64 k,.slice (some ⟨X28.heap.size,0,none⟩) 2 2]) hHeld0 ?_ ?_
     · intro w' hSw;dsimp only [cX];go_simp
     try simp only [cX,hwA]
     refine hwr 2 cT (fun K hK=>?_)
     dsimp only [cT];go_simp
     go_at_call 41
     have hrd:ap (fun b=>False∨w.heap.size≤b) U3 (.mk k [t,u]) (.agg #[.int .i64 k,.slice (some ⟨X28.heap.size,0,none⟩) 2 2]):=ap.two_mk (F:=fun b=>False∨w.heap.size≤b) (w:=U3) (b:=X28.heap.size) (cap:=2) (k:=k) (t:=t) (u:=u) (k1:=kc) (k2:=kd) (c1:=.slice ac nc qc) (c2:=.slice ad nd qd) (.inr (by omega)) (Nat.le_refl 2) (by unfold maxLen;omega) (ag fN (o:=0) rfl) (ag fN (o:=1) rfl) (ag fN (o:=2) rfl) (ag fN (o:=3) rfl) (hN1.out.move (.weaken fun b h _=>.inr (by have h1:=h.1;omega))) (hN2.out.move (.weaken fun b h _=>.inr (by have h1:=h.1;omega)))
     refine(bW _ (.mk k [t,u]) _ _ hrd).mono ?_
     rintro e X51 ⟨rfl,hb⟩
     rw [HVV.out]
     clear hrd
     go_wp2_with fail
     have zX51:U3.heap.size≤X51.heap.size:=hb.size
     replace fA:=af fA hb;replace fB:=af fB hb;replace fR:=af fR hb;replace fC:=Lib.hid (ai fC.out hb)
     replace hT:=Lib.hid (hT.out.below hb);replace hU_:=Lib.hid (hU_.out.below hb);replace hN1:=Lib.hid (hN1.out.below hb);replace hN2:=Lib.hid (hN2.out.below hb)
     replace fV:=af fV hb;replace fN:=af fN hb
     refine hK.out _ _ ⟨ag fV rfl,ag fV rfl⟩ (fun hHeld90=>?_)
     clear hK K hHeld0 hb
     try simp only [cT,hwA]
     refine hwr 3 cP (fun K hK=>?_)
     obtain⟨r0,r1,rf0,rf1⟩:=cg fR
     dsimp only [cP];go_simp
     (try go_wp2_with fail)
     have hQq:=bx fR (.int .i64 k) (.slice (some ⟨X28.heap.size,0,none⟩) 2 2)
     clear fR r0 rf0 r1 rf1
     obtain⟨X52,hXq,hsq,fR,zX52a,zX52b⟩:=hQq
     rw [hXq]
     replace fA:=hsq.blk (by omega) fA;replace fB:=hsq.blk (by omega) fB;replace fC:=Lib.hid (hsq.bel fC.out (by omega));replace hT:=Lib.hid (hsq.rep (fun b hb=>by have:b<w.heap.size:=hb;omega) hT.out)
     replace hU_:=Lib.hid (hsq.rep (fun b hb=>by have:b<w.heap.size:=hb;omega) hU_.out);replace hN1:=Lib.hid (hsq.rep (fun b hb=>by have h1:U1.heap.size≤b:=hb.1;have h2:b<X1.heap.size:=hb.2;omega) hN1.out);replace hN2:=Lib.hid (hsq.rep (fun b hb=>by have h1:X1.heap.size≤b:=hb.1;have h2:b<X2.heap.size:=hb.2;omega) hN2.out);replace fV:=hsq.blk (by omega) fV
     replace fN:=hsq.blk (by omega) fN
     refine hK.out _ _ ⟨ag fV rfl,ag fV rfl⟩ (fun hHeld91=>?_)
     clear hK K hHeld90 hsq hXq
     try simp only [cP,hwA]
     refine hwt 4 cS (.bool vv) hHeld91 ?_ ?_
     · intro w' hSw;dsimp only [cS];go_simp
     try simp only [cS,hwA]
     refine wpAnyH_done (by kernel_rfl) ?_ _
     refine NoPanic.normal ?_
     clear hHeld91
     obtain⟨rc0,rc1⟩:=blk2 fR
     go_wp2_with fail
     refine bodyPost_ret (v:=.tuple #[.agg #[.int .i64 k,.slice (some ⟨X28.heap.size,0,none⟩) 2 2],.bool vv]) (by simp [results,Try.results76,go_sem,rc0,rc1]) rfl ?_
     have hrd:ap (fun b=>False∨w.heap.size≤b) X52 (.mk k [t,u]) (.agg #[.int .i64 k,.slice (some ⟨X28.heap.size,0,none⟩) 2 2]):=ap.two_mk (F:=fun b=>False∨w.heap.size≤b) (w:=X52) (b:=X28.heap.size) (cap:=2) (k:=k) (t:=t) (u:=u) (k1:=kc) (k2:=kd) (c1:=.slice ac nc qc) (c2:=.slice ad nd qd) (.inr (by omega)) (Nat.le_refl 2) (by unfold maxLen;omega) (ag fN (o:=0) rfl) (ag fN (o:=1) rfl) (ag fN (o:=2) rfl) (ag fN (o:=3) rfl) (hN1.out.move (.weaken fun b h _=>.inr (by have h1:=h.1;omega))) (hN2.out.move (.weaken fun b h _=>.inr (by have h1:=h.1;omega)))
     exact⟨_,_,_,_,_,.mk k [t,u],rfl,(by rw [HO.out];cases vv<;>rfl),hrd,(by rw [HO.out];intro s h;cases vv<;>simp at h;exact h),fC.out⟩
   ·skip
    dsimp only [cQ];go_simp
    (try go_wp2_with fail)
    obtain⟨X53,hXq,hb,fV,zX53a,zX53b⟩:=bM X1 (.cells #[.int .i64 0,.slice none 0 0] 25)
    rw [hXq]
    replace fA:=af fA hb;replace fB:=af fB hb;replace fR:=af fR hb;replace fC:=Lib.hid (ai fC.out hb)
    replace hT:=Lib.hid (hT.out.below hb);replace hU_:=Lib.hid (hU_.out.below hb);replace hN1:=Lib.hid (hN1.out.below hb)
    refine hK.out _ _ ⟨ag fA rfl,ag fA rfl,ag fB rfl,ag fB rfl⟩ (fun hHeld2=>?_)
    clear hK K hHeld1 hb hXq
    try simp only [cQ,hwA]
    refine hwr 4 dl (fun K hK=>?_)
    dsimp only [dl];go_simp
    go_at_call 43
    refine(b8 _ u _ _ hU_.out HCU.out).mono ?_
    rintro e X54 ⟨v,rfl,hv,hb⟩
    obtain⟨kd,ad,nd,qd,rfl⟩:=hv.shape
    have hN2':Hid (ap (fun b=>X53.heap.size≤b∧b<X54.heap.size) X54 u (.agg #[.int .i64 kd,.slice ad nd qd])):=Lib.hid (hv.rep.move (.weaken fun b h1 h2=>⟨h1,h2⟩))
    clear hv
    go_wp2_with fail
    have zX54:X53.heap.size≤X54.heap.size:=hb.size
    replace fA:=af fA hb;replace fB:=af fB hb;replace fR:=af fR hb;replace fC:=Lib.hid (ai fC.out hb)
    replace hT:=Lib.hid (hT.out.below hb);replace hU_:=Lib.hid (hU_.out.below hb);replace hN1:=Lib.hid (hN1.out.below hb);replace fV:=af fV hb
    have hN2:=hN2'
    clear hN2'
    refine hK.out _ _ ⟨ag fA rfl,ag fA rfl,ag fB rfl,ag fB rfl⟩ (fun hHeld92=>?_)
    clear hK K hHeld2 hb
    try simp only [dl,hwA]
    refine hwr 5 cR (fun K hK=>?_)
    dsimp only [cR];go_simp
    (try go_wp2_with fail)
    obtain⟨X55,hXq,hb,fN,zX55a,zX55b⟩:=bM X54 (.cells #[.int .i64 kc,.slice ac nc qc,.int .i64 kd,.slice ad nd qd] 25)
    rw [hXq]
    replace fA:=af fA hb;replace fB:=af fB hb;replace fR:=af fR hb;replace fC:=Lib.hid (ai fC.out hb)
    replace hT:=Lib.hid (hT.out.below hb);replace hU_:=Lib.hid (hU_.out.below hb);replace hN1:=Lib.hid (hN1.out.below hb);replace fV:=af fV hb
    replace hN2:=Lib.hid (hN2.out.below hb)
    refine hK.out _ _ ⟨ag fA rfl,ag fA rfl,ag fB rfl,ag fB rfl⟩ (fun hHeld93=>?_)
    clear hK K hHeld92 hb hXq
    try simp only [cR,hwA]
    refine hwt 6 cU (.agg #[.int .i64 k,.slice (some ⟨X54.heap.size,0,none⟩) 2 2]) hHeld93 ?_ ?_
    · intro w' hSw;dsimp only [cU];go_simp
    try simp only [cU,hwA]
    refine hwr 8 cW (fun K hK=>?_)
    obtain⟨r0,r1,rf0,rf1⟩:=cg fV
    dsimp only [cW];go_simp
    (try go_wp2_with fail)
    have hQq:=bx fV (.int .i64 k) (.slice (some ⟨X54.heap.size,0,none⟩) 2 2)
    clear fV r0 rf0 r1 rf1
    obtain⟨X56,hXq,hsq,fV,zX56a,zX56b⟩:=hQq
    rw [hXq]
    replace fA:=hsq.blk (by omega) fA;replace fB:=hsq.blk (by omega) fB;replace fR:=hsq.blk (by omega) fR;replace fC:=Lib.hid (hsq.bel fC.out (by omega))
    replace hT:=Lib.hid (hsq.rep (fun b hb=>by have:b<w.heap.size:=hb;omega) hT.out);replace hU_:=Lib.hid (hsq.rep (fun b hb=>by have:b<w.heap.size:=hb;omega) hU_.out);replace hN1:=Lib.hid (hsq.rep (fun b hb=>by have h1:U1.heap.size≤b:=hb.1;have h2:b<X1.heap.size:=hb.2;omega) hN1.out);replace hN2:=Lib.hid (hsq.rep (fun b hb=>by have h1:X53.heap.size≤b:=hb.1;have h2:b<X54.heap.size:=hb.2;omega) hN2.out)
    replace fN:=hsq.blk (by omega) fN
    refine hK.out _ _ ⟨ag fA rfl,ag fA rfl,ag fB rfl,ag fB rfl⟩ (fun hHeld94=>?_)
    clear hK K hHeld93 hsq hXq
    try simp only [cW,hwA]
    refine wpAnyH_done (by kernel_rfl) ?_ _
    refine NoPanic.normal ?_
    clear hHeld94
    go_wp2_with fail
    refine wp_region_noPanic ?_
    refine wp_region_held_drew (S:=fun w'=>w'.cell? ⟨X1.heap.size,0,none⟩=some (.int .i64 k)∧w'.cell? ⟨X1.heap.size,1,none⟩=some (.slice (some ⟨X54.heap.size,0,none⟩) 2 2)) (by kernel_rfl) ?_ (fun hHeld0=>?_)
    · exact⟨ag fV rfl,ag fV rfl⟩
    obtain⟨U4,hU,hb,zU4a,zU4b⟩:=bO X56
    rw [hU] at hHeld0 ⊢
    replace fA:=af fA hb;replace fB:=af fB hb;replace fR:=af fR hb;replace fC:=Lib.hid (ai fC.out hb)
    replace hT:=Lib.hid (hT.out.below hb);replace hU_:=Lib.hid (hU_.out.below hb);replace hN1:=Lib.hid (hN1.out.below hb);replace fV:=af fV hb
    replace hN2:=Lib.hid (hN2.out.below hb);replace fN:=af fN hb
    (try simp only [World.size_alloc] at zU4a zU4b)
    clear hU hb
    refine hwt 0 cV (.agg #[.int .i64 k,.slice (some ⟨X54.heap.size,0,none⟩) 2 2]) hHeld0 ?_ ?_
    · intro w' hSw;dsimp only [cV];go_simp
    try simp only [cV,hwA]
    refine hwt 1 cX (.agg #[.int .i64 k,.slice (some ⟨X54.heap.size,0,none⟩) 2 2]) hHeld0 ?_ ?_
    · intro w' hSw;dsimp only [cX];go_simp
    try simp only [cX,hwA]
    refine hwr 2 cT (fun K hK=>?_)
    dsimp only [cT];go_simp
    go_at_call 41
    have hrd:ap (fun b=>False∨w.heap.size≤b) U4 (.mk k [t,u]) (.agg #[.int .i64 k,.slice (some ⟨X54.heap.size,0,none⟩) 2 2]):=ap.two_mk (F:=fun b=>False∨w.heap.size≤b) (w:=U4) (b:=X54.heap.size) (cap:=2) (k:=k) (t:=t) (u:=u) (k1:=kc) (k2:=kd) (c1:=.slice ac nc qc) (c2:=.slice ad nd qd) (.inr (by omega)) (Nat.le_refl 2) (by unfold maxLen;omega) (ag fN (o:=0) rfl) (ag fN (o:=1) rfl) (ag fN (o:=2) rfl) (ag fN (o:=3) rfl) (hN1.out.move (.weaken fun b h _=>.inr (by have h1:=h.1;omega))) (hN2.out.move (.weaken fun b h _=>.inr (by have h1:=h.1;omega)))
    refine(bW _ (.mk k [t,u]) _ _ hrd).mono ?_
    rintro e X77 ⟨rfl,hb⟩
    rw [HVV.out]
    clear hrd
    go_wp2_with fail
    have zX77:U4.heap.size≤X77.heap.size:=hb.size
    replace fA:=af fA hb;replace fB:=af fB hb;replace fR:=af fR hb;replace fC:=Lib.hid (ai fC.out hb)
    replace hT:=Lib.hid (hT.out.below hb);replace hU_:=Lib.hid (hU_.out.below hb);replace hN1:=Lib.hid (hN1.out.below hb);replace fV:=af fV hb
    replace hN2:=Lib.hid (hN2.out.below hb);replace fN:=af fN hb
    refine hK.out _ _ ⟨ag fV rfl,ag fV rfl⟩ (fun hHeld135=>?_)
    clear hK K hHeld0 hb
    try simp only [cT,hwA]
    refine hwr 3 cP (fun K hK=>?_)
    obtain⟨r0,r1,rf0,rf1⟩:=cg fR
    dsimp only [cP];go_simp
    (try go_wp2_with fail)
    have hQq:=bx fR (.int .i64 k) (.slice (some ⟨X54.heap.size,0,none⟩) 2 2)
    clear fR r0 rf0 r1 rf1
    obtain⟨X78,hXq,hsq,fR,zX78a,zX78b⟩:=hQq
    rw [hXq]
    replace fA:=hsq.blk (by omega) fA;replace fB:=hsq.blk (by omega) fB;replace fC:=Lib.hid (hsq.bel fC.out (by omega));replace hT:=Lib.hid (hsq.rep (fun b hb=>by have:b<w.heap.size:=hb;omega) hT.out)
    replace hU_:=Lib.hid (hsq.rep (fun b hb=>by have:b<w.heap.size:=hb;omega) hU_.out);replace hN1:=Lib.hid (hsq.rep (fun b hb=>by have h1:U1.heap.size≤b:=hb.1;have h2:b<X1.heap.size:=hb.2;omega) hN1.out);replace fV:=hsq.blk (by omega) fV;replace hN2:=Lib.hid (hsq.rep (fun b hb=>by have h1:X53.heap.size≤b:=hb.1;have h2:b<X54.heap.size:=hb.2;omega) hN2.out)
    replace fN:=hsq.blk (by omega) fN
    refine hK.out _ _ ⟨ag fV rfl,ag fV rfl⟩ (fun hHeld136=>?_)
    clear hK K hHeld135 hsq hXq
    try simp only [cP,hwA]
    refine hwt 4 cS (.bool vv) hHeld136 ?_ ?_
    · intro w' hSw;dsimp only [cS];go_simp
    try simp only [cS,hwA]
    refine wpAnyH_done (by kernel_rfl) ?_ _
    refine NoPanic.normal ?_
    clear hHeld136
    obtain⟨rc0,rc1⟩:=blk2 fR
    go_wp2_with fail
    refine bodyPost_ret (v:=.tuple #[.agg #[.int .i64 k,.slice (some ⟨X54.heap.size,0,none⟩) 2 2],.bool vv]) (by simp [results,Try.results76,go_sem,rc0,rc1]) rfl ?_
    have hrd:ap (fun b=>False∨w.heap.size≤b) X78 (.mk k [t,u]) (.agg #[.int .i64 k,.slice (some ⟨X54.heap.size,0,none⟩) 2 2]):=ap.two_mk (F:=fun b=>False∨w.heap.size≤b) (w:=X78) (b:=X54.heap.size) (cap:=2) (k:=k) (t:=t) (u:=u) (k1:=kc) (k2:=kd) (c1:=.slice ac nc qc) (c2:=.slice ad nd qd) (.inr (by omega)) (Nat.le_refl 2) (by unfold maxLen;omega) (ag fN (o:=0) rfl) (ag fN (o:=1) rfl) (ag fN (o:=2) rfl) (ag fN (o:=3) rfl) (hN1.out.move (.weaken fun b h _=>.inr (by have h1:=h.1;omega))) (hN2.out.move (.weaken fun b h _=>.inr (by have h1:=h.1;omega)))
    exact⟨_,_,_,_,_,.mk k [t,u],rfl,(by rw [HO.out];cases vv<;>rfl),hrd,(by rw [HO.out];intro s h;cases vv<;>simp at h;exact h),fC.out⟩
  ·skip
   dsimp only [cQ];go_simp
   (try go_wp2_with fail)
   obtain⟨X79,hXq,hb,fV,zX79a,zX79b⟩:=bM U1 (.cells #[.int .i64 0,.slice none 0 0] 25)
   rw [hXq]
   replace fA:=af fA hb;replace fB:=af fB hb;replace fR:=af fR hb;replace fC:=Lib.hid (ai fC.out hb)
   replace hT:=Lib.hid (hT.out.below hb);replace hU_:=Lib.hid (hU_.out.below hb)
   refine hK.out _ _ ⟨ag fA rfl,ag fA rfl,ag fB rfl,ag fB rfl⟩ (fun hHeld1=>?_)
   clear hK K hHeld0 hb hXq
   try simp only [cQ,hwA]
   refine hwr 2 gm (fun K hK=>?_)
   dsimp only [gm];go_simp
   go_at_call 43
   refine(b8 _ t _ _ hT.out HCT.out).mono ?_
   rintro e X80 ⟨v,rfl,hv,hb⟩
   obtain⟨kc,ac,nc,qc,rfl⟩:=hv.shape
   have hN1':Hid (ap (fun b=>X79.heap.size≤b∧b<X80.heap.size) X80 t (.agg #[.int .i64 kc,.slice ac nc qc])):=Lib.hid (hv.rep.move (.weaken fun b h1 h2=>⟨h1,h2⟩))
   clear hv
   go_wp2_with fail
   have zX80:X79.heap.size≤X80.heap.size:=hb.size
   replace fA:=af fA hb;replace fB:=af fB hb;replace fR:=af fR hb;replace fC:=Lib.hid (ai fC.out hb)
   replace hT:=Lib.hid (hT.out.below hb);replace hU_:=Lib.hid (hU_.out.below hb);replace fV:=af fV hb
   have hN1:=hN1'
   clear hN1'
   refine hK.out _ _ ⟨ag fA rfl,ag fA rfl,ag fB rfl,ag fB rfl⟩ (fun hHeld137=>?_)
   clear hK K hHeld1 hb
   try simp only [gm,hwA]
   refine hwr 4 dl (fun K hK=>?_)
   dsimp only [dl];go_simp
   go_at_call 43
   refine(b8 _ u _ _ hU_.out HCU.out).mono ?_
   rintro e X81 ⟨v,rfl,hv,hb⟩
   obtain⟨kd,ad,nd,qd,rfl⟩:=hv.shape
   have hN2':Hid (ap (fun b=>X80.heap.size≤b∧b<X81.heap.size) X81 u (.agg #[.int .i64 kd,.slice ad nd qd])):=Lib.hid (hv.rep.move (.weaken fun b h1 h2=>⟨h1,h2⟩))
   clear hv
   go_wp2_with fail
   have zX81:X80.heap.size≤X81.heap.size:=hb.size
   replace fA:=af fA hb;replace fB:=af fB hb;replace fR:=af fR hb;replace fC:=Lib.hid (ai fC.out hb)
   replace hT:=Lib.hid (hT.out.below hb);replace hU_:=Lib.hid (hU_.out.below hb);replace fV:=af fV hb;replace hN1:=Lib.hid (hN1.out.below hb)
   have hN2:=hN2'
   clear hN2'
   refine hK.out _ _ ⟨ag fA rfl,ag fA rfl,ag fB rfl,ag fB rfl⟩ (fun hHeld138=>?_)
   clear hK K hHeld137 hb
   try simp only [dl,hwA]
   refine hwr 5 cR (fun K hK=>?_)
   dsimp only [cR];go_simp
   (try go_wp2_with fail)
   obtain⟨X82,hXq,hb,fN,zX82a,zX82b⟩:=bM X81 (.cells #[.int .i64 kc,.slice ac nc qc,.int .i64 kd,.slice ad nd qd] 25)
   rw [hXq]
   replace fA:=af fA hb;replace fB:=af fB hb;replace fR:=af fR hb;replace fC:=Lib.hid (ai fC.out hb)
   replace hT:=Lib.hid (hT.out.below hb);replace hU_:=Lib.hid (hU_.out.below hb);replace fV:=af fV hb;replace hN1:=Lib.hid (hN1.out.below hb)
   replace hN2:=Lib.hid (hN2.out.below hb)
   refine hK.out _ _ ⟨ag fA rfl,ag fA rfl,ag fB rfl,ag fB rfl⟩ (fun hHeld139=>?_)
   clear hK K hHeld138 hb hXq
   try simp only [cR,hwA]
   refine hwt 6 cU (.agg #[.int .i64 k,.slice (some ⟨X81.heap.size,0,none⟩) 2 2]) hHeld139 ?_ ?_
   · intro w' hSw;dsimp only [cU];go_simp
   try simp only [cU,hwA]
   refine hwr 8 cW (fun K hK=>?_)
   obtain⟨r0,r1,rf0,rf1⟩:=cg fV
   dsimp only [cW];go_simp
   (try go_wp2_with fail)
   have hQq:=bx fV (.int .i64 k) (.slice (some ⟨X81.heap.size,0,none⟩) 2 2)
   clear fV r0 rf0 r1 rf1
   obtain⟨X83,hXq,hsq,fV,zX83a,zX83b⟩:=hQq
   rw [hXq]
   replace fA:=hsq.blk (by omega) fA;replace fB:=hsq.blk (by omega) fB;replace fR:=hsq.blk (by omega) fR;replace fC:=Lib.hid (hsq.bel fC.out (by omega))
   replace hT:=Lib.hid (hsq.rep (fun b hb=>by have:b<w.heap.size:=hb;omega) hT.out);replace hU_:=Lib.hid (hsq.rep (fun b hb=>by have:b<w.heap.size:=hb;omega) hU_.out);replace hN1:=Lib.hid (hsq.rep (fun b hb=>by have h1:X79.heap.size≤b:=hb.1;have h2:b<X80.heap.size:=hb.2;omega) hN1.out);replace hN2:=Lib.hid (hsq.rep (fun b hb=>by have h1:X80.heap.size≤b:=hb.1;have h2:b<X81.heap.size:=hb.2;omega) hN2.out)
   replace fN:=hsq.blk (by omega) fN
   refine hK.out _ _ ⟨ag fA rfl,ag fA rfl,ag fB rfl,ag fB rfl⟩ (fun hHeld140=>?_)
   clear hK K hHeld139 hsq hXq
   try simp only [cW,hwA]
   refine wpAnyH_done (by kernel_rfl) ?_ _
   refine NoPanic.normal ?_
   clear hHeld140
   go_wp2_with fail
   refine wp_region_noPanic ?_
   refine wp_region_held_drew (S:=fun w'=>w'.cell? ⟨U1.heap.size,0,none⟩=some (.int .i64 k)∧w'.cell? ⟨U1.heap.size,1,none⟩=some (.slice (some ⟨X81.heap.size,0,none⟩) 2 2)) (by kernel_rfl) ?_ (fun hHeld0=>?_)
   · exact⟨ag fV rfl,ag fV rfl⟩
   obtain⟨U5,hU,hb,zU5a,zU5b⟩:=bO X83
   rw [hU] at hHeld0 ⊢
   replace fA:=af fA hb;replace fB:=af fB hb;replace fR:=af fR hb;replace fC:=Lib.hid (ai fC.out hb)
   replace hT:=Lib.hid (hT.out.below hb);replace hU_:=Lib.hid (hU_.out.below hb);replace fV:=af fV hb;replace hN1:=Lib.hid (hN1.out.below hb)
   replace hN2:=Lib.hid (hN2.out.below hb);replace fN:=af fN hb
   (try simp only [World.size_alloc] at zU5a zU5b)
   clear hU hb
   refine hwt 0 cV (.agg #[.int .i64 k,.slice (some ⟨X81.heap.size,0,none⟩) 2 2]) hHeld0 ?_ ?_
   · intro w' hSw;dsimp only [cV];go_simp
   try simp only [cV,hwA]
   refine hwt 1 cX (.agg #[.int .i64 k,.slice (some ⟨X81.heap.size,0,none⟩) 2 2]) hHeld0 ?_ ?_
   · intro w' hSw;dsimp only [cX];go_simp
   try simp only [cX,hwA]
   refine hwr 2 cT (fun K hK=>?_)
   dsimp only [cT];go_simp
   go_at_call 41
   have hrd:ap (fun b=>False∨w.heap.size≤b) U5 (.mk k [t,u]) (.agg #[.int .i64 k,.slice (some ⟨X81.heap.size,0,none⟩) 2 2]):=ap.two_mk (F:=fun b=>False∨w.heap.size≤b) (w:=U5) (b:=X81.heap.size) (cap:=2) (k:=k) (t:=t) (u:=u) (k1:=kc) (k2:=kd) (c1:=.slice ac nc qc) (c2:=.slice ad nd qd) (.inr (by omega)) (Nat.le_refl 2) (by unfold maxLen;omega) (ag fN (o:=0) rfl) (ag fN (o:=1) rfl) (ag fN (o:=2) rfl) (ag fN (o:=3) rfl) (hN1.out.move (.weaken fun b h _=>.inr (by have h1:=h.1;omega))) (hN2.out.move (.weaken fun b h _=>.inr (by have h1:=h.1;omega)))
   refine(bW _ (.mk k [t,u]) _ _ hrd).mono ?_
   rintro e X104 ⟨rfl,hb⟩
   rw [HVV.out]
   clear hrd
   go_wp2_with fail
   have zX104:U5.heap.size≤X104.heap.size:=hb.size
   replace fA:=af fA hb;replace fB:=af fB hb;replace fR:=af fR hb;replace fC:=Lib.hid (ai fC.out hb)
   replace hT:=Lib.hid (hT.out.below hb);replace hU_:=Lib.hid (hU_.out.below hb);replace fV:=af fV hb;replace hN1:=Lib.hid (hN1.out.below hb)
   replace hN2:=Lib.hid (hN2.out.below hb);replace fN:=af fN hb
   refine hK.out _ _ ⟨ag fV rfl,ag fV rfl⟩ (fun hHeld181=>?_)
   clear hK K hHeld0 hb
   try simp only [cT,hwA]
   refine hwr 3 cP (fun K hK=>?_)
   obtain⟨r0,r1,rf0,rf1⟩:=cg fR
   dsimp only [cP];go_simp
   (try go_wp2_with fail)
   have hQq:=bx fR (.int .i64 k) (.slice (some ⟨X81.heap.size,0,none⟩) 2 2)
   clear fR r0 rf0 r1 rf1
   obtain⟨X105,hXq,hsq,fR,zX105a,zX105b⟩:=hQq
   rw [hXq]
   replace fA:=hsq.blk (by omega) fA;replace fB:=hsq.blk (by omega) fB;replace fC:=Lib.hid (hsq.bel fC.out (by omega));replace hT:=Lib.hid (hsq.rep (fun b hb=>by have:b<w.heap.size:=hb;omega) hT.out)
   replace hU_:=Lib.hid (hsq.rep (fun b hb=>by have:b<w.heap.size:=hb;omega) hU_.out);replace fV:=hsq.blk (by omega) fV;replace hN1:=Lib.hid (hsq.rep (fun b hb=>by have h1:X79.heap.size≤b:=hb.1;have h2:b<X80.heap.size:=hb.2;omega) hN1.out);replace hN2:=Lib.hid (hsq.rep (fun b hb=>by have h1:X80.heap.size≤b:=hb.1;have h2:b<X81.heap.size:=hb.2;omega) hN2.out)
   replace fN:=hsq.blk (by omega) fN
   refine hK.out _ _ ⟨ag fV rfl,ag fV rfl⟩ (fun hHeld182=>?_)
   clear hK K hHeld181 hsq hXq
   try simp only [cP,hwA]
   refine hwt 4 cS (.bool vv) hHeld182 ?_ ?_
   · intro w' hSw;dsimp only [cS];go_simp
   try simp only [cS,hwA]
   refine wpAnyH_done (by kernel_rfl) ?_ _
   refine NoPanic.normal ?_
   clear hHeld182
   obtain⟨rc0,rc1⟩:=blk2 fR
   go_wp2_with fail
   refine bodyPost_ret (v:=.tuple #[.agg #[.int .i64 k,.slice (some ⟨X81.heap.size,0,none⟩) 2 2],.bool vv]) (by simp [results,Try.results76,go_sem,rc0,rc1]) rfl ?_
   have hrd:ap (fun b=>False∨w.heap.size≤b) X105 (.mk k [t,u]) (.agg #[.int .i64 k,.slice (some ⟨X81.heap.size,0,none⟩) 2 2]):=ap.two_mk (F:=fun b=>False∨w.heap.size≤b) (w:=X105) (b:=X81.heap.size) (cap:=2) (k:=k) (t:=t) (u:=u) (k1:=kc) (k2:=kd) (c1:=.slice ac nc qc) (c2:=.slice ad nd qd) (.inr (by omega)) (Nat.le_refl 2) (by unfold maxLen;omega) (ag fN (o:=0) rfl) (ag fN (o:=1) rfl) (ag fN (o:=2) rfl) (ag fN (o:=3) rfl) (hN1.out.move (.weaken fun b h _=>.inr (by have h1:=h.1;omega))) (hN2.out.move (.weaken fun b h _=>.inr (by have h1:=h.1;omega)))
   exact⟨_,_,_,_,_,.mk k [t,u],rfl,(by rw [HO.out];cases vv<;>rfl),hrd,(by rw [HO.out];intro s h;cases vv<;>simp at h;exact h),fC.out⟩
end Go.Proofs.Ytnaoghknnenfoaa

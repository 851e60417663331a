/-
  Typed terms are drawn: bounds, rows, nodes.
  spec.l3Lam.
-/
import Derived.Test.YtnaoghknnenfoaaB5
import Derived.Test.YtnaoghknnenfoaaCtTwo
import Derived.Test.YtnaoghknnenfoaaB2
import Derived.Test.YtnaoghknnenfoaaBlurV
import Derived.Test.YtnaoghknnenfoaaB17
set_option linter.unusedSimpArgs false
set_option linter.unusedVariables false
set_option maxRecDepth 100000
namespace Go.Proofs.Ytnaoghknnenfoaa
open Go.RowKit
theorem aV.blk {F:Nat→Prop}{w:World}{b n:Nat}{ts:List Tm}{cs:Array Value}{T:TypeId}(hF:F b)(h:w.heap[b]?=some (.cells cs T (0,0)))(hn:n=ts.length)(hm:n≤maxLen)(hv:b4 F w (Tm.rows ts) cs.toList):aV F w ts (.slice (some ⟨b,0,none⟩) n n):=by
 subst hn
 have hl:(Tm.rows ts).length=ts.length:=by rw [Tm.rows_eq];simp
 unfold aV aS
 refine⟨_,ts.length,by rw [hl],by rw [hl];exact Nat.le_refl _,hm,.inr ⟨b,0,rfl,hF,al h,?_⟩⟩
 refine b4.rows _ cs.toList 0 hv fun j u hj=>?_
 rw [Nat.zero_add]
 exact ag h (by simpa using hj)
theorem b4.c1 {F:Nat→Prop}{w:World}{t1:Tm}{ys1:List Value}(h1:bT F w t1.row ys1):b4 F w (Tm.rows [t1]) ys1:=by
 rw [Tm.rows_eq];exact⟨ys1,[],by simp,h1,rfl⟩
theorem b4.c2 {F:Nat→Prop}{w:World}{t1 t2:Tm}{ys1 ys2:List Value}(h1:bT F w t1.row ys1)(h2:bT F w t2.row ys2):b4 F w (Tm.rows [t1,t2]) (ys1++ys2):=by
 rw [Tm.rows_eq];exact⟨ys1,ys2,rfl,h1,ys2,[],by simp,h2,rfl⟩
theorem b4.c3 {F:Nat→Prop}{w:World}{t1 t2 t3:Tm}{ys1 ys2 ys3:List Value}(h1:bT F w t1.row ys1)(h2:bT F w t2.row ys2)(h3:bT F w t3.row ys3):b4 F w (Tm.rows [t1,t2,t3]) (ys1++(ys2++ys3)):=by
 rw [Tm.rows_eq];exact⟨ys1,ys2++ys3,rfl,h1,ys2,ys3,rfl,h2,ys3,[],by simp,h3,rfl⟩
def mkB (d:Int)(s:S):Nat:=if d≤1 then 100*(s.cnt+1) else 4000*4 ^ (d-1).toNat
def mkU (d:Int):Nat:=4000*4 ^ (d-2).toNat
def mkM (d:Int)(s:S):Nat:=5*(max d 1).toNat+s.dep
theorem ij {s:S}(h:s.vd=true):s.cnt≤14:=by
 have h1:=Ty.cnt_shape s.ty 4 (by have:=S.valid s;rw [h] at this;exact this)
 rw [S.ty_cnt] at h1
 omega
theorem dt {d:Int}(s:S)(h:2≤d):mkB d s=4*mkU d:=by
 unfold mkB mkU
 rw [if_neg (by omega),show(d-1).toNat=(d-2).toNat+1 by omega,Nat.pow_succ]
 omega
theorem bv {d:Int}{s:S}(h:2≤d)(hs:s.vd=true):mkB (d-1) s≤mkU d:=by
 have h1:=ij hs
 have h2:1≤4 ^ (d-2).toNat:=Nat.pow_pos (by omega)
 unfold mkB mkU
 split
 ·omega
 ·rw [show(d-1-1).toNat=(d-2).toNat by omega];exact Nat.le_refl _
theorem dm (d:Int):4000≤mkU d:=by
 have h2:1≤4 ^ (d-2).toNat:=Nat.pow_pos (by omega)
 unfold mkU;omega
theorem mkU_top {d:Int}(h:d≤5):4*mkU d≤1024000:=by
 have h2:4 ^ (d-2).toNat≤4 ^ 3:=Nat.pow_le_pow_right (by omega) (by omega)
 unfold mkU
 have:4 ^ 3=64:=rfl
 omega
theorem cu {d:Int}{s s':S}(h:2≤d)(hs:s.vd=true)(hs':s'.vd=true):mkM (d-1) s'<mkM d s:=by
 have h1:=S.vd_dep hs'
 have h2:1≤s.dep:=by cases s<;>simp [S.dep]
 unfold mkM
 rw [show(max d 1)=d by omega,show max (d-1) 1=d-1 by omega]
 omega
theorem jo {d:Int}{s s':S}(h:s'.dep<s.dep):mkM (d-1) s'<mkM d s:=by
 unfold mkM
 omega
def MkC (r:Nat)(dd:Int)(s:S)(l:List Bd):Prop:=∀(q:Nat) (W:World) (c' y':Value),aW W r q→aL (· ≠ r) W l c'→CtxV l c'→ap (· ≠ r) W s.ty y'→q+mkB dd s≤1125899906800000→Calls Try.prog 24 #[.pointer (some ⟨r,0,none⟩),c',y',.int .i64 dd] W (DTm r q (mkB dd s) (mkB dd s) W)
theorem cw (k:Int)(a:Option Addr)(n q:Nat)(w:World):Calls Try.prog 44 #[.int .i64 k,.slice a n q] w fun e w'=>e = .returned (.agg #[.int .i64 k,.string { data:=#[] },.int .i64 0,.int .i64 0,.slice none 0 0,.int .i64 0,.slice none 0 0,.int .i64 0,.slice a n q])∧Below w.heap.size w w':=by
 go_enter Try.func44,Try.ntmps44
 go_wp2_with fail
 refine bodyPost_ret (v:=.agg #[.int .i64 k,.string { data:=#[] },.int .i64 0,.int .i64 0,.slice none 0 0,.int .i64 0,.slice none 0 0,.int .i64 0,.slice a n q]) (by simp [results,Try.results44,go_sem]) rfl ?_
 exact⟨rfl,ah⟩
theorem HSt.rd {b r p:Nat}{W X:World}(h:HSt b W X)(f:aW W r p)(hb:r<b):aW X r p:=f.keep h.2.2.1 fun c hc=>h.1 c (by omega)
theorem aL.blkF {F:Nat→Prop}{w:World}{l:List Bd}{b off n q:Nat}(h:aL F w l (.slice (some ⟨b,off,none⟩) n q))(hl:0<l.length):F b:=by
 unfold aL aS at h
 obtain⟨a,cap,he,-,-,h4⟩:=h
 simp only [Value.slice.injEq] at he
 rcases h4 with h4 | ⟨b',off',ha,hF,-⟩
 ·have e:(Bd.rows l).length=0:=by rw [h4];rfl
  rw [Bd.rows_length] at e;omega
 ·rw [←he.1] at ha
  simp only [Option.some.injEq,Addr.mk.injEq] at ha
  rw [ha.1];exact hF
theorem bp:({ data:=#[] }:ByteArray).size≤maxLen:=by unfold maxLen;decide
end Go.Proofs.Ytnaoghknnenfoaa
namespace Go.Proofs.Ytnaoghknnenfoaa
open Go.RowKit
theorem mkMore {r:Nat}{l:List Bd}{xa:Option Addr}{xn xq:Nat}{W w:World}{nm:ByteArray}{ty:Ty}{tk:Int}{ta:Option Addr}{tn tq:Nat}(hcv:CtxV l (.slice xa xn xq))(hl:l.length≤100)(hnm:nm.size≤maxLen)(hx:aL (fun x=>x≠r∧x<w.heap.size) W l (.slice xa xn xq))(ht:ap (fun x=>x≠r∧x<w.heap.size) W ty (.agg #[.int .i64 tk,.slice ta tn tq])) :
  Calls Try.prog 66 #[.slice xa xn xq,.string nm,.agg #[.int .i64 tk,.slice ta tn tq]] W (RetCG (fun x=>x≠r∧x<w.heap.size) (l ++ [⟨nm,ty⟩]) W):=by
 rcases hcv with ⟨rfl,h⟩ | ⟨h1,a,m,q,h⟩
 ·rw [h];exact jH _ nm ty tk ta tn tq W hnm ht
 ·simp only [Value.slice.injEq] at h
  obtain⟨rfl,rfl,rfl⟩:=h
  exact oM _ l a xn xq nm ty tk ta tn tq W hx (by omega) h1 hnm ht
def oQ2_0:Oper:=⟨some 15,Op.move (Operand.tmp 11),9,"l3_typing.go:236",#[],none⟩
def oQ2_1:Oper:=⟨some 16,Op.load 25 (Operand.tmp 7),25,"l3_typing.go:236",#[],none⟩
def oQ2_2:Oper:=⟨some 17,Op.call { callee:=Callee.value (Operand.func 43),args:=#[Operand.tmp 16],argTypes:=#[25] },25,"l3_typing.go:236",#[⟨1,.data⟩],none⟩
def oQ2_3:Oper:=⟨some 18,Op.move (Operand.tmp 0),36,"l3_typing.go:236",#[],none⟩
def oQ2_4:Oper:=⟨some 19,Op.move (Operand.tmp 1),63,"l3_typing.go:236",#[],none⟩
def oQ2_5:Oper:=⟨some 20,Op.move (Operand.tmp 11),9,"l3_typing.go:236",#[],none⟩
def oQ2_6:Oper:=⟨some 21,Op.load 25 (Operand.tmp 7),25,"l3_typing.go:236",#[],none⟩
def oQ2_7:Oper:=⟨some 22,Op.call { callee:=Callee.value (Operand.func 66),args:=#[Operand.tmp 19,Operand.tmp 20,Operand.tmp 21],argTypes:=#[63,9,25] },63,"l3_typing.go:236",#[⟨4,.data⟩,⟨5,.data⟩,⟨6,.data⟩,⟨2,.chain⟩],none⟩
def oQ2_8:Oper:=⟨some 23,Op.load 25 (Operand.tmp 8),25,"l3_typing.go:236",#[],none⟩
def oQ2_9:Oper:=⟨some 24,Op.move (Operand.tmp 4),3,"l3_typing.go:236",#[],none⟩
def nZ:Oper:=⟨some 25,Op.call { callee:=Callee.value (Operand.func 24),args:=#[Operand.tmp 18,Operand.tmp 22,Operand.tmp 23,Operand.tmp 24],argTypes:=#[36,63,25,3] },28,"l3_typing.go:236",#[⟨3,.data⟩,⟨7,.data⟩,⟨8,.data⟩,⟨9,.data⟩,⟨7,.chain⟩],none⟩
def mj:Oper:=⟨some 26,Op.buildSlice 26 1 #[(0,Operand.tmp 25)],26,"l3_typing.go:236",#[⟨10,.data⟩],none⟩
def ol:Oper:=⟨some 27,Op.build 28 #[(0,Operand.const (Value.int IntKind.i64 5)),(1,Operand.tmp 15),(3,Operand.tmp 17),(6,Operand.tmp 26)],28,"l3_typing.go:236",#[⟨0,.data⟩,⟨2,.data⟩,⟨11,.data⟩],none⟩
def mi:Oper:=⟨none,Op.store 28 (Operand.tmp 10) (Operand.tmp 27),0,"l3_typing.go:236",#[⟨12,.data⟩,⟨10,.chain⟩,⟨0,.phase⟩,⟨1,.phase⟩,⟨2,.phase⟩,⟨3,.phase⟩,⟨4,.phase⟩,⟨5,.phase⟩,⟨6,.phase⟩,⟨7,.phase⟩,⟨8,.phase⟩,⟨9,.phase⟩,⟨10,.phase⟩,⟨11,.phase⟩,⟨12,.phase⟩],none⟩
set_option maxHeartbeats 8000000 in
theorem kv (r p:Nat)(dd:Int)(a b:S)(l:List Bd)(w:World)(c ya yb:Value)(hrd0:aW w r p)(hcx:aL (· ≠ r) w l c)(hcv:CtxV l c)(hl:l.length≤100)(ha:ap (· ≠ r) w a.ty ya)(hb:ap (· ≠ r) w b.ty yb)(hva:a.vd=true)
  (IH : ∀nm:ByteArray,nm.size≤1→MkC r dd b (l ++ [⟨nm,a.ty⟩])) (hp:p+1+mkB dd b≤1125899906800000) :
  Calls Try.prog 46 #[.pointer (some ⟨r,0,none⟩),c,ya,yb,.int .i64 dd] w (DTm r p (mkB dd b+1) (mkB dd b+40) w):=by
 obtain⟨ak,aa,an,aq,rfl⟩:=ha.shape
 obtain⟨bk,ba,bn,bq,rfl⟩:=hb.shape
 have hrl:=hrd0.1
 have HA:=Lib.hid (ha.move (.weaken (G:=(fun x=>x≠r∧x<w.heap.size)) fun b h hl=>⟨h,hl⟩))
 have HB:=Lib.hid (hb.move (.weaken (G:=(fun x=>x≠r∧x<w.heap.size)) fun b h hl=>⟨h,hl⟩))
 have HX0:=Lib.hid (hcx.move (.weaken (G:=(fun x=>x≠r∧x<w.heap.size)) fun b h hl=>⟨h,hl⟩))
 have HCV:=Lib.hid hcv
 have HLL:=Lib.hid hl
 have HCA:=Lib.hid (S.cnt_ok hva)
 have HCA2:=Lib.hid (show a.ty.cnt≤14 by rw [S.ty_cnt];exact ij hva)
 have HIH:=Lib.hid IH
 have HP:=Lib.hid hp
 obtain⟨xa,xn,xq,rfl⟩:=hcv.shape
 have HRD0:=Lib.hid hrd0
 clear ha hb hcx hcv hl hva IH hrd0
 go_enter Try.func46,Try.ntmps46
 go_wp2_with fail
 refine(specOf (fun s=>s.size≤1) r p _ 4 4 _ ((HRD0.out.below bS).below ah) (by omega) (by omega) (by omega) (Nat.le_refl _) (by omega) (ku [⟨#[120]⟩,⟨#[121]⟩,⟨#[122]⟩,⟨#[102]⟩] (by simp) _ (by decide))).mono ?_
 rintro e w1 ⟨nm,rfl,hnm,hrd1,hc1⟩
 have hch:=(Chg.of_below (fp:= [r]) (ai bS ah)).trans hc1
 have hz1:=hc1.size
 simp only [World.size_alloc] at hz1
 have HNM:=Lib.hid hnm
 have fA:w1.heap[w.heap.size]?=some (.cells #[.int .i64 ak,.slice aa an aq] 25 (0,0)):=aB (af (af (af (aD rfl) ah) ah) ah) hc1 (by omega)
 have fB:w1.heap[w.heap.size+1]?=some (.cells #[.int .i64 bk,.slice ba bn bq] 25 (0,0)):=aB (af (af (aD (by simp)) ah) ah) hc1 (by omega)
 have fR:w1.heap[w.heap.size+1+1]?=some (.cells #[.int .i64 0,.string { data:=#[] },.int .i64 0,.int .i64 0,.slice none 0 0,.int .i64 0,.slice none 0 0,.int .i64 0,.slice none 0 0] 28 (0,0)):=aB (af (aD (by simp)) ah) hc1 (by omega)
 have fC:Hid (Chg [r] w w1):=Lib.hid hch
 have rd:Hid (aW w1 r (p+1)):=Lib.hid hrd1
 have hA:Hid (ap (fun x=>x≠r∧x<w.heap.size) w1 a.ty (.agg #[.int .i64 ak,.slice aa an aq])):=Lib.hid (HA.out.move (kpN hch (fun b hb=>hb.1)))
 have hB_:Hid (ap (fun x=>x≠r∧x<w.heap.size) w1 b.ty (.agg #[.int .i64 bk,.slice ba bn bq])):=Lib.hid (HB.out.move (kpN hch (fun b hb=>hb.1)))
 have hX:Hid (aL (fun x=>x≠r∧x<w.heap.size) w1 l (.slice xa xn xq)):=Lib.hid (HX0.out.move (kpN hch (fun b hb=>hb.1)))
 clear hc1 hch hrd1 hnm
 go_wp2_with fail
 refine wp_region_noPanic ?_
 refine wp_region_held_drew (S:=fun w'=>w'.cell? ⟨w.heap.size,0,none⟩=some (.int .i64 ak)∧w'.cell? ⟨w.heap.size,1,none⟩=some (.slice aa an aq)∧w'.cell? ⟨w.heap.size+1,0,none⟩=some (.int .i64 bk)∧w'.cell? ⟨w.heap.size+1,1,none⟩=some (.slice ba bn bq)) (by kernel_rfl) ?_ (fun hHeld0=>?_)
 ·exact⟨ag fA rfl,ag fA rfl,ag fB rfl,ag fB rfl⟩
 obtain⟨U1,hU,hb,zU1a,zU1b⟩:=bO w1
 rw [hU] at hHeld0 ⊢
 replace fA:=af fA hb;replace fB:=af fB hb;replace fR:=af fR hb;replace fC:=Lib.hid (fC.out.trans (Chg.of_below hb))
 replace rd:=Lib.hid (rd.out.below hb);replace hA:=Lib.hid (hA.out.below hb);replace hB_:=Lib.hid (hB_.out.below hb);replace hX:=Lib.hid (hX.out.below hb)
 (try simp only [World.size_alloc] at zU1a zU1b)
 clear hU hb
 refine hwt 0 oQ2_0 (.string nm) hHeld0 ?_ ?_
 ·intro w' hSw;dsimp only [oQ2_0];go_simp
 try simp only [oQ2_0,hwA]
 refine hwt 1 oQ2_1 (.agg #[.int .i64 ak,.slice aa an aq]) hHeld0 ?_ ?_
 ·intro w' hSw;dsimp only [oQ2_1];go_simp
 try simp only [oQ2_1,hwA]
 refine hwt 3 oQ2_3 (.pointer (some ⟨r,0,none⟩)) hHeld0 ?_ ?_
 ·intro w' hSw;dsimp only [oQ2_3];go_simp
 try simp only [oQ2_3,hwA]
 refine hwt 4 oQ2_4 (.slice xa xn xq) hHeld0 ?_ ?_
 ·intro w' hSw;dsimp only [oQ2_4];go_simp
 try simp only [oQ2_4,hwA]
 refine hwt 5 oQ2_5 (.string nm) hHeld0 ?_ ?_
 ·intro w' hSw;dsimp only [oQ2_5];go_simp
 try simp only [oQ2_5,hwA]
 refine hwt 6 oQ2_6 (.agg #[.int .i64 ak,.slice aa an aq]) hHeld0 ?_ ?_
 ·intro w' hSw;dsimp only [oQ2_6];go_simp
 try simp only [oQ2_6,hwA]
 refine hwt 8 oQ2_8 (.agg #[.int .i64 bk,.slice ba bn bq]) hHeld0 ?_ ?_
 ·intro w' hSw;dsimp only [oQ2_8];go_simp
 try simp only [oQ2_8,hwA]
 refine hwt 9 oQ2_9 (.int .i64 dd) hHeld0 ?_ ?_
 ·intro w' hSw;dsimp only [oQ2_9];go_simp
 try simp only [oQ2_9,hwA]
 refine hwr 2 oQ2_2 (fun K hK=>?_)
 dsimp only [oQ2_2];go_simp
 go_at_call 43
 refine(b8 _ a.ty _ _ hA.out HCA.out).mono ?_
 rintro e X1 ⟨v,rfl,hv,hb⟩
 obtain⟨kc,ac,nc,qc,rfl⟩:=hv.shape
 have hN':Hid (ap (fun b=>U1.heap.size≤b∧b<X1.heap.size) X1 a.ty (.agg #[.int .i64 kc,.slice ac nc qc])):=Lib.hid (hv.rep.move (.weaken fun b h1 h2=>⟨h1,h2⟩))
 clear hv
 go_wp2_with fail
 have zX1:U1.heap.size≤X1.heap.size:=hb.size
 replace fA:=af fA hb;replace fB:=af fB hb;replace fR:=af fR hb;replace fC:=Lib.hid (fC.out.trans (Chg.of_below hb))
 replace rd:=Lib.hid (rd.out.below hb);replace hA:=Lib.hid (hA.out.below hb);replace hB_:=Lib.hid (hB_.out.below hb);replace hX:=Lib.hid (hX.out.below hb)
 have hN:=hN'
 clear hN'
 refine hK.out _ _ ⟨ag fA rfl,ag fA rfl,ag fB rfl,ag fB rfl⟩ (fun hHeld1=>?_)
 clear hK K hHeld0 hb
 try simp only [oQ2_2,hwA]
 refine hwr 7 oQ2_7 (fun K hK=>?_)
 dsimp only [oQ2_7];go_simp
 go_at_call 66
 refine(mkMore HCV.out HLL.out (by have:=HNM.out;unfold maxLen;omega) hX.out hA.out).mono ?_
 rintro e X2 ⟨xa2,xm2,xq2,rfl,hcx,hb⟩
 have hX2':Hid (aL (fun x=>((x≠r∧x<w.heap.size)∧x<X1.heap.size)∨X1.heap.size≤x) X2 (l ++ [⟨nm,a.ty⟩]) (.slice (some xa2) xm2 xq2)):=Lib.hid hcx
 clear hcx
 go_wp2_with fail
 have zX2:X1.heap.size≤X2.heap.size:=hb.size
 replace fA:=af fA hb;replace fB:=af fB hb;replace fR:=af fR hb;replace fC:=Lib.hid (fC.out.trans (Chg.of_below hb))
 replace rd:=Lib.hid (rd.out.below hb);replace hA:=Lib.hid (hA.out.below hb);replace hB_:=Lib.hid (hB_.out.below hb);replace hX:=Lib.hid (hX.out.below hb)
 replace hN:=Lib.hid (hN.out.below hb)
 have hX2:=hX2'
 clear hX2'
 refine hK.out _ _ ⟨ag fA rfl,ag fA rfl,ag fB rfl,ag fB rfl⟩ (fun hHeld2=>?_)
 clear hK K hHeld1 hb
 try simp only [oQ2_7,hwA]
 refine hwr 10 nZ (fun K hK=>?_)
 dsimp only [nZ];go_simp
 go_at_call 24
 refine(HIH.out nm HNM.out _ _ _ _ rd.out (hX2.out.move (.weaken fun b h _=>by have h1:=h;rcases h with ⟨h1,-⟩ | h1;exact h1.1;intro e;omega)) (.inr ⟨by simp,_,_,_,rfl⟩) (hB_.out.move (.weaken fun b h _=>h.1)) (by have:=HP.out;omega)).mono ?_
 rintro e X3 ⟨t2,v,q2,rfl,hcn2,hv,hq2,hrd,hb⟩
 obtain⟨kt2,nm2,ut2,tk2,ta2,tn2,tq2,fk2,fa2,fn2,fq2,lt2,ct2,mt2,qt2,rfl⟩:=hv.shape
 have HC2:=Lib.hid hcn2
 clear hcn2
 have h2_':Hid (az (fun b=>X2.heap.size≤b∧b<X3.heap.size) X3 t2 (.agg #[.int .i64 kt2,.string nm2,.int .i64 ut2,.int .i64 tk2,.slice ta2 tn2 tq2,.int .i64 fk2,.slice fa2 fn2 fq2,.int .i64 lt2,.slice ct2 mt2 qt2])):=Lib.hid (hv.move (.weaken fun b h1 h2=>⟨h1,h2⟩))
 have rd':Hid (aW X3 r q2):=Lib.hid hrd
 clear hv hrd
 go_wp2_with fail
 have zX3:X2.heap.size≤X3.heap.size:=hb.size
 replace fA:=aB fA hb (by omega);replace fB:=aB fB hb (by omega);replace fR:=aB fR hb (by omega);replace fC:=Lib.hid (fC.out.trans hb)
 replace hA:=Lib.hid (hA.out.move (kpN hb (fun b hb=>hb.1)));replace hB_:=Lib.hid (hB_.out.move (kpN hb (fun b hb=>hb.1)));replace hX:=Lib.hid (hX.out.move (kpN hb (fun b hb=>hb.1)));replace hN:=Lib.hid (hN.out.move (kpN hb (fun b hb=>by have h1:=hb.1;have h2:=hb.2;omega)))
 replace hX2:=Lib.hid (hX2.out.move (kpN hb (fun b hb=>by rcases hb with h | h;exact h.1.1;omega)))
 have h2_:=h2_'
 clear h2_'
 clear rd
 have rd:=rd'
 clear rd'
 refine hK.out _ _ ⟨ag fA rfl,ag fA rfl,ag fB rfl,ag fB rfl⟩ (fun hHeld3=>?_)
 clear hK K hHeld2 hb
 try simp only [nZ,hwA]
 refine hwr 11 mj (fun K hK=>?_)
 dsimp only [mj];go_simp
 (try go_wp2_with fail)
 obtain⟨X4,hXq,hb,fL,zX4a,zX4b⟩:=bM X3 (.cells #[.int .i64 kt2,.string nm2,.int .i64 ut2,.int .i64 tk2,.slice ta2 tn2 tq2,.int .i64 fk2,.slice fa2 fn2 fq2,.int .i64 lt2,.slice ct2 mt2 qt2] 28)
 rw [hXq]
 replace fA:=af fA hb;replace fB:=af fB hb;replace fR:=af fR hb;replace fC:=Lib.hid (fC.out.trans (Chg.of_below hb))
 replace rd:=Lib.hid (rd.out.below hb);replace hA:=Lib.hid (hA.out.below hb);replace hB_:=Lib.hid (hB_.out.below hb);replace hX:=Lib.hid (hX.out.below hb)
 replace hN:=Lib.hid (hN.out.below hb);replace hX2:=Lib.hid (hX2.out.below hb);replace h2_:=Lib.hid (h2_.out.below hb)
 refine hK.out _ _ ⟨ag fA rfl,ag fA rfl,ag fB rfl,ag fB rfl⟩ (fun hHeld4=>?_)
 clear hK K hHeld3 hb hXq
 try simp only [mj,hwA]
 refine hwt 12 ol (.agg #[.int .i64 5,.string nm,.int .i64 0,.int .i64 kc,.slice ac nc qc,.int .i64 0,.slice none 0 0,.int .i64 0,.slice (some ⟨X3.heap.size,0,none⟩) 1 1]) hHeld4 ?_ ?_
 ·intro w' hSw;dsimp only [ol];go_simp
 try simp only [ol,hwA]
 refine hwr 13 mi (fun K hK=>?_)
 obtain⟨r0,rf0,r1,rf1,r2,rf2,r3,rf3,r4,rf4,r5,rf5,r6,rf6,r7,rf7,r8,rf8⟩:=blk9f fR
 dsimp only [mi];go_simp
 (try go_wp2_with fail)
 have hQq:=db fR (.int .i64 5) (.string nm) (.int .i64 0) (.int .i64 kc) (.slice ac nc qc) (.int .i64 0) (.slice none 0 0) (.int .i64 0) (.slice (some ⟨X3.heap.size,0,none⟩) 1 1)
 clear fR r0 rf0 r1 rf1 r2 rf2 r3 rf3 r4 rf4 r5 rf5 r6 rf6 r7 rf7 r8 rf8
 obtain⟨X5,hXq,hsq,fR,zX5a,zX5b⟩:=hQq
 rw [hXq]
 replace fA:=hsq.blk (by omega) fA;replace fB:=hsq.blk (by omega) fB;replace fC:=Lib.hid (hsq.chg fC.out (by omega));replace rd:=Lib.hid (hsq.rd rd.out (by omega))
 replace hA:=Lib.hid (hA.out.move (hsq.keeps (fun b hb=>by have:=hb.2;omega)));replace hB_:=Lib.hid (hB_.out.move (hsq.keeps (fun b hb=>by have:=hb.2;omega)));replace hX:=Lib.hid (hX.out.move (hsq.keeps (fun b hb=>by have:=hb.2;omega)));replace hN:=Lib.hid (hsq.rep (fun b hb=>by have h1:=hb.1;have h2:=hb.2;omega) hN.out)
 replace hX2:=Lib.hid (hX2.out.move (hsq.keeps (fun b hb=>by rcases hb with h | h<;>omega)));replace h2_:=Lib.hid (h2_.out.move (hsq.keeps (fun b hb=>by have h1:=hb.1;have h2:=hb.2;omega)));replace fL:=hsq.blk (by omega) fL
 refine hK.out _ _ ⟨ag fA rfl,ag fA rfl,ag fB rfl,ag fB rfl⟩ (fun hHeld5=>?_)
 clear hK K hHeld4 hsq hXq
 try simp only [mi,hwA]
 refine wpAnyH_done (by kernel_rfl) ?_ _
 refine NoPanic.normal ?_
 clear hHeld5
 obtain⟨rc0,rc1,rc2,rc3,rc4,rc5,rc6,rc7,rc8⟩:=blk9 fR
 go_wp2_with fail
 refine bodyPost_ret (v:=.agg #[.int .i64 5,.string nm,.int .i64 0,.int .i64 kc,.slice ac nc qc,.int .i64 0,.slice none 0 0,.int .i64 0,.slice (some ⟨X3.heap.size,0,none⟩) 1 1]) (by simp [results,Try.results46,go_sem,rc0,rc1,rc2,rc3,rc4,rc5,rc6,rc7,rc8]) rfl ?_
 have hks:aV (w.heap.size ≤ ·) X5 [t2] (.slice (some ⟨X3.heap.size,0,none⟩) 1 1):=aV.blk (by show w.heap.size≤_;omega) fL rfl (by unfold maxLen;omega) (b4.c1 (h2_.out.move (.weaken fun b h _=>by have:=h.1;omega)).srep)
 refine⟨.mk 5 nm 0 a.ty (.mk 0 []) 0 [t2],_,q2,rfl,?_,az.mk (by have:=HNM.out;unfold maxLen;omega) (hN.out.move (.weaken fun b h _=>by have:=h.1;omega)) ⟨_,rfl,aF.nil0⟩ hks,by omega,rd.out,fC.out⟩
 have h1:=HC2.out
 have h2:=HNM.out
 have h3:=HCA2.out
 simp only [Tm.cnt,Tm.cnts,Ty.cnt,Ty.cnts,List.length_cons,List.length_nil]
 omega
end Go.Proofs.Ytnaoghknnenfoaa

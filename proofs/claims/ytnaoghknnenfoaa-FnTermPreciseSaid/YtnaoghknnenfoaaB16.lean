/-
  An argument of type []byte reads as a slice of bytes.
  spec.l3Type at the leaves; the pure type of a term with casts.
  TermValid and CastValid of the reference.
  TermValid and CastValid of the program.
  The laws' helpers at terms: size, copy, equality.
  The laws' helpers that look whether a type is as written.
  The marks of texts: some string.
-/
import Derived.Test.YtnaoghknnenfoaaB7
import Derived.Test.YtnaoghknnenfoaaRd
import Derived.Test.YtnaoghknnenfoaaCtTwo
import Derived.Test.YtnaoghknnenfoaaB1
import Derived.Test.YtnaoghknnenfoaaB6
import Derived.Test.YtnaoghknnenfoaaTmShape2
import Derived.Test.YtnaoghknnenfoaaTmShape4
import Derived.Test.YtnaoghknnenfoaaB8
import Derived.Test.YtnaoghknnenfoaaB15
import Derived.Test.YtnaoghknnenfoaaRows
import Derived.Test.YtnaoghknnenfoaaB3
import Derived.Handy
import Derived.IntWalk
import Derived.Deep.RegionHeld3
import Derived.Test.YtnaoghknnenfoaaTmSame
import Derived.Test.YtnaoghknnenfoaaB0
set_option linter.unusedSimpArgs false
set_option linter.unusedVariables false
set_option maxRecDepth 100000
namespace Go.Proofs.Ytnaoghknnenfoaa
open Go.RowKit Go.ChangeShapes Go.WideShapes
theorem Try.cellsU8:Try.prog.cellsOf 5=1:=by kernel_rfl
section
variable {H:Type} {enc:TypeId × Value→H} {w:World} {base:Nat} {held:Bool} {spare:Nat→Bool}
theorem pf (n:Nat)(cs:List Value)(x:DataW H × List MemPlace)(h:DataW.trod enc Try.prog w base spare held (n+1) 22 cs=some x) :
  ∃s,cs = [s]∧cj w w.heap.size s:=by
 rcases DataW.trod_slice Try.underlying22 h with ⟨rfl,_⟩ | ⟨a,len,cap,elems,rest,n',hn,rfl,_,_,hlc,hcm,hel,he,_⟩
 ·exact⟨_,rfl,none,0,0,rfl,Nat.le_refl _,by unfold maxLen;omega,fun i hi=>absurd hi (Nat.not_lt_zero _)⟩
 ·obtain rfl:n=n':=by omega
  rw [Try.cellsU8] at he
  have get : ∀i,i<len→∃k,w.cell? (a.add i)=some (.int .u8 k)∧0≤k∧k<256:=by
   intro i hi
   have hk:=he i hi
   rw [List.getElem?_eq_getElem (by omega)] at hk
   obtain⟨cs',hc,ht⟩:=Option.bind_eq_some_iff.1 hk
   obtain⟨k,rfl,-,hwf⟩:=DataW.trod_int Try.underlying5 ht
   obtain⟨_,hl,g⟩:=World.cells?_some hc
   have g0:=g 0 (by omega)
   rw [Nat.mul_one,show(a.add i).add 0=a.add i from by simp [Addr.add]] at g0
   refine⟨k,by simpa using g0,?_⟩
   simp [Lit.wf,IntKind.min,IntKind.max,IntKind.signed,IntKind.bits] at hwf
   omega
  refine⟨_,rfl,some a,len,cap,rfl,hlc,hcm,fun i hi=>?_⟩
  obtain⟨k0,h0,-,-⟩:=get 0 (by omega)
  have hs:=mO (show w.cell? a=some (.int .u8 k0) from by simpa [Addr.add] using h0)
  obtain⟨k,h1,h2,h3⟩:=get i hi
  rw [nH i hs] at h1
  have hb:=World.block_lt_of_cell? w _ h1
  refine⟨a.block,a.off,k,?_,hb,hb,h1,h2,h3⟩
  cases a;simp at hs;subst hs;rfl
theorem po {v:Value}{d:DataW H}{ps:List MemPlace}{r:Reach}{b:Nat}(hv:Value.okWide Try.prog w r b 22 v)(h:DataW.Trod enc Try.prog w base spare held 22 v d ps):cj w w.heap.size v:=by
 obtain⟨fuel,hf⟩:=h
 cases fuel with
 | zero=>simp [DataW.trod] at hf
 | succ n=>
  obtain⟨s,hs,hr⟩:=pf n _ _ hf
  obtain⟨a,m,c,rfl⟩:=okWide_slice Try.underlying22 hv
  have hvs:Value.slice a m c=s:=by simpa [Value.cells] using hs
  rw [hvs];exact hr
end
end Go.Proofs.Ytnaoghknnenfoaa
namespace Go.Proofs.Ytnaoghknnenfoaa
open Go.RowKit
set_option maxHeartbeats 4000000 in
theorem mw (F:Nat→Prop)(l:List Bd)(y:Value)(nm:ByteArray)(u lb tk fk:Int)(ta fa ca:Option Addr)(tn tq fn fq cm cq:Nat)(w:World)(hy:aL F w l y)(hc : ∀b∈l,b.ty.cnt≤1048576) :
  Calls Try.prog 69 #[y,.agg #[.int .i64 1,.string nm,.int .i64 u,.int .i64 tk,.slice ta tn tq,.int .i64 fk,.slice fa fn fq,.int .i64 lb,.slice ca cm cq]] w (bC (co l nm l.length) w):=by
 have HL:=Lib.hid (fun W (h:Below w.heap.size w W)=>iK F l nm y W (hy.below h) hc)
 obtain⟨a,n,q,rfl⟩:=hy.shape
 have fR:=aD (w:=w.alloc (.cells #[.int .i64 1,.string nm,.int .i64 u,.int .i64 tk,.slice ta tn tq,.int .i64 fk,.slice fa fn fq,.int .i64 lb,.slice ca cm cq] 28)) (o:=.cells #[.int .i64 0,.slice none 0 0] 25) (b:=w.heap.size+1) (by simp)
 clear hy hc
 go_enter Try.func69,Try.ntmps69
 go_wp2_with fail
 refine(HL.out _ (ai ah ah)).mono ?_
 rintro e w1 ⟨k,a1,n1,q1,b1,t,rfl,hb1,ht,ho,hst⟩
 have HT:=Lib.hid ht
 have HO:=Lib.hid ho
 have HB1:=Lib.hid hb1
 replace fR:=af fR hst
 have fC:=Lib.hid (ai (ai ah ah) hst)
 have hz:=hst.size
 simp only [World.size_alloc] at hz
 clear ht ho hb1 hst
 obtain⟨r0,r1⟩:=blk2 fR
 have rf0:=aC fR 0
 have rf1:=aC fR 1
 go_wp2_with fail
 have hY:((w1.setCell ⟨w.heap.size+1,0,none⟩ (.int .i64 k)).setCell ⟨w.heap.size+1,1,none⟩ (.slice a1 n1 q1)).heap[w.heap.size+1]?=some (.cells #[.int .i64 k,.slice a1 n1 q1] 25 (0,0)):=aQ (aQ fR rfl) rfl
 obtain⟨rc0,rc1⟩:=blk2 hY
 refine bodyPost_ret (v:=.tuple #[.agg #[.int .i64 k,.slice a1 n1 q1],.bool b1]) (by simp [results,Try.results69,go_sem,rc0,rc1]) rfl ?_
 have hne : ∀b,(False∨((w.alloc (.cells #[.int .i64 1,.string nm,.int .i64 u,.int .i64 tk,.slice ta tn tq,.int .i64 fk,.slice fa fn fq,.int .i64 lb,.slice ca cm cq] 28)).alloc (.cells #[.int .i64 0,.slice none 0 0] 25)).heap.size≤b)→b≠w.heap.size+1:=fun b h=>by
  have h1:=h.elim False.elim id
  simp at h1
  omega
 exact⟨_,_,_,_,_,t,rfl,HB1.out,(ap.setN (ap.setN HT.out hne) hne).move (.weaken fun b h _=>.inr (by have h1:=h.elim False.elim id;simp at h1;omega)),HO.out,(fC.out.setCell (p:=⟨w.heap.size+1,0,none⟩) (by show w.heap.size≤w.heap.size+1;omega) _).setCell (p:=⟨w.heap.size+1,1,none⟩) (by show w.heap.size≤w.heap.size+1;omega) _⟩
set_option maxHeartbeats 4000000 in
theorem mp (y:Value)(nm:ByteArray)(u lb tk fk:Int)(ta fa ca:Option Addr)(tn tq fn fq cm cq:Nat)(w:World) :
  Calls Try.prog 69 #[y,.agg #[.int .i64 2,.string nm,.int .i64 u,.int .i64 tk,.slice ta tn tq,.int .i64 fk,.slice fa fn fq,.int .i64 lb,.slice ca cm cq]] w (bC (some (.mk 2 [])) w):=by
 have fR:=aD (w:=w.alloc (.cells #[.int .i64 2,.string nm,.int .i64 u,.int .i64 tk,.slice ta tn tq,.int .i64 fk,.slice fa fn fq,.int .i64 lb,.slice ca cm cq] 28)) (o:=.cells #[.int .i64 0,.slice none 0 0] 25) (b:=w.heap.size+1) (by simp)
 go_enter Try.func69,Try.ntmps69
 go_wp2_with fail
 refine(bw _).mono ?_
 rintro e w1 ⟨rfl,hst⟩
 replace fR:=af fR hst
 have fC:=Lib.hid (ai (ai ah ah) hst)
 clear hst
 obtain⟨r0,r1⟩:=blk2 fR
 have rf0:=aC fR 0
 have rf1:=aC fR 1
 go_wp2_with fail
 have hY:((w1.setCell ⟨w.heap.size+1,0,none⟩ (.int .i64 2)).setCell ⟨w.heap.size+1,1,none⟩ (.slice none 0 0)).heap[w.heap.size+1]?=some (.cells #[.int .i64 2,.slice none 0 0] 25 (0,0)):=aQ (aQ fR rfl) rfl
 obtain⟨rc0,rc1⟩:=blk2 hY
 refine bodyPost_ret (v:=.tuple #[.agg #[.int .i64 2,.slice none 0 0],.bool true]) (by simp [results,Try.results69,go_sem,rc0,rc1]) rfl ?_
 exact⟨_,_,_,_,_,_,rfl,rfl,ap.leafG 2,(fun s h=>Option.some.inj h),(fC.out.setCell (p:=⟨w.heap.size+1,0,none⟩) (by show w.heap.size≤w.heap.size+1;omega) _).setCell (p:=⟨w.heap.size+1,1,none⟩) (by show w.heap.size≤w.heap.size+1;omega) _⟩
set_option maxHeartbeats 4000000 in
theorem lQ (y:Value)(nm:ByteArray)(u lb tk fk:Int)(ta fa ca:Option Addr)(tn tq fn fq cm cq:Nat)(w:World) :
  Calls Try.prog 69 #[y,.agg #[.int .i64 3,.string nm,.int .i64 u,.int .i64 tk,.slice ta tn tq,.int .i64 fk,.slice fa fn fq,.int .i64 lb,.slice ca cm cq]] w (bC (some (.mk 3 [])) w):=by
 have fR:=aD (w:=w.alloc (.cells #[.int .i64 3,.string nm,.int .i64 u,.int .i64 tk,.slice ta tn tq,.int .i64 fk,.slice fa fn fq,.int .i64 lb,.slice ca cm cq] 28)) (o:=.cells #[.int .i64 0,.slice none 0 0] 25) (b:=w.heap.size+1) (by simp)
 go_enter Try.func69,Try.ntmps69
 go_wp2_with fail
 refine(cJ _).mono ?_
 rintro e w1 ⟨rfl,hst⟩
 replace fR:=af fR hst
 have fC:=Lib.hid (ai (ai ah ah) hst)
 clear hst
 obtain⟨r0,r1⟩:=blk2 fR
 have rf0:=aC fR 0
 have rf1:=aC fR 1
 go_wp2_with fail
 have hY:((w1.setCell ⟨w.heap.size+1,0,none⟩ (.int .i64 3)).setCell ⟨w.heap.size+1,1,none⟩ (.slice none 0 0)).heap[w.heap.size+1]?=some (.cells #[.int .i64 3,.slice none 0 0] 25 (0,0)):=aQ (aQ fR rfl) rfl
 obtain⟨rc0,rc1⟩:=blk2 hY
 refine bodyPost_ret (v:=.tuple #[.agg #[.int .i64 3,.slice none 0 0],.bool true]) (by simp [results,Try.results69,go_sem,rc0,rc1]) rfl ?_
 exact⟨_,_,_,_,_,_,rfl,rfl,ap.leafG 3,(fun s h=>Option.some.inj h),(fC.out.setCell (p:=⟨w.heap.size+1,0,none⟩) (by show w.heap.size≤w.heap.size+1;omega) _).setCell (p:=⟨w.heap.size+1,1,none⟩) (by show w.heap.size≤w.heap.size+1;omega) _⟩
set_option maxHeartbeats 4000000 in
theorem mL (y:Value)(nm:ByteArray)(u lb tk fk:Int)(ta fa ca:Option Addr)(tn tq fn fq cm cq:Nat)(w:World) :
  Calls Try.prog 69 #[y,.agg #[.int .i64 4,.string nm,.int .i64 u,.int .i64 tk,.slice ta tn tq,.int .i64 fk,.slice fa fn fq,.int .i64 lb,.slice ca cm cq]] w (bC (some (.mk 3 [])) w):=by
 have fR:=aD (w:=w.alloc (.cells #[.int .i64 4,.string nm,.int .i64 u,.int .i64 tk,.slice ta tn tq,.int .i64 fk,.slice fa fn fq,.int .i64 lb,.slice ca cm cq] 28)) (o:=.cells #[.int .i64 0,.slice none 0 0] 25) (b:=w.heap.size+1) (by simp)
 go_enter Try.func69,Try.ntmps69
 go_wp2_with fail
 refine(cJ _).mono ?_
 rintro e w1 ⟨rfl,hst⟩
 replace fR:=af fR hst
 have fC:=Lib.hid (ai (ai ah ah) hst)
 clear hst
 obtain⟨r0,r1⟩:=blk2 fR
 have rf0:=aC fR 0
 have rf1:=aC fR 1
 go_wp2_with fail
 have hY:((w1.setCell ⟨w.heap.size+1,0,none⟩ (.int .i64 3)).setCell ⟨w.heap.size+1,1,none⟩ (.slice none 0 0)).heap[w.heap.size+1]?=some (.cells #[.int .i64 3,.slice none 0 0] 25 (0,0)):=aQ (aQ fR rfl) rfl
 obtain⟨rc0,rc1⟩:=blk2 hY
 refine bodyPost_ret (v:=.tuple #[.agg #[.int .i64 3,.slice none 0 0],.bool true]) (by simp [results,Try.results69,go_sem,rc0,rc1]) rfl ?_
 exact⟨_,_,_,_,_,_,rfl,rfl,ap.leafG 3,(fun s h=>Option.some.inj h),(fC.out.setCell (p:=⟨w.heap.size+1,0,none⟩) (by show w.heap.size≤w.heap.size+1;omega) _).setCell (p:=⟨w.heap.size+1,1,none⟩) (by show w.heap.size≤w.heap.size+1;omega) _⟩
end Go.Proofs.Ytnaoghknnenfoaa
namespace Go.Proofs.Ytnaoghknnenfoaa
open Go.RowKit
theorem oY (s:Bool)(z:Int)(h0:(s)=true):(decide (z≤30):Bool)=(s&&decide (z≤30)):=by
 simp_all
theorem oQ (s:Bool)(z:Int)(h0:(s)=false):(false:Bool)=(s&&decide (z≤30)):=by
 simp_all
set_option maxHeartbeats 1000000 in
theorem ce (F:Nat→Prop)(t:Tm)(y:Value)(w:World)(hy:az F w t y) :
  Calls Try.prog 15 #[y] w fun e w'=>e = .returned (.bool (t.valid))∧Below w.heap.size w w':=by
 have h1:=fun W (h:Below w.heap.size w W)=>i5 F t 12 y W (hy.below h) (by omega) (by omega)
 have h2:=fun(hs:t.shape 14 12=true) W (h:Below w.heap.size w W)=>i4 F t 14 12 hs 12 (by omega) (by omega) y W (hy.below h)
 obtain⟨k,nm,u,tk,ta,tn,tq,fk,fa,fn,fq,l,c,m,q,rfl⟩:=hy.shape
 unfold Tm.valid
 generalize t.shape 14 12=s at *
 generalize t.size=z at *
 have H1:=Lib.hid h1
 have H2:=Lib.hid h2
 clear h1 h2 hy
 obtain⟨rr,hrr⟩ : ∃rr0:Bool,(s&&decide (z≤30))=rr0:=⟨_,rfl⟩
 rw [hrr]
 have HT:=Lib.hid hrr
 clear hrr
 go_enter Try.func15,Try.ntmps15
 rcases Bool.eq_false_or_eq_true (s) with q1 | q1
 ·have Hq1:=Lib.hid q1
  clear q1
  go_wp2_with fail
  refine(H1.out _ ah).mono ?_
  rintro e w1 ⟨rfl,hb1⟩
  rw [Hq1.out]
  have hB:=(ai ah hb1)
  have zw1:=hB.size
  have c0_0:w1.cell? ⟨w.heap.size,0,none⟩=some (.int .i64 k):=a9 hb1 (aj (by simp) 0)
  have c0_1:w1.cell? ⟨w.heap.size,1,none⟩=some (.string nm):=a9 hb1 (aj (by simp) 1)
  have c0_2:w1.cell? ⟨w.heap.size,2,none⟩=some (.int .i64 u):=a9 hb1 (aj (by simp) 2)
  have c0_3:w1.cell? ⟨w.heap.size,3,none⟩=some (.int .i64 tk):=a9 hb1 (aj (by simp) 3)
  have c0_4:w1.cell? ⟨w.heap.size,4,none⟩=some (.slice ta tn tq):=a9 hb1 (aj (by simp) 4)
  have c0_5:w1.cell? ⟨w.heap.size,5,none⟩=some (.int .i64 fk):=a9 hb1 (aj (by simp) 5)
  have c0_6:w1.cell? ⟨w.heap.size,6,none⟩=some (.slice fa fn fq):=a9 hb1 (aj (by simp) 6)
  have c0_7:w1.cell? ⟨w.heap.size,7,none⟩=some (.int .i64 l):=a9 hb1 (aj (by simp) 7)
  have c0_8:w1.cell? ⟨w.heap.size,8,none⟩=some (.slice c m q):=a9 hb1 (aj (by simp) 8)
  have d0_w1:=World.block_lt_of_cell? _ _ c0_0
  go_wp2_with fail
  refine(H2.out Hq1.out _ hB).mono ?_
  rintro e w2 ⟨rfl,hb2⟩
  replace hB:=(ai hB hb2)
  have zw2:=hB.size
  go_wp2_with fail
  refine bodyPost_ret (v:=.bool (decide (z≤30))) (by simp [results,Try.results15,go_sem,bne]) rfl ?_
  exact⟨au ((oY s z Hq1.out).trans HT.out),hB⟩
 ·have Hq1:=Lib.hid q1
  clear q1
  go_wp2_with fail
  refine(H1.out _ ah).mono ?_
  rintro e w3 ⟨rfl,hb3⟩
  rw [Hq1.out]
  have hB:=(ai ah hb3)
  have zw3:=hB.size
  go_wp2_with fail
  refine bodyPost_ret (v:=.bool (false)) (by simp [results,Try.results15,go_sem,bne]) rfl ?_
  exact⟨au ((oQ s z Hq1.out).trans HT.out),hB⟩
end Go.Proofs.Ytnaoghknnenfoaa
namespace Go.Proofs.Ytnaoghknnenfoaa
open Go.RowKit
theorem oD (v:Bool):(v:Bool)=(v):=by
 rfl
set_option maxHeartbeats 1000000 in
theorem cO (F:Nat→Prop)(t:Tm)(y:Value)(w:World)(hy:az F w t y) :
  Calls Try.prog 7 #[y] w fun e w'=>e = .returned (.bool (t.valid))∧Below w.heap.size w w':=by
 have hv:(t.scan 14 30 12 1 0).1=t.valid:=by
  have h:=(Tm.scan_eq t 14 30 12 1 0 (by omega)).1
  unfold Tm.valid
  rw [h]
  simp
 have h1:=fun W (h:Below w.heap.size w W) (r:Nat) (hr:w.heap.size≤r) (hr2:r<W.heap.size) (hc:W.cell? ⟨r,0,none⟩=some (.int .i64 0)) (hf:W.frozen? ⟨r,0,none⟩=false)=>
  (nh r 14 30 12 (by omega) (by omega) t 1 0 (by omega) (by omega) (by omega) y W (hy.move (G:=(· ≠ r)) ⟨h.size,fun b _ hl=>by omega,fun b _ hl=>h.block b hl⟩) hc hf hr2).mono
   (R':=fun e W'=>e = .returned (.bool t.valid)∧Chg [r] W W') (fun e W' h=>⟨hv▸h.1,h.2.1⟩)
 obtain⟨k,nm,u,tk,ta,tn,tq,fk,fa,fn,fq,l,c,m,q,rfl⟩:=hy.shape
 generalize t.valid=v at *
 have H1:=Lib.hid h1
 clear h1 hy hv
 obtain⟨rr,hrr⟩ : ∃rr0:Bool,(v)=rr0:=⟨_,rfl⟩
 rw [hrr]
 have HT:=Lib.hid hrr
 clear hrr
 go_enter Try.func7,Try.ntmps7
 go_wp2_with fail
 refine(H1.out _ aI (w.heap.size+1) (by simp) (by simp) (aj (by simp) 0) (cG (by simp) 0)).mono ?_
 rintro e w1 ⟨rfl,hb1⟩
 have hB:=(bchg aI hb1 (by omega) (Nat.le_refl _))
 have zw1:=hB.size
 go_wp2_with fail
 refine bodyPost_ret (v:=.bool (v)) (by simp [results,Try.results7,go_sem,bne]) rfl ?_
 exact⟨au ((oD v ).trans HT.out),hB⟩
end Go.Proofs.Ytnaoghknnenfoaa
namespace Go.Proofs.Ytnaoghknnenfoaa
open Go.RowKit
def RetTm (t:Tm)(w:World)(e:Ending)(w':World):Prop:=∃v,e = .returned v∧b3 w.heap.size w' t v∧Below w.heap.size w w'
theorem Try.infoTm:(Try.prog.info? 28).map (fun i=>(i.zero,i.size,i.bytes))=some (some (.agg #[.int .i64 0,.string ByteArray.empty,.int .i64 0,.int .i64 0,.slice none 0 0,.int .i64 0,.slice none 0 0,.int .i64 0,.slice none 0 0]),9,128):=by kernel_rfl
def TyIn (B E:Nat)(w:World)(t:Ty)(y:Value):Prop:=∃fp,bR w t y fp∧fp.Nodup∧∀b∈fp,B≤b∧b<E
def eq (B E:Nat)(w:World)(ts:List Tm)(y:Value):Prop:=∃fp,TmsOwn w ts y fp∧fp.Nodup∧∀b∈fp,B≤b∧b<E
theorem bh.in {B:Nat}{w:World}{t:Ty}{y:Value}(h:bh B w t y):TyIn B w.heap.size w t y:=by
 obtain⟨fp,h1,h2,h3⟩:=h
 obtain⟨s,rfl,h1⟩:=h1
 exact⟨fp,⟨s,rfl,h1⟩,h2,fun b hb=>⟨h3 b hb,aG.lt _ _ _ h1 b hb⟩⟩
theorem cr.in {B:Nat}{w:World}{ts:List Tm}{y:Value}(h:cr B w ts y):eq B w.heap.size w ts y:=by
 obtain⟨fp,h1,h2,h3⟩:=h
 exact⟨fp,h1,h2,fun b hb=>⟨h3 b hb,aG.lt _ _ _ h1 b hb⟩⟩
theorem TyIn.below {B E:Nat}{w w':World}{t:Ty}{y:Value}(h:TyIn B E w t y)(k:Below w.heap.size w w'):TyIn B E w' t y:=
 let ⟨fp,h1,h2,h3⟩:=h;⟨fp,h1.below k,h2,h3⟩
theorem eq.below {B E:Nat}{w w':World}{t:List Tm}{y:Value}(h:eq B E w t y)(k:Below w.heap.size w w'):eq B E w' t y:=
 let ⟨fp,h1,h2,h3⟩:=h;⟨fp,aG.move _ _ _ (fun b hb=>k.block b (aG.lt _ _ _ h1 b hb)) h1,h2,h3⟩
theorem TyIn.setCell {B E:Nat}{w:World}{t:Ty}{y:Value}(h:TyIn B E w t y){p:Addr}(hp:p.block<B)(v:Value):TyIn B E (w.setCell p v) t y:=by
 obtain⟨fp,⟨s,hs,h1⟩,h2,h3⟩:=h
 exact⟨fp,⟨s,hs,aG.move _ _ _ (fun b hb=>Below.heap_setCell w p v b (by have:=h3 b hb;omega)) h1⟩,h2,h3⟩
theorem eq.setCell {B E:Nat}{w:World}{t:List Tm}{y:Value}(h:eq B E w t y){p:Addr}(hp:p.block<B)(v:Value):eq B E (w.setCell p v) t y:=by
 obtain⟨fp,h1,h2,h3⟩:=h
 exact⟨fp,aG.move _ _ _ (fun b hb=>Below.heap_setCell w p v b (by have:=h3 b hb;omega)) h1,h2,h3⟩
end Go.Proofs.Ytnaoghknnenfoaa
namespace Go.Proofs.Ytnaoghknnenfoaa
open Go.RowKit
end Go.Proofs.Ytnaoghknnenfoaa
namespace Go.Proofs.Ytnaoghknnenfoaa
open Go.RowKit
end Go.Proofs.Ytnaoghknnenfoaa

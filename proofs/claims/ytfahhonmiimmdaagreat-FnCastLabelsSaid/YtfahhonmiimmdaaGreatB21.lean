/- spec.l4Exact: the type of a node of a term with casts by its operands' types. And what else its parts name. -/
import Derived.Test.YtfahhonmiimmdaaGreatB12
import Derived.Test.YtfahhonmiimmdaaGreatB34
import Derived.Test.YtfahhonmiimmdaaGreatB19
import Derived.Test.YtfahhonmiimmdaaGreatB20
set_option linter.unusedSimpArgs false
set_option linter.unusedVariables false
set_option maxRecDepth 100000
set_option maxHeartbeats 16000000
namespace Go.Proofs.YtfahhonmiimmdaaGreat
open Go.RowKit
theorem Ty.toS_ty {t:Ty}(h:t.valid=true):t.toS.ty=t:=by
 obtain⟨s,rfl,hs⟩:=Ty.valid_S h;rw[S.ty_toS s (S.vd_ok hs)]
theorem sP (F:Nat→Prop)(l:List Bd)(y:Value)(nm:ByteArray)(u lb tk fk:Int)(ta fa ca:Option Addr)(tn tq fn fq cm cq:Nat)(w:World)(hy:aE F w l y)(hc : ∀b∈l,b.ty.cnt≤1048576) :
  Calls Tryz.prog 112 #[y,.agg #[.int .i64 1,.string nm,.int .i64 u,.int .i64 tk,.slice ta tn tq,.int .i64 fk,.slice fa fn fq,.int .i64 lb,.slice ca cm cq]] w (bH (cE l nm l.length) w):=by
 have HL:=zq (fun W (h:Below w.heap.size w W)=>lT F l nm y W (hy.below h) hc);obtain⟨a,n,q,rfl⟩:=hy.shape;have fR:=aB (w:=w.alloc (.cells #[.int .i64 1,.string nm,.int .i64 u,.int .i64 tk,.slice ta tn tq,.int .i64 fk,.slice fa fn fq,.int .i64 lb,.slice ca cm cq] 28)) (o:=.cells #[.int .i64 0,.slice none 0 0] 25) (b:=w.heap.size+1) (by simp);clear hy hc
 go_enter Tryz.func112,Tryz.ntmps112
 go_wp2_with fail
 refine(HL.out _ (aj ai ai)).mono ?_;rintro e w1 ⟨k,a1,n1,q1,b1,t,rfl,hb1,ht,ho,hst⟩;have HT:=zq ht;have HO:=zq ho;have HB1:=zq hb1;replace fR:=af fR hst;have fC:=zq (aj (aj ai ai) hst);have hz:=hst.size;simp only[World.size_alloc] at hz;clear ht ho hb1 hst;obtain⟨r0,r1⟩:=blk2 fR;have rf0:=al fR 0;have rf1:=al fR 1
 go_wp2_with fail
 have hY:((w1.setCell ⟨w.heap.size+1,0,none⟩ (.int .i64 k)).setCell ⟨w.heap.size+1,1,none⟩ (.slice a1 n1 q1)).heap[w.heap.size+1]?=some (.cells #[.int .i64 k,.slice a1 n1 q1] 25 (0,0)):=aI (aI fR rfl) rfl;obtain⟨rc0,rc1⟩:=blk2 hY;refine bodyPost_ret (v:=.tuple #[.agg #[.int .i64 k,.slice a1 n1 q1],.bool b1]) (by simp[results,Tryz.results112,go_sem,rc0,rc1]) rfl ?_;have hne : ∀b,(False∨((w.alloc (.cells #[.int .i64 1,.string nm,.int .i64 u,.int .i64 tk,.slice ta tn tq,.int .i64 fk,.slice fa fn fq,.int .i64 lb,.slice ca cm cq] 28)).alloc (.cells #[.int .i64 0,.slice none 0 0] 25)).heap.size≤b)→b≠w.heap.size+1:=fun b h=>by
  have h1:=h.elim False.elim id
  simp at h1
  omega
 exact⟨_,_,_,_,_,t,rfl,HB1.out,(ao.setN (ao.setN HT.out hne) hne).move (.weaken fun b h _=>.inr (by have h1:=h.elim False.elim id;simp at h1;omega)),HO.out,(fC.out.setCell (p:=⟨w.heap.size+1,0,none⟩) (by show w.heap.size≤w.heap.size+1;omega) _).setCell (p:=⟨w.heap.size+1,1,none⟩) (by show w.heap.size≤w.heap.size+1;omega) _⟩
theorem sQ (y:Value)(nm:ByteArray)(u lb tk fk:Int)(ta fa ca:Option Addr)(tn tq fn fq cm cq:Nat)(w:World) :
  Calls Tryz.prog 112 #[y,.agg #[.int .i64 2,.string nm,.int .i64 u,.int .i64 tk,.slice ta tn tq,.int .i64 fk,.slice fa fn fq,.int .i64 lb,.slice ca cm cq]] w (bH (some (.mk 2 [])) w):=by
 have fR:=aB (w:=w.alloc (.cells #[.int .i64 2,.string nm,.int .i64 u,.int .i64 tk,.slice ta tn tq,.int .i64 fk,.slice fa fn fq,.int .i64 lb,.slice ca cm cq] 28)) (o:=.cells #[.int .i64 0,.slice none 0 0] 25) (b:=w.heap.size+1) (by simp)
 go_enter Tryz.func112,Tryz.ntmps112
 go_wp2_with fail
 refine(bv _).mono ?_;rintro e w1 ⟨rfl,hst⟩;replace fR:=af fR hst;have fC:=zq (aj (aj ai ai) hst);clear hst;obtain⟨r0,r1⟩:=blk2 fR;have rf0:=al fR 0;have rf1:=al fR 1
 go_wp2_with fail
 have hY:((w1.setCell ⟨w.heap.size+1,0,none⟩ (.int .i64 2)).setCell ⟨w.heap.size+1,1,none⟩ (.slice none 0 0)).heap[w.heap.size+1]?=some (.cells #[.int .i64 2,.slice none 0 0] 25 (0,0)):=aI (aI fR rfl) rfl;obtain⟨rc0,rc1⟩:=blk2 hY;refine bodyPost_ret (v:=.tuple #[.agg #[.int .i64 2,.slice none 0 0],.bool true]) (by simp[results,Tryz.results112,go_sem,rc0,rc1]) rfl ?_
 exact⟨_,_,_,_,_,_,rfl,rfl,ao.leafG 2,(fun s h=>Option.some.inj h),(fC.out.setCell (p:=⟨w.heap.size+1,0,none⟩) (by show w.heap.size≤w.heap.size+1;omega) _).setCell (p:=⟨w.heap.size+1,1,none⟩) (by show w.heap.size≤w.heap.size+1;omega) _⟩
theorem sR (y:Value)(nm:ByteArray)(u lb tk fk:Int)(ta fa ca:Option Addr)(tn tq fn fq cm cq:Nat)(w:World) :
  Calls Tryz.prog 112 #[y,.agg #[.int .i64 3,.string nm,.int .i64 u,.int .i64 tk,.slice ta tn tq,.int .i64 fk,.slice fa fn fq,.int .i64 lb,.slice ca cm cq]] w (bH (some (.mk 3 [])) w):=by
 have fR:=aB (w:=w.alloc (.cells #[.int .i64 3,.string nm,.int .i64 u,.int .i64 tk,.slice ta tn tq,.int .i64 fk,.slice fa fn fq,.int .i64 lb,.slice ca cm cq] 28)) (o:=.cells #[.int .i64 0,.slice none 0 0] 25) (b:=w.heap.size+1) (by simp)
 go_enter Tryz.func112,Tryz.ntmps112
 go_wp2_with fail
 refine(dh _).mono ?_;rintro e w1 ⟨rfl,hst⟩;replace fR:=af fR hst;have fC:=zq (aj (aj ai ai) hst);clear hst;obtain⟨r0,r1⟩:=blk2 fR;have rf0:=al fR 0;have rf1:=al fR 1
 go_wp2_with fail
 have hY:((w1.setCell ⟨w.heap.size+1,0,none⟩ (.int .i64 3)).setCell ⟨w.heap.size+1,1,none⟩ (.slice none 0 0)).heap[w.heap.size+1]?=some (.cells #[.int .i64 3,.slice none 0 0] 25 (0,0)):=aI (aI fR rfl) rfl;obtain⟨rc0,rc1⟩:=blk2 hY;refine bodyPost_ret (v:=.tuple #[.agg #[.int .i64 3,.slice none 0 0],.bool true]) (by simp[results,Tryz.results112,go_sem,rc0,rc1]) rfl ?_
 exact⟨_,_,_,_,_,_,rfl,rfl,ao.leafG 3,(fun s h=>Option.some.inj h),(fC.out.setCell (p:=⟨w.heap.size+1,0,none⟩) (by show w.heap.size≤w.heap.size+1;omega) _).setCell (p:=⟨w.heap.size+1,1,none⟩) (by show w.heap.size≤w.heap.size+1;omega) _⟩
theorem sS (y:Value)(nm:ByteArray)(u lb tk fk:Int)(ta fa ca:Option Addr)(tn tq fn fq cm cq:Nat)(w:World) :
  Calls Tryz.prog 112 #[y,.agg #[.int .i64 4,.string nm,.int .i64 u,.int .i64 tk,.slice ta tn tq,.int .i64 fk,.slice fa fn fq,.int .i64 lb,.slice ca cm cq]] w (bH (some (.mk 3 [])) w):=by
 have fR:=aB (w:=w.alloc (.cells #[.int .i64 4,.string nm,.int .i64 u,.int .i64 tk,.slice ta tn tq,.int .i64 fk,.slice fa fn fq,.int .i64 lb,.slice ca cm cq] 28)) (o:=.cells #[.int .i64 0,.slice none 0 0] 25) (b:=w.heap.size+1) (by simp)
 go_enter Tryz.func112,Tryz.ntmps112
 go_wp2_with fail
 refine(dh _).mono ?_;rintro e w1 ⟨rfl,hst⟩;replace fR:=af fR hst;have fC:=zq (aj (aj ai ai) hst);clear hst;obtain⟨r0,r1⟩:=blk2 fR;have rf0:=al fR 0;have rf1:=al fR 1
 go_wp2_with fail
 have hY:((w1.setCell ⟨w.heap.size+1,0,none⟩ (.int .i64 3)).setCell ⟨w.heap.size+1,1,none⟩ (.slice none 0 0)).heap[w.heap.size+1]?=some (.cells #[.int .i64 3,.slice none 0 0] 25 (0,0)):=aI (aI fR rfl) rfl;obtain⟨rc0,rc1⟩:=blk2 hY;refine bodyPost_ret (v:=.tuple #[.agg #[.int .i64 3,.slice none 0 0],.bool true]) (by simp[results,Tryz.results112,go_sem,rc0,rc1]) rfl ?_
 exact⟨_,_,_,_,_,_,rfl,rfl,ao.leafG 3,(fun s h=>Option.some.inj h),(fC.out.setCell (p:=⟨w.heap.size+1,0,none⟩) (by show w.heap.size≤w.heap.size+1;omega) _).setCell (p:=⟨w.heap.size+1,1,none⟩) (by show w.heap.size≤w.heap.size+1;omega) _⟩
theorem tD (s:Bool)(z:Int)(h0:(s)=true):(decide (z≤30):Bool)=(s&&decide (z≤30)):=by
 simp_all
theorem tE (s:Bool)(z:Int)(h0:(s)=false):(false:Bool)=(s&&decide (z≤30)):=by
 simp_all
theorem tF (s:Bool)(z:Int)(h0:(s)=true):(decide (z≤200):Bool)=(s&&decide (z≤200)):=by
 simp_all
theorem tG (s:Bool)(z:Int)(h0:(s)=false):(false:Bool)=(s&&decide (z≤200)):=by
 simp_all
theorem ib (F:Nat→Prop)(t:Tm)(y:Value)(w:World)(hy:ax F w t y) :
  Calls Tryz.prog 33 #[y] w fun e w'=>e = .returned (.bool (t.valid))∧Below w.heap.size w w':=by
 have h1:=fun W (h:Below w.heap.size w W)=>kR F t 12 y W (hy.below h) (by omega) (by omega);have h2:=fun(hs:t.shape 14 12=true) W (h:Below w.heap.size w W)=>fW F t 14 12 hs 12 (by omega) (by omega) y W (hy.below h);obtain⟨k,nm,u,tk,ta,tn,tq,fk,fa,fn,fq,l,c,m,q,rfl⟩:=hy.shape;unfold Tm.valid;generalize t.shape 14 12=s at *;generalize t.size=z at *;have H1:=zq h1;have H2:=zq h2;clear h1 h2 hy;obtain⟨rr,hrr⟩ : ∃rr0:Bool,(s&&decide (z≤30))=rr0:=⟨_,rfl⟩
 rw[hrr];have HT:=zq hrr;clear hrr
 go_enter Tryz.func33,Tryz.ntmps33
 rcases Bool.eq_false_or_eq_true (s) with q1 | q1
 ·have Hq1:=zq q1
  clear q1
  go_wp2_with fail
  refine(H1.out _ ai).mono ?_;rintro e w1 ⟨rfl,hb1⟩;rw[Hq1.out];have hB:=(aj ai hb1)
  have zw1:=hB.size;have c0_0:w1.cell? ⟨w.heap.size,0,none⟩=some (.int .i64 k):=ah hb1 (ap (by simp) 0);have c0_1:w1.cell? ⟨w.heap.size,1,none⟩=some (.string nm):=ah hb1 (ap (by simp) 1);have c0_2:w1.cell? ⟨w.heap.size,2,none⟩=some (.int .i64 u):=ah hb1 (ap (by simp) 2);have c0_3:w1.cell? ⟨w.heap.size,3,none⟩=some (.int .i64 tk):=ah hb1 (ap (by simp) 3);have c0_4:w1.cell? ⟨w.heap.size,4,none⟩=some (.slice ta tn tq):=ah hb1 (ap (by simp) 4);have c0_5:w1.cell? ⟨w.heap.size,5,none⟩=some (.int .i64 fk):=ah hb1 (ap (by simp) 5);have c0_6:w1.cell? ⟨w.heap.size,6,none⟩=some (.slice fa fn fq):=ah hb1 (ap (by simp) 6);have c0_7:w1.cell? ⟨w.heap.size,7,none⟩=some (.int .i64 l):=ah hb1 (ap (by simp) 7);have c0_8:w1.cell? ⟨w.heap.size,8,none⟩=some (.slice c m q):=ah hb1 (ap (by simp) 8);have d0_w1:=World.block_lt_of_cell? _ _ c0_0
  go_wp2_with fail
  refine(H2.out Hq1.out _ hB).mono ?_;rintro e w2 ⟨rfl,hb2⟩;replace hB:=(aj hB hb2)
  have zw2:=hB.size
  go_wp2_with fail
  refine bodyPost_ret (v:=.bool (decide (z≤30))) (by simp[results,Tryz.results33,go_sem,bne]) rfl ?_
  exact⟨au ((tD s z Hq1.out).trans HT.out),hB⟩
 ·have Hq1:=zq q1
  clear q1
  go_wp2_with fail
  refine(H1.out _ ai).mono ?_;rintro e w3 ⟨rfl,hb3⟩;rw[Hq1.out];have hB:=(aj ai hb3)
  have zw3:=hB.size
  go_wp2_with fail
  refine bodyPost_ret (v:=.bool (false)) (by simp[results,Tryz.results33,go_sem,bne]) rfl ?_
  exact⟨au ((tE s z Hq1.out).trans HT.out),hB⟩
theorem oK (F:Nat→Prop)(t:Tm)(y:Value)(w:World)(hy:ax F w t y) :
  Calls Tryz.prog 20 #[y] w fun e w'=>e = .returned (.bool (t.castValid))∧Below w.heap.size w w':=by
 have h1:=fun W (h:Below w.heap.size w W)=>kS F t 40 y W (hy.below h) (by omega) (by omega);have h2:=fun(hs:t.shape 13 40=true) W (h:Below w.heap.size w W)=>fW F t 13 40 hs 40 (by omega) (by omega) y W (hy.below h);obtain⟨k,nm,u,tk,ta,tn,tq,fk,fa,fn,fq,l,c,m,q,rfl⟩:=hy.shape;unfold Tm.castValid;generalize t.shape 13 40=s at *;generalize t.size=z at *;have H1:=zq h1;have H2:=zq h2;clear h1 h2 hy;obtain⟨rr,hrr⟩ : ∃rr0:Bool,(s&&decide (z≤200))=rr0:=⟨_,rfl⟩
 rw[hrr];have HT:=zq hrr;clear hrr
 go_enter Tryz.func20,Tryz.ntmps20
 rcases Bool.eq_false_or_eq_true (s) with q1 | q1
 ·have Hq1:=zq q1
  clear q1
  go_wp2_with fail
  refine(H1.out _ ai).mono ?_;rintro e w1 ⟨rfl,hb1⟩;rw[Hq1.out];have hB:=(aj ai hb1)
  have zw1:=hB.size;have c0_0:w1.cell? ⟨w.heap.size,0,none⟩=some (.int .i64 k):=ah hb1 (ap (by simp) 0);have c0_1:w1.cell? ⟨w.heap.size,1,none⟩=some (.string nm):=ah hb1 (ap (by simp) 1);have c0_2:w1.cell? ⟨w.heap.size,2,none⟩=some (.int .i64 u):=ah hb1 (ap (by simp) 2);have c0_3:w1.cell? ⟨w.heap.size,3,none⟩=some (.int .i64 tk):=ah hb1 (ap (by simp) 3);have c0_4:w1.cell? ⟨w.heap.size,4,none⟩=some (.slice ta tn tq):=ah hb1 (ap (by simp) 4);have c0_5:w1.cell? ⟨w.heap.size,5,none⟩=some (.int .i64 fk):=ah hb1 (ap (by simp) 5);have c0_6:w1.cell? ⟨w.heap.size,6,none⟩=some (.slice fa fn fq):=ah hb1 (ap (by simp) 6);have c0_7:w1.cell? ⟨w.heap.size,7,none⟩=some (.int .i64 l):=ah hb1 (ap (by simp) 7);have c0_8:w1.cell? ⟨w.heap.size,8,none⟩=some (.slice c m q):=ah hb1 (ap (by simp) 8);have d0_w1:=World.block_lt_of_cell? _ _ c0_0
  go_wp2_with fail
  refine(H2.out Hq1.out _ hB).mono ?_;rintro e w2 ⟨rfl,hb2⟩;replace hB:=(aj hB hb2)
  have zw2:=hB.size
  go_wp2_with fail
  refine bodyPost_ret (v:=.bool (decide (z≤200))) (by simp[results,Tryz.results20,go_sem,bne]) rfl ?_
  exact⟨au ((tF s z Hq1.out).trans HT.out),hB⟩
 ·have Hq1:=zq q1
  clear q1
  go_wp2_with fail
  refine(H1.out _ ai).mono ?_;rintro e w3 ⟨rfl,hb3⟩;rw[Hq1.out];have hB:=(aj ai hb3)
  have zw3:=hB.size
  go_wp2_with fail
  refine bodyPost_ret (v:=.bool (false)) (by simp[results,Tryz.results20,go_sem,bne]) rfl ?_
  exact⟨au ((tG s z Hq1.out).trans HT.out),hB⟩
def Tm.nodes (t:Tm):Int:=if t.valid then t.size else 0
end Go.Proofs.YtfahhonmiimmdaaGreat

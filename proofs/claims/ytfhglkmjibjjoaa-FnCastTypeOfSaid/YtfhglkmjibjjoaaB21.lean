/- Terms are drawn: what is said of them; numbers, leaves. And what else its parts name. -/
import Derived.Test.YtfhglkmjibjjoaaB4
import Derived.Test.YtfhglkmjibjjoaaB12
set_option linter.unusedSimpArgs false
set_option linter.unusedVariables false
set_option maxRecDepth 100000
set_option maxHeartbeats 16000000
namespace Go.Proofs.Ytfhglkmjibjjoaa
open Go.RowKit
def DTm (r p c m:Nat)(w:World)(e:Ending)(w':World):Prop:=∃(t:Tm) (v:Value) (q:Nat),e = .returned v∧t.cnt<=m∧aB (w.heap.size <= ·) w' t v∧q<=p+c∧aR w' r q∧Chg [r] w w'
theorem DTm.mono {r p c m c' m':Nat}{w w':World}{e:Ending}(h:DTm r p c m w e w')(hc:c<=c')(hm:m<=m'):DTm r p c' m' w e w':=by
 obtain⟨t,v,q,h1,h2,h3,h4,h5,h6⟩:=h
 exact⟨t,v,q,h1,by omega,h3,by omega,h5,h6⟩
theorem av.nil0 {F:Nat->Prop}{w:World}{a:Option Addr}:av F w [] (.slice a 0 0):=by
 unfold av Ty.rows aL
 exact⟨a,0,rfl,Nat.le_refl _,by unfold maxLen;omega,.inl rfl⟩
theorem aB.leaf0 {F:Nat->Prop}{w:World}(k u:Int){nm:ByteArray}(hn:nm.size<=maxLen):aB F w (.mk k nm u (.mk 0 []) (.mk 0 []) 0 []) (.agg (nv k nm u 0 none 0 0 0 none 0 0 0 none 0 0)):=
 ⟨_,_,_,rfl,hn,av.nil0,av.nil0,by unfold aN Tm.kids Tm.rows aL;exact⟨none,0,rfl,Nat.le_refl _,by unfold maxLen;omega,.inl rfl⟩⟩
theorem aB.chg {fp:List Nat}{w w':World}{F:Nat->Prop}{t:Tm}{y:Value}(h:Chg fp w w')(hn : ∀b,F b->b∉fp)(r:aB F w t y):aB F w' t y:=r.move (h.keeps hn)
theorem aB.lower {B B':Nat}{w:World}{t:Tm}{y:Value}(h:aB (B <= ·) w t y)(hB:B'<=B):aB (B' <= ·) w t y:=h.move (.weaken fun b hb _=>Nat.le_trans hB hb)
theorem aB.setB {B:Nat}{w:World}{t:Tm}{y:Value}(h:aB (B <= ·) w t y){p:Addr}(hp:p.block<B)(v:Value):aB (B <= ·) (w.setCell p v) t y:=
 h.move ⟨by simp[World.setCell],fun _ h _=>h,fun b hb _=>Below.heap_setCell w p v b (by omega)⟩
theorem aB.ne {B r:Nat}{w:World}{t:Tm}{y:Value}(h:aB (B <= ·) w t y)(hr:r<B):aB (· ≠ r) w t y:=h.move (.weaken fun b hb _=>by have:B<=b:=hb;omega)
def set9 (w:World)(b:Nat)(v0 v1 v2 v3 v4 v5 v6 v7 v8:Value):World:=(((((((((w.setCell ⟨b,0,none⟩ (v0)).setCell ⟨b,1,none⟩ (v1)).setCell ⟨b,2,none⟩ (v2)).setCell ⟨b,3,none⟩ (v3)).setCell ⟨b,4,none⟩ (v4)).setCell ⟨b,5,none⟩ (v5)).setCell ⟨b,6,none⟩ (v6)).setCell ⟨b,7,none⟩ (v7)).setCell ⟨b,8,none⟩ (v8))
theorem DTm.stored {r p q c m B R:Nat}{w w1:World}{t:Tm}{v:Value}{v0 v1 v2 v3 v4 v5 v6 v7 v8:Value}(hv:aB (B <= ·) w1 t v)(hm:t.cnt<=m)(hB:w.heap.size<=B)(hq:q<=p+c)(hrd:aR w1 r q)(hch:Chg [r] w w1)(hR:w.heap.size<=R)(hRB:R<B)(hr:r<R) :
  DTm r p c m w (.returned v) (set9 w1 R v0 v1 v2 v3 v4 v5 v6 v7 v8):=by
 unfold set9
 exact⟨t,v,q,rfl,hm,((((((((((hv.setB (by show R<B;omega) _).setB (by show R<B;omega) _).setB (by show R<B;omega) _).setB (by show R<B;omega) _).setB (by show R<B;omega) _).setB (by show R<B;omega) _).setB (by show R<B;omega) _).setB (by show R<B;omega) _).setB (by show R<B;omega) _)).lower hB,hq,(((((((((hrd.setCell (by show r<R;omega) _).setCell (by show r<R;omega) _).setCell (by show r<R;omega) _).setCell (by show r<R;omega) _).setCell (by show r<R;omega) _).setCell (by show r<R;omega) _).setCell (by show r<R;omega) _).setCell (by show r<R;omega) _).setCell (by show r<R;omega) _),(((((((((hch.trans' (by show w.heap.size<=R;omega) _).trans' (by show w.heap.size<=R;omega) _).trans' (by show w.heap.size<=R;omega) _).trans' (by show w.heap.size<=R;omega) _).trans' (by show w.heap.size<=R;omega) _).trans' (by show w.heap.size<=R;omega) _).trans' (by show w.heap.size<=R;omega) _).trans' (by show w.heap.size<=R;omega) _).trans' (by show w.heap.size<=R;omega) _)⟩
theorem cQ (n:Int)(w:World):Calls Try.prog 42 #[.int .i64 n] w fun e w'=>e = .returned (.agg (nv 2 {data:=#[]} n 0 none 0 0 0 none 0 0 0 none 0 0))∧Below w.heap.size w w':=by
 go_enter Try.func42,Try.ntmps42
 go_wp2_with fail
 refine bq (.agg (nv 2 {data:=#[]} n 0 none 0 0 0 none 0 0 0 none 0 0)) (by simp[results,Try.results42,go_sem]) ?_
 exact⟨rfl,ag⟩
theorem iZ (r p:Nat)(s:ByteArray)(w:World)(h:aR w r p)(hs:s.size<=1000)(hp:p<=1125899906842000):Calls Try.prog 91 #[.pointer (some ⟨r,0,none⟩),.string s] w (DTm r p 3 1 w):=by
 have hrl:=h.1
 rcases Nat.eq_zero_or_pos s.size with hz | hz
 ·have hd:decide ((s.size:Int)>0)=false:=by rw[decide_eq_false_iff_not];omega
  go_enter Try.func91,Try.ntmps91
  go_wp2_with fail
  refine(bH r (p) 5 _ (h.below ag) (by omega) (by omega)).mono ?_;rintro e w3 ⟨j3,rfl,j30,j31,hrd3,hc3⟩;have hw3:=hc3.size;simp only[World.size_alloc] at hw3;have hch3:=(Chg.of_below ag).trans hc3;have f0:w3.frozen? ⟨w.heap.size,0,none⟩=false:=aO hc3 (by omega) (aF 0) (b9 0);have x0:w3.cell? ⟨w.heap.size,0,none⟩=some (.int .i64 0):=aH hc3 (by omega) (aF 0);have f1:w3.frozen? ⟨w.heap.size,1,none⟩=false:=aO hc3 (by omega) (aF 1) (b9 1);have x1:w3.cell? ⟨w.heap.size,1,none⟩=some (.string {data:=#[]}):=aH hc3 (by omega) (aF 1);have f2:w3.frozen? ⟨w.heap.size,2,none⟩=false:=aO hc3 (by omega) (aF 2) (b9 2);have x2:w3.cell? ⟨w.heap.size,2,none⟩=some (.int .i64 0):=aH hc3 (by omega) (aF 2);have f3:w3.frozen? ⟨w.heap.size,3,none⟩=false:=aO hc3 (by omega) (aF 3) (b9 3);have x3:w3.cell? ⟨w.heap.size,3,none⟩=some (.int .i64 0):=aH hc3 (by omega) (aF 3);have f4:w3.frozen? ⟨w.heap.size,4,none⟩=false:=aO hc3 (by omega) (aF 4) (b9 4);have x4:w3.cell? ⟨w.heap.size,4,none⟩=some (.slice none 0 0):=aH hc3 (by omega) (aF 4);have f5:w3.frozen? ⟨w.heap.size,5,none⟩=false:=aO hc3 (by omega) (aF 5) (b9 5);have x5:w3.cell? ⟨w.heap.size,5,none⟩=some (.int .i64 0):=aH hc3 (by omega) (aF 5);have f6:w3.frozen? ⟨w.heap.size,6,none⟩=false:=aO hc3 (by omega) (aF 6) (b9 6);have x6:w3.cell? ⟨w.heap.size,6,none⟩=some (.slice none 0 0):=aH hc3 (by omega) (aF 6);have f7:w3.frozen? ⟨w.heap.size,7,none⟩=false:=aO hc3 (by omega) (aF 7) (b9 7);have x7:w3.cell? ⟨w.heap.size,7,none⟩=some (.int .i64 0):=aH hc3 (by omega) (aF 7);have f8:w3.frozen? ⟨w.heap.size,8,none⟩=false:=aO hc3 (by omega) (aF 8) (b9 8);have x8:w3.cell? ⟨w.heap.size,8,none⟩=some (.slice none 0 0):=aH hc3 (by omega) (aF 8)
  rcases Bool.eq_false_or_eq_true (j3==0) with q0 | q0
  ·go_wp2_with fail
   refine bq (.agg (nz 3)) (by simp[results,Try.results91,go_sem,x0,x1,x2,x3,x4,x5,x6,x7,x8]) ?_
   exact DTm.stored (q:=p+1) (R:=w.heap.size) (B:=w.heap.size+1) (aB.leaf0 3 0 (by unfold maxLen;decide)) (by simp[Tm.cnt,Tm.cnts,Ty.cnt,Ty.cnts,ByteArray.size]) (by omega) (by omega) hrd3 hch3 (Nat.le_refl _) (by omega) hrl
  ·rcases Bool.eq_false_or_eq_true (j3==1) with q1 | q1
   ·go_wp2_with fail
    refine bq (.agg (nz 4)) (by simp[results,Try.results91,go_sem,x0,x1,x2,x3,x4,x5,x6,x7,x8]) ?_
    exact DTm.stored (q:=p+1) (R:=w.heap.size) (B:=w.heap.size+1) (aB.leaf0 4 0 (by unfold maxLen;decide)) (by simp[Tm.cnt,Tm.cnts,Ty.cnt,Ty.cnts,ByteArray.size]) (by omega) (by omega) hrd3 hch3 (Nat.le_refl _) (by omega) hrl
   ·go_wp2_with fail
    refine(bY (fun _=>True) r (p+1) _ 6 6 _ (hrd3.below ag) (by omega) (by omega) (by omega) (Nat.le_refl _) (by omega) (bJ [1,0,2,5,999,7] rfl _ (fun _ _=>trivial))).mono ?_;rintro e w4 ⟨kn,rfl,-,hrd4,hc4⟩;have hw4:=hc4.size;simp only[World.size_alloc] at hw4;replace hch3:=(hch3.trans (Chg.of_below ag)).trans hc4;replace f0:w4.frozen? ⟨w.heap.size,0,none⟩=false:=aO hc4 (by omega) (af ag x0) (aG ag x0 f0);replace x0:w4.cell? ⟨w.heap.size,0,none⟩=some (.int .i64 0):=aH hc4 (by omega) (af ag x0);replace f1:w4.frozen? ⟨w.heap.size,1,none⟩=false:=aO hc4 (by omega) (af ag x1) (aG ag x1 f1);replace x1:w4.cell? ⟨w.heap.size,1,none⟩=some (.string {data:=#[]}):=aH hc4 (by omega) (af ag x1);replace f2:w4.frozen? ⟨w.heap.size,2,none⟩=false:=aO hc4 (by omega) (af ag x2) (aG ag x2 f2);replace x2:w4.cell? ⟨w.heap.size,2,none⟩=some (.int .i64 0):=aH hc4 (by omega) (af ag x2);replace f3:w4.frozen? ⟨w.heap.size,3,none⟩=false:=aO hc4 (by omega) (af ag x3) (aG ag x3 f3);replace x3:w4.cell? ⟨w.heap.size,3,none⟩=some (.int .i64 0):=aH hc4 (by omega) (af ag x3);replace f4:w4.frozen? ⟨w.heap.size,4,none⟩=false:=aO hc4 (by omega) (af ag x4) (aG ag x4 f4);replace x4:w4.cell? ⟨w.heap.size,4,none⟩=some (.slice none 0 0):=aH hc4 (by omega) (af ag x4);replace f5:w4.frozen? ⟨w.heap.size,5,none⟩=false:=aO hc4 (by omega) (af ag x5) (aG ag x5 f5);replace x5:w4.cell? ⟨w.heap.size,5,none⟩=some (.int .i64 0):=aH hc4 (by omega) (af ag x5);replace f6:w4.frozen? ⟨w.heap.size,6,none⟩=false:=aO hc4 (by omega) (af ag x6) (aG ag x6 f6);replace x6:w4.cell? ⟨w.heap.size,6,none⟩=some (.slice none 0 0):=aH hc4 (by omega) (af ag x6);replace f7:w4.frozen? ⟨w.heap.size,7,none⟩=false:=aO hc4 (by omega) (af ag x7) (aG ag x7 f7);replace x7:w4.cell? ⟨w.heap.size,7,none⟩=some (.int .i64 0):=aH hc4 (by omega) (af ag x7);replace f8:w4.frozen? ⟨w.heap.size,8,none⟩=false:=aO hc4 (by omega) (af ag x8) (aG ag x8 f8);replace x8:w4.cell? ⟨w.heap.size,8,none⟩=some (.slice none 0 0):=aH hc4 (by omega) (af ag x8)
    go_wp2_with fail
    refine(cQ kn _).mono ?_;rintro e w5 ⟨rfl,hb5⟩;replace hch3:=hch3.trans (Chg.of_below hb5);have hrd5:=hrd4.below hb5;have hw5:=hb5.size;replace f0:w5.frozen? ⟨w.heap.size,0,none⟩=false:=aG hb5 x0 f0;replace x0:=af hb5 x0;replace f1:w5.frozen? ⟨w.heap.size,1,none⟩=false:=aG hb5 x1 f1;replace x1:=af hb5 x1;replace f2:w5.frozen? ⟨w.heap.size,2,none⟩=false:=aG hb5 x2 f2;replace x2:=af hb5 x2;replace f3:w5.frozen? ⟨w.heap.size,3,none⟩=false:=aG hb5 x3 f3;replace x3:=af hb5 x3;replace f4:w5.frozen? ⟨w.heap.size,4,none⟩=false:=aG hb5 x4 f4;replace x4:=af hb5 x4;replace f5:w5.frozen? ⟨w.heap.size,5,none⟩=false:=aG hb5 x5 f5;replace x5:=af hb5 x5;replace f6:w5.frozen? ⟨w.heap.size,6,none⟩=false:=aG hb5 x6 f6;replace x6:=af hb5 x6;replace f7:w5.frozen? ⟨w.heap.size,7,none⟩=false:=aG hb5 x7 f7;replace x7:=af hb5 x7;replace f8:w5.frozen? ⟨w.heap.size,8,none⟩=false:=aG hb5 x8 f8;replace x8:=af hb5 x8
    go_wp2_with fail
    refine bq (.agg (nv 2 {data:=#[]} kn 0 none 0 0 0 none 0 0 0 none 0 0)) (by simp[results,Try.results91,go_sem,x0,x1,x2,x3,x4,x5,x6,x7,x8]) ?_
    exact DTm.stored (q:=p+1+1) (R:=w.heap.size) (B:=w.heap.size+1) (aB.leaf0 2 kn (by unfold maxLen;decide)) (by simp[Tm.cnt,Tm.cnts,Ty.cnt,Ty.cnts,ByteArray.size]) (by omega) (by omega) hrd5 hch3 (Nat.le_refl _) (by omega) hrl
 ·have hd:decide ((s.size:Int)>0)=true:=by rw[decide_eq_true_eq];omega
  go_enter Try.func91,Try.ntmps91
  go_wp2_with fail
  refine(bH r p 4 _ (h.below ag) (by omega) (by omega)).mono ?_;rintro e w1 ⟨j1,rfl,j10,j11,hrd1,hc1⟩;have hw1:=hc1.size;simp only[World.size_alloc] at hw1;have hch:=(Chg.of_below ag).trans hc1;have f0:w1.frozen? ⟨w.heap.size,0,none⟩=false:=aO hc1 (by omega) (aF 0) (b9 0);have x0:w1.cell? ⟨w.heap.size,0,none⟩=some (.int .i64 0):=aH hc1 (by omega) (aF 0);have f1:w1.frozen? ⟨w.heap.size,1,none⟩=false:=aO hc1 (by omega) (aF 1) (b9 1);have x1:w1.cell? ⟨w.heap.size,1,none⟩=some (.string {data:=#[]}):=aH hc1 (by omega) (aF 1);have f2:w1.frozen? ⟨w.heap.size,2,none⟩=false:=aO hc1 (by omega) (aF 2) (b9 2);have x2:w1.cell? ⟨w.heap.size,2,none⟩=some (.int .i64 0):=aH hc1 (by omega) (aF 2);have f3:w1.frozen? ⟨w.heap.size,3,none⟩=false:=aO hc1 (by omega) (aF 3) (b9 3);have x3:w1.cell? ⟨w.heap.size,3,none⟩=some (.int .i64 0):=aH hc1 (by omega) (aF 3);have f4:w1.frozen? ⟨w.heap.size,4,none⟩=false:=aO hc1 (by omega) (aF 4) (b9 4);have x4:w1.cell? ⟨w.heap.size,4,none⟩=some (.slice none 0 0):=aH hc1 (by omega) (aF 4);have f5:w1.frozen? ⟨w.heap.size,5,none⟩=false:=aO hc1 (by omega) (aF 5) (b9 5);have x5:w1.cell? ⟨w.heap.size,5,none⟩=some (.int .i64 0):=aH hc1 (by omega) (aF 5);have f6:w1.frozen? ⟨w.heap.size,6,none⟩=false:=aO hc1 (by omega) (aF 6) (b9 6);have x6:w1.cell? ⟨w.heap.size,6,none⟩=some (.slice none 0 0):=aH hc1 (by omega) (aF 6);have f7:w1.frozen? ⟨w.heap.size,7,none⟩=false:=aO hc1 (by omega) (aF 7) (b9 7);have x7:w1.cell? ⟨w.heap.size,7,none⟩=some (.int .i64 0):=aH hc1 (by omega) (aF 7);have f8:w1.frozen? ⟨w.heap.size,8,none⟩=false:=aO hc1 (by omega) (aF 8) (b9 8);have x8:w1.cell? ⟨w.heap.size,8,none⟩=some (.slice none 0 0):=aH hc1 (by omega) (aF 8)
  by_cases hj:0<j1
  ·have hjd:decide (j1>0)=true:=by simpa using hj
   go_wp2_with fail
   refine(bH r (p+1) (s.size:Int) _ hrd1 (by omega) (by omega)).mono ?_;rintro e w2 ⟨j2,rfl,j20,j21,hrd2,hc2⟩;have hw2:=hc2.size;replace hch:=hch.trans hc2;replace f0:w2.frozen? ⟨w.heap.size,0,none⟩=false:=aO hc2 (by omega) x0 f0;replace x0:=aH hc2 (by omega) x0;replace f1:w2.frozen? ⟨w.heap.size,1,none⟩=false:=aO hc2 (by omega) x1 f1;replace x1:w2.cell? ⟨w.heap.size,1,none⟩=some (.string {data:=#[]}):=aH hc2 (by omega) x1;replace f2:w2.frozen? ⟨w.heap.size,2,none⟩=false:=aO hc2 (by omega) x2 f2;replace x2:=aH hc2 (by omega) x2;replace f3:w2.frozen? ⟨w.heap.size,3,none⟩=false:=aO hc2 (by omega) x3 f3;replace x3:=aH hc2 (by omega) x3;replace f4:w2.frozen? ⟨w.heap.size,4,none⟩=false:=aO hc2 (by omega) x4 f4;replace x4:=aH hc2 (by omega) x4;replace f5:w2.frozen? ⟨w.heap.size,5,none⟩=false:=aO hc2 (by omega) x5 f5;replace x5:=aH hc2 (by omega) x5;replace f6:w2.frozen? ⟨w.heap.size,6,none⟩=false:=aO hc2 (by omega) x6 f6;replace x6:=aH hc2 (by omega) x6;replace f7:w2.frozen? ⟨w.heap.size,7,none⟩=false:=aO hc2 (by omega) x7 f7;replace x7:=aH hc2 (by omega) x7;replace f8:w2.frozen? ⟨w.heap.size,8,none⟩=false:=aO hc2 (by omega) x8 f8;replace x8:=aH hc2 (by omega) x8;obtain⟨j,rfl⟩:=Int.eq_ofNat_of_zero_le j20;have hjs:j<s.size:=by omega
   have i1:=IntWalk.i64_in ((j:Int)+1) (by omega);have hne:(s.extract j (j+1)).size<=1:=by rw[ByteArray.size_extract];omega
   go_wp2_with fail
   refine bq (.agg (nv 1 (s.extract j (j+1)) 0 0 none 0 0 0 none 0 0 0 none 0 0)) (by simp[results,Try.results91,go_sem,x0,x1,x2,x3,x4,x5,x6,x7,x8]) ?_
   exact DTm.stored (q:=p+1+1) (R:=w.heap.size) (B:=w.heap.size+1) (aB.leaf0 1 0 (by unfold maxLen;omega)) (by simp only[Tm.cnt,Tm.cnts,Ty.cnt,Ty.cnts,List.length_nil];omega) (by omega) (by omega) hrd2 hch (Nat.le_refl _) (by omega) hrl
  ·have hjd:decide (j1>0)=false:=by simpa using hj
   go_wp2_with fail
   refine(bH r (p+1) 5 _ hrd1 (by omega) (by omega)).mono ?_;rintro e w3 ⟨j3,rfl,j30,j31,hrd3,hc3⟩;have hw3:=hc3.size;have hch3:=hch.trans hc3;replace f0:w3.frozen? ⟨w.heap.size,0,none⟩=false:=aO hc3 (by omega) x0 f0;replace x0:=aH hc3 (by omega) x0;replace f1:w3.frozen? ⟨w.heap.size,1,none⟩=false:=aO hc3 (by omega) x1 f1;replace x1:w3.cell? ⟨w.heap.size,1,none⟩=some (.string {data:=#[]}):=aH hc3 (by omega) x1;replace f2:w3.frozen? ⟨w.heap.size,2,none⟩=false:=aO hc3 (by omega) x2 f2;replace x2:=aH hc3 (by omega) x2;replace f3:w3.frozen? ⟨w.heap.size,3,none⟩=false:=aO hc3 (by omega) x3 f3;replace x3:=aH hc3 (by omega) x3;replace f4:w3.frozen? ⟨w.heap.size,4,none⟩=false:=aO hc3 (by omega) x4 f4;replace x4:=aH hc3 (by omega) x4;replace f5:w3.frozen? ⟨w.heap.size,5,none⟩=false:=aO hc3 (by omega) x5 f5;replace x5:=aH hc3 (by omega) x5;replace f6:w3.frozen? ⟨w.heap.size,6,none⟩=false:=aO hc3 (by omega) x6 f6;replace x6:=aH hc3 (by omega) x6;replace f7:w3.frozen? ⟨w.heap.size,7,none⟩=false:=aO hc3 (by omega) x7 f7;replace x7:=aH hc3 (by omega) x7;replace f8:w3.frozen? ⟨w.heap.size,8,none⟩=false:=aO hc3 (by omega) x8 f8;replace x8:=aH hc3 (by omega) x8
   rcases Bool.eq_false_or_eq_true (j3==0) with q0 | q0
   ·go_wp2_with fail
    refine bq (.agg (nz 3)) (by simp[results,Try.results91,go_sem,x0,x1,x2,x3,x4,x5,x6,x7,x8]) ?_
    exact DTm.stored (q:=p+1+1) (R:=w.heap.size) (B:=w.heap.size+1) (aB.leaf0 3 0 (by unfold maxLen;decide)) (by simp[Tm.cnt,Tm.cnts,Ty.cnt,Ty.cnts,ByteArray.size]) (by omega) (by omega) hrd3 hch3 (Nat.le_refl _) (by omega) hrl
   ·rcases Bool.eq_false_or_eq_true (j3==1) with q1 | q1
    ·go_wp2_with fail
     refine bq (.agg (nz 4)) (by simp[results,Try.results91,go_sem,x0,x1,x2,x3,x4,x5,x6,x7,x8]) ?_
     exact DTm.stored (q:=p+1+1) (R:=w.heap.size) (B:=w.heap.size+1) (aB.leaf0 4 0 (by unfold maxLen;decide)) (by simp[Tm.cnt,Tm.cnts,Ty.cnt,Ty.cnts,ByteArray.size]) (by omega) (by omega) hrd3 hch3 (Nat.le_refl _) (by omega) hrl
    ·go_wp2_with fail
     refine(bY (fun _=>True) r (p+1+1) _ 6 6 _ (hrd3.below ag) (by omega) (by omega) (by omega) (Nat.le_refl _) (by omega) (bJ [1,0,2,5,999,7] rfl _ (fun _ _=>trivial))).mono ?_;rintro e w4 ⟨kn,rfl,-,hrd4,hc4⟩;have hw4:=hc4.size;simp only[World.size_alloc] at hw4;replace hch3:=(hch3.trans (Chg.of_below ag)).trans hc4;replace f0:w4.frozen? ⟨w.heap.size,0,none⟩=false:=aO hc4 (by omega) (af ag x0) (aG ag x0 f0);replace x0:w4.cell? ⟨w.heap.size,0,none⟩=some (.int .i64 0):=aH hc4 (by omega) (af ag x0);replace f1:w4.frozen? ⟨w.heap.size,1,none⟩=false:=aO hc4 (by omega) (af ag x1) (aG ag x1 f1);replace x1:w4.cell? ⟨w.heap.size,1,none⟩=some (.string {data:=#[]}):=aH hc4 (by omega) (af ag x1);replace f2:w4.frozen? ⟨w.heap.size,2,none⟩=false:=aO hc4 (by omega) (af ag x2) (aG ag x2 f2);replace x2:w4.cell? ⟨w.heap.size,2,none⟩=some (.int .i64 0):=aH hc4 (by omega) (af ag x2);replace f3:w4.frozen? ⟨w.heap.size,3,none⟩=false:=aO hc4 (by omega) (af ag x3) (aG ag x3 f3);replace x3:w4.cell? ⟨w.heap.size,3,none⟩=some (.int .i64 0):=aH hc4 (by omega) (af ag x3);replace f4:w4.frozen? ⟨w.heap.size,4,none⟩=false:=aO hc4 (by omega) (af ag x4) (aG ag x4 f4);replace x4:w4.cell? ⟨w.heap.size,4,none⟩=some (.slice none 0 0):=aH hc4 (by omega) (af ag x4);replace f5:w4.frozen? ⟨w.heap.size,5,none⟩=false:=aO hc4 (by omega) (af ag x5) (aG ag x5 f5);replace x5:w4.cell? ⟨w.heap.size,5,none⟩=some (.int .i64 0):=aH hc4 (by omega) (af ag x5);replace f6:w4.frozen? ⟨w.heap.size,6,none⟩=false:=aO hc4 (by omega) (af ag x6) (aG ag x6 f6);replace x6:w4.cell? ⟨w.heap.size,6,none⟩=some (.slice none 0 0):=aH hc4 (by omega) (af ag x6);replace f7:w4.frozen? ⟨w.heap.size,7,none⟩=false:=aO hc4 (by omega) (af ag x7) (aG ag x7 f7);replace x7:w4.cell? ⟨w.heap.size,7,none⟩=some (.int .i64 0):=aH hc4 (by omega) (af ag x7);replace f8:w4.frozen? ⟨w.heap.size,8,none⟩=false:=aO hc4 (by omega) (af ag x8) (aG ag x8 f8);replace x8:w4.cell? ⟨w.heap.size,8,none⟩=some (.slice none 0 0):=aH hc4 (by omega) (af ag x8)
     go_wp2_with fail
     refine(cQ kn _).mono ?_;rintro e w5 ⟨rfl,hb5⟩;replace hch3:=hch3.trans (Chg.of_below hb5);have hrd5:=hrd4.below hb5;have hw5:=hb5.size;replace f0:w5.frozen? ⟨w.heap.size,0,none⟩=false:=aG hb5 x0 f0;replace x0:=af hb5 x0;replace f1:w5.frozen? ⟨w.heap.size,1,none⟩=false:=aG hb5 x1 f1;replace x1:=af hb5 x1;replace f2:w5.frozen? ⟨w.heap.size,2,none⟩=false:=aG hb5 x2 f2;replace x2:=af hb5 x2;replace f3:w5.frozen? ⟨w.heap.size,3,none⟩=false:=aG hb5 x3 f3;replace x3:=af hb5 x3;replace f4:w5.frozen? ⟨w.heap.size,4,none⟩=false:=aG hb5 x4 f4;replace x4:=af hb5 x4;replace f5:w5.frozen? ⟨w.heap.size,5,none⟩=false:=aG hb5 x5 f5;replace x5:=af hb5 x5;replace f6:w5.frozen? ⟨w.heap.size,6,none⟩=false:=aG hb5 x6 f6;replace x6:=af hb5 x6;replace f7:w5.frozen? ⟨w.heap.size,7,none⟩=false:=aG hb5 x7 f7;replace x7:=af hb5 x7;replace f8:w5.frozen? ⟨w.heap.size,8,none⟩=false:=aG hb5 x8 f8;replace x8:=af hb5 x8
     go_wp2_with fail
     refine bq (.agg (nv 2 {data:=#[]} kn 0 none 0 0 0 none 0 0 0 none 0 0)) (by simp[results,Try.results91,go_sem,x0,x1,x2,x3,x4,x5,x6,x7,x8]) ?_
     exact DTm.stored (q:=p+1+1+1) (R:=w.heap.size) (B:=w.heap.size+1) (aB.leaf0 2 kn (by unfold maxLen;decide)) (by simp[Tm.cnt,Tm.cnts,Ty.cnt,Ty.cnts,ByteArray.size]) (by omega) (by omega) hrd5 hch3 (Nat.le_refl _) (by omega) hrl
theorem kG (k d:Int)(m:Nat)(ow rk:Bool)(h0:(decide (d<1))=true):(false:Bool)=(decide (1<=d) && !(k==14)&&((aD k==(m:Int))&&ow)&&rk):=by
 first | (simp_all;done) | (simp_all;omega) | grind
theorem kH (k d:Int)(m:Nat)(ow rk:Bool)(h0:(decide (d<1))=false)(h1:((aD k)==(m:Int))=true)(h2:(k==14)=true):(false:Bool)=(decide (1<=d) && !(k==14)&&((aD k==(m:Int))&&ow)&&rk):=by
 first | (simp_all;done) | (simp_all;omega) | grind
theorem kI (k d:Int)(m:Nat)(ow rk:Bool)(h0:(decide (d<1))=false)(h1:((aD k)==(m:Int))=true)(h2:(k==14)=false)(h3:(ow)=true)(h4:rk=false):(false:Bool)=(decide (1<=d) && !(k==14)&&((aD k==(m:Int))&&ow)&&rk):=by
 first | (simp_all;done) | (simp_all;omega) | grind
theorem kJ (k d:Int)(m:Nat)(ow rk:Bool)(h0:(decide (d<1))=false)(h1:((aD k)==(m:Int))=true)(h2:(k==14)=false)(h3:(ow)=true)(h4:rk=true):(true:Bool)=(decide (1<=d) && !(k==14)&&((aD k==(m:Int))&&ow)&&rk):=by
 first | (simp_all;done) | (simp_all;omega) | grind
theorem kK (k d:Int)(m:Nat)(ow rk:Bool)(h0:(decide (d<1))=false)(h1:((aD k)==(m:Int))=true)(h2:(k==14)=false)(h3:(ow)=false):(false:Bool)=(decide (1<=d) && !(k==14)&&((aD k==(m:Int))&&ow)&&rk):=by
 first | (simp_all;done) | (simp_all;omega) | grind
theorem kL (k d:Int)(m:Nat)(ow rk:Bool)(h0:(decide (d<1))=false)(h1:((aD k)==(m:Int))=false):(false:Bool)=(decide (1<=d) && !(k==14)&&((aD k==(m:Int))&&ow)&&rk):=by
 first | (simp_all;done) | (simp_all;omega) | grind
theorem ik (F:Nat->Prop)(t:Tm) : ∀(d:Int) (y:Value) (w:World),aB F w t y->0<=d->d<=100 ->
  Calls Try.prog 93 #[y,.int .i64 d] w fun e w'=>e = .returned (.bool (t.shape 14 d))∧Below w.heap.size w w':=by
 intro d y w hy hd0 hd5;have IH : ∀t'∈t.kids,∀(d:Int) (y:Value) (W:World),aB F W t' y->0<=d->d<=100->Calls Try.prog 93 #[y,.int .i64 d] W fun e W'=>e = .returned (.bool (t'.shape 14 d))∧Below W.heap.size W W':=
  fun t' ht d y W a b c=>ik F t' d y W a b c
 have ho:=fun(hk:(t.kind==14)=false) W (h:Below w.heap.size w W)=>kg F t y W (hy.below h) hk;obtain⟨k,nm,u,tk,ta,tn,tq,fk,fa,fn,fq,l,c,m,q,rfl⟩:=hy.shape;obtain⟨r1,r2,r3,r4,r5,r6,r7,r8,r9,rn,rm,rq,hty,hsr,hks⟩:=hy.parts
 cases t with | mk kk nn uu tt ff ll ts=>
 simp only[Tm.kind,Tm.name,Tm.num,Tm.type,Tm.src,Tm.label,Tm.kids] at *;subst r1 r2 r3 r8;unfold Tm.shape;generalize (Tm.mk k nm u tt ff l ts).ownB=ow at *;obtain⟨rk,hrk⟩ : ∃r,r=Tm.shapes ts 14 (d-1):=⟨_,rfl⟩
 rw[<-hrk,<-r9];have HN:=zq r9;have HRK:=zq hrk;have HO:=zq ho;have IHH:=zq IH;unfold maxLen at rq;clear hrk ho IH hy r9 r4 r5 r6 r7 rn hty hsr;obtain⟨rr,hrr⟩ : ∃rr0:Bool,(decide (1<=d) && !(k==14)&&((aD k==(m:Int))&&ow)&&rk)=rr0:=⟨_,rfl⟩
 rw[hrr];have HT:=zq hrr;clear hrr
 go_enter Try.func93,Try.ntmps93
 rcases Bool.eq_false_or_eq_true (decide (d<1)) with q1 | q1
 ·skip
  go_wp2_with fail
  refine wp_region_noPanic ?_;refine wp_region_held_drew (S:=fun w'=>True) (by kernel_rfl) ?_ (fun hH0=>?_)
  ·exact trivial
  refine hwq hx0 (.int .i64 d) hH0 ?_;refine hwq hx1 (.bool true) hH0 ?_;refine hwq hx2 (.bool true) hH0 ?_;refine hwu hx3 hH0 ?_;refine hwu hx4 hH0 ?_;refine hwu hx5 hH0 ?_;refine hwu hx6 hH0 ?_;refine hwu hx7 hH0 ?_;refine hwu hx8 hH0 ?_;refine hwu hx9 hH0 ?_;refine hwq bd (.bool true) hH0 ?_;refine hwq bl (.bool true) hH0 ?_;refine hwu bz hH0 ?_;refine hwu bA hH0 ?_;refine hwu bB hH0 ?_;refine hwq bF (.bool true) hH0 ?_;refine hwq bI (.bool true) hH0 ?_;refine hwu co hH0 ?_;refine hwu cD hH0 ?_;refine hwu dp hH0 ?_;refine hwq dM (.bool true) hH0 ?_;refine hwd ?_;clear hH0
  go_wp2_with fail
  refine bq (.bool (false)) (by simp[results,Try.results93,go_sem,bne]) ?_
  exact⟨au ((kG k d m ow rk q1).trans HT.out),ag.drew⟩
 ·skip
  rcases Bool.eq_false_or_eq_true ((aD k)==(m:Int)) with q2 | q2
  ·skip
   have nq2:((aD k) != (m:Int))=false:=by simp only[bne,q2];rfl
   rcases Bool.eq_false_or_eq_true (k==14) with q3 | q3
   ·skip
    have nq3:(k != 14)=false:=by simp only[bne,q3];rfl
    go_wp2_with fail
    have s0_:(World.alloc w (Obj.cells (nv k nm u tk ta tn tq fk fa fn fq l c m q) 28)).cell? ⟨w.heap.size,0,none⟩=some (.int .i64 k):=ao (by simp) 0;have s1_:(World.alloc w (Obj.cells (nv k nm u tk ta tn tq fk fa fn fq l c m q) 28)).cell? ⟨w.heap.size,8,none⟩=some (.slice c m q):=ao (by simp) 8;refine wp_region_noPanic ?_;refine wp_region_held_drew (S:=fun w'=>w'.cell? ⟨w.heap.size,0,none⟩=some (.int .i64 k)∧w'.cell? ⟨w.heap.size,8,none⟩=some (.slice c m q)) (by kernel_rfl) ?_ (fun hH0=>?_)
    ·exact⟨ap (s0_),ap (s1_)⟩
    refine hwq hx0 (.int .i64 d) hH0 ?_;refine hwq hx1 (.bool false) hH0 ?_;refine hwq hx2 (.bool false) hH0 ?_;refine hwq hx3 (.pointer (some ⟨w.heap.size,0,none⟩)) hH0 ?_;refine hwq hx4 (.int .i64 k) hH0 ?_;refine hwq hx6 (.pointer (some ⟨w.heap.size,8,none⟩)) hH0 ?_;refine hwq hx7 (.slice c m q) hH0 ?_;refine hwq hx8 (.int .i64 (m:Int)) hH0 ?_;refine hwe hx5 (fun K hK=>?_)
    go_simp
    go_at_call 54
    (with_reducible refine(cH k _).mono ?_)
    rintro e w1 ⟨rfl,hb1⟩
    go_wp2_with fail
    refine hK.out _ _ ?_ (fun hH1=>?_)
    ·exact⟨af hb1 (ap (s0_)),af hb1 (ap (s1_))⟩
    clear hK K hH0
    try simp only[hwA]
    refine hwq hx9 (.bool false) hH1 ?_;refine hwq bd (.bool false) hH1 ?_;refine hwq bl (.bool false) hH1 ?_;refine hwq bz (.pointer (some ⟨w.heap.size,0,none⟩)) hH1 ?_;refine hwq bA (.int .i64 k) hH1 ?_;refine hwq bB (.bool true) hH1 ?_;refine hwq bF (.bool true) hH1 ?_;refine hwq bI (.bool true) hH1 ?_;refine hwu co hH1 ?_;refine hwu cD hH1 ?_;refine hwu dp hH1 ?_;refine hwq dM (.bool true) hH1 ?_;refine hwd ?_;clear hH1 s0_ s1_;have hB:=(al ag.drew hb1)
    have zw1:=hB.size
    go_wp2_with fail
    refine bq (.bool (false)) (by simp[results,Try.results93,go_sem,bne]) ?_
    exact⟨au ((kH k d m ow rk q1 q2 q3).trans HT.out),hB⟩
   ·skip
    have nq3:(k != 14)=true:=by simp only[bne,q3];rfl
    go_wp2_with fail
    have s0_:(World.alloc w (Obj.cells (nv k nm u tk ta tn tq fk fa fn fq l c m q) 28)).cell? ⟨w.heap.size,0,none⟩=some (.int .i64 k):=ao (by simp) 0;have s1_:(World.alloc w (Obj.cells (nv k nm u tk ta tn tq fk fa fn fq l c m q) 28)).cell? ⟨w.heap.size,8,none⟩=some (.slice c m q):=ao (by simp) 8;have s2_:(World.alloc w (Obj.cells (nv k nm u tk ta tn tq fk fa fn fq l c m q) 28)).cell? ⟨w.heap.size,1,none⟩=some (.string nm):=ao (by simp) 1;have s3_:(World.alloc w (Obj.cells (nv k nm u tk ta tn tq fk fa fn fq l c m q) 28)).cell? ⟨w.heap.size,2,none⟩=some (.int .i64 u):=ao (by simp) 2;have s4_:(World.alloc w (Obj.cells (nv k nm u tk ta tn tq fk fa fn fq l c m q) 28)).cell? ⟨w.heap.size,3,none⟩=some (.int .i64 tk):=ao (by simp) 3;have s5_:(World.alloc w (Obj.cells (nv k nm u tk ta tn tq fk fa fn fq l c m q) 28)).cell? ⟨w.heap.size,4,none⟩=some (.slice ta tn tq):=ao (by simp) 4;have s6_:(World.alloc w (Obj.cells (nv k nm u tk ta tn tq fk fa fn fq l c m q) 28)).cell? ⟨w.heap.size,5,none⟩=some (.int .i64 fk):=ao (by simp) 5;have s7_:(World.alloc w (Obj.cells (nv k nm u tk ta tn tq fk fa fn fq l c m q) 28)).cell? ⟨w.heap.size,6,none⟩=some (.slice fa fn fq):=ao (by simp) 6;have s8_:(World.alloc w (Obj.cells (nv k nm u tk ta tn tq fk fa fn fq l c m q) 28)).cell? ⟨w.heap.size,7,none⟩=some (.int .i64 l):=ao (by simp) 7;have hS0:=zq (show(World.drew (World.alloc w (Obj.cells (nv k nm u tk ta tn tq fk fa fn fq l c m q) 28))).cell? ⟨w.heap.size,0,none⟩=some (.int .i64 k)∧(World.drew (World.alloc w (Obj.cells (nv k nm u tk ta tn tq fk fa fn fq l c m q) 28))).cell? ⟨w.heap.size,8,none⟩=some (.slice c m q)∧(World.drew (World.alloc w (Obj.cells (nv k nm u tk ta tn tq fk fa fn fq l c m q) 28))).cell? ⟨w.heap.size,1,none⟩=some (.string nm)∧(World.drew (World.alloc w (Obj.cells (nv k nm u tk ta tn tq fk fa fn fq l c m q) 28))).cell? ⟨w.heap.size,2,none⟩=some (.int .i64 u)∧(World.drew (World.alloc w (Obj.cells (nv k nm u tk ta tn tq fk fa fn fq l c m q) 28))).cell? ⟨w.heap.size,3,none⟩=some (.int .i64 tk)∧(World.drew (World.alloc w (Obj.cells (nv k nm u tk ta tn tq fk fa fn fq l c m q) 28))).cell? ⟨w.heap.size,4,none⟩=some (.slice ta tn tq)∧(World.drew (World.alloc w (Obj.cells (nv k nm u tk ta tn tq fk fa fn fq l c m q) 28))).cell? ⟨w.heap.size,5,none⟩=some (.int .i64 fk)∧(World.drew (World.alloc w (Obj.cells (nv k nm u tk ta tn tq fk fa fn fq l c m q) 28))).cell? ⟨w.heap.size,6,none⟩=some (.slice fa fn fq)∧(World.drew (World.alloc w (Obj.cells (nv k nm u tk ta tn tq fk fa fn fq l c m q) 28))).cell? ⟨w.heap.size,7,none⟩=some (.int .i64 l) from⟨ap (s0_),ap (s1_),ap (s2_),ap (s3_),ap (s4_),ap (s5_),ap (s6_),ap (s7_),ap (s8_)⟩)
    have hSb:=zq (show ∀X Y:World,Below X.heap.size X Y->(X.cell? ⟨w.heap.size,0,none⟩=some (.int .i64 k)∧X.cell? ⟨w.heap.size,8,none⟩=some (.slice c m q)∧X.cell? ⟨w.heap.size,1,none⟩=some (.string nm)∧X.cell? ⟨w.heap.size,2,none⟩=some (.int .i64 u)∧X.cell? ⟨w.heap.size,3,none⟩=some (.int .i64 tk)∧X.cell? ⟨w.heap.size,4,none⟩=some (.slice ta tn tq)∧X.cell? ⟨w.heap.size,5,none⟩=some (.int .i64 fk)∧X.cell? ⟨w.heap.size,6,none⟩=some (.slice fa fn fq)∧X.cell? ⟨w.heap.size,7,none⟩=some (.int .i64 l))->(Y.cell? ⟨w.heap.size,0,none⟩=some (.int .i64 k)∧Y.cell? ⟨w.heap.size,8,none⟩=some (.slice c m q)∧Y.cell? ⟨w.heap.size,1,none⟩=some (.string nm)∧Y.cell? ⟨w.heap.size,2,none⟩=some (.int .i64 u)∧Y.cell? ⟨w.heap.size,3,none⟩=some (.int .i64 tk)∧Y.cell? ⟨w.heap.size,4,none⟩=some (.slice ta tn tq)∧Y.cell? ⟨w.heap.size,5,none⟩=some (.int .i64 fk)∧Y.cell? ⟨w.heap.size,6,none⟩=some (.slice fa fn fq)∧Y.cell? ⟨w.heap.size,7,none⟩=some (.int .i64 l)) from fun X Y h s=>⟨af h s.1,af h s.2.1,af h s.2.2.1,af h s.2.2.2.1,af h s.2.2.2.2.1,af h s.2.2.2.2.2.1,af h s.2.2.2.2.2.2.1,af h s.2.2.2.2.2.2.2.1,af h s.2.2.2.2.2.2.2.2⟩)
    go_region_held3 (fun w'=>w'.cell? ⟨w.heap.size,0,none⟩=some (.int .i64 k)∧w'.cell? ⟨w.heap.size,8,none⟩=some (.slice c m q)∧w'.cell? ⟨w.heap.size,1,none⟩=some (.string nm)∧w'.cell? ⟨w.heap.size,2,none⟩=some (.int .i64 u)∧w'.cell? ⟨w.heap.size,3,none⟩=some (.int .i64 tk)∧w'.cell? ⟨w.heap.size,4,none⟩=some (.slice ta tn tq)∧w'.cell? ⟨w.heap.size,5,none⟩=some (.int .i64 fk)∧w'.cell? ⟨w.heap.size,6,none⟩=some (.slice fa fn fq)∧w'.cell? ⟨w.heap.size,7,none⟩=some (.int .i64 l))
     (repeat (first | with_reducible refine hSb.out _ _ hb3 ?_ | with_reducible refine hSb.out _ _ hb2 ?_ | with_reducible exact hS0.out))
     (first | (go_at_call 54;((with_reducible refine(cH k _).mono ?_);rintro e w2 ⟨rfl,hb2⟩)) | (go_at_call 56;((with_reducible refine(HO.out q3 _ (al ag.drew hb2)).mono ?_);rintro e w3 ⟨rfl,hb3⟩)))
    clear s0_ s1_ s2_ s3_ s4_ s5_ s6_ s7_ s8_;have hB:=(al (al ag.drew hb2) hb3)
    have zw3:=hB.size;have c0_8:w3.cell? ⟨w.heap.size,8,none⟩=some (.slice c m q):=af hb3 (af hb2 (ap (ao (by simp) 8)));have d0_w3:=World.block_lt_of_cell? _ _ c0_8
    rcases Bool.eq_false_or_eq_true (ow) with q4 | q4
    ·(try rw[q4])
     have Hq4:=zq q4;clear q4
     go_wp2_with fail
     go_loopw [5] (fun i wr=>∃j:Nat,j<=m∧i = .int .i64 j∧Below w.heap.size w wr∧wr.cell? ⟨w.heap.size,8,none⟩=some (.slice c m q)∧Hid (rk=Tm.shapes (ts.drop j) 14 (d-1))) (fun i _=>m-(intOf i).toNat)
     case atStart=>exact⟨0,by omega,rfl,hB,c0_8,HRK.out⟩
     case round=>
      obtain⟨j,hj,rfl,hB,x0,hR0⟩:=hrel;have lx1:=World.block_lt_of_cell? _ _ x0
      by_cases hlt:j<m
      ·have hjt:j<ts.length:=by have:=HN.out;omega
       obtain⟨b,off,k0,nm0,u0,tk0,ta0,tn0,tq0,fk0,fa0,fn0,fq0,l0,a0,m0,q0,rfl,lb,e0,e1,e2,e3,e4,e5,e6,e7,e8,ht⟩:=hks.at hB hjt;have hcall:=IHH.out ts[j] (List.getElem_mem hjt) (d-1);have hstep:=hR0.out.trans (Tm.shapes_drop ts 14 (d-1) j hjt);generalize ts[j].shape 14 (d-1)=r at hcall hstep;have HC:=zq hcall;have HS:=zq hstep;clear hcall hstep hR0;have hwr:=IntWalk.i64_in (d-1) (by omega)
       go_wp2_with fail
       refine(HC.out _ _ ht (by have h:=q1;simp only[decide_eq_false_iff_not] at h;omega) (by have h:=q1;simp only[decide_eq_false_iff_not] at h;omega)).mono ?_;rintro e w4 ⟨rfl,hb4⟩;replace hB:=(al hB hb4)
       have zw4:=hB.size;replace x0:=af hb4 x0;have d0_w4:=World.block_lt_of_cell? _ _ x0
       rcases Bool.eq_false_or_eq_true (r) with q5 | q5
       ·(try rw[q5])
        have Hq5:=zq q5;clear q5;have hwr:=IntWalk.i64_in ((j:Int)+1) (by omega)
        go_wp2_with fail
        go_roundw
        case rel=>exact⟨j+1,by omega,by go_num,hB,x0,(by rw[Hid,HS.out,Hq5.out];rfl)⟩
        case measure=>simp[intOf];omega
       ·(try rw[q5])
        have Hq5:=zq q5;clear q5
        go_wp2_with fail
        refine bq (.bool (false)) (by simp[results,Try.results93,go_sem,bne]) ?_
        exact⟨au ((kI k d m ow rk q1 q2 q3 Hq4.out (by rw[HS.out,Hq5.out];rfl)).trans HT.out),hB⟩
      ·skip
       have HRK:Hid (rk=true):=zq (by rw[hR0.out,List.drop_eq_nil_of_le (by have:=HN.out;omega)];unfold Tm.shapes;rfl)
       go_wp2_with fail
       refine bq (.bool (true)) (by simp[results,Try.results93,go_sem,bne]) ?_
       exact⟨au ((kJ k d m ow rk q1 q2 q3 Hq4.out HRK.out).trans HT.out),hB⟩
    ·(try rw[q4])
     have Hq4:=zq q4;clear q4
     go_wp2_with fail
     refine bq (.bool (false)) (by simp[results,Try.results93,go_sem,bne]) ?_
     exact⟨au ((kK k d m ow rk q1 q2 q3 Hq4.out).trans HT.out),hB⟩
  ·skip
   have nq2:((aD k) != (m:Int))=true:=by simp only[bne,q2];rfl
   go_wp2_with fail
   have s0_:(World.alloc w (Obj.cells (nv k nm u tk ta tn tq fk fa fn fq l c m q) 28)).cell? ⟨w.heap.size,0,none⟩=some (.int .i64 k):=ao (by simp) 0;have s1_:(World.alloc w (Obj.cells (nv k nm u tk ta tn tq fk fa fn fq l c m q) 28)).cell? ⟨w.heap.size,8,none⟩=some (.slice c m q):=ao (by simp) 8;refine wp_region_noPanic ?_;refine wp_region_held_drew (S:=fun w'=>w'.cell? ⟨w.heap.size,0,none⟩=some (.int .i64 k)∧w'.cell? ⟨w.heap.size,8,none⟩=some (.slice c m q)) (by kernel_rfl) ?_ (fun hH0=>?_)
   ·exact⟨ap (s0_),ap (s1_)⟩
   refine hwq hx0 (.int .i64 d) hH0 ?_;refine hwq hx1 (.bool false) hH0 ?_;refine hwq hx2 (.bool false) hH0 ?_;refine hwq hx3 (.pointer (some ⟨w.heap.size,0,none⟩)) hH0 ?_;refine hwq hx4 (.int .i64 k) hH0 ?_;refine hwq hx6 (.pointer (some ⟨w.heap.size,8,none⟩)) hH0 ?_;refine hwq hx7 (.slice c m q) hH0 ?_;refine hwq hx8 (.int .i64 (m:Int)) hH0 ?_;refine hwe hx5 (fun K hK=>?_)
   go_simp
   go_at_call 54
   (with_reducible refine(cH k _).mono ?_)
   rintro e w5 ⟨rfl,hb5⟩
   go_wp2_with fail
   refine hK.out _ _ ?_ (fun hH1=>?_)
   ·exact⟨af hb5 (ap (s0_)),af hb5 (ap (s1_))⟩
   clear hK K hH0
   try simp only[hwA]
   refine hwq hx9 (.bool true) hH1 ?_;refine hwq bd (.bool true) hH1 ?_;refine hwq bl (.bool true) hH1 ?_;refine hwu bz hH1 ?_;refine hwu bA hH1 ?_;refine hwu bB hH1 ?_;refine hwq bF (.bool true) hH1 ?_;refine hwq bI (.bool true) hH1 ?_;refine hwu co hH1 ?_;refine hwu cD hH1 ?_;refine hwu dp hH1 ?_;refine hwq dM (.bool true) hH1 ?_;refine hwd ?_;clear hH1 s0_ s1_;have hB:=(al ag.drew hb5)
   have zw5:=hB.size
   go_wp2_with fail
   refine bq (.bool (false)) (by simp[results,Try.results93,go_sem,bne]) ?_
   exact⟨au ((kL k d m ow rk q1 q2).trans HT.out),hB⟩
termination_by SizeOf.sizeOf t
decreasing_by exact Tm.kid_lt ht
end Go.Proofs.Ytfhglkmjibjjoaa

/- Terms are drawn: what is said of them; numbers, leaves. And what else its parts name. -/
import Derived.Test.YtfahhonmiimmdaaGreatB34
set_option linter.unusedSimpArgs false
set_option linter.unusedVariables false
set_option maxRecDepth 100000
set_option maxHeartbeats 16000000
namespace Go.Proofs.YtfahhonmiimmdaaGreat
open Go.RowKit
def DTm (r p c m:Nat)(w:World)(e:Ending)(w':World):Prop:=∃(t:Tm) (v:Value) (q:Nat),e = .returned v∧t.cnt≤m∧ax (w.heap.size ≤ ·) w' t v∧q≤p+c∧aQ w' r q∧Chg [r] w w'
theorem DTm.mono {r p c m c' m':Nat}{w w':World}{e:Ending}(h:DTm r p c m w e w')(hc:c≤c')(hm:m≤m'):DTm r p c' m' w e w':=by
 obtain⟨t,v,q,h1,h2,h3,h4,h5,h6⟩:=h
 exact⟨t,v,q,h1,by omega,h3,by omega,h5,h6⟩
theorem aA.nil0 {F:Nat→Prop}{w:World}{a:Option Addr}:aA F w [] (.slice a 0 0):=by
 unfold aA Ty.rows aH
 exact⟨a,0,rfl,Nat.le_refl _,by unfold maxLen;omega,.inl rfl⟩
theorem ax.leaf0 {F:Nat→Prop}{w:World}(k u:Int){nm:ByteArray}(hn:nm.size≤maxLen):ax F w (.mk k nm u (.mk 0 []) (.mk 0 []) 0 []) (.agg #[.int .i64 k,.string nm,.int .i64 u,.int .i64 0,.slice none 0 0,.int .i64 0,.slice none 0 0,.int .i64 0,.slice none 0 0]):=
 ⟨_,_,_,rfl,hn,aA.nil0,aA.nil0,by unfold aN Tm.kids Tm.rows aH;exact⟨none,0,rfl,Nat.le_refl _,by unfold maxLen;omega,.inl rfl⟩⟩
theorem ax.chg {fp:List Nat}{w w':World}{F:Nat→Prop}{t:Tm}{y:Value}(h:Chg fp w w')(hn : ∀b,F b→b∉fp)(r:ax F w t y):ax F w' t y:=r.move (h.keeps hn)
theorem ax.lower {B B':Nat}{w:World}{t:Tm}{y:Value}(h:ax (B ≤ ·) w t y)(hB:B'≤B):ax (B' ≤ ·) w t y:=h.move (.weaken fun b hb _=>Nat.le_trans hB hb)
theorem ax.setB {B:Nat}{w:World}{t:Tm}{y:Value}(h:ax (B ≤ ·) w t y){p:Addr}(hp:p.block<B)(v:Value):ax (B ≤ ·) (w.setCell p v) t y:=
 h.move ⟨by simp[World.setCell],fun _ h _=>h,fun b hb _=>Below.heap_setCell w p v b (by omega)⟩
theorem ax.ne {B r:Nat}{w:World}{t:Tm}{y:Value}(h:ax (B ≤ ·) w t y)(hr:r<B):ax (· ≠ r) w t y:=h.move (.weaken fun b hb _=>by have:B≤b:=hb;omega)
def set9 (w:World)(b:Nat)(v0 v1 v2 v3 v4 v5 v6 v7 v8:Value):World:=(((((((((w.setCell ⟨b,0,none⟩ (v0)).setCell ⟨b,1,none⟩ (v1)).setCell ⟨b,2,none⟩ (v2)).setCell ⟨b,3,none⟩ (v3)).setCell ⟨b,4,none⟩ (v4)).setCell ⟨b,5,none⟩ (v5)).setCell ⟨b,6,none⟩ (v6)).setCell ⟨b,7,none⟩ (v7)).setCell ⟨b,8,none⟩ (v8))
theorem DTm.stored {r p q c m B R:Nat}{w w1:World}{t:Tm}{v:Value}{v0 v1 v2 v3 v4 v5 v6 v7 v8:Value}(hv:ax (B ≤ ·) w1 t v)(hm:t.cnt≤m)(hB:w.heap.size≤B)(hq:q≤p+c)(hrd:aQ w1 r q)(hch:Chg [r] w w1)(hR:w.heap.size≤R)(hRB:R<B)(hr:r<R) :
  DTm r p c m w (.returned v) (set9 w1 R v0 v1 v2 v3 v4 v5 v6 v7 v8):=by
 unfold set9
 exact⟨t,v,q,rfl,hm,((((((((((hv.setB (by show R<B;omega) _).setB (by show R<B;omega) _).setB (by show R<B;omega) _).setB (by show R<B;omega) _).setB (by show R<B;omega) _).setB (by show R<B;omega) _).setB (by show R<B;omega) _).setB (by show R<B;omega) _).setB (by show R<B;omega) _)).lower hB,hq,(((((((((hrd.setCell (by show r<R;omega) _).setCell (by show r<R;omega) _).setCell (by show r<R;omega) _).setCell (by show r<R;omega) _).setCell (by show r<R;omega) _).setCell (by show r<R;omega) _).setCell (by show r<R;omega) _).setCell (by show r<R;omega) _).setCell (by show r<R;omega) _),(((((((((hch.trans' (by show w.heap.size≤R;omega) _).trans' (by show w.heap.size≤R;omega) _).trans' (by show w.heap.size≤R;omega) _).trans' (by show w.heap.size≤R;omega) _).trans' (by show w.heap.size≤R;omega) _).trans' (by show w.heap.size≤R;omega) _).trans' (by show w.heap.size≤R;omega) _).trans' (by show w.heap.size≤R;omega) _).trans' (by show w.heap.size≤R;omega) _)⟩
theorem cS (n:Int)(w:World):Calls Tryz.prog 56 #[.int .i64 n] w fun e w'=>e = .returned (.agg #[.int .i64 2,.string {data:=#[]},.int .i64 n,.int .i64 0,.slice none 0 0,.int .i64 0,.slice none 0 0,.int .i64 0,.slice none 0 0])∧Below w.heap.size w w':=by
 go_enter Tryz.func56,Tryz.ntmps56
 go_wp2_with fail
 refine bodyPost_ret (v:=.agg #[.int .i64 2,.string {data:=#[]},.int .i64 n,.int .i64 0,.slice none 0 0,.int .i64 0,.slice none 0 0,.int .i64 0,.slice none 0 0]) (by simp[results,Tryz.results56,go_sem]) rfl ?_
 exact⟨rfl,ai⟩
theorem lO (r p:Nat)(s:ByteArray)(w:World)(h:aQ w r p)(hs:s.size≤1000)(hp:p≤1125899906842000):Calls Tryz.prog 113 #[.pointer (some ⟨r,0,none⟩),.string s] w (DTm r p 3 1 w):=by
 have hrl:=h.1
 rcases Nat.eq_zero_or_pos s.size with hz | hz
 ·have hd:decide ((s.size:Int)>0)=false:=by rw[decide_eq_false_iff_not];omega
  go_enter Tryz.func113,Tryz.ntmps113
  go_wp2_with fail
  refine(bo r (p) 5 _ (h.below ai) (by omega) (by omega)).mono ?_;rintro e w3 ⟨j3,rfl,j30,j31,hrd3,hc3⟩;have hw3:=hc3.size;simp only[World.size_alloc] at hw3;have hch3:=(Chg.of_below ai).trans hc3;have f0:w3.frozen? ⟨w.heap.size,0,none⟩=false:=aR hc3 (by omega) (az 0) (aV 0);have x0:w3.cell? ⟨w.heap.size,0,none⟩=some (.int .i64 0):=aK hc3 (by omega) (az 0);have f1:w3.frozen? ⟨w.heap.size,1,none⟩=false:=aR hc3 (by omega) (az 1) (aV 1);have x1:w3.cell? ⟨w.heap.size,1,none⟩=some (.string {data:=#[]}):=aK hc3 (by omega) (az 1);have f2:w3.frozen? ⟨w.heap.size,2,none⟩=false:=aR hc3 (by omega) (az 2) (aV 2);have x2:w3.cell? ⟨w.heap.size,2,none⟩=some (.int .i64 0):=aK hc3 (by omega) (az 2);have f3:w3.frozen? ⟨w.heap.size,3,none⟩=false:=aR hc3 (by omega) (az 3) (aV 3);have x3:w3.cell? ⟨w.heap.size,3,none⟩=some (.int .i64 0):=aK hc3 (by omega) (az 3);have f4:w3.frozen? ⟨w.heap.size,4,none⟩=false:=aR hc3 (by omega) (az 4) (aV 4);have x4:w3.cell? ⟨w.heap.size,4,none⟩=some (.slice none 0 0):=aK hc3 (by omega) (az 4);have f5:w3.frozen? ⟨w.heap.size,5,none⟩=false:=aR hc3 (by omega) (az 5) (aV 5);have x5:w3.cell? ⟨w.heap.size,5,none⟩=some (.int .i64 0):=aK hc3 (by omega) (az 5);have f6:w3.frozen? ⟨w.heap.size,6,none⟩=false:=aR hc3 (by omega) (az 6) (aV 6);have x6:w3.cell? ⟨w.heap.size,6,none⟩=some (.slice none 0 0):=aK hc3 (by omega) (az 6);have f7:w3.frozen? ⟨w.heap.size,7,none⟩=false:=aR hc3 (by omega) (az 7) (aV 7);have x7:w3.cell? ⟨w.heap.size,7,none⟩=some (.int .i64 0):=aK hc3 (by omega) (az 7);have f8:w3.frozen? ⟨w.heap.size,8,none⟩=false:=aR hc3 (by omega) (az 8) (aV 8);have x8:w3.cell? ⟨w.heap.size,8,none⟩=some (.slice none 0 0):=aK hc3 (by omega) (az 8)
  rcases Bool.eq_false_or_eq_true (j3==0) with q0 | q0
  ·go_wp2_with fail
   refine bodyPost_ret (v:=.agg #[.int .i64 3,.string {data:=#[]},.int .i64 0,.int .i64 0,.slice none 0 0,.int .i64 0,.slice none 0 0,.int .i64 0,.slice none 0 0]) (by simp[results,Tryz.results113,go_sem,x0,x1,x2,x3,x4,x5,x6,x7,x8]) rfl ?_
   exact DTm.stored (q:=p+1) (R:=w.heap.size) (B:=w.heap.size+1) (ax.leaf0 3 0 (by unfold maxLen;decide)) (by simp[Tm.cnt,Tm.cnts,Ty.cnt,Ty.cnts,ByteArray.size]) (by omega) (by omega) hrd3 hch3 (Nat.le_refl _) (by omega) hrl
  ·rcases Bool.eq_false_or_eq_true (j3==1) with q1 | q1
   ·go_wp2_with fail
    refine bodyPost_ret (v:=.agg #[.int .i64 4,.string {data:=#[]},.int .i64 0,.int .i64 0,.slice none 0 0,.int .i64 0,.slice none 0 0,.int .i64 0,.slice none 0 0]) (by simp[results,Tryz.results113,go_sem,x0,x1,x2,x3,x4,x5,x6,x7,x8]) rfl ?_
    exact DTm.stored (q:=p+1) (R:=w.heap.size) (B:=w.heap.size+1) (ax.leaf0 4 0 (by unfold maxLen;decide)) (by simp[Tm.cnt,Tm.cnts,Ty.cnt,Ty.cnts,ByteArray.size]) (by omega) (by omega) hrd3 hch3 (Nat.le_refl _) (by omega) hrl
   ·go_wp2_with fail
    refine(bJ (fun _=>True) r (p+1) _ 6 6 _ (hrd3.below ai) (by omega) (by omega) (by omega) (Nat.le_refl _) (by omega) (bp [1,0,2,5,999,7] rfl _ (fun _ _=>trivial))).mono ?_;rintro e w4 ⟨kn,rfl,-,hrd4,hc4⟩;have hw4:=hc4.size;simp only[World.size_alloc] at hw4;replace hch3:=(hch3.trans (Chg.of_below ai)).trans hc4;replace f0:w4.frozen? ⟨w.heap.size,0,none⟩=false:=aR hc4 (by omega) (ah ai x0) (aO ai x0 f0);replace x0:w4.cell? ⟨w.heap.size,0,none⟩=some (.int .i64 0):=aK hc4 (by omega) (ah ai x0);replace f1:w4.frozen? ⟨w.heap.size,1,none⟩=false:=aR hc4 (by omega) (ah ai x1) (aO ai x1 f1);replace x1:w4.cell? ⟨w.heap.size,1,none⟩=some (.string {data:=#[]}):=aK hc4 (by omega) (ah ai x1);replace f2:w4.frozen? ⟨w.heap.size,2,none⟩=false:=aR hc4 (by omega) (ah ai x2) (aO ai x2 f2);replace x2:w4.cell? ⟨w.heap.size,2,none⟩=some (.int .i64 0):=aK hc4 (by omega) (ah ai x2);replace f3:w4.frozen? ⟨w.heap.size,3,none⟩=false:=aR hc4 (by omega) (ah ai x3) (aO ai x3 f3);replace x3:w4.cell? ⟨w.heap.size,3,none⟩=some (.int .i64 0):=aK hc4 (by omega) (ah ai x3);replace f4:w4.frozen? ⟨w.heap.size,4,none⟩=false:=aR hc4 (by omega) (ah ai x4) (aO ai x4 f4);replace x4:w4.cell? ⟨w.heap.size,4,none⟩=some (.slice none 0 0):=aK hc4 (by omega) (ah ai x4);replace f5:w4.frozen? ⟨w.heap.size,5,none⟩=false:=aR hc4 (by omega) (ah ai x5) (aO ai x5 f5);replace x5:w4.cell? ⟨w.heap.size,5,none⟩=some (.int .i64 0):=aK hc4 (by omega) (ah ai x5);replace f6:w4.frozen? ⟨w.heap.size,6,none⟩=false:=aR hc4 (by omega) (ah ai x6) (aO ai x6 f6);replace x6:w4.cell? ⟨w.heap.size,6,none⟩=some (.slice none 0 0):=aK hc4 (by omega) (ah ai x6);replace f7:w4.frozen? ⟨w.heap.size,7,none⟩=false:=aR hc4 (by omega) (ah ai x7) (aO ai x7 f7);replace x7:w4.cell? ⟨w.heap.size,7,none⟩=some (.int .i64 0):=aK hc4 (by omega) (ah ai x7);replace f8:w4.frozen? ⟨w.heap.size,8,none⟩=false:=aR hc4 (by omega) (ah ai x8) (aO ai x8 f8);replace x8:w4.cell? ⟨w.heap.size,8,none⟩=some (.slice none 0 0):=aK hc4 (by omega) (ah ai x8)
    go_wp2_with fail
    refine(cS kn _).mono ?_;rintro e w5 ⟨rfl,hb5⟩;replace hch3:=hch3.trans (Chg.of_below hb5);have hrd5:=hrd4.below hb5;have hw5:=hb5.size;replace f0:w5.frozen? ⟨w.heap.size,0,none⟩=false:=aO hb5 x0 f0;replace x0:=ah hb5 x0;replace f1:w5.frozen? ⟨w.heap.size,1,none⟩=false:=aO hb5 x1 f1;replace x1:=ah hb5 x1;replace f2:w5.frozen? ⟨w.heap.size,2,none⟩=false:=aO hb5 x2 f2;replace x2:=ah hb5 x2;replace f3:w5.frozen? ⟨w.heap.size,3,none⟩=false:=aO hb5 x3 f3;replace x3:=ah hb5 x3;replace f4:w5.frozen? ⟨w.heap.size,4,none⟩=false:=aO hb5 x4 f4;replace x4:=ah hb5 x4;replace f5:w5.frozen? ⟨w.heap.size,5,none⟩=false:=aO hb5 x5 f5;replace x5:=ah hb5 x5;replace f6:w5.frozen? ⟨w.heap.size,6,none⟩=false:=aO hb5 x6 f6;replace x6:=ah hb5 x6;replace f7:w5.frozen? ⟨w.heap.size,7,none⟩=false:=aO hb5 x7 f7;replace x7:=ah hb5 x7;replace f8:w5.frozen? ⟨w.heap.size,8,none⟩=false:=aO hb5 x8 f8;replace x8:=ah hb5 x8
    go_wp2_with fail
    refine bodyPost_ret (v:=.agg #[.int .i64 2,.string {data:=#[]},.int .i64 kn,.int .i64 0,.slice none 0 0,.int .i64 0,.slice none 0 0,.int .i64 0,.slice none 0 0]) (by simp[results,Tryz.results113,go_sem,x0,x1,x2,x3,x4,x5,x6,x7,x8]) rfl ?_
    exact DTm.stored (q:=p+1+1) (R:=w.heap.size) (B:=w.heap.size+1) (ax.leaf0 2 kn (by unfold maxLen;decide)) (by simp[Tm.cnt,Tm.cnts,Ty.cnt,Ty.cnts,ByteArray.size]) (by omega) (by omega) hrd5 hch3 (Nat.le_refl _) (by omega) hrl
 ·have hd:decide ((s.size:Int)>0)=true:=by rw[decide_eq_true_eq];omega
  go_enter Tryz.func113,Tryz.ntmps113
  go_wp2_with fail
  refine(bo r p 4 _ (h.below ai) (by omega) (by omega)).mono ?_;rintro e w1 ⟨j1,rfl,j10,j11,hrd1,hc1⟩;have hw1:=hc1.size;simp only[World.size_alloc] at hw1;have hch:=(Chg.of_below ai).trans hc1;have f0:w1.frozen? ⟨w.heap.size,0,none⟩=false:=aR hc1 (by omega) (az 0) (aV 0);have x0:w1.cell? ⟨w.heap.size,0,none⟩=some (.int .i64 0):=aK hc1 (by omega) (az 0);have f1:w1.frozen? ⟨w.heap.size,1,none⟩=false:=aR hc1 (by omega) (az 1) (aV 1);have x1:w1.cell? ⟨w.heap.size,1,none⟩=some (.string {data:=#[]}):=aK hc1 (by omega) (az 1);have f2:w1.frozen? ⟨w.heap.size,2,none⟩=false:=aR hc1 (by omega) (az 2) (aV 2);have x2:w1.cell? ⟨w.heap.size,2,none⟩=some (.int .i64 0):=aK hc1 (by omega) (az 2);have f3:w1.frozen? ⟨w.heap.size,3,none⟩=false:=aR hc1 (by omega) (az 3) (aV 3);have x3:w1.cell? ⟨w.heap.size,3,none⟩=some (.int .i64 0):=aK hc1 (by omega) (az 3);have f4:w1.frozen? ⟨w.heap.size,4,none⟩=false:=aR hc1 (by omega) (az 4) (aV 4);have x4:w1.cell? ⟨w.heap.size,4,none⟩=some (.slice none 0 0):=aK hc1 (by omega) (az 4);have f5:w1.frozen? ⟨w.heap.size,5,none⟩=false:=aR hc1 (by omega) (az 5) (aV 5);have x5:w1.cell? ⟨w.heap.size,5,none⟩=some (.int .i64 0):=aK hc1 (by omega) (az 5);have f6:w1.frozen? ⟨w.heap.size,6,none⟩=false:=aR hc1 (by omega) (az 6) (aV 6);have x6:w1.cell? ⟨w.heap.size,6,none⟩=some (.slice none 0 0):=aK hc1 (by omega) (az 6);have f7:w1.frozen? ⟨w.heap.size,7,none⟩=false:=aR hc1 (by omega) (az 7) (aV 7);have x7:w1.cell? ⟨w.heap.size,7,none⟩=some (.int .i64 0):=aK hc1 (by omega) (az 7);have f8:w1.frozen? ⟨w.heap.size,8,none⟩=false:=aR hc1 (by omega) (az 8) (aV 8);have x8:w1.cell? ⟨w.heap.size,8,none⟩=some (.slice none 0 0):=aK hc1 (by omega) (az 8)
  by_cases hj:0<j1
  ·have hjd:decide (j1>0)=true:=by simpa using hj
   go_wp2_with fail
   refine(bo r (p+1) (s.size:Int) _ hrd1 (by omega) (by omega)).mono ?_;rintro e w2 ⟨j2,rfl,j20,j21,hrd2,hc2⟩;have hw2:=hc2.size;replace hch:=hch.trans hc2;replace f0:w2.frozen? ⟨w.heap.size,0,none⟩=false:=aR hc2 (by omega) x0 f0;replace x0:w2.cell? ⟨w.heap.size,0,none⟩=some (.int .i64 0):=aK hc2 (by omega) x0;replace f1:w2.frozen? ⟨w.heap.size,1,none⟩=false:=aR hc2 (by omega) x1 f1;replace x1:w2.cell? ⟨w.heap.size,1,none⟩=some (.string {data:=#[]}):=aK hc2 (by omega) x1;replace f2:w2.frozen? ⟨w.heap.size,2,none⟩=false:=aR hc2 (by omega) x2 f2;replace x2:w2.cell? ⟨w.heap.size,2,none⟩=some (.int .i64 0):=aK hc2 (by omega) x2;replace f3:w2.frozen? ⟨w.heap.size,3,none⟩=false:=aR hc2 (by omega) x3 f3;replace x3:w2.cell? ⟨w.heap.size,3,none⟩=some (.int .i64 0):=aK hc2 (by omega) x3;replace f4:w2.frozen? ⟨w.heap.size,4,none⟩=false:=aR hc2 (by omega) x4 f4;replace x4:w2.cell? ⟨w.heap.size,4,none⟩=some (.slice none 0 0):=aK hc2 (by omega) x4;replace f5:w2.frozen? ⟨w.heap.size,5,none⟩=false:=aR hc2 (by omega) x5 f5;replace x5:w2.cell? ⟨w.heap.size,5,none⟩=some (.int .i64 0):=aK hc2 (by omega) x5;replace f6:w2.frozen? ⟨w.heap.size,6,none⟩=false:=aR hc2 (by omega) x6 f6;replace x6:w2.cell? ⟨w.heap.size,6,none⟩=some (.slice none 0 0):=aK hc2 (by omega) x6;replace f7:w2.frozen? ⟨w.heap.size,7,none⟩=false:=aR hc2 (by omega) x7 f7;replace x7:w2.cell? ⟨w.heap.size,7,none⟩=some (.int .i64 0):=aK hc2 (by omega) x7;replace f8:w2.frozen? ⟨w.heap.size,8,none⟩=false:=aR hc2 (by omega) x8 f8;replace x8:w2.cell? ⟨w.heap.size,8,none⟩=some (.slice none 0 0):=aK hc2 (by omega) x8;obtain⟨j,rfl⟩:=Int.eq_ofNat_of_zero_le j20;have hjs:j<s.size:=by omega
   have i1:=IntWalk.i64_in ((j:Int)+1) (by omega);have hne:(s.extract j (j+1)).size≤1:=by rw[ByteArray.size_extract];omega
   go_wp2_with fail
   refine bodyPost_ret (v:=.agg #[.int .i64 1,.string (s.extract j (j+1)),.int .i64 0,.int .i64 0,.slice none 0 0,.int .i64 0,.slice none 0 0,.int .i64 0,.slice none 0 0]) (by simp[results,Tryz.results113,go_sem,x0,x1,x2,x3,x4,x5,x6,x7,x8]) rfl ?_
   exact DTm.stored (q:=p+1+1) (R:=w.heap.size) (B:=w.heap.size+1) (ax.leaf0 1 0 (by unfold maxLen;omega)) (by simp only[Tm.cnt,Tm.cnts,Ty.cnt,Ty.cnts,List.length_nil];omega) (by omega) (by omega) hrd2 hch (Nat.le_refl _) (by omega) hrl
  ·have hjd:decide (j1>0)=false:=by simpa using hj
   go_wp2_with fail
   refine(bo r (p+1) 5 _ hrd1 (by omega) (by omega)).mono ?_;rintro e w3 ⟨j3,rfl,j30,j31,hrd3,hc3⟩;have hw3:=hc3.size;have hch3:=hch.trans hc3;replace f0:w3.frozen? ⟨w.heap.size,0,none⟩=false:=aR hc3 (by omega) x0 f0;replace x0:w3.cell? ⟨w.heap.size,0,none⟩=some (.int .i64 0):=aK hc3 (by omega) x0;replace f1:w3.frozen? ⟨w.heap.size,1,none⟩=false:=aR hc3 (by omega) x1 f1;replace x1:w3.cell? ⟨w.heap.size,1,none⟩=some (.string {data:=#[]}):=aK hc3 (by omega) x1;replace f2:w3.frozen? ⟨w.heap.size,2,none⟩=false:=aR hc3 (by omega) x2 f2;replace x2:w3.cell? ⟨w.heap.size,2,none⟩=some (.int .i64 0):=aK hc3 (by omega) x2;replace f3:w3.frozen? ⟨w.heap.size,3,none⟩=false:=aR hc3 (by omega) x3 f3;replace x3:w3.cell? ⟨w.heap.size,3,none⟩=some (.int .i64 0):=aK hc3 (by omega) x3;replace f4:w3.frozen? ⟨w.heap.size,4,none⟩=false:=aR hc3 (by omega) x4 f4;replace x4:w3.cell? ⟨w.heap.size,4,none⟩=some (.slice none 0 0):=aK hc3 (by omega) x4;replace f5:w3.frozen? ⟨w.heap.size,5,none⟩=false:=aR hc3 (by omega) x5 f5;replace x5:w3.cell? ⟨w.heap.size,5,none⟩=some (.int .i64 0):=aK hc3 (by omega) x5;replace f6:w3.frozen? ⟨w.heap.size,6,none⟩=false:=aR hc3 (by omega) x6 f6;replace x6:w3.cell? ⟨w.heap.size,6,none⟩=some (.slice none 0 0):=aK hc3 (by omega) x6;replace f7:w3.frozen? ⟨w.heap.size,7,none⟩=false:=aR hc3 (by omega) x7 f7;replace x7:w3.cell? ⟨w.heap.size,7,none⟩=some (.int .i64 0):=aK hc3 (by omega) x7;replace f8:w3.frozen? ⟨w.heap.size,8,none⟩=false:=aR hc3 (by omega) x8 f8;replace x8:w3.cell? ⟨w.heap.size,8,none⟩=some (.slice none 0 0):=aK hc3 (by omega) x8
   rcases Bool.eq_false_or_eq_true (j3==0) with q0 | q0
   ·go_wp2_with fail
    refine bodyPost_ret (v:=.agg #[.int .i64 3,.string {data:=#[]},.int .i64 0,.int .i64 0,.slice none 0 0,.int .i64 0,.slice none 0 0,.int .i64 0,.slice none 0 0]) (by simp[results,Tryz.results113,go_sem,x0,x1,x2,x3,x4,x5,x6,x7,x8]) rfl ?_
    exact DTm.stored (q:=p+1+1) (R:=w.heap.size) (B:=w.heap.size+1) (ax.leaf0 3 0 (by unfold maxLen;decide)) (by simp[Tm.cnt,Tm.cnts,Ty.cnt,Ty.cnts,ByteArray.size]) (by omega) (by omega) hrd3 hch3 (Nat.le_refl _) (by omega) hrl
   ·rcases Bool.eq_false_or_eq_true (j3==1) with q1 | q1
    ·go_wp2_with fail
     refine bodyPost_ret (v:=.agg #[.int .i64 4,.string {data:=#[]},.int .i64 0,.int .i64 0,.slice none 0 0,.int .i64 0,.slice none 0 0,.int .i64 0,.slice none 0 0]) (by simp[results,Tryz.results113,go_sem,x0,x1,x2,x3,x4,x5,x6,x7,x8]) rfl ?_
     exact DTm.stored (q:=p+1+1) (R:=w.heap.size) (B:=w.heap.size+1) (ax.leaf0 4 0 (by unfold maxLen;decide)) (by simp[Tm.cnt,Tm.cnts,Ty.cnt,Ty.cnts,ByteArray.size]) (by omega) (by omega) hrd3 hch3 (Nat.le_refl _) (by omega) hrl
    ·go_wp2_with fail
     refine(bJ (fun _=>True) r (p+1+1) _ 6 6 _ (hrd3.below ai) (by omega) (by omega) (by omega) (Nat.le_refl _) (by omega) (bp [1,0,2,5,999,7] rfl _ (fun _ _=>trivial))).mono ?_;rintro e w4 ⟨kn,rfl,-,hrd4,hc4⟩;have hw4:=hc4.size;simp only[World.size_alloc] at hw4;replace hch3:=(hch3.trans (Chg.of_below ai)).trans hc4;replace f0:w4.frozen? ⟨w.heap.size,0,none⟩=false:=aR hc4 (by omega) (ah ai x0) (aO ai x0 f0);replace x0:w4.cell? ⟨w.heap.size,0,none⟩=some (.int .i64 0):=aK hc4 (by omega) (ah ai x0);replace f1:w4.frozen? ⟨w.heap.size,1,none⟩=false:=aR hc4 (by omega) (ah ai x1) (aO ai x1 f1);replace x1:w4.cell? ⟨w.heap.size,1,none⟩=some (.string {data:=#[]}):=aK hc4 (by omega) (ah ai x1);replace f2:w4.frozen? ⟨w.heap.size,2,none⟩=false:=aR hc4 (by omega) (ah ai x2) (aO ai x2 f2);replace x2:w4.cell? ⟨w.heap.size,2,none⟩=some (.int .i64 0):=aK hc4 (by omega) (ah ai x2);replace f3:w4.frozen? ⟨w.heap.size,3,none⟩=false:=aR hc4 (by omega) (ah ai x3) (aO ai x3 f3);replace x3:w4.cell? ⟨w.heap.size,3,none⟩=some (.int .i64 0):=aK hc4 (by omega) (ah ai x3);replace f4:w4.frozen? ⟨w.heap.size,4,none⟩=false:=aR hc4 (by omega) (ah ai x4) (aO ai x4 f4);replace x4:w4.cell? ⟨w.heap.size,4,none⟩=some (.slice none 0 0):=aK hc4 (by omega) (ah ai x4);replace f5:w4.frozen? ⟨w.heap.size,5,none⟩=false:=aR hc4 (by omega) (ah ai x5) (aO ai x5 f5);replace x5:w4.cell? ⟨w.heap.size,5,none⟩=some (.int .i64 0):=aK hc4 (by omega) (ah ai x5);replace f6:w4.frozen? ⟨w.heap.size,6,none⟩=false:=aR hc4 (by omega) (ah ai x6) (aO ai x6 f6);replace x6:w4.cell? ⟨w.heap.size,6,none⟩=some (.slice none 0 0):=aK hc4 (by omega) (ah ai x6);replace f7:w4.frozen? ⟨w.heap.size,7,none⟩=false:=aR hc4 (by omega) (ah ai x7) (aO ai x7 f7);replace x7:w4.cell? ⟨w.heap.size,7,none⟩=some (.int .i64 0):=aK hc4 (by omega) (ah ai x7);replace f8:w4.frozen? ⟨w.heap.size,8,none⟩=false:=aR hc4 (by omega) (ah ai x8) (aO ai x8 f8);replace x8:w4.cell? ⟨w.heap.size,8,none⟩=some (.slice none 0 0):=aK hc4 (by omega) (ah ai x8)
     go_wp2_with fail
     refine(cS kn _).mono ?_;rintro e w5 ⟨rfl,hb5⟩;replace hch3:=hch3.trans (Chg.of_below hb5);have hrd5:=hrd4.below hb5;have hw5:=hb5.size;replace f0:w5.frozen? ⟨w.heap.size,0,none⟩=false:=aO hb5 x0 f0;replace x0:=ah hb5 x0;replace f1:w5.frozen? ⟨w.heap.size,1,none⟩=false:=aO hb5 x1 f1;replace x1:=ah hb5 x1;replace f2:w5.frozen? ⟨w.heap.size,2,none⟩=false:=aO hb5 x2 f2;replace x2:=ah hb5 x2;replace f3:w5.frozen? ⟨w.heap.size,3,none⟩=false:=aO hb5 x3 f3;replace x3:=ah hb5 x3;replace f4:w5.frozen? ⟨w.heap.size,4,none⟩=false:=aO hb5 x4 f4;replace x4:=ah hb5 x4;replace f5:w5.frozen? ⟨w.heap.size,5,none⟩=false:=aO hb5 x5 f5;replace x5:=ah hb5 x5;replace f6:w5.frozen? ⟨w.heap.size,6,none⟩=false:=aO hb5 x6 f6;replace x6:=ah hb5 x6;replace f7:w5.frozen? ⟨w.heap.size,7,none⟩=false:=aO hb5 x7 f7;replace x7:=ah hb5 x7;replace f8:w5.frozen? ⟨w.heap.size,8,none⟩=false:=aO hb5 x8 f8;replace x8:=ah hb5 x8
     go_wp2_with fail
     refine bodyPost_ret (v:=.agg #[.int .i64 2,.string {data:=#[]},.int .i64 kn,.int .i64 0,.slice none 0 0,.int .i64 0,.slice none 0 0,.int .i64 0,.slice none 0 0]) (by simp[results,Tryz.results113,go_sem,x0,x1,x2,x3,x4,x5,x6,x7,x8]) rfl ?_
     exact DTm.stored (q:=p+1+1+1) (R:=w.heap.size) (B:=w.heap.size+1) (ax.leaf0 2 kn (by unfold maxLen;decide)) (by simp[Tm.cnt,Tm.cnts,Ty.cnt,Ty.cnts,ByteArray.size]) (by omega) (by omega) hrd5 hch3 (Nat.le_refl _) (by omega) hrl
def DrawV (D:Int)(r p c m:Nat)(w:World)(e:Ending)(w':World):Prop:=∃(t:Ty) (v:Value) (q:Nat),e = .returned v∧(t.cnt+2≤m∧t.shape D=true)∧bh w.heap.size w' t v∧q≤p+c∧aQ w' r q∧Chg [r] w w'
def DTV (r p:Nat)(w:World)(e:Ending)(w':World):Prop:=∃(t:Ty) (v:Value) (q:Nat),e = .returned v∧t.valid=true∧ao (w.heap.size ≤ ·) w' t v∧q≤p+200∧aQ w' r q∧Chg [r] w w'
theorem Ty.shapes_snoc : ∀ {ts:List Ty} {t:Ty} {d:Int},Ty.shapes ts d=true→t.shape d=true→Ty.shapes (ts ++ [t]) d=true
 | [],t,d,_,h=>by simp[Ty.shapes,h]
 | u :: us,t,d,h0,h=>by
  simp only[Ty.shapes,Bool.and_eq_true,List.cons_append] at h0 ⊢
  exact⟨h0.1,Ty.shapes_snoc h0.2 h⟩
theorem Ty.shape_of {k:Int}{ts:List Ty}{d:Int}(hd:1≤d)(hk:bx k=ts.length)(h:Ty.shapes ts (d-1)=true):(Ty.mk k ts).shape d=true:=by
 unfold Ty.shape;rw[h]
 simp[hd,hk]
theorem Ty.shape_le {t:Ty}{d e:Int}(h:t.shape d=true)(hd:d≤e):t.shape e=true:=by
 obtain⟨s,rfl⟩:=Ty.shape_S t d h;rw[S.shape] at h ⊢;simp only[Bool.and_eq_true,decide_eq_true_eq] at h ⊢
 exact⟨h.1,by omega⟩
theorem fQ (d:Nat) : ∀(r p:Nat) (w:World),1≤d→d≤8→aQ w r p→p+2 ^ d≤1125899906842000 →
  Calls Tryz.prog 52 #[.pointer (some ⟨r,0,none⟩),.int .i64 (d:Int)] w (DrawV (d:Int) r p (2 ^ d-1) (2 ^ d) w):=by
 intro r p w hd1 hd8 hrd0 hp;have IH:2≤d→∀(p:Nat) (W:World),aQ W r p→p+2 ^ (d-1)≤1125899906842000→Calls Tryz.prog 52 #[.pointer (some ⟨r,0,none⟩),.int .i64 ((d:Int)-1)] W (DrawV ((d:Int)-1) r p (2 ^ (d-1)-1) (2 ^ (d-1)) W):=by
  intro h2 p W a b;have h:=fQ (d-1) r p W (by omega) (by omega) a b;rw[show((d-1:Nat):Int)=(d:Int)-1 from by omega] at h
  exact h
 have hpw:2≤d→2 ^ d=2*2 ^ (d-1):=fun h=>by
  obtain⟨e,rfl⟩ : ∃e,d=e+1:=⟨d-1,by omega⟩
  simp[Nat.pow_succ];omega
 have hp1:1≤2 ^ (d-1):=Nat.one_le_two_pow;have hp2:2≤2 ^ d:=by have:2 ^ 1≤2 ^ d:=Nat.pow_le_pow_right (by omega) hd1;omega
 have hp8:2 ^ (d-1)≤128:=by have:2 ^ (d-1)≤2 ^ 7:=Nat.pow_le_pow_right (by omega) (by omega);omega
 generalize 2 ^ (d-1)=m at *;generalize 2 ^ d=M at *;obtain⟨c,rfl⟩ : ∃c,m=c+1:=⟨m-1,by omega⟩
 have IHH:=zq IH;have HPW:=zq hpw;clear IH hpw;obtain⟨i0,hi,hz0,hz1,hz2⟩:=info_parts Tryz.infoTy;have Z0:=zq hz0;have Z1:=zq hz1;have Z2:=zq hz2;have HI:=zq hi;clear hz0 hz1 hz2 hi;have hrl0:=hrd0.1
 go_enter Tryz.func52,Tryz.ntmps52
 go_wp2_with fail
 refine(bJ (fun k=>1≤k∧k≤5) r p _ 7 7 _ (hrd0.below aT) (by omega) (by omega) (by omega) (Nat.le_refl _) (by omega) (bp [2,1,4,3,5,2,4] (by simp) _ (by decide))).mono ?_;rintro e w1 ⟨k,rfl,⟨k1,k5⟩,hrd1,hch1⟩;have hw1:w.heap.size+2≤w1.heap.size:=by have:=hch1.size;simp at this;omega
 have hch0:Chg [r] w w1:=(Chg.of_below aT).trans hch1;have x0:w1.cell? ⟨w.heap.size,0,none⟩=some (.int .i64 0):=hch1.cellne (by show w.heap.size≠r;omega) (ah ai (az 0));have x1:w1.cell? ⟨w.heap.size,1,none⟩=some (.slice none 0 0):=hch1.cellne (by show w.heap.size≠r;omega) (ah ai (az 1));have xf : ∀o,w1.frozen? ⟨w.heap.size,o,none⟩=false:=fun o=>(hch1.frone (by omega) (by simp;omega)).trans (cC ai (by simp) (aV o));have HXF:=zq xf;clear xf
 by_cases hA:d<2∧4≤k
 ·have hc1:decide ((d:Int)<2)=true:=by simp;omega
  have hc2:decide (k≥4)=true:=by simp;omega
  have HTK:=zq (show bx 1=((0:Nat):Int) by rfl);have HCAP:=zq (show(0:Nat)≤2 by omega)
  go_wp2_with fail
  go_loopw [7] (fun i wr=>∃j:Nat,j≤0∧i = .int .i64 j∧Chg [r] w wr∧w1.heap.size<wr.heap.size∧(∃u,wr.cell? ⟨w.heap.size,0,none⟩=some u)∧(∃u,wr.cell? ⟨w.heap.size,1,none⟩=some u) ∧
      (∀o,wr.frozen? ⟨w.heap.size,o,none⟩=false)∧(∀o,wr.frozen? ⟨w1.heap.size,o,none⟩=false)∧wr.cell? ⟨w1.heap.size,0,none⟩=some (.int .i64 1) ∧
      ∃(ts:List Ty) (q:Nat),ts.length=j∧Hid (Ty.cnts ts+2*j≤j*(c+1)∧Ty.shapes ts ((d:Int)-1)=true)∧q≤p+1+j*c∧aQ wr r q∧∃v,wr.cell? ⟨w1.heap.size,1,none⟩=some v∧aL (w1.heap.size+1) 25 2 wr v j (Ty.rows ts)) (fun i _=>0-(intOf i).toNat)
  case atStart=>exact⟨0,by omega,rfl,hch0.trans (Chg.of_below ai),by simp,⟨_,ah ai x0⟩,⟨_,ah ai x1⟩,fun o=>cC ai (by omega) (HXF.out o),fun o=>aV o,az 0,[],_,rfl,by simp[Hid,Ty.cnts,Ty.shapes],by first | omega | (simp[Ty.cnts];omega),hrd1.below ai,.slice none 0 0,az 1,by simpa [Ty.rows] using aL.nil _ _ _ _⟩
  case round=>
   obtain⟨j,hj,rfl,hbw,hsz,⟨u0,hu0⟩,⟨u1,hu1⟩,hf1,hf2,hk0,ts,q,hts,hbs,hq,hrd,v,hv,hacc⟩:=hrel;have hrl:=hrd.1;have hj0:j=0:=by omega
   have hlt : ¬j<0:=by omega
   ·obtain⟨cv,qv,rfl⟩:=hacc.shape
    have f0:=hf1 0;have f1:=hf1 1
    go_wp2_with fail
    refine(bU 1 _).mono ?_;rintro e w' ⟨rfl,rfl⟩;rw[HTK.out]
    go_wp2_with fail
    refine bodyPost_ret (v:=.agg #[.int .i64 1,.slice cv j qv]) (by simp[results,Tryz.results52,go_sem,hu0,hu1];omega) rfl ?_;have hjn:j=0:=by omega
    rw[hjn] at hts hbs hq;have hb0:=hbs.out.1;have hsh:=hbs.out.2;refine⟨.mk 1 ts,_,q,rfl,?_,bh.mono (bg.ty ((hacc.tys.setCell (by show w.heap.size<w1.heap.size+1;omega) _).setCell (by show w.heap.size<w1.heap.size+1;omega) _)) (by omega),?_,(hrd.setCell (by show r<w.heap.size;omega) _).setCell (by show r<w.heap.size;omega) _,(hbw.trans' (Nat.le_refl _) _).trans' (Nat.le_refl _) _⟩
    ·refine⟨?_,Ty.shape_of (by omega) (by rw[HTK.out,hts]) hsh⟩
     simp only[Ty.cnt,hts]
     simp at hb0 hq ⊢;omega
    ·simp at hb0 hq ⊢;omega
 ·obtain⟨n,hn⟩ : ∃n:Nat,bx k=n:=⟨(bx k).toNat,by unfold bx;split;rfl;split;rfl;omega⟩
  have hn2:n≤2:=by have:=lf k;omega
  have hd2:0<n→2≤d:=by intro h;unfold bx at hn;split at hn;omega;omega
  have HTK:=zq hn;have HCAP:=zq hn2;clear hn
  by_cases hc:d<2
  ·have hc1:decide ((d:Int)<2)=true:=by simp;omega
   have hc2:decide (k≥4)=false:=by simp;omega
   go_wp2_with fail
   go_loopw [7] (fun i wr=>∃j:Nat,j≤n∧i = .int .i64 j∧Chg [r] w wr∧w1.heap.size<wr.heap.size∧(∃u,wr.cell? ⟨w.heap.size,0,none⟩=some u)∧(∃u,wr.cell? ⟨w.heap.size,1,none⟩=some u) ∧
       (∀o,wr.frozen? ⟨w.heap.size,o,none⟩=false)∧(∀o,wr.frozen? ⟨w1.heap.size,o,none⟩=false)∧wr.cell? ⟨w1.heap.size,0,none⟩=some (.int .i64 k) ∧
       ∃(ts:List Ty) (q:Nat),ts.length=j∧Hid (Ty.cnts ts+2*j≤j*(c+1)∧Ty.shapes ts ((d:Int)-1)=true)∧q≤p+1+j*c∧aQ wr r q∧∃v,wr.cell? ⟨w1.heap.size,1,none⟩=some v∧aL (w1.heap.size+1) 25 2 wr v j (Ty.rows ts)) (fun i _=>n-(intOf i).toNat)
   case atStart=>exact⟨0,by omega,rfl,hch0.trans (Chg.of_below ai),by simp,⟨_,ah ai x0⟩,⟨_,ah ai x1⟩,fun o=>cC ai (by omega) (HXF.out o),fun o=>aV o,az 0,[],_,rfl,by simp[Hid,Ty.cnts,Ty.shapes],by first | omega | (simp[Ty.cnts];omega),hrd1.below ai,.slice none 0 0,az 1,by simpa [Ty.rows] using aL.nil _ _ _ _⟩
   case round=>
    obtain⟨j,hj,rfl,hbw,hsz,⟨u0,hu0⟩,⟨u1,hu1⟩,hf1,hf2,hk0,ts,q,hts,hbs,hq,hrd,v,hv,hacc⟩:=hrel;have hrl:=hrd.1
    by_cases hlt:j<n
    ·have HD2:=zq (hd2 (by omega))
     have HQB:=zq (show q+(c+1)≤1125899906842000 by have:=HPW.out HD2.out;have:j*c≤1*c:=Nat.mul_le_mul_right _ (by omega);omega);have hwr:IntKind.i64.wrap ((d:Int)-1)=(d:Int)-1:=IntWalk.i64_in _ (by omega);obtain⟨xs,fps,ho,hl,hs,hd,hfp⟩:=hacc;have HO:=zq ho;have HS:=zq hs;have HD:=zq hd;have HFP:=zq hfp;have HL:=zq hl;have HTS:=zq hts;clear ho hs hd hfp hl hts;obtain⟨cv,qv,rfl⟩ : ∃c q,v = .slice c j q:=by
      rcases HO.out.2 with ⟨h,h0⟩ | ⟨g,cap,cur,h,_⟩
      ·exact⟨none,0,by rw[h,h0]⟩
      ·exact⟨_,cap,h⟩
     go_wp2_with fail
     refine(bU k _).mono ?_;rintro e w' ⟨rfl,rfl⟩;rw[HTK.out]
     go_wp2_with fail
     have hB3:w1.heap.size+1≤wr.heap.size:=by omega
     go_region_law (first
       | (go_simp;go_at_call 52;(with_reducible refine(IHH.out HD2.out q _ (hrd.below bdr) HQB.out).mono ?_);rintro e wc1 ⟨s1,v1,q1,rfl,hsc,hv1,hq1,hrd1,hch1⟩;obtain⟨k1,c1,m1,qq1,fp1,rfl,-,-,hs1,hd1,hx1⟩:=hv1.open;have hC1:=(Chg.of_below bdr).trans hch1;have hbz:=hch1.size;have hq1c:wc1.cell? ⟨w1.heap.size,1,none⟩=some (.slice cv j qv):=hC1.cellne (by show w1.heap.size≠r;omega) hv;have hl1:w1.heap.size<wc1.heap.size:=World.block_lt_of_cell? _ _ hq1c)
       | (refine step_append_lies _ (by rfl) (.tmp 26) (.tmp 31) 23 (by rfl) (w1.heap.size+1) 25 i0 _ 2 32 Tryz.underlying23 HI.out Z0.out Z1.out Z2.out rfl (by omega) (.slice cv j qv) j xs (by rfl) (bZ HO.out (hC1.trans (Chg.of_below ai)) (by omega))
           ⟨wc1.heap.size,0,none⟩ 1 1 [.int .i64 k1,.slice c1 m1 qq1] (by rfl) (by rfl) (World.news_of_block (cs:=#[.int .i64 k1,.slice c1 m1 qq1]) (t:=25) (fr:=(0,0)) (heap_alloc_new wc1 _)) (by simp[Value.oneCell'])
           (by omega) (by have:=HCAP.out;unfold maxLen;omega) (by have:=HCAP.out;omega) (by simp at hbz ⊢;omega) _ rfl ?_
          intro gg cap2 w2 hown2 hgrow hat hlt2;have hC2:=hC1.trans (Chg.of_below (ai (o:=.cells #[.int .i64 k1,.slice c1 m1 qq1] 25)));have hfar:=dQ hC2 HO.out hgrow;have hq:w2.cell? ⟨w1.heap.size,1,none⟩=some (.slice cv j qv):=(World.cell?_of_block (a:=⟨w1.heap.size,1,none⟩) (hfar (w1.heap.size) (by omega) (by omega) (by omega))).trans hv;have hqf:w2.frozen? ⟨w1.heap.size,1,none⟩=false:=(World.frozen?_of_block (a:=⟨w1.heap.size,1,none⟩) (hfar (w1.heap.size) (by omega) (by omega) (by omega))).trans (hf2 _);have HFAR:=zq hfar;have hacc2:=aL.pushC HL.out HO.out HS.out HD.out HFP.out hB3 (by omega) hC2 (by simp) (hs1.move _ _ _ fun b hb=>heap_alloc_old wc1 _ (bf.lt _ _ _ hs1 b hb)) hd1 hx1 hown2 hgrow hat;have HACC:=zq hacc2;have HBEL:=zq (dC hbw hC2 HO.out (by have:=hbw.size;omega) hgrow);have HRD:=zq (aQ.grown (hrd1.below ai) HO.out (by omega) hgrow);have hsz2:wr.heap.size≤w2.heap.size:=Nat.le_trans hC2.size hgrow.size;clear hfar hacc2 hown2 hgrow hat hq1c hC1 hC2 hrd1))
     all_goals
      go_wp2_with fail
      go_roundw
      case rel=>
       have c1:(w2.setCell ⟨w1.heap.size,1,none⟩ (.slice (some ⟨gg,0,none⟩) (j+1) cap2)).heap[w.heap.size]?=wr.heap[w.heap.size]?:=
        (Below.heap_setCell w2 ⟨w1.heap.size,1,none⟩ _ _ (by show w.heap.size≠w1.heap.size;omega)).trans (HFAR.out (w.heap.size) (by omega) (by omega) (by omega))
       have hk2:=(World.cell?_of_block (a:=⟨w1.heap.size,0,none⟩) (HFAR.out (w1.heap.size) (by omega) (by omega) (by omega))).trans hk0;have hf4:=fun o=>(World.frozen?_of_block (a:=⟨w1.heap.size,o,none⟩) (HFAR.out (w1.heap.size) (by omega) (by omega) (by omega))).trans (hf2 o);have hbel2:Chg [r] w (w2.setCell ⟨w1.heap.size,1,none⟩ (.slice (some ⟨gg,0,none⟩) (j+1) cap2)):=
        HBEL.out.trans' (by show w.heap.size≤w1.heap.size;omega) _
       refine⟨j+1,by omega,by go_num,hbel2,by simp[World.setCell];omega,⟨u0,(World.cell?_of_block (a:=⟨w.heap.size,0,none⟩) c1).trans hu0⟩,⟨u1,(World.cell?_of_block (a:=⟨w.heap.size,1,none⟩) c1).trans hu1⟩,
         fun o=>(World.frozen?_of_block (a:=⟨w.heap.size,o,none⟩) c1).trans (hf1 o),fun o=>(dK _ _ _ _).trans (hf4 o),cA hk2 (by simp),ts ++ [s1],q1,by simp[HTS.out],zq ⟨by have:=hbs.out.1;have:=hsc.1;rw[Ty.cnts_append,Nat.add_mul];simp only[Ty.cnts];omega,Ty.shapes_snoc hbs.out.2 hsc.2⟩,by rw[Nat.add_mul];omega,HRD.out.setCell (by show r<w1.heap.size;omega) _,_,bE hq,?_⟩
       have h:=HACC.out.setCell (p:=⟨w1.heap.size,1,none⟩) (by show w1.heap.size<w1.heap.size+1;omega) (.slice (some ⟨gg,0,none⟩) (j+1) cap2);rw[Ty.rows_eq] at h ⊢;simp only[List.map_append,List.map_cons,List.map_nil]
       exact h
      case measure=>simp[intOf];omega
    ·obtain⟨cv,qv,rfl⟩:=hacc.shape
     have f0:=hf1 0;have f1:=hf1 1
     go_wp2_with fail
     refine(bU k _).mono ?_;rintro e w' ⟨rfl,rfl⟩;rw[HTK.out]
     go_wp2_with fail
     refine bodyPost_ret (v:=.agg #[.int .i64 k,.slice cv j qv]) (by simp[results,Tryz.results52,go_sem,hu0,hu1]) rfl ?_;have hjn:j=n:=by omega
     rw[hjn] at hts hbs hq;have hb0:=hbs.out.1;have hsh:=hbs.out.2;refine⟨.mk k ts,_,q,rfl,?_,bh.mono (bg.ty ((hacc.tys.setCell (by show w.heap.size<w1.heap.size+1;omega) _).setCell (by show w.heap.size<w1.heap.size+1;omega) _)) (by omega),?_,(hrd.setCell (by show r<w.heap.size;omega) _).setCell (by show r<w.heap.size;omega) _,(hbw.trans' (Nat.le_refl _) _).trans' (Nat.le_refl _) _⟩
     ·refine⟨?_,Ty.shape_of (by omega) (by rw[HTK.out,hts]) hsh⟩
      simp only[Ty.cnt,hts]
      rcases(show n=0∨n=1∨n=2 by omega) with rfl | rfl | rfl
      ·simp at hb0 hq ⊢;omega
      ·have h2:=hd2 (by omega)
       have:=HPW.out h2;simp at hb0 hq ⊢;omega
      ·have h2:=hd2 (by omega)
       have:=HPW.out h2;simp at hb0 hq ⊢;omega
     ·rcases(show n=0∨n=1∨n=2 by omega) with rfl | rfl | rfl
      ·simp at hb0 hq ⊢;omega
      ·have h2:=hd2 (by omega)
       have:=HPW.out h2;simp at hb0 hq ⊢;omega
      ·have h2:=hd2 (by omega)
       have:=HPW.out h2;simp at hb0 hq ⊢;omega
  ·have hc1:decide ((d:Int)<2)=false:=by simp;omega
   go_wp2_with fail
   go_loopw [7] (fun i wr=>∃j:Nat,j≤n∧i = .int .i64 j∧Chg [r] w wr∧w1.heap.size<wr.heap.size∧(∃u,wr.cell? ⟨w.heap.size,0,none⟩=some u)∧(∃u,wr.cell? ⟨w.heap.size,1,none⟩=some u) ∧
       (∀o,wr.frozen? ⟨w.heap.size,o,none⟩=false)∧(∀o,wr.frozen? ⟨w1.heap.size,o,none⟩=false)∧wr.cell? ⟨w1.heap.size,0,none⟩=some (.int .i64 k) ∧
       ∃(ts:List Ty) (q:Nat),ts.length=j∧Hid (Ty.cnts ts+2*j≤j*(c+1)∧Ty.shapes ts ((d:Int)-1)=true)∧q≤p+1+j*c∧aQ wr r q∧∃v,wr.cell? ⟨w1.heap.size,1,none⟩=some v∧aL (w1.heap.size+1) 25 2 wr v j (Ty.rows ts)) (fun i _=>n-(intOf i).toNat)
   case atStart=>exact⟨0,by omega,rfl,hch0.trans (Chg.of_below ai),by simp,⟨_,ah ai x0⟩,⟨_,ah ai x1⟩,fun o=>cC ai (by omega) (HXF.out o),fun o=>aV o,az 0,[],_,rfl,by simp[Hid,Ty.cnts,Ty.shapes],by first | omega | (simp[Ty.cnts];omega),hrd1.below ai,.slice none 0 0,az 1,by simpa [Ty.rows] using aL.nil _ _ _ _⟩
   case round=>
    obtain⟨j,hj,rfl,hbw,hsz,⟨u0,hu0⟩,⟨u1,hu1⟩,hf1,hf2,hk0,ts,q,hts,hbs,hq,hrd,v,hv,hacc⟩:=hrel;have hrl:=hrd.1
    by_cases hlt:j<n
    ·have HD2:=zq (hd2 (by omega))
     have HQB:=zq (show q+(c+1)≤1125899906842000 by have:=HPW.out HD2.out;have:j*c≤1*c:=Nat.mul_le_mul_right _ (by omega);omega);have hwr:IntKind.i64.wrap ((d:Int)-1)=(d:Int)-1:=IntWalk.i64_in _ (by omega);obtain⟨xs,fps,ho,hl,hs,hd,hfp⟩:=hacc;have HO:=zq ho;have HS:=zq hs;have HD:=zq hd;have HFP:=zq hfp;have HL:=zq hl;have HTS:=zq hts;clear ho hs hd hfp hl hts;obtain⟨cv,qv,rfl⟩ : ∃c q,v = .slice c j q:=by
      rcases HO.out.2 with ⟨h,h0⟩ | ⟨g,cap,cur,h,_⟩
      ·exact⟨none,0,by rw[h,h0]⟩
      ·exact⟨_,cap,h⟩
     go_wp2_with fail
     refine(bU k _).mono ?_;rintro e w' ⟨rfl,rfl⟩;rw[HTK.out]
     go_wp2_with fail
     have hB3:w1.heap.size+1≤wr.heap.size:=by omega
     go_region_law (first
       | (go_simp;go_at_call 52;(with_reducible refine(IHH.out HD2.out q _ (hrd.below bdr) HQB.out).mono ?_);rintro e wc1 ⟨s1,v1,q1,rfl,hsc,hv1,hq1,hrd1,hch1⟩;obtain⟨k1,c1,m1,qq1,fp1,rfl,-,-,hs1,hd1,hx1⟩:=hv1.open;have hC1:=(Chg.of_below bdr).trans hch1;have hbz:=hch1.size;have hq1c:wc1.cell? ⟨w1.heap.size,1,none⟩=some (.slice cv j qv):=hC1.cellne (by show w1.heap.size≠r;omega) hv;have hl1:w1.heap.size<wc1.heap.size:=World.block_lt_of_cell? _ _ hq1c)
       | (refine step_append_lies _ (by rfl) (.tmp 26) (.tmp 31) 23 (by rfl) (w1.heap.size+1) 25 i0 _ 2 32 Tryz.underlying23 HI.out Z0.out Z1.out Z2.out rfl (by omega) (.slice cv j qv) j xs (by rfl) (bZ HO.out (hC1.trans (Chg.of_below ai)) (by omega))
           ⟨wc1.heap.size,0,none⟩ 1 1 [.int .i64 k1,.slice c1 m1 qq1] (by rfl) (by rfl) (World.news_of_block (cs:=#[.int .i64 k1,.slice c1 m1 qq1]) (t:=25) (fr:=(0,0)) (heap_alloc_new wc1 _)) (by simp[Value.oneCell'])
           (by omega) (by have:=HCAP.out;unfold maxLen;omega) (by have:=HCAP.out;omega) (by simp at hbz ⊢;omega) _ rfl ?_
          intro gg cap2 w2 hown2 hgrow hat hlt2;have hC2:=hC1.trans (Chg.of_below (ai (o:=.cells #[.int .i64 k1,.slice c1 m1 qq1] 25)));have hfar:=dQ hC2 HO.out hgrow;have hq:w2.cell? ⟨w1.heap.size,1,none⟩=some (.slice cv j qv):=(World.cell?_of_block (a:=⟨w1.heap.size,1,none⟩) (hfar (w1.heap.size) (by omega) (by omega) (by omega))).trans hv;have hqf:w2.frozen? ⟨w1.heap.size,1,none⟩=false:=(World.frozen?_of_block (a:=⟨w1.heap.size,1,none⟩) (hfar (w1.heap.size) (by omega) (by omega) (by omega))).trans (hf2 _);have HFAR:=zq hfar;have hacc2:=aL.pushC HL.out HO.out HS.out HD.out HFP.out hB3 (by omega) hC2 (by simp) (hs1.move _ _ _ fun b hb=>heap_alloc_old wc1 _ (bf.lt _ _ _ hs1 b hb)) hd1 hx1 hown2 hgrow hat;have HACC:=zq hacc2;have HBEL:=zq (dC hbw hC2 HO.out (by have:=hbw.size;omega) hgrow);have HRD:=zq (aQ.grown (hrd1.below ai) HO.out (by omega) hgrow);have hsz2:wr.heap.size≤w2.heap.size:=Nat.le_trans hC2.size hgrow.size;clear hfar hacc2 hown2 hgrow hat hq1c hC1 hC2 hrd1))
     all_goals
      go_wp2_with fail
      go_roundw
      case rel=>
       have c1:(w2.setCell ⟨w1.heap.size,1,none⟩ (.slice (some ⟨gg,0,none⟩) (j+1) cap2)).heap[w.heap.size]?=wr.heap[w.heap.size]?:=
        (Below.heap_setCell w2 ⟨w1.heap.size,1,none⟩ _ _ (by show w.heap.size≠w1.heap.size;omega)).trans (HFAR.out (w.heap.size) (by omega) (by omega) (by omega))
       have hk2:=(World.cell?_of_block (a:=⟨w1.heap.size,0,none⟩) (HFAR.out (w1.heap.size) (by omega) (by omega) (by omega))).trans hk0;have hf4:=fun o=>(World.frozen?_of_block (a:=⟨w1.heap.size,o,none⟩) (HFAR.out (w1.heap.size) (by omega) (by omega) (by omega))).trans (hf2 o);have hbel2:Chg [r] w (w2.setCell ⟨w1.heap.size,1,none⟩ (.slice (some ⟨gg,0,none⟩) (j+1) cap2)):=
        HBEL.out.trans' (by show w.heap.size≤w1.heap.size;omega) _
       refine⟨j+1,by omega,by go_num,hbel2,by simp[World.setCell];omega,⟨u0,(World.cell?_of_block (a:=⟨w.heap.size,0,none⟩) c1).trans hu0⟩,⟨u1,(World.cell?_of_block (a:=⟨w.heap.size,1,none⟩) c1).trans hu1⟩,
         fun o=>(World.frozen?_of_block (a:=⟨w.heap.size,o,none⟩) c1).trans (hf1 o),fun o=>(dK _ _ _ _).trans (hf4 o),cA hk2 (by simp),ts ++ [s1],q1,by simp[HTS.out],zq ⟨by have:=hbs.out.1;have:=hsc.1;rw[Ty.cnts_append,Nat.add_mul];simp only[Ty.cnts];omega,Ty.shapes_snoc hbs.out.2 hsc.2⟩,by rw[Nat.add_mul];omega,HRD.out.setCell (by show r<w1.heap.size;omega) _,_,bE hq,?_⟩
       have h:=HACC.out.setCell (p:=⟨w1.heap.size,1,none⟩) (by show w1.heap.size<w1.heap.size+1;omega) (.slice (some ⟨gg,0,none⟩) (j+1) cap2);rw[Ty.rows_eq] at h ⊢;simp only[List.map_append,List.map_cons,List.map_nil]
       exact h
      case measure=>simp[intOf];omega
    ·obtain⟨cv,qv,rfl⟩:=hacc.shape
     have f0:=hf1 0;have f1:=hf1 1
     go_wp2_with fail
     refine(bU k _).mono ?_;rintro e w' ⟨rfl,rfl⟩;rw[HTK.out]
     go_wp2_with fail
     refine bodyPost_ret (v:=.agg #[.int .i64 k,.slice cv j qv]) (by simp[results,Tryz.results52,go_sem,hu0,hu1]) rfl ?_;have hjn:j=n:=by omega
     rw[hjn] at hts hbs hq;have hb0:=hbs.out.1;have hsh:=hbs.out.2;refine⟨.mk k ts,_,q,rfl,?_,bh.mono (bg.ty ((hacc.tys.setCell (by show w.heap.size<w1.heap.size+1;omega) _).setCell (by show w.heap.size<w1.heap.size+1;omega) _)) (by omega),?_,(hrd.setCell (by show r<w.heap.size;omega) _).setCell (by show r<w.heap.size;omega) _,(hbw.trans' (Nat.le_refl _) _).trans' (Nat.le_refl _) _⟩
     ·refine⟨?_,Ty.shape_of (by omega) (by rw[HTK.out,hts]) hsh⟩
      simp only[Ty.cnt,hts]
      rcases(show n=0∨n=1∨n=2 by omega) with rfl | rfl | rfl
      ·simp at hb0 hq ⊢;omega
      ·have h2:=hd2 (by omega)
       have:=HPW.out h2;simp at hb0 hq ⊢;omega
      ·have h2:=hd2 (by omega)
       have:=HPW.out h2;simp at hb0 hq ⊢;omega
     ·rcases(show n=0∨n=1∨n=2 by omega) with rfl | rfl | rfl
      ·simp at hb0 hq ⊢;omega
      ·have h2:=hd2 (by omega)
       have:=HPW.out h2;simp at hb0 hq ⊢;omega
      ·have h2:=hd2 (by omega)
       have:=HPW.out h2;simp at hb0 hq ⊢;omega
termination_by d
theorem tV (r p:Nat)(w:World)(h:aQ w r p)(hp:p≤1000000000):Calls Tryz.prog 49 #[.pointer (some ⟨r,0,none⟩)] w (DTV r p w):=by
 have hrl:=h.1
 go_enter Tryz.func49,Tryz.ntmps49
 go_wp2_with fail
 refine(bJ (fun k=>1≤k∧k≤4) r p _ 5 5 _ (h.below aT) (by omega) (by omega) (by omega) (Nat.le_refl _) (by omega) (bp [3,2,4,1,3] (by simp) _ (by decide))).mono ?_;rintro e w1 ⟨k,rfl,⟨k1,k4⟩,hrd1,hch1⟩;obtain⟨d,rfl⟩:=Int.eq_ofNat_of_zero_le (show 0≤k by omega);have hw1:w.heap.size+2≤w1.heap.size:=by have:=hch1.size;simp at this;omega
 have x0:w1.cell? ⟨w.heap.size,0,none⟩=some (.int .i64 0):=hch1.cellne (by show w.heap.size≠r;omega) (ah ai (az 0));have x1:w1.cell? ⟨w.heap.size,1,none⟩=some (.slice none 0 0):=hch1.cellne (by show w.heap.size≠r;omega) (ah ai (az 1));have f0:w1.frozen? ⟨w.heap.size,0,none⟩=false:=(hch1.frone (by omega) (by simp;omega)).trans (cC ai (by simp) (aV 0));have f1:w1.frozen? ⟨w.heap.size,1,none⟩=false:=(hch1.frone (by omega) (by simp;omega)).trans (cC ai (by simp) (aV 1));have h24:2 ^ d≤2 ^ 4:=Nat.pow_le_pow_right (by omega) (by omega);have H24:=zq h24
 go_wp2_with fail
 refine(fQ d r (p+1) _ (by omega) (by omega) hrd1 (by have:=H24.out;omega)).mono ?_;intro e w2 hd2;obtain⟨t,v,q,rfl,⟨hn,hsh⟩,hv,hq,hrd2,hch2⟩:=hd2;have hqq:q≤p+1+15:=by have:=H24.out;omega
 have HSH:=zq (Ty.shape_le hsh (by omega:(d:Int)≤4));clear hn hsh hq;clear h24 H24;obtain⟨kk,aa,nn,qq,rfl⟩:=hv.shape;have hw2:=hch2.size;replace f0:w2.frozen? ⟨w.heap.size,0,none⟩=false:=aR hch2 (by omega) x0 f0;replace f1:w2.frozen? ⟨w.heap.size,1,none⟩=false:=aR hch2 (by omega) x1 f1;replace x0:w2.cell? ⟨w.heap.size,0,none⟩=some (.int .i64 0):=aK hch2 (by omega) x0;replace x1:w2.cell? ⟨w.heap.size,1,none⟩=some (.slice none 0 0):=aK hch2 (by omega) x1
 go_wp2_with fail
 refine bodyPost_ret (v:=.agg #[.int .i64 kk,.slice aa nn qq]) (by simp[results,Tryz.results49,go_sem,x0,x1]) rfl ?_;refine⟨t,_,q,rfl,HSH.out,ao.lower ((hv.rep.setCell (by show w.heap.size<w1.heap.size;omega) _).setCell (by show w.heap.size<w1.heap.size;omega) _) (by omega),by omega,
   (hrd2.setCell (by show r<w.heap.size;omega) _).setCell (by show r<w.heap.size;omega) _,?_⟩
 exact((((Chg.of_below aT).trans hch1).trans hch2).trans' (Nat.le_refl _) _).trans' (Nat.le_refl _) _
end Go.Proofs.YtfahhonmiimmdaaGreat

/- Terms are drawn: what is said of them; numbers, leaves. And what else its parts name. -/
import Derived.Test.YtfahhonmiimmdaaGreatB6
set_option linter.unusedSimpArgs false
set_option linter.unusedVariables false
set_option maxRecDepth 100000
set_option maxHeartbeats 16000000
namespace Go.Proofs.YtfahhonmiimmdaaGreat
open Go.RowKit
def DTm (r p c m:Nat)(w:World)(e:Ending)(w':World):Prop:=∃(t:Tm) (v:Value) (q:Nat),e = .returned v∧t.cnt≤m∧aA (w.heap.size ≤ ·) w' t v∧q≤p+c∧aT w' r q∧Chg [r] w w'
theorem DTm.mono {r p c m c' m':Nat}{w w':World}{e:Ending}(h:DTm r p c m w e w')(hc:c≤c')(hm:m≤m'):DTm r p c' m' w e w':=by
 obtain⟨t,v,q,h1,h2,h3,h4,h5,h6⟩:=h
 exact⟨t,v,q,h1,by omega,h3,by omega,h5,h6⟩
theorem aE.nil0 {F:Nat→Prop}{w:World}{a:Option Addr}:aE F w [] (.slice a 0 0):=by
 unfold aE Ty.rows aM
 exact⟨a,0,rfl,Nat.le_refl _,by unfold maxLen;omega,.inl rfl⟩
theorem aA.leaf0 {F:Nat→Prop}{w:World}(k u:Int){nm:ByteArray}(hn:nm.size≤maxLen):aA F w (.mk k nm u (.mk 0 []) (.mk 0 []) 0 []) (.agg #[.int .i64 k,.string nm,.int .i64 u,.int .i64 0,.slice none 0 0,.int .i64 0,.slice none 0 0,.int .i64 0,.slice none 0 0]):=
 ⟨_,_,_,rfl,hn,aE.nil0,aE.nil0,by unfold aS Tm.kids Tm.rows aM;exact⟨none,0,rfl,Nat.le_refl _,by unfold maxLen;omega,.inl rfl⟩⟩
theorem aA.chg {fp:List Nat}{w w':World}{F:Nat→Prop}{t:Tm}{y:Value}(h:Chg fp w w')(hn : ∀b,F b→b∉fp)(r:aA F w t y):aA F w' t y:=r.move (h.keeps hn)
theorem aA.lower {B B':Nat}{w:World}{t:Tm}{y:Value}(h:aA (B ≤ ·) w t y)(hB:B'≤B):aA (B' ≤ ·) w t y:=h.move (.weaken fun b hb _=>Nat.le_trans hB hb)
theorem aA.setB {B:Nat}{w:World}{t:Tm}{y:Value}(h:aA (B ≤ ·) w t y){p:Addr}(hp:p.block<B)(v:Value):aA (B ≤ ·) (w.setCell p v) t y:=
 h.move ⟨by simp[World.setCell],fun _ h _=>h,fun b hb _=>Below.heap_setCell w p v b (by omega)⟩
theorem aA.ne {B r:Nat}{w:World}{t:Tm}{y:Value}(h:aA (B ≤ ·) w t y)(hr:r<B):aA (· ≠ r) w t y:=h.move (.weaken fun b hb _=>by have:B≤b:=hb;omega)
def set9 (w:World)(b:Nat)(v0 v1 v2 v3 v4 v5 v6 v7 v8:Value):World:=(((((((((w.setCell ⟨b,0,none⟩ (v0)).setCell ⟨b,1,none⟩ (v1)).setCell ⟨b,2,none⟩ (v2)).setCell ⟨b,3,none⟩ (v3)).setCell ⟨b,4,none⟩ (v4)).setCell ⟨b,5,none⟩ (v5)).setCell ⟨b,6,none⟩ (v6)).setCell ⟨b,7,none⟩ (v7)).setCell ⟨b,8,none⟩ (v8))
theorem DTm.stored {r p q c m B R:Nat}{w w1:World}{t:Tm}{v:Value}{v0 v1 v2 v3 v4 v5 v6 v7 v8:Value}(hv:aA (B ≤ ·) w1 t v)(hm:t.cnt≤m)(hB:w.heap.size≤B)(hq:q≤p+c)(hrd:aT w1 r q)(hch:Chg [r] w w1)(hR:w.heap.size≤R)(hRB:R<B)(hr:r<R) :
  DTm r p c m w (.returned v) (set9 w1 R v0 v1 v2 v3 v4 v5 v6 v7 v8):=by
 unfold set9
 exact⟨t,v,q,rfl,hm,((((((((((hv.setB (by show R<B;omega) _).setB (by show R<B;omega) _).setB (by show R<B;omega) _).setB (by show R<B;omega) _).setB (by show R<B;omega) _).setB (by show R<B;omega) _).setB (by show R<B;omega) _).setB (by show R<B;omega) _).setB (by show R<B;omega) _)).lower hB,hq,(((((((((hrd.setCell (by show r<R;omega) _).setCell (by show r<R;omega) _).setCell (by show r<R;omega) _).setCell (by show r<R;omega) _).setCell (by show r<R;omega) _).setCell (by show r<R;omega) _).setCell (by show r<R;omega) _).setCell (by show r<R;omega) _).setCell (by show r<R;omega) _),(((((((((hch.trans' (by show w.heap.size≤R;omega) _).trans' (by show w.heap.size≤R;omega) _).trans' (by show w.heap.size≤R;omega) _).trans' (by show w.heap.size≤R;omega) _).trans' (by show w.heap.size≤R;omega) _).trans' (by show w.heap.size≤R;omega) _).trans' (by show w.heap.size≤R;omega) _).trans' (by show w.heap.size≤R;omega) _).trans' (by show w.heap.size≤R;omega) _)⟩
theorem cO (n:Int)(w:World):Calls Tryz.prog 56 #[.int .i64 n] w fun e w'=>e = .returned (.agg #[.int .i64 2,.string {data:=#[]},.int .i64 n,.int .i64 0,.slice none 0 0,.int .i64 0,.slice none 0 0,.int .i64 0,.slice none 0 0])∧Below w.heap.size w w':=by
 go_enter Tryz.func56,Tryz.ntmps56
 go_wp2_with fail
 refine bodyPost_ret (v:=.agg #[.int .i64 2,.string {data:=#[]},.int .i64 n,.int .i64 0,.slice none 0 0,.int .i64 0,.slice none 0 0,.int .i64 0,.slice none 0 0]) (by simp[results,Tryz.results56,go_sem]) rfl ?_
 exact⟨rfl,aj⟩
theorem kY (r p:Nat)(s:ByteArray)(w:World)(h:aT w r p)(hs:s.size≤1000)(hp:p≤1125899906842000):Calls Tryz.prog 113 #[.pointer (some ⟨r,0,none⟩),.string s] w (DTm r p 3 1 w):=by
 have hrl:=h.1
 rcases Nat.eq_zero_or_pos s.size with hz | hz
 ·have hd:decide ((s.size:Int)>0)=false:=by rw[decide_eq_false_iff_not];omega
  go_enter Tryz.func113,Tryz.ntmps113
  go_wp2_with fail
  refine(bw r (p) 5 _ (h.below aj) (by omega) (by omega)).mono ?_;rintro e w3 ⟨j3,rfl,j30,j31,hrd3,hc3⟩;have hw3:=hc3.size;simp only[World.size_alloc] at hw3;have hch3:=(Chg.of_below aj).trans hc3;have f0:w3.frozen? ⟨w.heap.size,0,none⟩=false:=aU hc3 (by omega) (aw 0) (b5 0);have x0:w3.cell? ⟨w.heap.size,0,none⟩=some (.int .i64 0):=aP hc3 (by omega) (aw 0);have f1:w3.frozen? ⟨w.heap.size,1,none⟩=false:=aU hc3 (by omega) (aw 1) (b5 1);have x1:w3.cell? ⟨w.heap.size,1,none⟩=some (.string {data:=#[]}):=aP hc3 (by omega) (aw 1);have f2:w3.frozen? ⟨w.heap.size,2,none⟩=false:=aU hc3 (by omega) (aw 2) (b5 2);have x2:w3.cell? ⟨w.heap.size,2,none⟩=some (.int .i64 0):=aP hc3 (by omega) (aw 2);have f3:w3.frozen? ⟨w.heap.size,3,none⟩=false:=aU hc3 (by omega) (aw 3) (b5 3);have x3:w3.cell? ⟨w.heap.size,3,none⟩=some (.int .i64 0):=aP hc3 (by omega) (aw 3);have f4:w3.frozen? ⟨w.heap.size,4,none⟩=false:=aU hc3 (by omega) (aw 4) (b5 4);have x4:w3.cell? ⟨w.heap.size,4,none⟩=some (.slice none 0 0):=aP hc3 (by omega) (aw 4);have f5:w3.frozen? ⟨w.heap.size,5,none⟩=false:=aU hc3 (by omega) (aw 5) (b5 5);have x5:w3.cell? ⟨w.heap.size,5,none⟩=some (.int .i64 0):=aP hc3 (by omega) (aw 5);have f6:w3.frozen? ⟨w.heap.size,6,none⟩=false:=aU hc3 (by omega) (aw 6) (b5 6);have x6:w3.cell? ⟨w.heap.size,6,none⟩=some (.slice none 0 0):=aP hc3 (by omega) (aw 6);have f7:w3.frozen? ⟨w.heap.size,7,none⟩=false:=aU hc3 (by omega) (aw 7) (b5 7);have x7:w3.cell? ⟨w.heap.size,7,none⟩=some (.int .i64 0):=aP hc3 (by omega) (aw 7);have f8:w3.frozen? ⟨w.heap.size,8,none⟩=false:=aU hc3 (by omega) (aw 8) (b5 8);have x8:w3.cell? ⟨w.heap.size,8,none⟩=some (.slice none 0 0):=aP hc3 (by omega) (aw 8)
  rcases Bool.eq_false_or_eq_true (j3==0) with q0 | q0
  ·go_wp2_with fail
   refine bodyPost_ret (v:=.agg #[.int .i64 3,.string {data:=#[]},.int .i64 0,.int .i64 0,.slice none 0 0,.int .i64 0,.slice none 0 0,.int .i64 0,.slice none 0 0]) (by simp[results,Tryz.results113,go_sem,x0,x1,x2,x3,x4,x5,x6,x7,x8]) rfl ?_
   exact DTm.stored (q:=p+1) (R:=w.heap.size) (B:=w.heap.size+1) (aA.leaf0 3 0 (by unfold maxLen;decide)) (by simp[Tm.cnt,Tm.cnts,Ty.cnt,Ty.cnts,ByteArray.size]) (by omega) (by omega) hrd3 hch3 (Nat.le_refl _) (by omega) hrl
  ·rcases Bool.eq_false_or_eq_true (j3==1) with q1 | q1
   ·go_wp2_with fail
    refine bodyPost_ret (v:=.agg #[.int .i64 4,.string {data:=#[]},.int .i64 0,.int .i64 0,.slice none 0 0,.int .i64 0,.slice none 0 0,.int .i64 0,.slice none 0 0]) (by simp[results,Tryz.results113,go_sem,x0,x1,x2,x3,x4,x5,x6,x7,x8]) rfl ?_
    exact DTm.stored (q:=p+1) (R:=w.heap.size) (B:=w.heap.size+1) (aA.leaf0 4 0 (by unfold maxLen;decide)) (by simp[Tm.cnt,Tm.cnts,Ty.cnt,Ty.cnts,ByteArray.size]) (by omega) (by omega) hrd3 hch3 (Nat.le_refl _) (by omega) hrl
   ·go_wp2_with fail
    refine(bO (fun _=>True) r (p+1) _ 6 6 _ (hrd3.below aj) (by omega) (by omega) (by omega) (Nat.le_refl _) (by omega) (bA [1,0,2,5,999,7] rfl _ (fun _ _=>trivial))).mono ?_;rintro e w4 ⟨kn,rfl,-,hrd4,hc4⟩;have hw4:=hc4.size;simp only[World.size_alloc] at hw4;replace hch3:=(hch3.trans (Chg.of_below aj)).trans hc4;replace f0:w4.frozen? ⟨w.heap.size,0,none⟩=false:=aU hc4 (by omega) (af aj x0) (az aj x0 f0);replace x0:w4.cell? ⟨w.heap.size,0,none⟩=some (.int .i64 0):=aP hc4 (by omega) (af aj x0);replace f1:w4.frozen? ⟨w.heap.size,1,none⟩=false:=aU hc4 (by omega) (af aj x1) (az aj x1 f1);replace x1:w4.cell? ⟨w.heap.size,1,none⟩=some (.string {data:=#[]}):=aP hc4 (by omega) (af aj x1);replace f2:w4.frozen? ⟨w.heap.size,2,none⟩=false:=aU hc4 (by omega) (af aj x2) (az aj x2 f2);replace x2:w4.cell? ⟨w.heap.size,2,none⟩=some (.int .i64 0):=aP hc4 (by omega) (af aj x2);replace f3:w4.frozen? ⟨w.heap.size,3,none⟩=false:=aU hc4 (by omega) (af aj x3) (az aj x3 f3);replace x3:w4.cell? ⟨w.heap.size,3,none⟩=some (.int .i64 0):=aP hc4 (by omega) (af aj x3);replace f4:w4.frozen? ⟨w.heap.size,4,none⟩=false:=aU hc4 (by omega) (af aj x4) (az aj x4 f4);replace x4:w4.cell? ⟨w.heap.size,4,none⟩=some (.slice none 0 0):=aP hc4 (by omega) (af aj x4);replace f5:w4.frozen? ⟨w.heap.size,5,none⟩=false:=aU hc4 (by omega) (af aj x5) (az aj x5 f5);replace x5:w4.cell? ⟨w.heap.size,5,none⟩=some (.int .i64 0):=aP hc4 (by omega) (af aj x5);replace f6:w4.frozen? ⟨w.heap.size,6,none⟩=false:=aU hc4 (by omega) (af aj x6) (az aj x6 f6);replace x6:w4.cell? ⟨w.heap.size,6,none⟩=some (.slice none 0 0):=aP hc4 (by omega) (af aj x6);replace f7:w4.frozen? ⟨w.heap.size,7,none⟩=false:=aU hc4 (by omega) (af aj x7) (az aj x7 f7);replace x7:w4.cell? ⟨w.heap.size,7,none⟩=some (.int .i64 0):=aP hc4 (by omega) (af aj x7);replace f8:w4.frozen? ⟨w.heap.size,8,none⟩=false:=aU hc4 (by omega) (af aj x8) (az aj x8 f8);replace x8:w4.cell? ⟨w.heap.size,8,none⟩=some (.slice none 0 0):=aP hc4 (by omega) (af aj x8)
    go_wp2_with fail
    refine(cO kn _).mono ?_;rintro e w5 ⟨rfl,hb5⟩;replace hch3:=hch3.trans (Chg.of_below hb5);have hrd5:=hrd4.below hb5;have hw5:=hb5.size;replace f0:w5.frozen? ⟨w.heap.size,0,none⟩=false:=az hb5 x0 f0;replace x0:=af hb5 x0;replace f1:w5.frozen? ⟨w.heap.size,1,none⟩=false:=az hb5 x1 f1;replace x1:=af hb5 x1;replace f2:w5.frozen? ⟨w.heap.size,2,none⟩=false:=az hb5 x2 f2;replace x2:=af hb5 x2;replace f3:w5.frozen? ⟨w.heap.size,3,none⟩=false:=az hb5 x3 f3;replace x3:=af hb5 x3;replace f4:w5.frozen? ⟨w.heap.size,4,none⟩=false:=az hb5 x4 f4;replace x4:=af hb5 x4;replace f5:w5.frozen? ⟨w.heap.size,5,none⟩=false:=az hb5 x5 f5;replace x5:=af hb5 x5;replace f6:w5.frozen? ⟨w.heap.size,6,none⟩=false:=az hb5 x6 f6;replace x6:=af hb5 x6;replace f7:w5.frozen? ⟨w.heap.size,7,none⟩=false:=az hb5 x7 f7;replace x7:=af hb5 x7;replace f8:w5.frozen? ⟨w.heap.size,8,none⟩=false:=az hb5 x8 f8;replace x8:=af hb5 x8
    go_wp2_with fail
    refine bodyPost_ret (v:=.agg #[.int .i64 2,.string {data:=#[]},.int .i64 kn,.int .i64 0,.slice none 0 0,.int .i64 0,.slice none 0 0,.int .i64 0,.slice none 0 0]) (by simp[results,Tryz.results113,go_sem,x0,x1,x2,x3,x4,x5,x6,x7,x8]) rfl ?_
    exact DTm.stored (q:=p+1+1) (R:=w.heap.size) (B:=w.heap.size+1) (aA.leaf0 2 kn (by unfold maxLen;decide)) (by simp[Tm.cnt,Tm.cnts,Ty.cnt,Ty.cnts,ByteArray.size]) (by omega) (by omega) hrd5 hch3 (Nat.le_refl _) (by omega) hrl
 ·have hd:decide ((s.size:Int)>0)=true:=by rw[decide_eq_true_eq];omega
  go_enter Tryz.func113,Tryz.ntmps113
  go_wp2_with fail
  refine(bw r p 4 _ (h.below aj) (by omega) (by omega)).mono ?_;rintro e w1 ⟨j1,rfl,j10,j11,hrd1,hc1⟩;have hw1:=hc1.size;simp only[World.size_alloc] at hw1;have hch:=(Chg.of_below aj).trans hc1;have f0:w1.frozen? ⟨w.heap.size,0,none⟩=false:=aU hc1 (by omega) (aw 0) (b5 0);have x0:w1.cell? ⟨w.heap.size,0,none⟩=some (.int .i64 0):=aP hc1 (by omega) (aw 0);have f1:w1.frozen? ⟨w.heap.size,1,none⟩=false:=aU hc1 (by omega) (aw 1) (b5 1);have x1:w1.cell? ⟨w.heap.size,1,none⟩=some (.string {data:=#[]}):=aP hc1 (by omega) (aw 1);have f2:w1.frozen? ⟨w.heap.size,2,none⟩=false:=aU hc1 (by omega) (aw 2) (b5 2);have x2:w1.cell? ⟨w.heap.size,2,none⟩=some (.int .i64 0):=aP hc1 (by omega) (aw 2);have f3:w1.frozen? ⟨w.heap.size,3,none⟩=false:=aU hc1 (by omega) (aw 3) (b5 3);have x3:w1.cell? ⟨w.heap.size,3,none⟩=some (.int .i64 0):=aP hc1 (by omega) (aw 3);have f4:w1.frozen? ⟨w.heap.size,4,none⟩=false:=aU hc1 (by omega) (aw 4) (b5 4);have x4:w1.cell? ⟨w.heap.size,4,none⟩=some (.slice none 0 0):=aP hc1 (by omega) (aw 4);have f5:w1.frozen? ⟨w.heap.size,5,none⟩=false:=aU hc1 (by omega) (aw 5) (b5 5);have x5:w1.cell? ⟨w.heap.size,5,none⟩=some (.int .i64 0):=aP hc1 (by omega) (aw 5);have f6:w1.frozen? ⟨w.heap.size,6,none⟩=false:=aU hc1 (by omega) (aw 6) (b5 6);have x6:w1.cell? ⟨w.heap.size,6,none⟩=some (.slice none 0 0):=aP hc1 (by omega) (aw 6);have f7:w1.frozen? ⟨w.heap.size,7,none⟩=false:=aU hc1 (by omega) (aw 7) (b5 7);have x7:w1.cell? ⟨w.heap.size,7,none⟩=some (.int .i64 0):=aP hc1 (by omega) (aw 7);have f8:w1.frozen? ⟨w.heap.size,8,none⟩=false:=aU hc1 (by omega) (aw 8) (b5 8);have x8:w1.cell? ⟨w.heap.size,8,none⟩=some (.slice none 0 0):=aP hc1 (by omega) (aw 8)
  by_cases hj:0<j1
  ·have hjd:decide (j1>0)=true:=by simpa using hj
   go_wp2_with fail
   refine(bw r (p+1) (s.size:Int) _ hrd1 (by omega) (by omega)).mono ?_;rintro e w2 ⟨j2,rfl,j20,j21,hrd2,hc2⟩;have hw2:=hc2.size;replace hch:=hch.trans hc2;replace f0:w2.frozen? ⟨w.heap.size,0,none⟩=false:=aU hc2 (by omega) x0 f0;replace x0:w2.cell? ⟨w.heap.size,0,none⟩=some (.int .i64 0):=aP hc2 (by omega) x0;replace f1:w2.frozen? ⟨w.heap.size,1,none⟩=false:=aU hc2 (by omega) x1 f1;replace x1:w2.cell? ⟨w.heap.size,1,none⟩=some (.string {data:=#[]}):=aP hc2 (by omega) x1;replace f2:w2.frozen? ⟨w.heap.size,2,none⟩=false:=aU hc2 (by omega) x2 f2;replace x2:w2.cell? ⟨w.heap.size,2,none⟩=some (.int .i64 0):=aP hc2 (by omega) x2;replace f3:w2.frozen? ⟨w.heap.size,3,none⟩=false:=aU hc2 (by omega) x3 f3;replace x3:w2.cell? ⟨w.heap.size,3,none⟩=some (.int .i64 0):=aP hc2 (by omega) x3;replace f4:w2.frozen? ⟨w.heap.size,4,none⟩=false:=aU hc2 (by omega) x4 f4;replace x4:w2.cell? ⟨w.heap.size,4,none⟩=some (.slice none 0 0):=aP hc2 (by omega) x4;replace f5:w2.frozen? ⟨w.heap.size,5,none⟩=false:=aU hc2 (by omega) x5 f5;replace x5:w2.cell? ⟨w.heap.size,5,none⟩=some (.int .i64 0):=aP hc2 (by omega) x5;replace f6:w2.frozen? ⟨w.heap.size,6,none⟩=false:=aU hc2 (by omega) x6 f6;replace x6:w2.cell? ⟨w.heap.size,6,none⟩=some (.slice none 0 0):=aP hc2 (by omega) x6;replace f7:w2.frozen? ⟨w.heap.size,7,none⟩=false:=aU hc2 (by omega) x7 f7;replace x7:w2.cell? ⟨w.heap.size,7,none⟩=some (.int .i64 0):=aP hc2 (by omega) x7;replace f8:w2.frozen? ⟨w.heap.size,8,none⟩=false:=aU hc2 (by omega) x8 f8;replace x8:w2.cell? ⟨w.heap.size,8,none⟩=some (.slice none 0 0):=aP hc2 (by omega) x8;obtain⟨j,rfl⟩:=Int.eq_ofNat_of_zero_le j20;have hjs:j<s.size:=by omega
   have i1:=IntWalk.i64_in ((j:Int)+1) (by omega);have hne:(s.extract j (j+1)).size≤1:=by rw[ByteArray.size_extract];omega
   go_wp2_with fail
   refine bodyPost_ret (v:=.agg #[.int .i64 1,.string (s.extract j (j+1)),.int .i64 0,.int .i64 0,.slice none 0 0,.int .i64 0,.slice none 0 0,.int .i64 0,.slice none 0 0]) (by simp[results,Tryz.results113,go_sem,x0,x1,x2,x3,x4,x5,x6,x7,x8]) rfl ?_
   exact DTm.stored (q:=p+1+1) (R:=w.heap.size) (B:=w.heap.size+1) (aA.leaf0 1 0 (by unfold maxLen;omega)) (by simp only[Tm.cnt,Tm.cnts,Ty.cnt,Ty.cnts,List.length_nil];omega) (by omega) (by omega) hrd2 hch (Nat.le_refl _) (by omega) hrl
  ·have hjd:decide (j1>0)=false:=by simpa using hj
   go_wp2_with fail
   refine(bw r (p+1) 5 _ hrd1 (by omega) (by omega)).mono ?_;rintro e w3 ⟨j3,rfl,j30,j31,hrd3,hc3⟩;have hw3:=hc3.size;have hch3:=hch.trans hc3;replace f0:w3.frozen? ⟨w.heap.size,0,none⟩=false:=aU hc3 (by omega) x0 f0;replace x0:w3.cell? ⟨w.heap.size,0,none⟩=some (.int .i64 0):=aP hc3 (by omega) x0;replace f1:w3.frozen? ⟨w.heap.size,1,none⟩=false:=aU hc3 (by omega) x1 f1;replace x1:w3.cell? ⟨w.heap.size,1,none⟩=some (.string {data:=#[]}):=aP hc3 (by omega) x1;replace f2:w3.frozen? ⟨w.heap.size,2,none⟩=false:=aU hc3 (by omega) x2 f2;replace x2:w3.cell? ⟨w.heap.size,2,none⟩=some (.int .i64 0):=aP hc3 (by omega) x2;replace f3:w3.frozen? ⟨w.heap.size,3,none⟩=false:=aU hc3 (by omega) x3 f3;replace x3:w3.cell? ⟨w.heap.size,3,none⟩=some (.int .i64 0):=aP hc3 (by omega) x3;replace f4:w3.frozen? ⟨w.heap.size,4,none⟩=false:=aU hc3 (by omega) x4 f4;replace x4:w3.cell? ⟨w.heap.size,4,none⟩=some (.slice none 0 0):=aP hc3 (by omega) x4;replace f5:w3.frozen? ⟨w.heap.size,5,none⟩=false:=aU hc3 (by omega) x5 f5;replace x5:w3.cell? ⟨w.heap.size,5,none⟩=some (.int .i64 0):=aP hc3 (by omega) x5;replace f6:w3.frozen? ⟨w.heap.size,6,none⟩=false:=aU hc3 (by omega) x6 f6;replace x6:w3.cell? ⟨w.heap.size,6,none⟩=some (.slice none 0 0):=aP hc3 (by omega) x6;replace f7:w3.frozen? ⟨w.heap.size,7,none⟩=false:=aU hc3 (by omega) x7 f7;replace x7:w3.cell? ⟨w.heap.size,7,none⟩=some (.int .i64 0):=aP hc3 (by omega) x7;replace f8:w3.frozen? ⟨w.heap.size,8,none⟩=false:=aU hc3 (by omega) x8 f8;replace x8:w3.cell? ⟨w.heap.size,8,none⟩=some (.slice none 0 0):=aP hc3 (by omega) x8
   rcases Bool.eq_false_or_eq_true (j3==0) with q0 | q0
   ·go_wp2_with fail
    refine bodyPost_ret (v:=.agg #[.int .i64 3,.string {data:=#[]},.int .i64 0,.int .i64 0,.slice none 0 0,.int .i64 0,.slice none 0 0,.int .i64 0,.slice none 0 0]) (by simp[results,Tryz.results113,go_sem,x0,x1,x2,x3,x4,x5,x6,x7,x8]) rfl ?_
    exact DTm.stored (q:=p+1+1) (R:=w.heap.size) (B:=w.heap.size+1) (aA.leaf0 3 0 (by unfold maxLen;decide)) (by simp[Tm.cnt,Tm.cnts,Ty.cnt,Ty.cnts,ByteArray.size]) (by omega) (by omega) hrd3 hch3 (Nat.le_refl _) (by omega) hrl
   ·rcases Bool.eq_false_or_eq_true (j3==1) with q1 | q1
    ·go_wp2_with fail
     refine bodyPost_ret (v:=.agg #[.int .i64 4,.string {data:=#[]},.int .i64 0,.int .i64 0,.slice none 0 0,.int .i64 0,.slice none 0 0,.int .i64 0,.slice none 0 0]) (by simp[results,Tryz.results113,go_sem,x0,x1,x2,x3,x4,x5,x6,x7,x8]) rfl ?_
     exact DTm.stored (q:=p+1+1) (R:=w.heap.size) (B:=w.heap.size+1) (aA.leaf0 4 0 (by unfold maxLen;decide)) (by simp[Tm.cnt,Tm.cnts,Ty.cnt,Ty.cnts,ByteArray.size]) (by omega) (by omega) hrd3 hch3 (Nat.le_refl _) (by omega) hrl
    ·go_wp2_with fail
     refine(bO (fun _=>True) r (p+1+1) _ 6 6 _ (hrd3.below aj) (by omega) (by omega) (by omega) (Nat.le_refl _) (by omega) (bA [1,0,2,5,999,7] rfl _ (fun _ _=>trivial))).mono ?_;rintro e w4 ⟨kn,rfl,-,hrd4,hc4⟩;have hw4:=hc4.size;simp only[World.size_alloc] at hw4;replace hch3:=(hch3.trans (Chg.of_below aj)).trans hc4;replace f0:w4.frozen? ⟨w.heap.size,0,none⟩=false:=aU hc4 (by omega) (af aj x0) (az aj x0 f0);replace x0:w4.cell? ⟨w.heap.size,0,none⟩=some (.int .i64 0):=aP hc4 (by omega) (af aj x0);replace f1:w4.frozen? ⟨w.heap.size,1,none⟩=false:=aU hc4 (by omega) (af aj x1) (az aj x1 f1);replace x1:w4.cell? ⟨w.heap.size,1,none⟩=some (.string {data:=#[]}):=aP hc4 (by omega) (af aj x1);replace f2:w4.frozen? ⟨w.heap.size,2,none⟩=false:=aU hc4 (by omega) (af aj x2) (az aj x2 f2);replace x2:w4.cell? ⟨w.heap.size,2,none⟩=some (.int .i64 0):=aP hc4 (by omega) (af aj x2);replace f3:w4.frozen? ⟨w.heap.size,3,none⟩=false:=aU hc4 (by omega) (af aj x3) (az aj x3 f3);replace x3:w4.cell? ⟨w.heap.size,3,none⟩=some (.int .i64 0):=aP hc4 (by omega) (af aj x3);replace f4:w4.frozen? ⟨w.heap.size,4,none⟩=false:=aU hc4 (by omega) (af aj x4) (az aj x4 f4);replace x4:w4.cell? ⟨w.heap.size,4,none⟩=some (.slice none 0 0):=aP hc4 (by omega) (af aj x4);replace f5:w4.frozen? ⟨w.heap.size,5,none⟩=false:=aU hc4 (by omega) (af aj x5) (az aj x5 f5);replace x5:w4.cell? ⟨w.heap.size,5,none⟩=some (.int .i64 0):=aP hc4 (by omega) (af aj x5);replace f6:w4.frozen? ⟨w.heap.size,6,none⟩=false:=aU hc4 (by omega) (af aj x6) (az aj x6 f6);replace x6:w4.cell? ⟨w.heap.size,6,none⟩=some (.slice none 0 0):=aP hc4 (by omega) (af aj x6);replace f7:w4.frozen? ⟨w.heap.size,7,none⟩=false:=aU hc4 (by omega) (af aj x7) (az aj x7 f7);replace x7:w4.cell? ⟨w.heap.size,7,none⟩=some (.int .i64 0):=aP hc4 (by omega) (af aj x7);replace f8:w4.frozen? ⟨w.heap.size,8,none⟩=false:=aU hc4 (by omega) (af aj x8) (az aj x8 f8);replace x8:w4.cell? ⟨w.heap.size,8,none⟩=some (.slice none 0 0):=aP hc4 (by omega) (af aj x8)
     go_wp2_with fail
     refine(cO kn _).mono ?_;rintro e w5 ⟨rfl,hb5⟩;replace hch3:=hch3.trans (Chg.of_below hb5);have hrd5:=hrd4.below hb5;have hw5:=hb5.size;replace f0:w5.frozen? ⟨w.heap.size,0,none⟩=false:=az hb5 x0 f0;replace x0:=af hb5 x0;replace f1:w5.frozen? ⟨w.heap.size,1,none⟩=false:=az hb5 x1 f1;replace x1:=af hb5 x1;replace f2:w5.frozen? ⟨w.heap.size,2,none⟩=false:=az hb5 x2 f2;replace x2:=af hb5 x2;replace f3:w5.frozen? ⟨w.heap.size,3,none⟩=false:=az hb5 x3 f3;replace x3:=af hb5 x3;replace f4:w5.frozen? ⟨w.heap.size,4,none⟩=false:=az hb5 x4 f4;replace x4:=af hb5 x4;replace f5:w5.frozen? ⟨w.heap.size,5,none⟩=false:=az hb5 x5 f5;replace x5:=af hb5 x5;replace f6:w5.frozen? ⟨w.heap.size,6,none⟩=false:=az hb5 x6 f6;replace x6:=af hb5 x6;replace f7:w5.frozen? ⟨w.heap.size,7,none⟩=false:=az hb5 x7 f7;replace x7:=af hb5 x7;replace f8:w5.frozen? ⟨w.heap.size,8,none⟩=false:=az hb5 x8 f8;replace x8:=af hb5 x8
     go_wp2_with fail
     refine bodyPost_ret (v:=.agg #[.int .i64 2,.string {data:=#[]},.int .i64 kn,.int .i64 0,.slice none 0 0,.int .i64 0,.slice none 0 0,.int .i64 0,.slice none 0 0]) (by simp[results,Tryz.results113,go_sem,x0,x1,x2,x3,x4,x5,x6,x7,x8]) rfl ?_
     exact DTm.stored (q:=p+1+1+1) (R:=w.heap.size) (B:=w.heap.size+1) (aA.leaf0 2 kn (by unfold maxLen;decide)) (by simp[Tm.cnt,Tm.cnts,Ty.cnt,Ty.cnts,ByteArray.size]) (by omega) (by omega) hrd5 hch3 (Nat.le_refl _) (by omega) hrl
theorem im (u l:Int)(nm:ByteArray)(m:Nat)(tv n1 n2 cv:Bool)(h0:((aG 1)==(m:Int))=true)(h1:(aO nm)=true)(h2:(aC u 0 0)=true)(h3:(n1)=true)(h4:(n2)=true)(h5:(l==0)=true):(true:Bool)=(nodeB 1 u l nm m tv n1 n2 cv):=by
 first | (simp_all [nodeB,ownB];done) | grind [nodeB,ownB,aC]
theorem io (u l:Int)(nm:ByteArray)(m:Nat)(tv n1 n2 cv:Bool)(h0:((aG 1)==(m:Int))=true)(h1:(aO nm)=true)(h2:(aC u 0 0)=true)(h3:(n1)=true)(h4:(n2)=true)(h5:(l==0)=false):(false:Bool)=(nodeB 1 u l nm m tv n1 n2 cv):=by
 first | (simp_all [nodeB,ownB];done) | grind [nodeB,ownB,aC]
theorem ip (u l:Int)(nm:ByteArray)(m:Nat)(tv n1 n2 cv:Bool)(h0:((aG 1)==(m:Int))=true)(h1:(aO nm)=true)(h2:(aC u 0 0)=true)(h3:(n1)=true)(h4:(n2)=false):(false:Bool)=(nodeB 1 u l nm m tv n1 n2 cv):=by
 first | (simp_all [nodeB,ownB];done) | grind [nodeB,ownB,aC]
theorem iq (u l:Int)(nm:ByteArray)(m:Nat)(tv n1 n2 cv:Bool)(h0:((aG 1)==(m:Int))=true)(h1:(aO nm)=true)(h2:(aC u 0 0)=true)(h3:(n1)=false):(false:Bool)=(nodeB 1 u l nm m tv n1 n2 cv):=by
 first | (simp_all [nodeB,ownB];done) | grind [nodeB,ownB,aC]
theorem ir (u l:Int)(nm:ByteArray)(m:Nat)(tv n1 n2 cv:Bool)(h0:((aG 1)==(m:Int))=true)(h1:(aO nm)=true)(h2:(aC u 0 0)=false):(false:Bool)=(nodeB 1 u l nm m tv n1 n2 cv):=by
 first | (simp_all [nodeB,ownB];done) | grind [nodeB,ownB,aC]
theorem it (u l:Int)(nm:ByteArray)(m:Nat)(tv n1 n2 cv:Bool)(h0:((aG 1)==(m:Int))=true)(h1:(aO nm)=false):(false:Bool)=(nodeB 1 u l nm m tv n1 n2 cv):=by
 first | (simp_all [nodeB,ownB];done) | grind [nodeB,ownB,aC]
theorem iu (u l:Int)(nm:ByteArray)(m:Nat)(tv n1 n2 cv:Bool)(h0:((aG 1)==(m:Int))=false):(false:Bool)=(nodeB 1 u l nm m tv n1 n2 cv):=by
 first | (simp_all [nodeB,ownB];done) | grind [nodeB,ownB,aC]
theorem iv (u l:Int)(nm:ByteArray)(m:Nat)(tv n1 n2 cv:Bool)(h0:((aG 2)==(m:Int))=true)(h1:(nm.toList == [])=true)(h2:(aC u 0 999)=true)(h3:(n1)=true)(h4:(n2)=true)(h5:(l==0)=true):(true:Bool)=(nodeB 2 u l nm m tv n1 n2 cv):=by
 first | (simp_all [nodeB,ownB];done) | grind [nodeB,ownB,aC]
theorem iw (u l:Int)(nm:ByteArray)(m:Nat)(tv n1 n2 cv:Bool)(h0:((aG 2)==(m:Int))=true)(h1:(nm.toList == [])=true)(h2:(aC u 0 999)=true)(h3:(n1)=true)(h4:(n2)=true)(h5:(l==0)=false):(false:Bool)=(nodeB 2 u l nm m tv n1 n2 cv):=by
 first | (simp_all [nodeB,ownB];done) | grind [nodeB,ownB,aC]
theorem ix (u l:Int)(nm:ByteArray)(m:Nat)(tv n1 n2 cv:Bool)(h0:((aG 2)==(m:Int))=true)(h1:(nm.toList == [])=true)(h2:(aC u 0 999)=true)(h3:(n1)=true)(h4:(n2)=false):(false:Bool)=(nodeB 2 u l nm m tv n1 n2 cv):=by
 first | (simp_all [nodeB,ownB];done) | grind [nodeB,ownB,aC]
theorem gN (u l:Int)(nm:ByteArray)(m:Nat)(tv n1 n2 cv:Bool)(h0:((aG 2)==(m:Int))=true)(h1:(nm.toList == [])=true)(h2:(aC u 0 999)=true)(h3:(n1)=false):(false:Bool)=(nodeB 2 u l nm m tv n1 n2 cv):=by
 first | (simp_all [nodeB,ownB];done) | grind [nodeB,ownB,aC]
theorem gO (u l:Int)(nm:ByteArray)(m:Nat)(tv n1 n2 cv:Bool)(h0:((aG 2)==(m:Int))=true)(h1:(nm.toList == [])=true)(h2:(aC u 0 999)=false):(false:Bool)=(nodeB 2 u l nm m tv n1 n2 cv):=by
 first | (simp_all [nodeB,ownB];done) | grind [nodeB,ownB,aC]
theorem gP (u l:Int)(nm:ByteArray)(m:Nat)(tv n1 n2 cv:Bool)(h0:((aG 2)==(m:Int))=true)(h1:(nm.toList == [])=false):(false:Bool)=(nodeB 2 u l nm m tv n1 n2 cv):=by
 first | (simp_all [nodeB,ownB];done) | grind [nodeB,ownB,aC]
theorem gQ (u l:Int)(nm:ByteArray)(m:Nat)(tv n1 n2 cv:Bool)(h0:((aG 2)==(m:Int))=false):(false:Bool)=(nodeB 2 u l nm m tv n1 n2 cv):=by
 first | (simp_all [nodeB,ownB];done) | grind [nodeB,ownB,aC]
theorem gR (u l:Int)(nm:ByteArray)(m:Nat)(tv n1 n2 cv:Bool)(h0:((aG 5)==(m:Int))=true)(h1:(aO nm)=true)(h2:(aC u 0 0)=true)(h3:(tv)=true)(h4:(n2)=true)(h5:(l==0)=true):(true:Bool)=(nodeB 5 u l nm m tv n1 n2 cv):=by
 first | (simp_all [nodeB,ownB];done) | grind [nodeB,ownB,aC]
theorem gS (u l:Int)(nm:ByteArray)(m:Nat)(tv n1 n2 cv:Bool)(h0:((aG 5)==(m:Int))=true)(h1:(aO nm)=true)(h2:(aC u 0 0)=true)(h3:(tv)=true)(h4:(n2)=true)(h5:(l==0)=false):(false:Bool)=(nodeB 5 u l nm m tv n1 n2 cv):=by
 first | (simp_all [nodeB,ownB];done) | grind [nodeB,ownB,aC]
theorem gT (u l:Int)(nm:ByteArray)(m:Nat)(tv n1 n2 cv:Bool)(h0:((aG 5)==(m:Int))=true)(h1:(aO nm)=true)(h2:(aC u 0 0)=true)(h3:(tv)=true)(h4:(n2)=false):(false:Bool)=(nodeB 5 u l nm m tv n1 n2 cv):=by
 first | (simp_all [nodeB,ownB];done) | grind [nodeB,ownB,aC]
theorem gU (u l:Int)(nm:ByteArray)(m:Nat)(tv n1 n2 cv:Bool)(h0:((aG 5)==(m:Int))=true)(h1:(aO nm)=true)(h2:(aC u 0 0)=true)(h3:(tv)=false):(false:Bool)=(nodeB 5 u l nm m tv n1 n2 cv):=by
 first | (simp_all [nodeB,ownB];done) | grind [nodeB,ownB,aC]
theorem gV (u l:Int)(nm:ByteArray)(m:Nat)(tv n1 n2 cv:Bool)(h0:((aG 5)==(m:Int))=true)(h1:(aO nm)=true)(h2:(aC u 0 0)=false):(false:Bool)=(nodeB 5 u l nm m tv n1 n2 cv):=by
 first | (simp_all [nodeB,ownB];done) | grind [nodeB,ownB,aC]
theorem gW (u l:Int)(nm:ByteArray)(m:Nat)(tv n1 n2 cv:Bool)(h0:((aG 5)==(m:Int))=true)(h1:(aO nm)=false):(false:Bool)=(nodeB 5 u l nm m tv n1 n2 cv):=by
 first | (simp_all [nodeB,ownB];done) | grind [nodeB,ownB,aC]
theorem gX (u l:Int)(nm:ByteArray)(m:Nat)(tv n1 n2 cv:Bool)(h0:((aG 5)==(m:Int))=false):(false:Bool)=(nodeB 5 u l nm m tv n1 n2 cv):=by
 first | (simp_all [nodeB,ownB];done) | grind [nodeB,ownB,aC]
theorem oa (u tk fk l:Int)(nm:ByteArray)(ta fa c:Option Addr)(tn tq fn fq m q:Nat)(w:World)(tv n1 n2 cv:Bool)(H1:Hid (∀W,Below w.heap.size w W→Calls Tryz.prog 23 #[.agg #[.int .i64 tk,.slice ta tn tq]] W fun e W'=>e = .returned (.bool (tv))∧Below W.heap.size W W'))(H2:Hid (∀W,Below w.heap.size w W→Calls Tryz.prog 96 #[.agg #[.int .i64 tk,.slice ta tn tq]] W fun e W'=>e = .returned (.bool (n1))∧Below W.heap.size W W'))(H4:Hid (∀W,Below w.heap.size w W→Calls Tryz.prog 96 #[.agg #[.int .i64 fk,.slice fa fn fq]] W fun e W'=>e = .returned (.bool (n2))∧Below W.heap.size W W'))(H3:Hid (∀W,Below w.heap.size w W→Calls Tryz.prog 10 #[.agg #[.int .i64 fk,.slice fa fn fq],.agg #[.int .i64 tk,.slice ta tn tq]] W fun e W'=>e = .returned (.bool (cv))∧Below W.heap.size W W')) :
  Calls Tryz.prog 64 #[.agg #[.int .i64 1,.string nm,.int .i64 u,.int .i64 tk,.slice ta tn tq,.int .i64 fk,.slice fa fn fq,.int .i64 l,.slice c m q]] w fun e w'=>e = .returned (.bool (nodeB 1 u l nm m tv n1 n2 cv))∧Below w.heap.size w w':=by
 obtain⟨rr,hrr⟩ : ∃rr0:Bool,(nodeB 1 u l nm m tv n1 n2 cv)=rr0:=⟨_,rfl⟩
 rw[hrr];have HT:=zq hrr;clear hrr
 go_enter Tryz.func64,Tryz.ntmps64
 go_wp2_with fail
 have s0_:(World.alloc w (Obj.cells #[.int .i64 1,.string nm,.int .i64 u,.int .i64 tk,.slice ta tn tq,.int .i64 fk,.slice fa fn fq,.int .i64 l,.slice c m q] 28)).cell? ⟨w.heap.size,0,none⟩=some (.int .i64 1):=au (by simp) 0;have s1_:(World.alloc w (Obj.cells #[.int .i64 1,.string nm,.int .i64 u,.int .i64 tk,.slice ta tn tq,.int .i64 fk,.slice fa fn fq,.int .i64 l,.slice c m q] 28)).cell? ⟨w.heap.size,8,none⟩=some (.slice c m q):=au (by simp) 8;have hS0:=zq (show(World.drew (World.alloc w (Obj.cells #[.int .i64 1,.string nm,.int .i64 u,.int .i64 tk,.slice ta tn tq,.int .i64 fk,.slice fa fn fq,.int .i64 l,.slice c m q] 28))).cell? ⟨w.heap.size,0,none⟩=some (.int .i64 1)∧(World.drew (World.alloc w (Obj.cells #[.int .i64 1,.string nm,.int .i64 u,.int .i64 tk,.slice ta tn tq,.int .i64 fk,.slice fa fn fq,.int .i64 l,.slice c m q] 28))).cell? ⟨w.heap.size,8,none⟩=some (.slice c m q) from⟨ay (s0_),ay (s1_)⟩);have hSb:=zq (show ∀X Y:World,Below X.heap.size X Y→(X.cell? ⟨w.heap.size,0,none⟩=some (.int .i64 1)∧X.cell? ⟨w.heap.size,8,none⟩=some (.slice c m q))→(Y.cell? ⟨w.heap.size,0,none⟩=some (.int .i64 1)∧Y.cell? ⟨w.heap.size,8,none⟩=some (.slice c m q)) from fun X Y h s=>⟨af h s.1,af h s.2⟩)
 go_region_held3 (fun w'=>w'.cell? ⟨w.heap.size,0,none⟩=some (.int .i64 1)∧w'.cell? ⟨w.heap.size,8,none⟩=some (.slice c m q))
  (repeat (first | with_reducible refine hSb.out _ _ hb1 ?_ | with_reducible exact hS0.out))
  (first | (go_at_call 93;((with_reducible refine(cS 1 _).mono ?_);rintro e w1 ⟨rfl,hb1⟩)))
 clear s0_ s1_;have hB:=(al aj.drew hb1)
 have zw1:=hB.size;have c0_0:w1.cell? ⟨w.heap.size,0,none⟩=some (.int .i64 1):=af hb1 (ay (au (by simp) 0));have c0_1:w1.cell? ⟨w.heap.size,1,none⟩=some (.string nm):=af hb1 (ay (au (by simp) 1));have c0_2:w1.cell? ⟨w.heap.size,2,none⟩=some (.int .i64 u):=af hb1 (ay (au (by simp) 2));have c0_3:w1.cell? ⟨w.heap.size,3,none⟩=some (.int .i64 tk):=af hb1 (ay (au (by simp) 3));have c0_4:w1.cell? ⟨w.heap.size,4,none⟩=some (.slice ta tn tq):=af hb1 (ay (au (by simp) 4));have c0_5:w1.cell? ⟨w.heap.size,5,none⟩=some (.int .i64 fk):=af hb1 (ay (au (by simp) 5));have c0_6:w1.cell? ⟨w.heap.size,6,none⟩=some (.slice fa fn fq):=af hb1 (ay (au (by simp) 6));have c0_7:w1.cell? ⟨w.heap.size,7,none⟩=some (.int .i64 l):=af hb1 (ay (au (by simp) 7));have d0_w1:=World.block_lt_of_cell? _ _ c0_0
 rcases Bool.eq_false_or_eq_true ((aG 1)==(m:Int)) with q1 | q1
 ·(try rw[q1])
  go_wp2_with fail
  refine(jO nm _).mono ?_;rintro e w2 ⟨rfl,hb2⟩;replace hB:=(al hB hb2)
  have zw2:=hB.size;replace c0_2:=af hb2 c0_2;replace c0_3:=af hb2 c0_3;replace c0_4:=af hb2 c0_4;replace c0_5:=af hb2 c0_5;replace c0_6:=af hb2 c0_6;replace c0_7:=af hb2 c0_7;have d0_w2:=World.block_lt_of_cell? _ _ c0_2
  rcases Bool.eq_false_or_eq_true (aO nm) with q2 | q2
  ·(try rw[q2])
   have Hq2:=zq q2;clear q2
   go_wp2_with fail
   refine(be u 0 0 _).mono ?_;rintro e w3 ⟨rfl,hb3⟩;replace hB:=(al hB hb3)
   have zw3:=hB.size;replace c0_3:=af hb3 c0_3;replace c0_4:=af hb3 c0_4;replace c0_5:=af hb3 c0_5;replace c0_6:=af hb3 c0_6;replace c0_7:=af hb3 c0_7;have d0_w3:=World.block_lt_of_cell? _ _ c0_3
   rcases Bool.eq_false_or_eq_true (aC u 0 0) with q3 | q3
   ·(try rw[q3])
    have Hq3:=zq q3;clear q3
    go_wp2_with fail
    refine(H2.out _ hB).mono ?_;rintro e w4 ⟨rfl,hb4⟩;replace hB:=(al hB hb4)
    have zw4:=hB.size;replace c0_5:=af hb4 c0_5;replace c0_6:=af hb4 c0_6;replace c0_7:=af hb4 c0_7;have d0_w4:=World.block_lt_of_cell? _ _ c0_5
    rcases Bool.eq_false_or_eq_true (n1) with q4 | q4
    ·(try rw[q4])
     have Hq4:=zq q4;clear q4
     rcases Bool.eq_false_or_eq_true (n2) with q5 | q5
     ·have Hq5:=zq q5
      clear q5
      go_wp2_with fail
      refine(H4.out _ hB).mono ?_;rintro e w5 ⟨rfl,hb5⟩;rw[Hq5.out];replace hB:=(al hB hb5)
      have zw5:=hB.size;replace c0_7:=af hb5 c0_7;have d0_w5:=World.block_lt_of_cell? _ _ c0_7
      rcases Bool.eq_false_or_eq_true (l==0) with q6 | q6
      ·(try rw[q6])
       have nq6:(l != 0)=false:=by simp only[bne,q6];rfl
       go_wp2_with fail
       refine bodyPost_ret (v:=.bool (true)) (by simp[results,Tryz.results64,go_sem,bne]) rfl ?_
       exact⟨ax ((im u l nm m tv n1 n2 cv q1 Hq2.out Hq3.out Hq4.out Hq5.out q6).trans HT.out),hB⟩
      ·(try rw[q6])
       have nq6:(l != 0)=true:=by simp only[bne,q6];rfl
       go_wp2_with fail
       refine bodyPost_ret (v:=.bool (false)) (by simp[results,Tryz.results64,go_sem,bne]) rfl ?_
       exact⟨ax ((io u l nm m tv n1 n2 cv q1 Hq2.out Hq3.out Hq4.out Hq5.out q6).trans HT.out),hB⟩
     ·have Hq5:=zq q5
      clear q5
      go_wp2_with fail
      refine(H4.out _ hB).mono ?_;rintro e w6 ⟨rfl,hb6⟩;rw[Hq5.out];replace hB:=(al hB hb6)
      have zw6:=hB.size
      go_wp2_with fail
      refine bodyPost_ret (v:=.bool (false)) (by simp[results,Tryz.results64,go_sem,bne]) rfl ?_
      exact⟨ax ((ip u l nm m tv n1 n2 cv q1 Hq2.out Hq3.out Hq4.out Hq5.out).trans HT.out),hB⟩
    ·(try rw[q4])
     have Hq4:=zq q4;clear q4
     go_wp2_with fail
     refine bodyPost_ret (v:=.bool (false)) (by simp[results,Tryz.results64,go_sem,bne]) rfl ?_
     exact⟨ax ((iq u l nm m tv n1 n2 cv q1 Hq2.out Hq3.out Hq4.out).trans HT.out),hB⟩
   ·(try rw[q3])
    have Hq3:=zq q3;clear q3
    go_wp2_with fail
    refine bodyPost_ret (v:=.bool (false)) (by simp[results,Tryz.results64,go_sem,bne]) rfl ?_
    exact⟨ax ((ir u l nm m tv n1 n2 cv q1 Hq2.out Hq3.out).trans HT.out),hB⟩
  ·(try rw[q2])
   have Hq2:=zq q2;clear q2
   go_wp2_with fail
   refine bodyPost_ret (v:=.bool (false)) (by simp[results,Tryz.results64,go_sem,bne]) rfl ?_
   exact⟨ax ((it u l nm m tv n1 n2 cv q1 Hq2.out).trans HT.out),hB⟩
 ·(try rw[q1])
  go_wp2_with fail
  refine bodyPost_ret (v:=.bool (false)) (by simp[results,Tryz.results64,go_sem,bne]) rfl ?_
  exact⟨ax ((iu u l nm m tv n1 n2 cv q1).trans HT.out),hB⟩
theorem ob (u tk fk l:Int)(nm:ByteArray)(ta fa c:Option Addr)(tn tq fn fq m q:Nat)(w:World)(tv n1 n2 cv:Bool)(H1:Hid (∀W,Below w.heap.size w W→Calls Tryz.prog 23 #[.agg #[.int .i64 tk,.slice ta tn tq]] W fun e W'=>e = .returned (.bool (tv))∧Below W.heap.size W W'))(H2:Hid (∀W,Below w.heap.size w W→Calls Tryz.prog 96 #[.agg #[.int .i64 tk,.slice ta tn tq]] W fun e W'=>e = .returned (.bool (n1))∧Below W.heap.size W W'))(H4:Hid (∀W,Below w.heap.size w W→Calls Tryz.prog 96 #[.agg #[.int .i64 fk,.slice fa fn fq]] W fun e W'=>e = .returned (.bool (n2))∧Below W.heap.size W W'))(H3:Hid (∀W,Below w.heap.size w W→Calls Tryz.prog 10 #[.agg #[.int .i64 fk,.slice fa fn fq],.agg #[.int .i64 tk,.slice ta tn tq]] W fun e W'=>e = .returned (.bool (cv))∧Below W.heap.size W W')) :
  Calls Tryz.prog 64 #[.agg #[.int .i64 2,.string nm,.int .i64 u,.int .i64 tk,.slice ta tn tq,.int .i64 fk,.slice fa fn fq,.int .i64 l,.slice c m q]] w fun e w'=>e = .returned (.bool (nodeB 2 u l nm m tv n1 n2 cv))∧Below w.heap.size w w':=by
 obtain⟨rr,hrr⟩ : ∃rr0:Bool,(nodeB 2 u l nm m tv n1 n2 cv)=rr0:=⟨_,rfl⟩
 rw[hrr];have HT:=zq hrr;clear hrr
 go_enter Tryz.func64,Tryz.ntmps64
 go_wp2_with fail
 have s0_:(World.alloc w (Obj.cells #[.int .i64 2,.string nm,.int .i64 u,.int .i64 tk,.slice ta tn tq,.int .i64 fk,.slice fa fn fq,.int .i64 l,.slice c m q] 28)).cell? ⟨w.heap.size,0,none⟩=some (.int .i64 2):=au (by simp) 0;have s1_:(World.alloc w (Obj.cells #[.int .i64 2,.string nm,.int .i64 u,.int .i64 tk,.slice ta tn tq,.int .i64 fk,.slice fa fn fq,.int .i64 l,.slice c m q] 28)).cell? ⟨w.heap.size,8,none⟩=some (.slice c m q):=au (by simp) 8;have hS0:=zq (show(World.drew (World.alloc w (Obj.cells #[.int .i64 2,.string nm,.int .i64 u,.int .i64 tk,.slice ta tn tq,.int .i64 fk,.slice fa fn fq,.int .i64 l,.slice c m q] 28))).cell? ⟨w.heap.size,0,none⟩=some (.int .i64 2)∧(World.drew (World.alloc w (Obj.cells #[.int .i64 2,.string nm,.int .i64 u,.int .i64 tk,.slice ta tn tq,.int .i64 fk,.slice fa fn fq,.int .i64 l,.slice c m q] 28))).cell? ⟨w.heap.size,8,none⟩=some (.slice c m q) from⟨ay (s0_),ay (s1_)⟩);have hSb:=zq (show ∀X Y:World,Below X.heap.size X Y→(X.cell? ⟨w.heap.size,0,none⟩=some (.int .i64 2)∧X.cell? ⟨w.heap.size,8,none⟩=some (.slice c m q))→(Y.cell? ⟨w.heap.size,0,none⟩=some (.int .i64 2)∧Y.cell? ⟨w.heap.size,8,none⟩=some (.slice c m q)) from fun X Y h s=>⟨af h s.1,af h s.2⟩)
 go_region_held3 (fun w'=>w'.cell? ⟨w.heap.size,0,none⟩=some (.int .i64 2)∧w'.cell? ⟨w.heap.size,8,none⟩=some (.slice c m q))
  (repeat (first | with_reducible refine hSb.out _ _ hb1 ?_ | with_reducible exact hS0.out))
  (first | (go_at_call 93;((with_reducible refine(cS 2 _).mono ?_);rintro e w1 ⟨rfl,hb1⟩)))
 clear s0_ s1_;have hB:=(al aj.drew hb1)
 have zw1:=hB.size;have c0_0:w1.cell? ⟨w.heap.size,0,none⟩=some (.int .i64 2):=af hb1 (ay (au (by simp) 0));have c0_1:w1.cell? ⟨w.heap.size,1,none⟩=some (.string nm):=af hb1 (ay (au (by simp) 1));have c0_2:w1.cell? ⟨w.heap.size,2,none⟩=some (.int .i64 u):=af hb1 (ay (au (by simp) 2));have c0_3:w1.cell? ⟨w.heap.size,3,none⟩=some (.int .i64 tk):=af hb1 (ay (au (by simp) 3));have c0_4:w1.cell? ⟨w.heap.size,4,none⟩=some (.slice ta tn tq):=af hb1 (ay (au (by simp) 4));have c0_5:w1.cell? ⟨w.heap.size,5,none⟩=some (.int .i64 fk):=af hb1 (ay (au (by simp) 5));have c0_6:w1.cell? ⟨w.heap.size,6,none⟩=some (.slice fa fn fq):=af hb1 (ay (au (by simp) 6));have c0_7:w1.cell? ⟨w.heap.size,7,none⟩=some (.int .i64 l):=af hb1 (ay (au (by simp) 7));have d0_w1:=World.block_lt_of_cell? _ _ c0_0
 rcases Bool.eq_false_or_eq_true ((aG 2)==(m:Int)) with q1 | q1
 ·(try rw[q1])
  rcases Bool.eq_false_or_eq_true (nm.toList == []) with q2 | q2
  ·(try rw[q2])
   have nq2:(nm.toList != [])=false:=by simp only[bne,q2];rfl
   go_wp2_with fail
   refine(be u 0 999 _).mono ?_;rintro e w2 ⟨rfl,hb2⟩;replace hB:=(al hB hb2)
   have zw2:=hB.size;replace c0_3:=af hb2 c0_3;replace c0_4:=af hb2 c0_4;replace c0_5:=af hb2 c0_5;replace c0_6:=af hb2 c0_6;replace c0_7:=af hb2 c0_7;have d0_w2:=World.block_lt_of_cell? _ _ c0_3
   rcases Bool.eq_false_or_eq_true (aC u 0 999) with q3 | q3
   ·(try rw[q3])
    have Hq3:=zq q3;clear q3
    go_wp2_with fail
    refine(H2.out _ hB).mono ?_;rintro e w3 ⟨rfl,hb3⟩;replace hB:=(al hB hb3)
    have zw3:=hB.size;replace c0_5:=af hb3 c0_5;replace c0_6:=af hb3 c0_6;replace c0_7:=af hb3 c0_7;have d0_w3:=World.block_lt_of_cell? _ _ c0_5
    rcases Bool.eq_false_or_eq_true (n1) with q4 | q4
    ·(try rw[q4])
     have Hq4:=zq q4;clear q4
     rcases Bool.eq_false_or_eq_true (n2) with q5 | q5
     ·have Hq5:=zq q5
      clear q5
      go_wp2_with fail
      refine(H4.out _ hB).mono ?_;rintro e w4 ⟨rfl,hb4⟩;rw[Hq5.out];replace hB:=(al hB hb4)
      have zw4:=hB.size;replace c0_7:=af hb4 c0_7;have d0_w4:=World.block_lt_of_cell? _ _ c0_7
      rcases Bool.eq_false_or_eq_true (l==0) with q6 | q6
      ·(try rw[q6])
       have nq6:(l != 0)=false:=by simp only[bne,q6];rfl
       go_wp2_with fail
       refine bodyPost_ret (v:=.bool (true)) (by simp[results,Tryz.results64,go_sem,bne]) rfl ?_
       exact⟨ax ((iv u l nm m tv n1 n2 cv q1 q2 Hq3.out Hq4.out Hq5.out q6).trans HT.out),hB⟩
      ·(try rw[q6])
       have nq6:(l != 0)=true:=by simp only[bne,q6];rfl
       go_wp2_with fail
       refine bodyPost_ret (v:=.bool (false)) (by simp[results,Tryz.results64,go_sem,bne]) rfl ?_
       exact⟨ax ((iw u l nm m tv n1 n2 cv q1 q2 Hq3.out Hq4.out Hq5.out q6).trans HT.out),hB⟩
     ·have Hq5:=zq q5
      clear q5
      go_wp2_with fail
      refine(H4.out _ hB).mono ?_;rintro e w5 ⟨rfl,hb5⟩;rw[Hq5.out];replace hB:=(al hB hb5)
      have zw5:=hB.size
      go_wp2_with fail
      refine bodyPost_ret (v:=.bool (false)) (by simp[results,Tryz.results64,go_sem,bne]) rfl ?_
      exact⟨ax ((ix u l nm m tv n1 n2 cv q1 q2 Hq3.out Hq4.out Hq5.out).trans HT.out),hB⟩
    ·(try rw[q4])
     have Hq4:=zq q4;clear q4
     go_wp2_with fail
     refine bodyPost_ret (v:=.bool (false)) (by simp[results,Tryz.results64,go_sem,bne]) rfl ?_
     exact⟨ax ((gN u l nm m tv n1 n2 cv q1 q2 Hq3.out Hq4.out).trans HT.out),hB⟩
   ·(try rw[q3])
    have Hq3:=zq q3;clear q3
    go_wp2_with fail
    refine bodyPost_ret (v:=.bool (false)) (by simp[results,Tryz.results64,go_sem,bne]) rfl ?_
    exact⟨ax ((gO u l nm m tv n1 n2 cv q1 q2 Hq3.out).trans HT.out),hB⟩
  ·(try rw[q2])
   have nq2:(nm.toList != [])=true:=by simp only[bne,q2];rfl
   go_wp2_with fail
   refine bodyPost_ret (v:=.bool (false)) (by simp[results,Tryz.results64,go_sem,bne]) rfl ?_
   exact⟨ax ((gP u l nm m tv n1 n2 cv q1 q2).trans HT.out),hB⟩
 ·(try rw[q1])
  go_wp2_with fail
  refine bodyPost_ret (v:=.bool (false)) (by simp[results,Tryz.results64,go_sem,bne]) rfl ?_
  exact⟨ax ((gQ u l nm m tv n1 n2 cv q1).trans HT.out),hB⟩
theorem oc (u tk fk l:Int)(nm:ByteArray)(ta fa c:Option Addr)(tn tq fn fq m q:Nat)(w:World)(tv n1 n2 cv:Bool)(H1:Hid (∀W,Below w.heap.size w W→Calls Tryz.prog 23 #[.agg #[.int .i64 tk,.slice ta tn tq]] W fun e W'=>e = .returned (.bool (tv))∧Below W.heap.size W W'))(H2:Hid (∀W,Below w.heap.size w W→Calls Tryz.prog 96 #[.agg #[.int .i64 tk,.slice ta tn tq]] W fun e W'=>e = .returned (.bool (n1))∧Below W.heap.size W W'))(H4:Hid (∀W,Below w.heap.size w W→Calls Tryz.prog 96 #[.agg #[.int .i64 fk,.slice fa fn fq]] W fun e W'=>e = .returned (.bool (n2))∧Below W.heap.size W W'))(H3:Hid (∀W,Below w.heap.size w W→Calls Tryz.prog 10 #[.agg #[.int .i64 fk,.slice fa fn fq],.agg #[.int .i64 tk,.slice ta tn tq]] W fun e W'=>e = .returned (.bool (cv))∧Below W.heap.size W W')) :
  Calls Tryz.prog 64 #[.agg #[.int .i64 5,.string nm,.int .i64 u,.int .i64 tk,.slice ta tn tq,.int .i64 fk,.slice fa fn fq,.int .i64 l,.slice c m q]] w fun e w'=>e = .returned (.bool (nodeB 5 u l nm m tv n1 n2 cv))∧Below w.heap.size w w':=by
 obtain⟨rr,hrr⟩ : ∃rr0:Bool,(nodeB 5 u l nm m tv n1 n2 cv)=rr0:=⟨_,rfl⟩
 rw[hrr];have HT:=zq hrr;clear hrr
 go_enter Tryz.func64,Tryz.ntmps64
 go_wp2_with fail
 have s0_:(World.alloc w (Obj.cells #[.int .i64 5,.string nm,.int .i64 u,.int .i64 tk,.slice ta tn tq,.int .i64 fk,.slice fa fn fq,.int .i64 l,.slice c m q] 28)).cell? ⟨w.heap.size,0,none⟩=some (.int .i64 5):=au (by simp) 0;have s1_:(World.alloc w (Obj.cells #[.int .i64 5,.string nm,.int .i64 u,.int .i64 tk,.slice ta tn tq,.int .i64 fk,.slice fa fn fq,.int .i64 l,.slice c m q] 28)).cell? ⟨w.heap.size,8,none⟩=some (.slice c m q):=au (by simp) 8;have hS0:=zq (show(World.drew (World.alloc w (Obj.cells #[.int .i64 5,.string nm,.int .i64 u,.int .i64 tk,.slice ta tn tq,.int .i64 fk,.slice fa fn fq,.int .i64 l,.slice c m q] 28))).cell? ⟨w.heap.size,0,none⟩=some (.int .i64 5)∧(World.drew (World.alloc w (Obj.cells #[.int .i64 5,.string nm,.int .i64 u,.int .i64 tk,.slice ta tn tq,.int .i64 fk,.slice fa fn fq,.int .i64 l,.slice c m q] 28))).cell? ⟨w.heap.size,8,none⟩=some (.slice c m q) from⟨ay (s0_),ay (s1_)⟩);have hSb:=zq (show ∀X Y:World,Below X.heap.size X Y→(X.cell? ⟨w.heap.size,0,none⟩=some (.int .i64 5)∧X.cell? ⟨w.heap.size,8,none⟩=some (.slice c m q))→(Y.cell? ⟨w.heap.size,0,none⟩=some (.int .i64 5)∧Y.cell? ⟨w.heap.size,8,none⟩=some (.slice c m q)) from fun X Y h s=>⟨af h s.1,af h s.2⟩)
 go_region_held3 (fun w'=>w'.cell? ⟨w.heap.size,0,none⟩=some (.int .i64 5)∧w'.cell? ⟨w.heap.size,8,none⟩=some (.slice c m q))
  (repeat (first | with_reducible refine hSb.out _ _ hb1 ?_ | with_reducible exact hS0.out))
  (first | (go_at_call 93;((with_reducible refine(cS 5 _).mono ?_);rintro e w1 ⟨rfl,hb1⟩)))
 clear s0_ s1_;have hB:=(al aj.drew hb1)
 have zw1:=hB.size;have c0_0:w1.cell? ⟨w.heap.size,0,none⟩=some (.int .i64 5):=af hb1 (ay (au (by simp) 0));have c0_1:w1.cell? ⟨w.heap.size,1,none⟩=some (.string nm):=af hb1 (ay (au (by simp) 1));have c0_2:w1.cell? ⟨w.heap.size,2,none⟩=some (.int .i64 u):=af hb1 (ay (au (by simp) 2));have c0_3:w1.cell? ⟨w.heap.size,3,none⟩=some (.int .i64 tk):=af hb1 (ay (au (by simp) 3));have c0_4:w1.cell? ⟨w.heap.size,4,none⟩=some (.slice ta tn tq):=af hb1 (ay (au (by simp) 4));have c0_5:w1.cell? ⟨w.heap.size,5,none⟩=some (.int .i64 fk):=af hb1 (ay (au (by simp) 5));have c0_6:w1.cell? ⟨w.heap.size,6,none⟩=some (.slice fa fn fq):=af hb1 (ay (au (by simp) 6));have c0_7:w1.cell? ⟨w.heap.size,7,none⟩=some (.int .i64 l):=af hb1 (ay (au (by simp) 7));have d0_w1:=World.block_lt_of_cell? _ _ c0_0
 rcases Bool.eq_false_or_eq_true ((aG 5)==(m:Int)) with q1 | q1
 ·(try rw[q1])
  go_wp2_with fail
  refine(jO nm _).mono ?_;rintro e w2 ⟨rfl,hb2⟩;replace hB:=(al hB hb2)
  have zw2:=hB.size;replace c0_2:=af hb2 c0_2;replace c0_3:=af hb2 c0_3;replace c0_4:=af hb2 c0_4;replace c0_5:=af hb2 c0_5;replace c0_6:=af hb2 c0_6;replace c0_7:=af hb2 c0_7;have d0_w2:=World.block_lt_of_cell? _ _ c0_2
  rcases Bool.eq_false_or_eq_true (aO nm) with q2 | q2
  ·(try rw[q2])
   have Hq2:=zq q2;clear q2
   go_wp2_with fail
   refine(be u 0 0 _).mono ?_;rintro e w3 ⟨rfl,hb3⟩;replace hB:=(al hB hb3)
   have zw3:=hB.size;replace c0_3:=af hb3 c0_3;replace c0_4:=af hb3 c0_4;replace c0_5:=af hb3 c0_5;replace c0_6:=af hb3 c0_6;replace c0_7:=af hb3 c0_7;have d0_w3:=World.block_lt_of_cell? _ _ c0_3
   rcases Bool.eq_false_or_eq_true (aC u 0 0) with q3 | q3
   ·(try rw[q3])
    have Hq3:=zq q3;clear q3
    go_wp2_with fail
    refine(H1.out _ hB).mono ?_;rintro e w4 ⟨rfl,hb4⟩;replace hB:=(al hB hb4)
    have zw4:=hB.size;replace c0_5:=af hb4 c0_5;replace c0_6:=af hb4 c0_6;replace c0_7:=af hb4 c0_7;have d0_w4:=World.block_lt_of_cell? _ _ c0_5
    rcases Bool.eq_false_or_eq_true (tv) with q4 | q4
    ·(try rw[q4])
     have Hq4:=zq q4;clear q4
     rcases Bool.eq_false_or_eq_true (n2) with q5 | q5
     ·have Hq5:=zq q5
      clear q5
      go_wp2_with fail
      refine(H4.out _ hB).mono ?_;rintro e w5 ⟨rfl,hb5⟩;rw[Hq5.out];replace hB:=(al hB hb5)
      have zw5:=hB.size;replace c0_7:=af hb5 c0_7;have d0_w5:=World.block_lt_of_cell? _ _ c0_7
      rcases Bool.eq_false_or_eq_true (l==0) with q6 | q6
      ·(try rw[q6])
       have nq6:(l != 0)=false:=by simp only[bne,q6];rfl
       go_wp2_with fail
       refine bodyPost_ret (v:=.bool (true)) (by simp[results,Tryz.results64,go_sem,bne]) rfl ?_
       exact⟨ax ((gR u l nm m tv n1 n2 cv q1 Hq2.out Hq3.out Hq4.out Hq5.out q6).trans HT.out),hB⟩
      ·(try rw[q6])
       have nq6:(l != 0)=true:=by simp only[bne,q6];rfl
       go_wp2_with fail
       refine bodyPost_ret (v:=.bool (false)) (by simp[results,Tryz.results64,go_sem,bne]) rfl ?_
       exact⟨ax ((gS u l nm m tv n1 n2 cv q1 Hq2.out Hq3.out Hq4.out Hq5.out q6).trans HT.out),hB⟩
     ·have Hq5:=zq q5
      clear q5
      go_wp2_with fail
      refine(H4.out _ hB).mono ?_;rintro e w6 ⟨rfl,hb6⟩;rw[Hq5.out];replace hB:=(al hB hb6)
      have zw6:=hB.size
      go_wp2_with fail
      refine bodyPost_ret (v:=.bool (false)) (by simp[results,Tryz.results64,go_sem,bne]) rfl ?_
      exact⟨ax ((gT u l nm m tv n1 n2 cv q1 Hq2.out Hq3.out Hq4.out Hq5.out).trans HT.out),hB⟩
    ·(try rw[q4])
     have Hq4:=zq q4;clear q4
     go_wp2_with fail
     refine bodyPost_ret (v:=.bool (false)) (by simp[results,Tryz.results64,go_sem,bne]) rfl ?_
     exact⟨ax ((gU u l nm m tv n1 n2 cv q1 Hq2.out Hq3.out Hq4.out).trans HT.out),hB⟩
   ·(try rw[q3])
    have Hq3:=zq q3;clear q3
    go_wp2_with fail
    refine bodyPost_ret (v:=.bool (false)) (by simp[results,Tryz.results64,go_sem,bne]) rfl ?_
    exact⟨ax ((gV u l nm m tv n1 n2 cv q1 Hq2.out Hq3.out).trans HT.out),hB⟩
  ·(try rw[q2])
   have Hq2:=zq q2;clear q2
   go_wp2_with fail
   refine bodyPost_ret (v:=.bool (false)) (by simp[results,Tryz.results64,go_sem,bne]) rfl ?_
   exact⟨ax ((gW u l nm m tv n1 n2 cv q1 Hq2.out).trans HT.out),hB⟩
 ·(try rw[q1])
  go_wp2_with fail
  refine bodyPost_ret (v:=.bool (false)) (by simp[results,Tryz.results64,go_sem,bne]) rfl ?_
  exact⟨ax ((gX u l nm m tv n1 n2 cv q1).trans HT.out),hB⟩
end Go.Proofs.YtfahhonmiimmdaaGreat

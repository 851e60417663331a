/-
  Terms are drawn: what is said of them; numbers, leaves.
-/
import Derived.Test.YtnaoghknnenfoaaB1
import Derived.Test.YtnaoghknnenfoaaB6
import Derived.Test.YtnaoghknnenfoaaB6
set_option linter.unusedSimpArgs false
set_option linter.unusedVariables false
set_option maxRecDepth 100000
namespace Go.Proofs.Ytnaoghknnenfoaa
open Go.RowKit
def DTm (r p c m:Nat)(w:World)(e:Ending)(w':World):Prop:=∃(t:Tm) (v:Value) (q:Nat),e = .returned v∧t.cnt≤m∧az (w.heap.size ≤ ·) w' t v∧q≤p+c∧aW w' r q∧Chg [r] w w'
theorem DTm.mono {r p c m c' m':Nat}{w w':World}{e:Ending}(h:DTm r p c m w e w')(hc:c≤c')(hm:m≤m'):DTm r p c' m' w e w':=by
 obtain⟨t,v,q,h1,h2,h3,h4,h5,h6⟩:=h
 exact⟨t,v,q,h1,by omega,h3,by omega,h5,h6⟩
theorem aF.nil0 {F:Nat→Prop}{w:World}{a:Option Addr}:aF F w [] (.slice a 0 0):=by
 unfold aF Ty.rows aS
 exact⟨a,0,rfl,Nat.le_refl _,by unfold maxLen;omega,.inl rfl⟩
theorem az.leaf0 {F:Nat→Prop}{w:World}(k u:Int){nm:ByteArray}(hn:nm.size≤maxLen):az F w (.mk k nm u (.mk 0 []) (.mk 0 []) 0 []) (.agg #[.int .i64 k,.string nm,.int .i64 u,.int .i64 0,.slice none 0 0,.int .i64 0,.slice none 0 0,.int .i64 0,.slice none 0 0]):=
 ⟨_,_,_,rfl,hn,aF.nil0,aF.nil0,by unfold aV Tm.kids Tm.rows aS;exact⟨none,0,rfl,Nat.le_refl _,by unfold maxLen;omega,.inl rfl⟩⟩
theorem az.chg {fp:List Nat}{w w':World}{F:Nat→Prop}{t:Tm}{y:Value}(h:Chg fp w w')(hn : ∀b,F b→b∉fp)(r:az F w t y):az F w' t y:=r.move (h.keeps hn)
theorem az.lower {B B':Nat}{w:World}{t:Tm}{y:Value}(h:az (B ≤ ·) w t y)(hB:B'≤B):az (B' ≤ ·) w t y:=h.move (.weaken fun b hb _=>Nat.le_trans hB hb)
theorem az.setB {B:Nat}{w:World}{t:Tm}{y:Value}(h:az (B ≤ ·) w t y){p:Addr}(hp:p.block<B)(v:Value):az (B ≤ ·) (w.setCell p v) t y:=
 h.move ⟨by simp [World.setCell],fun _ h _=>h,fun b hb _=>Below.heap_setCell w p v b (by omega)⟩
theorem az.ne {B r:Nat}{w:World}{t:Tm}{y:Value}(h:az (B ≤ ·) w t y)(hr:r<B):az (· ≠ r) w t y:=h.move (.weaken fun b hb _=>by have:B≤b:=hb;omega)
def set9 (w:World)(b:Nat)(v0 v1 v2 v3 v4 v5 v6 v7 v8:Value):World:=(((((((((w.setCell ⟨b,0,none⟩ (v0)).setCell ⟨b,1,none⟩ (v1)).setCell ⟨b,2,none⟩ (v2)).setCell ⟨b,3,none⟩ (v3)).setCell ⟨b,4,none⟩ (v4)).setCell ⟨b,5,none⟩ (v5)).setCell ⟨b,6,none⟩ (v6)).setCell ⟨b,7,none⟩ (v7)).setCell ⟨b,8,none⟩ (v8))
theorem DTm.stored {r p q c m B R:Nat}{w w1:World}{t:Tm}{v:Value}{v0 v1 v2 v3 v4 v5 v6 v7 v8:Value}(hv:az (B ≤ ·) w1 t v)(hm:t.cnt≤m)(hB:w.heap.size≤B)(hq:q≤p+c)(hrd:aW w1 r q)(hch:Chg [r] w w1)(hR:w.heap.size≤R)(hRB:R<B)(hr:r<R) :
  DTm r p c m w (.returned v) (set9 w1 R v0 v1 v2 v3 v4 v5 v6 v7 v8):=by
 unfold set9
 exact⟨t,v,q,rfl,hm,((((((((((hv.setB (by show R<B;omega) _).setB (by show R<B;omega) _).setB (by show R<B;omega) _).setB (by show R<B;omega) _).setB (by show R<B;omega) _).setB (by show R<B;omega) _).setB (by show R<B;omega) _).setB (by show R<B;omega) _).setB (by show R<B;omega) _)).lower hB,hq,(((((((((hrd.setCell (by show r<R;omega) _).setCell (by show r<R;omega) _).setCell (by show r<R;omega) _).setCell (by show r<R;omega) _).setCell (by show r<R;omega) _).setCell (by show r<R;omega) _).setCell (by show r<R;omega) _).setCell (by show r<R;omega) _).setCell (by show r<R;omega) _),(((((((((hch.trans' (by show w.heap.size≤R;omega) _).trans' (by show w.heap.size≤R;omega) _).trans' (by show w.heap.size≤R;omega) _).trans' (by show w.heap.size≤R;omega) _).trans' (by show w.heap.size≤R;omega) _).trans' (by show w.heap.size≤R;omega) _).trans' (by show w.heap.size≤R;omega) _).trans' (by show w.heap.size≤R;omega) _).trans' (by show w.heap.size≤R;omega) _)⟩
set_option maxHeartbeats 1000000 in
theorem cA (n:Int)(w:World):Calls Try.prog 47 #[.int .i64 n] w fun e w'=>e = .returned (.agg #[.int .i64 2,.string { data:=#[] },.int .i64 n,.int .i64 0,.slice none 0 0,.int .i64 0,.slice none 0 0,.int .i64 0,.slice none 0 0])∧Below w.heap.size w w':=by
 go_enter Try.func47,Try.ntmps47
 go_wp2_with fail
 refine bodyPost_ret (v:=.agg #[.int .i64 2,.string { data:=#[] },.int .i64 n,.int .i64 0,.slice none 0 0,.int .i64 0,.slice none 0 0,.int .i64 0,.slice none 0 0]) (by simp [results,Try.results47,go_sem]) rfl ?_
 exact⟨rfl,ah⟩
set_option maxHeartbeats 4000000 in
theorem iL (r p:Nat)(s:ByteArray)(w:World)(h:aW w r p)(hs:s.size≤1000)(hp:p≤1125899906842000):Calls Try.prog 70 #[.pointer (some ⟨r,0,none⟩),.string s] w (DTm r p 3 1 w):=by
 have hrl:=h.1
 rcases Nat.eq_zero_or_pos s.size with hz | hz
 ·have hd:decide ((s.size:Int)>0)=false:=by rw [decide_eq_false_iff_not];omega
  go_enter Try.func70,Try.ntmps70
  go_wp2_with fail
  refine(bE r (p) 5 _ (h.below ah) (by omega) (by omega)).mono ?_
  rintro e w3 ⟨j3,rfl,j30,j31,hrd3,hc3⟩
  have hw3:=hc3.size
  simp only [World.size_alloc] at hw3
  have hch3:=(Chg.of_below ah).trans hc3
  have f0:w3.frozen? ⟨w.heap.size,0,none⟩=false:=aZ hc3 (by omega) (ao 0) (aP 0)
  have x0:w3.cell? ⟨w.heap.size,0,none⟩=some (.int .i64 0):=aR hc3 (by omega) (ao 0)
  have f1:w3.frozen? ⟨w.heap.size,1,none⟩=false:=aZ hc3 (by omega) (ao 1) (aP 1)
  have x1:w3.cell? ⟨w.heap.size,1,none⟩=some (.string { data:=#[] }):=aR hc3 (by omega) (ao 1)
  have f2:w3.frozen? ⟨w.heap.size,2,none⟩=false:=aZ hc3 (by omega) (ao 2) (aP 2)
  have x2:w3.cell? ⟨w.heap.size,2,none⟩=some (.int .i64 0):=aR hc3 (by omega) (ao 2)
  have f3:w3.frozen? ⟨w.heap.size,3,none⟩=false:=aZ hc3 (by omega) (ao 3) (aP 3)
  have x3:w3.cell? ⟨w.heap.size,3,none⟩=some (.int .i64 0):=aR hc3 (by omega) (ao 3)
  have f4:w3.frozen? ⟨w.heap.size,4,none⟩=false:=aZ hc3 (by omega) (ao 4) (aP 4)
  have x4:w3.cell? ⟨w.heap.size,4,none⟩=some (.slice none 0 0):=aR hc3 (by omega) (ao 4)
  have f5:w3.frozen? ⟨w.heap.size,5,none⟩=false:=aZ hc3 (by omega) (ao 5) (aP 5)
  have x5:w3.cell? ⟨w.heap.size,5,none⟩=some (.int .i64 0):=aR hc3 (by omega) (ao 5)
  have f6:w3.frozen? ⟨w.heap.size,6,none⟩=false:=aZ hc3 (by omega) (ao 6) (aP 6)
  have x6:w3.cell? ⟨w.heap.size,6,none⟩=some (.slice none 0 0):=aR hc3 (by omega) (ao 6)
  have f7:w3.frozen? ⟨w.heap.size,7,none⟩=false:=aZ hc3 (by omega) (ao 7) (aP 7)
  have x7:w3.cell? ⟨w.heap.size,7,none⟩=some (.int .i64 0):=aR hc3 (by omega) (ao 7)
  have f8:w3.frozen? ⟨w.heap.size,8,none⟩=false:=aZ hc3 (by omega) (ao 8) (aP 8)
  have x8:w3.cell? ⟨w.heap.size,8,none⟩=some (.slice none 0 0):=aR hc3 (by omega) (ao 8)
  rcases Bool.eq_false_or_eq_true (j3==0) with q0 | q0
  ·go_wp2_with fail
   refine bodyPost_ret (v:=.agg #[.int .i64 3,.string { data:=#[] },.int .i64 0,.int .i64 0,.slice none 0 0,.int .i64 0,.slice none 0 0,.int .i64 0,.slice none 0 0]) (by simp [results,Try.results70,go_sem,x0,x1,x2,x3,x4,x5,x6,x7,x8]) rfl ?_
   exact DTm.stored (q:=p+1) (R:=w.heap.size) (B:=w.heap.size+1) (az.leaf0 3 0 (by unfold maxLen;decide)) (by simp [Tm.cnt,Tm.cnts,Ty.cnt,Ty.cnts,ByteArray.size]) (by omega) (by omega) hrd3 hch3 (Nat.le_refl _) (by omega) hrl
  ·rcases Bool.eq_false_or_eq_true (j3==1) with q1 | q1
   ·go_wp2_with fail
    refine bodyPost_ret (v:=.agg #[.int .i64 4,.string { data:=#[] },.int .i64 0,.int .i64 0,.slice none 0 0,.int .i64 0,.slice none 0 0,.int .i64 0,.slice none 0 0]) (by simp [results,Try.results70,go_sem,x0,x1,x2,x3,x4,x5,x6,x7,x8]) rfl ?_
    exact DTm.stored (q:=p+1) (R:=w.heap.size) (B:=w.heap.size+1) (az.leaf0 4 0 (by unfold maxLen;decide)) (by simp [Tm.cnt,Tm.cnts,Ty.cnt,Ty.cnts,ByteArray.size]) (by omega) (by omega) hrd3 hch3 (Nat.le_refl _) (by omega) hrl
   ·go_wp2_with fail
    refine(cn (fun _=>True) r (p+1) _ 6 6 _ (hrd3.below ah) (by omega) (by omega) (by omega) (Nat.le_refl _) (by omega) (bQ [1,0,2,5,999,7] rfl _ (fun _ _=>trivial))).mono ?_
    rintro e w4 ⟨kn,rfl,-,hrd4,hc4⟩
    have hw4:=hc4.size
    simp only [World.size_alloc] at hw4
    replace hch3:=(hch3.trans (Chg.of_below ah)).trans hc4
    replace f0:w4.frozen? ⟨w.heap.size,0,none⟩=false:=aZ hc4 (by omega) (a9 ah x0) (aw ah x0 f0)
    replace x0:w4.cell? ⟨w.heap.size,0,none⟩=some (.int .i64 0):=aR hc4 (by omega) (a9 ah x0)
    replace f1:w4.frozen? ⟨w.heap.size,1,none⟩=false:=aZ hc4 (by omega) (a9 ah x1) (aw ah x1 f1)
    replace x1:w4.cell? ⟨w.heap.size,1,none⟩=some (.string { data:=#[] }):=aR hc4 (by omega) (a9 ah x1)
    replace f2:w4.frozen? ⟨w.heap.size,2,none⟩=false:=aZ hc4 (by omega) (a9 ah x2) (aw ah x2 f2)
    replace x2:w4.cell? ⟨w.heap.size,2,none⟩=some (.int .i64 0):=aR hc4 (by omega) (a9 ah x2)
    replace f3:w4.frozen? ⟨w.heap.size,3,none⟩=false:=aZ hc4 (by omega) (a9 ah x3) (aw ah x3 f3)
    replace x3:w4.cell? ⟨w.heap.size,3,none⟩=some (.int .i64 0):=aR hc4 (by omega) (a9 ah x3)
    replace f4:w4.frozen? ⟨w.heap.size,4,none⟩=false:=aZ hc4 (by omega) (a9 ah x4) (aw ah x4 f4)
    replace x4:w4.cell? ⟨w.heap.size,4,none⟩=some (.slice none 0 0):=aR hc4 (by omega) (a9 ah x4)
    replace f5:w4.frozen? ⟨w.heap.size,5,none⟩=false:=aZ hc4 (by omega) (a9 ah x5) (aw ah x5 f5)
    replace x5:w4.cell? ⟨w.heap.size,5,none⟩=some (.int .i64 0):=aR hc4 (by omega) (a9 ah x5)
    replace f6:w4.frozen? ⟨w.heap.size,6,none⟩=false:=aZ hc4 (by omega) (a9 ah x6) (aw ah x6 f6)
    replace x6:w4.cell? ⟨w.heap.size,6,none⟩=some (.slice none 0 0):=aR hc4 (by omega) (a9 ah x6)
    replace f7:w4.frozen? ⟨w.heap.size,7,none⟩=false:=aZ hc4 (by omega) (a9 ah x7) (aw ah x7 f7)
    replace x7:w4.cell? ⟨w.heap.size,7,none⟩=some (.int .i64 0):=aR hc4 (by omega) (a9 ah x7)
    replace f8:w4.frozen? ⟨w.heap.size,8,none⟩=false:=aZ hc4 (by omega) (a9 ah x8) (aw ah x8 f8)
    replace x8:w4.cell? ⟨w.heap.size,8,none⟩=some (.slice none 0 0):=aR hc4 (by omega) (a9 ah x8)
    go_wp2_with fail
    refine(cA kn _).mono ?_
    rintro e w5 ⟨rfl,hb5⟩
    replace hch3:=hch3.trans (Chg.of_below hb5)
    have hrd5:=hrd4.below hb5
    have hw5:=hb5.size
    replace f0:w5.frozen? ⟨w.heap.size,0,none⟩=false:=aw hb5 x0 f0
    replace x0:w5.cell? ⟨w.heap.size,0,none⟩=some (.int .i64 0):=a9 hb5 x0
    replace f1:w5.frozen? ⟨w.heap.size,1,none⟩=false:=aw hb5 x1 f1
    replace x1:w5.cell? ⟨w.heap.size,1,none⟩=some (.string { data:=#[] }):=a9 hb5 x1
    replace f2:w5.frozen? ⟨w.heap.size,2,none⟩=false:=aw hb5 x2 f2
    replace x2:w5.cell? ⟨w.heap.size,2,none⟩=some (.int .i64 0):=a9 hb5 x2
    replace f3:w5.frozen? ⟨w.heap.size,3,none⟩=false:=aw hb5 x3 f3
    replace x3:w5.cell? ⟨w.heap.size,3,none⟩=some (.int .i64 0):=a9 hb5 x3
    replace f4:w5.frozen? ⟨w.heap.size,4,none⟩=false:=aw hb5 x4 f4
    replace x4:w5.cell? ⟨w.heap.size,4,none⟩=some (.slice none 0 0):=a9 hb5 x4
    replace f5:w5.frozen? ⟨w.heap.size,5,none⟩=false:=aw hb5 x5 f5
    replace x5:w5.cell? ⟨w.heap.size,5,none⟩=some (.int .i64 0):=a9 hb5 x5
    replace f6:w5.frozen? ⟨w.heap.size,6,none⟩=false:=aw hb5 x6 f6
    replace x6:w5.cell? ⟨w.heap.size,6,none⟩=some (.slice none 0 0):=a9 hb5 x6
    replace f7:w5.frozen? ⟨w.heap.size,7,none⟩=false:=aw hb5 x7 f7
    replace x7:w5.cell? ⟨w.heap.size,7,none⟩=some (.int .i64 0):=a9 hb5 x7
    replace f8:w5.frozen? ⟨w.heap.size,8,none⟩=false:=aw hb5 x8 f8
    replace x8:w5.cell? ⟨w.heap.size,8,none⟩=some (.slice none 0 0):=a9 hb5 x8
    go_wp2_with fail
    refine bodyPost_ret (v:=.agg #[.int .i64 2,.string { data:=#[] },.int .i64 kn,.int .i64 0,.slice none 0 0,.int .i64 0,.slice none 0 0,.int .i64 0,.slice none 0 0]) (by simp [results,Try.results70,go_sem,x0,x1,x2,x3,x4,x5,x6,x7,x8]) rfl ?_
    exact DTm.stored (q:=p+1+1) (R:=w.heap.size) (B:=w.heap.size+1) (az.leaf0 2 kn (by unfold maxLen;decide)) (by simp [Tm.cnt,Tm.cnts,Ty.cnt,Ty.cnts,ByteArray.size]) (by omega) (by omega) hrd5 hch3 (Nat.le_refl _) (by omega) hrl
 ·have hd:decide ((s.size:Int)>0)=true:=by rw [decide_eq_true_eq];omega
  go_enter Try.func70,Try.ntmps70
  go_wp2_with fail
  refine(bE r p 4 _ (h.below ah) (by omega) (by omega)).mono ?_
  rintro e w1 ⟨j1,rfl,j10,j11,hrd1,hc1⟩
  have hw1:=hc1.size
  simp only [World.size_alloc] at hw1
  have hch:=(Chg.of_below ah).trans hc1
  have f0:w1.frozen? ⟨w.heap.size,0,none⟩=false:=aZ hc1 (by omega) (ao 0) (aP 0)
  have x0:w1.cell? ⟨w.heap.size,0,none⟩=some (.int .i64 0):=aR hc1 (by omega) (ao 0)
  have f1:w1.frozen? ⟨w.heap.size,1,none⟩=false:=aZ hc1 (by omega) (ao 1) (aP 1)
  have x1:w1.cell? ⟨w.heap.size,1,none⟩=some (.string { data:=#[] }):=aR hc1 (by omega) (ao 1)
  have f2:w1.frozen? ⟨w.heap.size,2,none⟩=false:=aZ hc1 (by omega) (ao 2) (aP 2)
  have x2:w1.cell? ⟨w.heap.size,2,none⟩=some (.int .i64 0):=aR hc1 (by omega) (ao 2)
  have f3:w1.frozen? ⟨w.heap.size,3,none⟩=false:=aZ hc1 (by omega) (ao 3) (aP 3)
  have x3:w1.cell? ⟨w.heap.size,3,none⟩=some (.int .i64 0):=aR hc1 (by omega) (ao 3)
  have f4:w1.frozen? ⟨w.heap.size,4,none⟩=false:=aZ hc1 (by omega) (ao 4) (aP 4)
  have x4:w1.cell? ⟨w.heap.size,4,none⟩=some (.slice none 0 0):=aR hc1 (by omega) (ao 4)
  have f5:w1.frozen? ⟨w.heap.size,5,none⟩=false:=aZ hc1 (by omega) (ao 5) (aP 5)
  have x5:w1.cell? ⟨w.heap.size,5,none⟩=some (.int .i64 0):=aR hc1 (by omega) (ao 5)
  have f6:w1.frozen? ⟨w.heap.size,6,none⟩=false:=aZ hc1 (by omega) (ao 6) (aP 6)
  have x6:w1.cell? ⟨w.heap.size,6,none⟩=some (.slice none 0 0):=aR hc1 (by omega) (ao 6)
  have f7:w1.frozen? ⟨w.heap.size,7,none⟩=false:=aZ hc1 (by omega) (ao 7) (aP 7)
  have x7:w1.cell? ⟨w.heap.size,7,none⟩=some (.int .i64 0):=aR hc1 (by omega) (ao 7)
  have f8:w1.frozen? ⟨w.heap.size,8,none⟩=false:=aZ hc1 (by omega) (ao 8) (aP 8)
  have x8:w1.cell? ⟨w.heap.size,8,none⟩=some (.slice none 0 0):=aR hc1 (by omega) (ao 8)
  by_cases hj:0<j1
  ·have hjd:decide (j1>0)=true:=by simpa using hj
   go_wp2_with fail
   refine(bE r (p+1) (s.size:Int) _ hrd1 (by omega) (by omega)).mono ?_
   rintro e w2 ⟨j2,rfl,j20,j21,hrd2,hc2⟩
   have hw2:=hc2.size
   replace hch:=hch.trans hc2
   replace f0:w2.frozen? ⟨w.heap.size,0,none⟩=false:=aZ hc2 (by omega) x0 f0
   replace x0:w2.cell? ⟨w.heap.size,0,none⟩=some (.int .i64 0):=aR hc2 (by omega) x0
   replace f1:w2.frozen? ⟨w.heap.size,1,none⟩=false:=aZ hc2 (by omega) x1 f1
   replace x1:w2.cell? ⟨w.heap.size,1,none⟩=some (.string { data:=#[] }):=aR hc2 (by omega) x1
   replace f2:w2.frozen? ⟨w.heap.size,2,none⟩=false:=aZ hc2 (by omega) x2 f2
   replace x2:w2.cell? ⟨w.heap.size,2,none⟩=some (.int .i64 0):=aR hc2 (by omega) x2
   replace f3:w2.frozen? ⟨w.heap.size,3,none⟩=false:=aZ hc2 (by omega) x3 f3
   replace x3:w2.cell? ⟨w.heap.size,3,none⟩=some (.int .i64 0):=aR hc2 (by omega) x3
   replace f4:w2.frozen? ⟨w.heap.size,4,none⟩=false:=aZ hc2 (by omega) x4 f4
   replace x4:w2.cell? ⟨w.heap.size,4,none⟩=some (.slice none 0 0):=aR hc2 (by omega) x4
   replace f5:w2.frozen? ⟨w.heap.size,5,none⟩=false:=aZ hc2 (by omega) x5 f5
   replace x5:w2.cell? ⟨w.heap.size,5,none⟩=some (.int .i64 0):=aR hc2 (by omega) x5
   replace f6:w2.frozen? ⟨w.heap.size,6,none⟩=false:=aZ hc2 (by omega) x6 f6
   replace x6:w2.cell? ⟨w.heap.size,6,none⟩=some (.slice none 0 0):=aR hc2 (by omega) x6
   replace f7:w2.frozen? ⟨w.heap.size,7,none⟩=false:=aZ hc2 (by omega) x7 f7
   replace x7:w2.cell? ⟨w.heap.size,7,none⟩=some (.int .i64 0):=aR hc2 (by omega) x7
   replace f8:w2.frozen? ⟨w.heap.size,8,none⟩=false:=aZ hc2 (by omega) x8 f8
   replace x8:w2.cell? ⟨w.heap.size,8,none⟩=some (.slice none 0 0):=aR hc2 (by omega) x8
   obtain⟨j,rfl⟩:=Int.eq_ofNat_of_zero_le j20
   have hjs:j<s.size:=by omega
   have i1:=IntWalk.i64_in ((j:Int)+1) (by omega)
   have hne:(s.extract j (j+1)).size≤1:=by rw [ByteArray.size_extract];omega
   go_wp2_with fail
   refine bodyPost_ret (v:=.agg #[.int .i64 1,.string (s.extract j (j+1)),.int .i64 0,.int .i64 0,.slice none 0 0,.int .i64 0,.slice none 0 0,.int .i64 0,.slice none 0 0]) (by simp [results,Try.results70,go_sem,x0,x1,x2,x3,x4,x5,x6,x7,x8]) rfl ?_
   exact DTm.stored (q:=p+1+1) (R:=w.heap.size) (B:=w.heap.size+1) (az.leaf0 1 0 (by unfold maxLen;omega)) (by simp only [Tm.cnt,Tm.cnts,Ty.cnt,Ty.cnts,List.length_nil];omega) (by omega) (by omega) hrd2 hch (Nat.le_refl _) (by omega) hrl
  ·have hjd:decide (j1>0)=false:=by simpa using hj
   go_wp2_with fail
   refine(bE r (p+1) 5 _ hrd1 (by omega) (by omega)).mono ?_
   rintro e w3 ⟨j3,rfl,j30,j31,hrd3,hc3⟩
   have hw3:=hc3.size
   have hch3:=hch.trans hc3
   replace f0:w3.frozen? ⟨w.heap.size,0,none⟩=false:=aZ hc3 (by omega) x0 f0
   replace x0:w3.cell? ⟨w.heap.size,0,none⟩=some (.int .i64 0):=aR hc3 (by omega) x0
   replace f1:w3.frozen? ⟨w.heap.size,1,none⟩=false:=aZ hc3 (by omega) x1 f1
   replace x1:w3.cell? ⟨w.heap.size,1,none⟩=some (.string { data:=#[] }):=aR hc3 (by omega) x1
   replace f2:w3.frozen? ⟨w.heap.size,2,none⟩=false:=aZ hc3 (by omega) x2 f2
   replace x2:w3.cell? ⟨w.heap.size,2,none⟩=some (.int .i64 0):=aR hc3 (by omega) x2
   replace f3:w3.frozen? ⟨w.heap.size,3,none⟩=false:=aZ hc3 (by omega) x3 f3
   replace x3:w3.cell? ⟨w.heap.size,3,none⟩=some (.int .i64 0):=aR hc3 (by omega) x3
   replace f4:w3.frozen? ⟨w.heap.size,4,none⟩=false:=aZ hc3 (by omega) x4 f4
   replace x4:w3.cell? ⟨w.heap.size,4,none⟩=some (.slice none 0 0):=aR hc3 (by omega) x4
   replace f5:w3.frozen? ⟨w.heap.size,5,none⟩=false:=aZ hc3 (by omega) x5 f5
   replace x5:w3.cell? ⟨w.heap.size,5,none⟩=some (.int .i64 0):=aR hc3 (by omega) x5
   replace f6:w3.frozen? ⟨w.heap.size,6,none⟩=false:=aZ hc3 (by omega) x6 f6
   replace x6:w3.cell? ⟨w.heap.size,6,none⟩=some (.slice none 0 0):=aR hc3 (by omega) x6
   replace f7:w3.frozen? ⟨w.heap.size,7,none⟩=false:=aZ hc3 (by omega) x7 f7
   replace x7:w3.cell? ⟨w.heap.size,7,none⟩=some (.int .i64 0):=aR hc3 (by omega) x7
   replace f8:w3.frozen? ⟨w.heap.size,8,none⟩=false:=aZ hc3 (by omega) x8 f8
   replace x8:w3.cell? ⟨w.heap.size,8,none⟩=some (.slice none 0 0):=aR hc3 (by omega) x8
   rcases Bool.eq_false_or_eq_true (j3==0) with q0 | q0
   ·go_wp2_with fail
    refine bodyPost_ret (v:=.agg #[.int .i64 3,.string { data:=#[] },.int .i64 0,.int .i64 0,.slice none 0 0,.int .i64 0,.slice none 0 0,.int .i64 0,.slice none 0 0]) (by simp [results,Try.results70,go_sem,x0,x1,x2,x3,x4,x5,x6,x7,x8]) rfl ?_
    exact DTm.stored (q:=p+1+1) (R:=w.heap.size) (B:=w.heap.size+1) (az.leaf0 3 0 (by unfold maxLen;decide)) (by simp [Tm.cnt,Tm.cnts,Ty.cnt,Ty.cnts,ByteArray.size]) (by omega) (by omega) hrd3 hch3 (Nat.le_refl _) (by omega) hrl
   ·rcases Bool.eq_false_or_eq_true (j3==1) with q1 | q1
    ·go_wp2_with fail
     refine bodyPost_ret (v:=.agg #[.int .i64 4,.string { data:=#[] },.int .i64 0,.int .i64 0,.slice none 0 0,.int .i64 0,.slice none 0 0,.int .i64 0,.slice none 0 0]) (by simp [results,Try.results70,go_sem,x0,x1,x2,x3,x4,x5,x6,x7,x8]) rfl ?_
     exact DTm.stored (q:=p+1+1) (R:=w.heap.size) (B:=w.heap.size+1) (az.leaf0 4 0 (by unfold maxLen;decide)) (by simp [Tm.cnt,Tm.cnts,Ty.cnt,Ty.cnts,ByteArray.size]) (by omega) (by omega) hrd3 hch3 (Nat.le_refl _) (by omega) hrl
    ·go_wp2_with fail
     refine(cn (fun _=>True) r (p+1+1) _ 6 6 _ (hrd3.below ah) (by omega) (by omega) (by omega) (Nat.le_refl _) (by omega) (bQ [1,0,2,5,999,7] rfl _ (fun _ _=>trivial))).mono ?_
     rintro e w4 ⟨kn,rfl,-,hrd4,hc4⟩
     have hw4:=hc4.size
     simp only [World.size_alloc] at hw4
     replace hch3:=(hch3.trans (Chg.of_below ah)).trans hc4
     replace f0:w4.frozen? ⟨w.heap.size,0,none⟩=false:=aZ hc4 (by omega) (a9 ah x0) (aw ah x0 f0)
     replace x0:w4.cell? ⟨w.heap.size,0,none⟩=some (.int .i64 0):=aR hc4 (by omega) (a9 ah x0)
     replace f1:w4.frozen? ⟨w.heap.size,1,none⟩=false:=aZ hc4 (by omega) (a9 ah x1) (aw ah x1 f1)
     replace x1:w4.cell? ⟨w.heap.size,1,none⟩=some (.string { data:=#[] }):=aR hc4 (by omega) (a9 ah x1)
     replace f2:w4.frozen? ⟨w.heap.size,2,none⟩=false:=aZ hc4 (by omega) (a9 ah x2) (aw ah x2 f2)
     replace x2:w4.cell? ⟨w.heap.size,2,none⟩=some (.int .i64 0):=aR hc4 (by omega) (a9 ah x2)
     replace f3:w4.frozen? ⟨w.heap.size,3,none⟩=false:=aZ hc4 (by omega) (a9 ah x3) (aw ah x3 f3)
     replace x3:w4.cell? ⟨w.heap.size,3,none⟩=some (.int .i64 0):=aR hc4 (by omega) (a9 ah x3)
     replace f4:w4.frozen? ⟨w.heap.size,4,none⟩=false:=aZ hc4 (by omega) (a9 ah x4) (aw ah x4 f4)
     replace x4:w4.cell? ⟨w.heap.size,4,none⟩=some (.slice none 0 0):=aR hc4 (by omega) (a9 ah x4)
     replace f5:w4.frozen? ⟨w.heap.size,5,none⟩=false:=aZ hc4 (by omega) (a9 ah x5) (aw ah x5 f5)
     replace x5:w4.cell? ⟨w.heap.size,5,none⟩=some (.int .i64 0):=aR hc4 (by omega) (a9 ah x5)
     replace f6:w4.frozen? ⟨w.heap.size,6,none⟩=false:=aZ hc4 (by omega) (a9 ah x6) (aw ah x6 f6)
     replace x6:w4.cell? ⟨w.heap.size,6,none⟩=some (.slice none 0 0):=aR hc4 (by omega) (a9 ah x6)
     replace f7:w4.frozen? ⟨w.heap.size,7,none⟩=false:=aZ hc4 (by omega) (a9 ah x7) (aw ah x7 f7)
     replace x7:w4.cell? ⟨w.heap.size,7,none⟩=some (.int .i64 0):=aR hc4 (by omega) (a9 ah x7)
     replace f8:w4.frozen? ⟨w.heap.size,8,none⟩=false:=aZ hc4 (by omega) (a9 ah x8) (aw ah x8 f8)
     replace x8:w4.cell? ⟨w.heap.size,8,none⟩=some (.slice none 0 0):=aR hc4 (by omega) (a9 ah x8)
     go_wp2_with fail
     refine(cA kn _).mono ?_
     rintro e w5 ⟨rfl,hb5⟩
     replace hch3:=hch3.trans (Chg.of_below hb5)
     have hrd5:=hrd4.below hb5
     have hw5:=hb5.size
     replace f0:w5.frozen? ⟨w.heap.size,0,none⟩=false:=aw hb5 x0 f0
     replace x0:w5.cell? ⟨w.heap.size,0,none⟩=some (.int .i64 0):=a9 hb5 x0
     replace f1:w5.frozen? ⟨w.heap.size,1,none⟩=false:=aw hb5 x1 f1
     replace x1:w5.cell? ⟨w.heap.size,1,none⟩=some (.string { data:=#[] }):=a9 hb5 x1
     replace f2:w5.frozen? ⟨w.heap.size,2,none⟩=false:=aw hb5 x2 f2
     replace x2:w5.cell? ⟨w.heap.size,2,none⟩=some (.int .i64 0):=a9 hb5 x2
     replace f3:w5.frozen? ⟨w.heap.size,3,none⟩=false:=aw hb5 x3 f3
     replace x3:w5.cell? ⟨w.heap.size,3,none⟩=some (.int .i64 0):=a9 hb5 x3
     replace f4:w5.frozen? ⟨w.heap.size,4,none⟩=false:=aw hb5 x4 f4
     replace x4:w5.cell? ⟨w.heap.size,4,none⟩=some (.slice none 0 0):=a9 hb5 x4
     replace f5:w5.frozen? ⟨w.heap.size,5,none⟩=false:=aw hb5 x5 f5
     replace x5:w5.cell? ⟨w.heap.size,5,none⟩=some (.int .i64 0):=a9 hb5 x5
     replace f6:w5.frozen? ⟨w.heap.size,6,none⟩=false:=aw hb5 x6 f6
     replace x6:w5.cell? ⟨w.heap.size,6,none⟩=some (.slice none 0 0):=a9 hb5 x6
     replace f7:w5.frozen? ⟨w.heap.size,7,none⟩=false:=aw hb5 x7 f7
     replace x7:w5.cell? ⟨w.heap.size,7,none⟩=some (.int .i64 0):=a9 hb5 x7
     replace f8:w5.frozen? ⟨w.heap.size,8,none⟩=false:=aw hb5 x8 f8
     replace x8:w5.cell? ⟨w.heap.size,8,none⟩=some (.slice none 0 0):=a9 hb5 x8
     go_wp2_with fail
     refine bodyPost_ret (v:=.agg #[.int .i64 2,.string { data:=#[] },.int .i64 kn,.int .i64 0,.slice none 0 0,.int .i64 0,.slice none 0 0,.int .i64 0,.slice none 0 0]) (by simp [results,Try.results70,go_sem,x0,x1,x2,x3,x4,x5,x6,x7,x8]) rfl ?_
     exact DTm.stored (q:=p+1+1+1) (R:=w.heap.size) (B:=w.heap.size+1) (az.leaf0 2 kn (by unfold maxLen;decide)) (by simp [Tm.cnt,Tm.cnts,Ty.cnt,Ty.cnts,ByteArray.size]) (by omega) (by omega) hrd5 hch3 (Nat.le_refl _) (by omega) hrl
end Go.Proofs.Ytnaoghknnenfoaa

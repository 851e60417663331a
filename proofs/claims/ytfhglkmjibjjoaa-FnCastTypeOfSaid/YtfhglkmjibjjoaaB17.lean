/- MatchFun and MatchPair of the program and of the reference. And what else its parts name. -/
import Derived.Test.YtfhglkmjibjjoaaB13
set_option linter.unusedSimpArgs false
set_option linter.unusedVariables false
set_option maxRecDepth 100000
set_option maxHeartbeats 16000000
namespace Go.Proofs.Ytfhglkmjibjjoaa
open Go.RowKit
theorem gP (F:Nat->Prop)(k:Int)(t1 t2:Ty)(y:Value)(w:World)(hy:ai F w (.mk k [t1,t2]) y)(hk:(k==1)=false)(hc1:t1.cnt<=1048576)(hc2:t2.cnt<=1048576) :
  Calls Try.prog 80 #[.int .i64 k,y] w (gU t1 t2 true w):=by
 obtain⟨ys,rfl,hys⟩:=hy;obtain⟨b,off,cap,k1,c1,m1,q1,k2,c2,m2,q2,rfl,g2,g3,hb,e0,e1,e2,e3,ht1,ht2⟩:=av.two hys;simp only[Ty.kind,Ty.kids] at *;have Ht1:=zq hc1;have Ht2:=zq hc2;clear hys hc1 hc2
 go_enter Try.func80,Try.ntmps80
 go_wp2_with fail
 have s0_:(World.alloc (World.alloc (World.alloc w (Obj.cells #[.int .i64 k,.slice (some ⟨b,off,none⟩) 2 cap] 25)) (Obj.cells #[.int .i64 0,.slice none 0 0] 25)) (Obj.cells #[.int .i64 0,.slice none 0 0] 25)).cell? ⟨w.heap.size,1,none⟩=some (.slice (some ⟨b,off,none⟩) 2 cap):=af ag (af ag (ao (by simp) 1));have s1_:(World.alloc (World.alloc (World.alloc w (Obj.cells #[.int .i64 k,.slice (some ⟨b,off,none⟩) 2 cap] 25)) (Obj.cells #[.int .i64 0,.slice none 0 0] 25)) (Obj.cells #[.int .i64 0,.slice none 0 0] 25)).cell? ⟨b,off,none⟩=some (.int .i64 k1):=af ag (af ag (af ag (e0)));have s2_:(World.alloc (World.alloc (World.alloc w (Obj.cells #[.int .i64 k,.slice (some ⟨b,off,none⟩) 2 cap] 25)) (Obj.cells #[.int .i64 0,.slice none 0 0] 25)) (Obj.cells #[.int .i64 0,.slice none 0 0] 25)).cell? ⟨b,off+1,none⟩=some (.slice c1 m1 q1):=af ag (af ag (af ag (e1)));have s3_:(World.alloc (World.alloc (World.alloc w (Obj.cells #[.int .i64 k,.slice (some ⟨b,off,none⟩) 2 cap] 25)) (Obj.cells #[.int .i64 0,.slice none 0 0] 25)) (Obj.cells #[.int .i64 0,.slice none 0 0] 25)).cell? ⟨b,off+2,none⟩=some (.int .i64 k2):=af ag (af ag (af ag (e2)));have s4_:(World.alloc (World.alloc (World.alloc w (Obj.cells #[.int .i64 k,.slice (some ⟨b,off,none⟩) 2 cap] 25)) (Obj.cells #[.int .i64 0,.slice none 0 0] 25)) (Obj.cells #[.int .i64 0,.slice none 0 0] 25)).cell? ⟨b,off+3,none⟩=some (.slice c2 m2 q2):=af ag (af ag (af ag (e3)))
 go_region_held3 (fun w'=>w'.cell? ⟨w.heap.size,1,none⟩=some (.slice (some ⟨b,off,none⟩) 2 cap)∧w'.cell? ⟨b,off,none⟩=some (.int .i64 k1)∧w'.cell? ⟨b,off+1,none⟩=some (.slice c1 m1 q1)∧w'.cell? ⟨b,off+2,none⟩=some (.int .i64 k2)∧w'.cell? ⟨b,off+3,none⟩=some (.slice c2 m2 q2))
  (first | with_reducible exact⟨ap (s0_),ap (s1_),ap (s2_),ap (s3_),ap (s4_)⟩ | with_reducible exact⟨af hb1 (ap (s0_)),af hb1 (ap (s1_)),af hb1 (ap (s2_)),af hb1 (ap (s3_)),af hb1 (ap (s4_))⟩ | with_reducible exact⟨af hb2 (af hb1 (ap (s0_))),af hb2 (af hb1 (ap (s1_))),af hb2 (af hb1 (ap (s2_))),af hb2 (af hb1 (ap (s3_))),af hb2 (af hb1 (ap (s4_)))⟩ | with_reducible exact⟨aT (aT (af hb2 (af hb1 (ap (s0_)))) (by show w.heap.size≠w.heap.size+1;omega)) (by show w.heap.size≠w.heap.size+1;omega),aT (aT (af hb2 (af hb1 (ap (s1_)))) (by show b≠w.heap.size+1;omega)) (by show b≠w.heap.size+1;omega),aT (aT (af hb2 (af hb1 (ap (s2_)))) (by show b≠w.heap.size+1;omega)) (by show b≠w.heap.size+1;omega),aT (aT (af hb2 (af hb1 (ap (s3_)))) (by show b≠w.heap.size+1;omega)) (by show b≠w.heap.size+1;omega),aT (aT (af hb2 (af hb1 (ap (s4_)))) (by show b≠w.heap.size+1;omega)) (by show b≠w.heap.size+1;omega)⟩ | with_reducible exact⟨aT (aT (aT (aT (af hb2 (af hb1 (ap (s0_)))) (by show w.heap.size≠w.heap.size+1;omega)) (by show w.heap.size≠w.heap.size+1;omega)) (by show w.heap.size≠w.heap.size+1+1;omega)) (by show w.heap.size≠w.heap.size+1+1;omega),aT (aT (aT (aT (af hb2 (af hb1 (ap (s1_)))) (by show b≠w.heap.size+1;omega)) (by show b≠w.heap.size+1;omega)) (by show b≠w.heap.size+1+1;omega)) (by show b≠w.heap.size+1+1;omega),aT (aT (aT (aT (af hb2 (af hb1 (ap (s2_)))) (by show b≠w.heap.size+1;omega)) (by show b≠w.heap.size+1;omega)) (by show b≠w.heap.size+1+1;omega)) (by show b≠w.heap.size+1+1;omega),aT (aT (aT (aT (af hb2 (af hb1 (ap (s3_)))) (by show b≠w.heap.size+1;omega)) (by show b≠w.heap.size+1;omega)) (by show b≠w.heap.size+1+1;omega)) (by show b≠w.heap.size+1+1;omega),aT (aT (aT (aT (af hb2 (af hb1 (ap (s4_)))) (by show b≠w.heap.size+1;omega)) (by show b≠w.heap.size+1;omega)) (by show b≠w.heap.size+1+1;omega)) (by show b≠w.heap.size+1+1;omega)⟩)
  (first | (go_at_call 46;((with_reducible refine(b5 _ t1 _ _ (ht1.below bG.drew) Ht1.out).mono ?_);rintro e w1 ⟨v1,rfl,hv1,hb1⟩;obtain⟨kr1,ar1,nr1,qr1,rfl⟩:=hv1.shape)) | (go_at_call 46;((with_reducible refine(b5 _ t2 _ _ (ht2.below (al bG.drew hb1)) Ht2.out).mono ?_);rintro e w2 ⟨v2,rfl,hv2,hb2⟩;obtain⟨kr2,ar2,nr2,qr2,rfl⟩:=hv2.shape;have hp2:=bZ.mk hv1 hb1.size hb2 hv2;have f1_0:w2.frozen? ⟨w.heap.size+1,0,none⟩=false:=aG hb2 (af hb1 (ap (af ag (ao (by simp) 0)))) (aG hb1 (ap (af ag (ao (by simp) 0))) (ee (aG ag (ao (by simp) 0) (bT (by simp) 0))));have c1_0':w2.cell? ⟨w.heap.size+1,0,none⟩=some (.int .i64 0):=af hb2 (af hb1 (ap (af ag (ao (by simp) 0))));have d1_:=World.block_lt_of_cell? _ _ c1_0';have f1_1:w2.frozen? ⟨w.heap.size+1,1,none⟩=false:=aG hb2 (af hb1 (ap (af ag (ao (by simp) 1)))) (aG hb1 (ap (af ag (ao (by simp) 1))) (ee (aG ag (ao (by simp) 1) (bT (by simp) 1))));have c1_1':w2.cell? ⟨w.heap.size+1,1,none⟩=some (.slice none 0 0):=af hb2 (af hb1 (ap (af ag (ao (by simp) 1))));have d1_:=World.block_lt_of_cell? _ _ c1_1';have f2_0:w2.frozen? ⟨w.heap.size+1+1,0,none⟩=false:=aG hb2 (af hb1 (ap (ao (by simp) 0))) (aG hb1 (ap (ao (by simp) 0)) (ee (bT (by simp) 0)));have c2_0':w2.cell? ⟨w.heap.size+1+1,0,none⟩=some (.int .i64 0):=af hb2 (af hb1 (ap (ao (by simp) 0)));have d2_:=World.block_lt_of_cell? _ _ c2_0';have f2_1:w2.frozen? ⟨w.heap.size+1+1,1,none⟩=false:=aG hb2 (af hb1 (ap (ao (by simp) 1))) (aG hb1 (ap (ao (by simp) 1)) (ee (bT (by simp) 1)));have c2_1':w2.cell? ⟨w.heap.size+1+1,1,none⟩=some (.slice none 0 0):=af hb2 (af hb1 (ap (ao (by simp) 1)));have d2_:=World.block_lt_of_cell? _ _ c2_1')))
 clear s0_ s1_ s2_ s3_ s4_;have hB:=(al (al bG.drew hb1) hb2)
 have zw2:=hB.size;have c1_0:w2.cell? ⟨w.heap.size+1,0,none⟩=some (.int .i64 0):=af hb2 (af hb1 (ap (af ag (ao (by simp) 0))));have c1_1:w2.cell? ⟨w.heap.size+1,1,none⟩=some (.slice none 0 0):=af hb2 (af hb1 (ap (af ag (ao (by simp) 1))));have c2_0:w2.cell? ⟨w.heap.size+1+1,0,none⟩=some (.int .i64 0):=af hb2 (af hb1 (ap (ao (by simp) 0)));have c2_1:w2.cell? ⟨w.heap.size+1+1,1,none⟩=some (.slice none 0 0):=af hb2 (af hb1 (ap (ao (by simp) 1)));have d1_w2:=World.block_lt_of_cell? _ _ c1_0;have d2_w2:=World.block_lt_of_cell? _ _ c2_0
 go_wp2_with fail
 refine bq (.tuple #[.agg #[.int .i64 kr1,.slice ar1 nr1 qr1],.agg #[.int .i64 kr2,.slice ar2 nr2 qr2],.bool true]) (by simp[results,Try.results80,go_sem,c1_0,c1_1,c2_0,c2_1]) ?_
 exact⟨_,_,rfl,bZ.mono ((((hp2.setCell (by first | (show w.heap.size+1<_;omega) | (show w.heap.size+1<_;simp;omega) | simp) _).setCell (by first | (show w.heap.size+1<_;omega) | (show w.heap.size+1<_;simp;omega) | simp) _).setCell (by first | (show w.heap.size+1+1<_;omega) | (show w.heap.size+1+1<_;simp;omega) | simp) _).setCell (by first | (show w.heap.size+1+1<_;omega) | (show w.heap.size+1+1<_;simp;omega) | simp) _) (by first | exact Nat.le_refl _ | omega | (simp;done) | (simp;omega)),((((hB.setCell (by show w.heap.size<=w.heap.size+1;omega) _).setCell (by show w.heap.size<=w.heap.size+1;omega) _).setCell (by show w.heap.size<=w.heap.size+1+1;omega) _).setCell (by show w.heap.size<=w.heap.size+1+1;omega) _)⟩
theorem l4 (F:Nat->Prop)(k:Int)(t:Ty)(y:Value)(w:World)(hy:ai F w t y)(ht:t.kind=1) :
  Calls Try.prog 80 #[.int .i64 k,y] w (gU (.mk 1 []) (.mk 1 []) true w):=by
 obtain⟨k1,a1,n1,q1,rfl⟩:=hy.shape;obtain rfl:k1=1:=by obtain⟨s,he,-⟩:=hy;simp at he;rw[he.1];exact ht
 go_enter Try.func80,Try.ntmps80
 go_wp2_with fail
 refine(cX _).mono ?_;rintro e w1 ⟨v1,rfl,hv1,hb1⟩;obtain⟨kr1,ar1,nr1,qr1,rfl⟩:=hv1.shape;have hB:=(al bG hb1)
 have zw1:=hB.size;have f1_0:w1.frozen? ⟨w.heap.size+1,0,none⟩=false:=aG hb1 (af ag (ao (by simp) 0)) (aG ag (ao (by simp) 0) (bT (by simp) 0));have f1_1:w1.frozen? ⟨w.heap.size+1,1,none⟩=false:=aG hb1 (af ag (ao (by simp) 1)) (aG ag (ao (by simp) 1) (bT (by simp) 1));have f2_0:w1.frozen? ⟨w.heap.size+1+1,0,none⟩=false:=aG hb1 (ao (by simp) 0) (bT (by simp) 0);have f2_1:w1.frozen? ⟨w.heap.size+1+1,1,none⟩=false:=aG hb1 (ao (by simp) 1) (bT (by simp) 1);have c1_0:w1.cell? ⟨w.heap.size+1,0,none⟩=some (.int .i64 0):=af hb1 (af ag (ao (by simp) 0));have c1_1:w1.cell? ⟨w.heap.size+1,1,none⟩=some (.slice none 0 0):=af hb1 (af ag (ao (by simp) 1));have c2_0:w1.cell? ⟨w.heap.size+1+1,0,none⟩=some (.int .i64 0):=af hb1 (ao (by simp) 0);have c2_1:w1.cell? ⟨w.heap.size+1+1,1,none⟩=some (.slice none 0 0):=af hb1 (ao (by simp) 1);have d1_w1:=World.block_lt_of_cell? _ _ c1_0;have d2_w1:=World.block_lt_of_cell? _ _ c2_0
 go_wp2_with fail
 refine(cX _).mono ?_;rintro e w2 ⟨v2,rfl,hv2,hb2⟩;obtain⟨kr2,ar2,nr2,qr2,rfl⟩:=hv2.shape;have hp2:=bZ.mk hv1 hb1.size hb2 hv2;replace hB:=(al hB hb2)
 have zw2:=hB.size;replace f1_0:w2.frozen? ⟨w.heap.size+1,0,none⟩=false:=aG hb2 (c1_0) (f1_0);replace f1_1:w2.frozen? ⟨w.heap.size+1,1,none⟩=false:=aG hb2 (c1_1) (f1_1);replace f2_0:w2.frozen? ⟨w.heap.size+1+1,0,none⟩=false:=aG hb2 (c2_0) (f2_0);replace f2_1:w2.frozen? ⟨w.heap.size+1+1,1,none⟩=false:=aG hb2 (c2_1) (f2_1);replace c1_0:=af hb2 c1_0;replace c1_1:=af hb2 c1_1;replace c2_0:=af hb2 c2_0;replace c2_1:=af hb2 c2_1;have d1_w2:=World.block_lt_of_cell? _ _ c1_0;have d2_w2:=World.block_lt_of_cell? _ _ c2_0
 go_wp2_with fail
 refine bq (.tuple #[.agg #[.int .i64 kr1,.slice ar1 nr1 qr1],.agg #[.int .i64 kr2,.slice ar2 nr2 qr2],.bool true]) (by simp[results,Try.results80,go_sem,c1_0,c1_1,c2_0,c2_1]) ?_
 exact⟨_,_,rfl,bZ.mono ((((hp2.setCell (by first | (show w.heap.size+1<_;omega) | (show w.heap.size+1<_;simp;omega) | simp) _).setCell (by first | (show w.heap.size+1<_;omega) | (show w.heap.size+1<_;simp;omega) | simp) _).setCell (by first | (show w.heap.size+1+1<_;omega) | (show w.heap.size+1+1<_;simp;omega) | simp) _).setCell (by first | (show w.heap.size+1+1<_;omega) | (show w.heap.size+1+1<_;simp;omega) | simp) _) (by first | exact Nat.le_refl _ | omega | (simp;done) | (simp;omega)),((((hB.setCell (by show w.heap.size<=w.heap.size+1;omega) _).setCell (by show w.heap.size<=w.heap.size+1;omega) _).setCell (by show w.heap.size<=w.heap.size+1+1;omega) _).setCell (by show w.heap.size<=w.heap.size+1+1;omega) _)⟩
theorem cW (F:Nat->Prop)(k l:Int)(t:Ty)(y:Value)(w:World)(hy:ai F w t y)(ht:t.kind=l)(hk:(l != k)=true)(h1:(l==1)=false) :
  Calls Try.prog 80 #[.int .i64 k,y] w (gU Ty.none Ty.none false w):=by
 obtain⟨l1,a1,n1,q1,rfl⟩:=hy.shape;obtain rfl:l1=l:=by obtain⟨s,he,-⟩:=hy;simp at he;rw[he.1];exact ht
 go_enter Try.func80,Try.ntmps80
 go_wp2_with fail
 refine bq (.tuple #[.agg #[.int .i64 0,.slice none 0 0],.agg #[.int .i64 0,.slice none 0 0],.bool false]) (by simp[results,Try.results80,go_sem]) ?_
 exact⟨_,_,rfl,bZ.mono bZ.zero (Nat.le_refl _),bG⟩
theorem di (F:Nat->Prop)(s:S)(k:Int)(hk:k=4∨k=5)(hc:s.cnt<=1048576)(y:Value)(w:World)(hy:ai F w s.ty y) :
  Calls Try.prog 80 #[.int .i64 k,y] w (gU (s.mat k).1.ty (s.mat k).2.1.ty (s.mat k).2.2 w):=by
 cases s with
 | any=>exact l4 F k _ y w hy rfl
 | fn a b=>
  simp only[S.cnt] at hc
  rcases hk with rfl | rfl
  ·exact gP F 4 a.ty b.ty y w hy rfl (by rw[S.ty_cnt];omega) (by rw[S.ty_cnt];omega)
  ·exact cW F 5 4 _ y w hy rfl rfl rfl
 | pr a b=>
  simp only[S.cnt] at hc
  rcases hk with rfl | rfl
  ·exact cW F 4 5 _ y w hy rfl rfl rfl
  ·exact gP F 5 a.ty b.ty y w hy rfl (by rw[S.ty_cnt];omega) (by rw[S.ty_cnt];omega)
 | zero=>exact cW F k 0 _ y w hy rfl (by rcases hk with rfl | rfl<;>rfl) rfl
 | int=>exact cW F k 2 _ y w hy rfl (by rcases hk with rfl | rfl<;>rfl) rfl
 | bool=>exact cW F k 3 _ y w hy rfl (by rcases hk with rfl | rfl<;>rfl) rfl
theorem ar_t {k:Int}{ty src:Ty}{g h:S}(hk:k≠6∧k≠10∧k≠9)(d1:g.ty.same (.mk 2 [])=true)(d2:h.ty.same (.mk 2 [])=true):aM k ty src [g,h]=some (if k=8 then .bool else .int):=by
 rw[show(Ty.mk 2 [])=S.int.ty from rfl,S.same,decide_eq_true_eq] at d1 d2;subst d1 d2
 simp[aM,hk.1,hk.2.1]
theorem ar_f {k:Int}{ty src:Ty}{g h:S}(hk:k≠6∧k≠10∧k≠9)(d:g.ty.same (.mk 2 [])=false∨h.ty.same (.mk 2 [])=false):aM k ty src [g,h]=none:=by
 simp only[show(Ty.mk 2 [])=S.int.ty from rfl,S.same,decide_eq_false_iff_not] at d;have : ¬(g = .int∧h = .int):=by rintro ⟨rfl,rfl⟩;simp at d
 simp[aM,hk.1,hk.2.1,this]
theorem av.three {F:Nat->Prop}{w:World}{t u s:Ty}{y:Value}(h:av F w [t,u,s] y) :
  ∃b off cap k1 c1 m1 q1 k2 c2 m2 q2 k3 c3 m3 q3,y = .slice (some ⟨b,off,none⟩) 3 cap∧b<w.heap.size ∧
   w.cell? ⟨b,off,none⟩=some (.int .i64 k1)∧w.cell? ⟨b,off+1,none⟩=some (.slice c1 m1 q1)∧w.cell? ⟨b,off+2,none⟩=some (.int .i64 k2)∧w.cell? ⟨b,off+3,none⟩=some (.slice c2 m2 q2)∧w.cell? ⟨b,off+4,none⟩=some (.int .i64 k3)∧w.cell? ⟨b,off+5,none⟩=some (.slice c3 m3 q3) ∧
   ai F w t (.agg #[.int .i64 k1,.slice c1 m1 q1])∧ai F w u (.agg #[.int .i64 k2,.slice c2 m2 q2])∧ai F w s (.agg #[.int .i64 k3,.slice c3 m3 q3]):=by
 obtain⟨a,cap,rfl,h2,h3,hg⟩:=h.open;obtain⟨b,off,k1,c1,m1,q1,rfl,e0,e1,ht⟩:=hg 0 (by simp);obtain⟨b',off',k2,c2,m2,q2,he,e2,e3,ht2⟩:=hg 1 (by simp);simp only[Option.some.injEq,Addr.mk.injEq,and_true] at he;obtain⟨rfl,rfl⟩:=he;obtain⟨b',off',k3,c3,m3,q3,he,e4,e5,ht3⟩:=hg 2 (by simp);simp only[Option.some.injEq,Addr.mk.injEq,and_true] at he;obtain⟨rfl,rfl⟩:=he
 exact⟨b,off,cap,k1,c1,m1,q1,k2,c2,m2,q2,k3,c3,m3,q3,rfl,World.block_lt_of_cell? _ _ e0,by simpa using e0,by simpa using e1,by simpa using e2,by simpa using e3,by simpa using e4,by simpa using e5,ht,ht2,ht3⟩
theorem ai.pairK {F:Nat->Prop}{w:World}{k k1:Int}{t u:Ty}{a:Option Addr}{n q:Nat}(h:ai F w (.mk k [t,u]) (.agg #[.int .i64 k1,.slice a n q])):k1=k∧av F w [t,u] (.slice a n q):=by
 obtain⟨s,he,hs⟩:=h;simp only[Value.agg.injEq,Array.mk.injEq,List.cons.injEq,Value.int.injEq,true_and,and_true] at he;obtain⟨rfl,rfl⟩:=he
 exact⟨rfl,hs⟩
theorem jh (G1 G2 G3:Nat->Prop)(nm:ByteArray)(u lb tk fk:Int)(ty src:Ty)(ta fa ca:Option Addr)(tn tq fn fq cm cq:Nat)(w:World)(hty:ai G1 w ty (.agg #[.int .i64 tk,.slice ta tn tq]))(hsrc:ai G2 w src (.agg #[.int .i64 fk,.slice fa fn fq]))(y:Value)(h1 h2:S)(d1:h1.ty.same (.mk 2 [])=false)(hy:av G3 w [h1.ty,h2.ty] y) :
  Calls Try.prog 34 #[.agg (nv 7 nm u tk ta tn tq fk fa fn fq lb ca cm cq),y] w (aX ((aM 7 ty src [h1,h2]).map S.ty) w):=by
 obtain⟨b,off,cap,k1,c1,m1,q1,k2,c2,m2,q2,rfl,-,-,hlb,e1a,e1b,e2a,e2b,ht1,ht2⟩:=hy.two;obtain⟨OO',hOO⟩ : ∃O:Option Ty,O=((aM 7 ty src [h1,h2]).map S.ty):=⟨_,rfl⟩
 rw[<-hOO];have HO:=zq hOO;clear hOO;have D1:=zq d1;clear d1;have H1:=zq ht1.old;have H2:=zq ht2.old;clear hty hsrc hy ht1 ht2
 go_enter Try.func34,Try.ntmps34
 go_wp2_with fail
 generalize hVV:World.alloc (World.alloc w _) _=VV;obtain⟨hv,o1,o2,zV⟩:=bO hVV;have fE:=o1;have fR:=o2;have c1a_:=af hv e1a;have c1b_:=af hv e1b;have h1_:=zq (H1.out.below hv);have c2a_:=af hv e2a;have c2b_:=af hv e2b;have h2_:=zq (H2.out.below hv);have fC:=zq hv;clear hv o1 o2;refine wh4 c1a_ c1b_ c2a_ c2b_ (fun U7 hb zU7a zU7b hH0=>?_);replace fE:=a9 fE hb;replace fR:=a9 fR hb;replace c1a_:=af hb c1a_;replace c1b_:=af hb c1b_;replace h1_:=mh hb h1_;replace c2a_:=af hb c2a_;replace c2b_:=af hb c2b_;replace h2_:=mh hb h2_;replace fC:=mh hb fC;rw[zV] at zU7a zU7b;clear hb hVV zV;refine hwq hx1 (.slice (some ⟨b,off,none⟩) 2 cap) hH0 ?_;refine hwq hx2 (.pointer (some ⟨b,off,none⟩)) hH0 ?_;refine hwq hx3 (.agg #[.int .i64 k1,.slice c1 m1 q1]) hH0 ?_;refine hwe hx0 (fun K hK=>?_)
 go_simp
 go_at_call 58
 refine(b7 _).mono ?_;rintro e X1 ⟨rfl,hb⟩
 go_wp2_with fail
 have zX1:=hb.size;replace fE:=a9 fE hb;replace fR:=a9 fR hb;replace c1a_:=af hb c1a_;replace c1b_:=af hb c1b_;replace h1_:=mh hb h1_;replace c2a_:=af hb c2a_;replace c2b_:=af hb c2b_;replace h2_:=mh hb h2_;replace fC:=mh hb fC;refine hko hK (fun hH1=>?_);clear hK K hH0 hb
 try simp only[hwA]
 refine hwe hx4 (fun K hK=>?_)
 go_simp
 go_at_call 58
 refine(b7 _).mono ?_;rintro e X2 ⟨rfl,hb⟩
 go_wp2_with fail
 have zX2:=hb.size;replace fE:=a9 fE hb;replace fR:=a9 fR hb;replace c1a_:=af hb c1a_;replace c1b_:=af hb c1b_;replace h1_:=mh hb h1_;replace c2a_:=af hb c2a_;replace c2b_:=af hb c2b_;replace h2_:=mh hb h2_;replace fC:=mh hb fC;refine hko hK (fun hH2=>?_);clear hK K hH1 hb
 try simp only[hwA]
 refine hwe hx5 (fun K hK=>?_)
 go_simp
 go_at_call 62
 refine(bm _ _ _ _ _ _ _ h1_.out (ai.leaf 2)).mono ?_;rintro e X3 ⟨rfl,hb⟩;rw[D1.out]
 go_wp2_with fail
 have zX3:=hb.size;replace fE:=a9 fE hb;replace fR:=a9 fR hb;replace c1a_:=af hb c1a_;replace c1b_:=af hb c1b_;replace h1_:=mh hb h1_;replace c2a_:=af hb c2a_;replace c2b_:=af hb c2b_;replace h2_:=mh hb h2_;replace fC:=mh hb fC;refine hko hK (fun hH3=>?_);clear hK K hH2 hb
 try simp only[hwA]
 refine hwq hx6 (.bool false) hH3 ?_;refine hwu hx7 hH3 ?_;refine hwu hx8 hH3 ?_;refine hwu hx9 hH3 ?_;refine hwu bd hH3 ?_;refine hwu bl hH3 ?_;refine hwq bz (.bool false) hH3 ?_;refine hwe bA (fun K hK=>?_);obtain⟨r0,r1,rf0,rf1⟩:=b8 fR
 go_simp
 (try go_wp2_with fail);have hQq:=aJ fR (.int .i64 2) (.slice none 0 0);clear fR r0 rf0 r1 rf1;obtain⟨X4,hXq,hsq,fR,zX4a,zX4b⟩:=hQq;rw[hXq];replace fE:=hsq.bk fE;replace c1a_:=hsq.cq c1a_;replace c1b_:=hsq.cq c1b_;replace h1_:=zq (hsq.rep (fun b hb=>by have:b<w.heap.size:=hb;omega) h1_.out);replace c2a_:=hsq.cq c2a_;replace c2b_:=hsq.cq c2b_;replace h2_:=zq (hsq.rep (fun b hb=>by have:b<w.heap.size:=hb;omega) h2_.out);replace fC:=hsq.be fC;refine hko hK (fun hH4=>?_);clear hK K hH3 hsq hXq
 try simp only[hwA]
 refine hwq bB (.bool false) hH4 ?_;refine hwd ?_;clear hH4;obtain⟨rc0,rc1⟩:=blk2 fR
 go_wp2_with fail
 refine bq (.tuple #[.agg #[.int .i64 2,.slice none 0 0],.bool false]) (by simp[results,Try.results34,go_sem,rc0,rc1]) ?_
 exact⟨_,_,_,_,_,.mk 2 [],rfl,by rw[HO.out,ar_f (k:=7) ⟨by omega,by omega,by omega⟩ (.inl D1.out)];rfl,ai.leafG 2,(by rw[HO.out,ar_f (k:=7) ⟨by omega,by omega,by omega⟩ (.inl D1.out)];intro s h;simp at h),fC.out⟩
theorem iD (G1 G2 G3:Nat->Prop)(nm:ByteArray)(u lb tk fk:Int)(ty src:Ty)(ta fa ca:Option Addr)(tn tq fn fq cm cq:Nat)(w:World)(hty:ai G1 w ty (.agg #[.int .i64 tk,.slice ta tn tq]))(hsrc:ai G2 w src (.agg #[.int .i64 fk,.slice fa fn fq]))(y:Value)(h1 h2:S)(d1:h1.ty.same (.mk 2 [])=true)(d2:h2.ty.same (.mk 2 [])=false)(hy:av G3 w [h1.ty,h2.ty] y) :
  Calls Try.prog 34 #[.agg (nv 7 nm u tk ta tn tq fk fa fn fq lb ca cm cq),y] w (aX ((aM 7 ty src [h1,h2]).map S.ty) w):=by
 obtain⟨b,off,cap,k1,c1,m1,q1,k2,c2,m2,q2,rfl,-,-,hlb,e1a,e1b,e2a,e2b,ht1,ht2⟩:=hy.two;obtain⟨OO',hOO⟩ : ∃O:Option Ty,O=((aM 7 ty src [h1,h2]).map S.ty):=⟨_,rfl⟩
 rw[<-hOO];have HO:=zq hOO;clear hOO;have D1:=zq d1;clear d1;have D2:=zq d2;clear d2;have H1:=zq ht1.old;have H2:=zq ht2.old;clear hty hsrc hy ht1 ht2
 go_enter Try.func34,Try.ntmps34
 go_wp2_with fail
 generalize hVV:World.alloc (World.alloc w _) _=VV;obtain⟨hv,o1,o2,zV⟩:=bO hVV;have fE:=o1;have fR:=o2;have c1a_:=af hv e1a;have c1b_:=af hv e1b;have h1_:=zq (H1.out.below hv);have c2a_:=af hv e2a;have c2b_:=af hv e2b;have h2_:=zq (H2.out.below hv);have fC:=zq hv;clear hv o1 o2;refine wh4 c1a_ c1b_ c2a_ c2b_ (fun U8 hb zU8a zU8b hH0=>?_);replace fE:=a9 fE hb;replace fR:=a9 fR hb;replace c1a_:=af hb c1a_;replace c1b_:=af hb c1b_;replace h1_:=mh hb h1_;replace c2a_:=af hb c2a_;replace c2b_:=af hb c2b_;replace h2_:=mh hb h2_;replace fC:=mh hb fC;rw[zV] at zU8a zU8b;clear hb hVV zV;refine hwq hx1 (.slice (some ⟨b,off,none⟩) 2 cap) hH0 ?_;refine hwq hx2 (.pointer (some ⟨b,off,none⟩)) hH0 ?_;refine hwq hx3 (.agg #[.int .i64 k1,.slice c1 m1 q1]) hH0 ?_;refine hwe hx0 (fun K hK=>?_)
 go_simp
 go_at_call 58
 refine(b7 _).mono ?_;rintro e X1 ⟨rfl,hb⟩
 go_wp2_with fail
 have zX1:=hb.size;replace fE:=a9 fE hb;replace fR:=a9 fR hb;replace c1a_:=af hb c1a_;replace c1b_:=af hb c1b_;replace h1_:=mh hb h1_;replace c2a_:=af hb c2a_;replace c2b_:=af hb c2b_;replace h2_:=mh hb h2_;replace fC:=mh hb fC;refine hko hK (fun hH1=>?_);clear hK K hH0 hb
 try simp only[hwA]
 refine hwe hx4 (fun K hK=>?_)
 go_simp
 go_at_call 58
 refine(b7 _).mono ?_;rintro e X2 ⟨rfl,hb⟩
 go_wp2_with fail
 have zX2:=hb.size;replace fE:=a9 fE hb;replace fR:=a9 fR hb;replace c1a_:=af hb c1a_;replace c1b_:=af hb c1b_;replace h1_:=mh hb h1_;replace c2a_:=af hb c2a_;replace c2b_:=af hb c2b_;replace h2_:=mh hb h2_;replace fC:=mh hb fC;refine hko hK (fun hH2=>?_);clear hK K hH1 hb
 try simp only[hwA]
 refine hwe hx5 (fun K hK=>?_)
 go_simp
 go_at_call 62
 refine(bm _ _ _ _ _ _ _ h1_.out (ai.leaf 2)).mono ?_;rintro e X3 ⟨rfl,hb⟩;rw[D1.out]
 go_wp2_with fail
 have zX3:=hb.size;replace fE:=a9 fE hb;replace fR:=a9 fR hb;replace c1a_:=af hb c1a_;replace c1b_:=af hb c1b_;replace h1_:=mh hb h1_;replace c2a_:=af hb c2a_;replace c2b_:=af hb c2b_;replace h2_:=mh hb h2_;replace fC:=mh hb fC;refine hko hK (fun hH3=>?_);clear hK K hH2 hb
 try simp only[hwA]
 refine hwq hx6 (.bool true) hH3 ?_;refine hwq hx7 (.slice (some ⟨b,off,none⟩) 2 cap) hH3 ?_;refine hwq hx8 (.pointer (some ⟨b,off+2,none⟩)) hH3 ?_;refine hwq hx9 (.agg #[.int .i64 k2,.slice c2 m2 q2]) hH3 ?_;refine hwe bd (fun K hK=>?_)
 go_simp
 go_at_call 58
 refine(b7 _).mono ?_;rintro e X4 ⟨rfl,hb⟩
 go_wp2_with fail
 have zX4:=hb.size;replace fE:=a9 fE hb;replace fR:=a9 fR hb;replace c1a_:=af hb c1a_;replace c1b_:=af hb c1b_;replace h1_:=mh hb h1_;replace c2a_:=af hb c2a_;replace c2b_:=af hb c2b_;replace h2_:=mh hb h2_;replace fC:=mh hb fC;refine hko hK (fun hH4=>?_);clear hK K hH3 hb
 try simp only[hwA]
 refine hwe bl (fun K hK=>?_)
 go_simp
 go_at_call 62
 refine(bm _ _ _ _ _ _ _ h2_.out (ai.leaf 2)).mono ?_;rintro e X5 ⟨rfl,hb⟩;rw[D2.out]
 go_wp2_with fail
 have zX5:=hb.size;replace fE:=a9 fE hb;replace fR:=a9 fR hb;replace c1a_:=af hb c1a_;replace c1b_:=af hb c1b_;replace h1_:=mh hb h1_;replace c2a_:=af hb c2a_;replace c2b_:=af hb c2b_;replace h2_:=mh hb h2_;replace fC:=mh hb fC;refine hko hK (fun hH5=>?_);clear hK K hH4 hb
 try simp only[hwA]
 refine hwq bz (.bool false) hH5 ?_;refine hwe bA (fun K hK=>?_);obtain⟨r0,r1,rf0,rf1⟩:=b8 fR
 go_simp
 (try go_wp2_with fail);have hQq:=aJ fR (.int .i64 2) (.slice none 0 0);clear fR r0 rf0 r1 rf1;obtain⟨X6,hXq,hsq,fR,zX6a,zX6b⟩:=hQq;rw[hXq];replace fE:=hsq.bk fE;replace c1a_:=hsq.cq c1a_;replace c1b_:=hsq.cq c1b_;replace h1_:=zq (hsq.rep (fun b hb=>by have:b<w.heap.size:=hb;omega) h1_.out);replace c2a_:=hsq.cq c2a_;replace c2b_:=hsq.cq c2b_;replace h2_:=zq (hsq.rep (fun b hb=>by have:b<w.heap.size:=hb;omega) h2_.out);replace fC:=hsq.be fC;refine hko hK (fun hH6=>?_);clear hK K hH5 hsq hXq
 try simp only[hwA]
 refine hwq bB (.bool false) hH6 ?_;refine hwd ?_;clear hH6;obtain⟨rc0,rc1⟩:=blk2 fR
 go_wp2_with fail
 refine bq (.tuple #[.agg #[.int .i64 2,.slice none 0 0],.bool false]) (by simp[results,Try.results34,go_sem,rc0,rc1]) ?_
 exact⟨_,_,_,_,_,.mk 2 [],rfl,by rw[HO.out,ar_f (k:=7) ⟨by omega,by omega,by omega⟩ (.inr D2.out)];rfl,ai.leafG 2,(by rw[HO.out,ar_f (k:=7) ⟨by omega,by omega,by omega⟩ (.inr D2.out)];intro s h;simp at h),fC.out⟩
theorem iE (G1 G2 G3:Nat->Prop)(nm:ByteArray)(u lb tk fk:Int)(ty src:Ty)(ta fa ca:Option Addr)(tn tq fn fq cm cq:Nat)(w:World)(hty:ai G1 w ty (.agg #[.int .i64 tk,.slice ta tn tq]))(hsrc:ai G2 w src (.agg #[.int .i64 fk,.slice fa fn fq]))(y:Value)(h1 h2:S)(d1:h1.ty.same (.mk 2 [])=true)(d2:h2.ty.same (.mk 2 [])=true)(hy:av G3 w [h1.ty,h2.ty] y) :
  Calls Try.prog 34 #[.agg (nv 7 nm u tk ta tn tq fk fa fn fq lb ca cm cq),y] w (aX ((aM 7 ty src [h1,h2]).map S.ty) w):=by
 obtain⟨b,off,cap,k1,c1,m1,q1,k2,c2,m2,q2,rfl,-,-,hlb,e1a,e1b,e2a,e2b,ht1,ht2⟩:=hy.two;obtain⟨OO',hOO⟩ : ∃O:Option Ty,O=((aM 7 ty src [h1,h2]).map S.ty):=⟨_,rfl⟩
 rw[<-hOO];have HO:=zq hOO;clear hOO;have D1:=zq d1;clear d1;have D2:=zq d2;clear d2;have H1:=zq ht1.old;have H2:=zq ht2.old;clear hty hsrc hy ht1 ht2
 go_enter Try.func34,Try.ntmps34
 go_wp2_with fail
 generalize hVV:World.alloc (World.alloc w _) _=VV;obtain⟨hv,o1,o2,zV⟩:=bO hVV;have fE:=o1;have fR:=o2;have c1a_:=af hv e1a;have c1b_:=af hv e1b;have h1_:=zq (H1.out.below hv);have c2a_:=af hv e2a;have c2b_:=af hv e2b;have h2_:=zq (H2.out.below hv);have fC:=zq hv;clear hv o1 o2;refine wh4 c1a_ c1b_ c2a_ c2b_ (fun U9 hb zU9a zU9b hH0=>?_);replace fE:=a9 fE hb;replace fR:=a9 fR hb;replace c1a_:=af hb c1a_;replace c1b_:=af hb c1b_;replace h1_:=mh hb h1_;replace c2a_:=af hb c2a_;replace c2b_:=af hb c2b_;replace h2_:=mh hb h2_;replace fC:=mh hb fC;rw[zV] at zU9a zU9b;clear hb hVV zV;refine hwq hx1 (.slice (some ⟨b,off,none⟩) 2 cap) hH0 ?_;refine hwq hx2 (.pointer (some ⟨b,off,none⟩)) hH0 ?_;refine hwq hx3 (.agg #[.int .i64 k1,.slice c1 m1 q1]) hH0 ?_;refine hwe hx0 (fun K hK=>?_)
 go_simp
 go_at_call 58
 refine(b7 _).mono ?_;rintro e X1 ⟨rfl,hb⟩
 go_wp2_with fail
 have zX1:=hb.size;replace fE:=a9 fE hb;replace fR:=a9 fR hb;replace c1a_:=af hb c1a_;replace c1b_:=af hb c1b_;replace h1_:=mh hb h1_;replace c2a_:=af hb c2a_;replace c2b_:=af hb c2b_;replace h2_:=mh hb h2_;replace fC:=mh hb fC;refine hko hK (fun hH1=>?_);clear hK K hH0 hb
 try simp only[hwA]
 refine hwe hx4 (fun K hK=>?_)
 go_simp
 go_at_call 58
 refine(b7 _).mono ?_;rintro e X2 ⟨rfl,hb⟩
 go_wp2_with fail
 have zX2:=hb.size;replace fE:=a9 fE hb;replace fR:=a9 fR hb;replace c1a_:=af hb c1a_;replace c1b_:=af hb c1b_;replace h1_:=mh hb h1_;replace c2a_:=af hb c2a_;replace c2b_:=af hb c2b_;replace h2_:=mh hb h2_;replace fC:=mh hb fC;refine hko hK (fun hH2=>?_);clear hK K hH1 hb
 try simp only[hwA]
 refine hwe hx5 (fun K hK=>?_)
 go_simp
 go_at_call 62
 refine(bm _ _ _ _ _ _ _ h1_.out (ai.leaf 2)).mono ?_;rintro e X3 ⟨rfl,hb⟩;rw[D1.out]
 go_wp2_with fail
 have zX3:=hb.size;replace fE:=a9 fE hb;replace fR:=a9 fR hb;replace c1a_:=af hb c1a_;replace c1b_:=af hb c1b_;replace h1_:=mh hb h1_;replace c2a_:=af hb c2a_;replace c2b_:=af hb c2b_;replace h2_:=mh hb h2_;replace fC:=mh hb fC;refine hko hK (fun hH3=>?_);clear hK K hH2 hb
 try simp only[hwA]
 refine hwq hx6 (.bool true) hH3 ?_;refine hwq hx7 (.slice (some ⟨b,off,none⟩) 2 cap) hH3 ?_;refine hwq hx8 (.pointer (some ⟨b,off+2,none⟩)) hH3 ?_;refine hwq hx9 (.agg #[.int .i64 k2,.slice c2 m2 q2]) hH3 ?_;refine hwe bd (fun K hK=>?_)
 go_simp
 go_at_call 58
 refine(b7 _).mono ?_;rintro e X4 ⟨rfl,hb⟩
 go_wp2_with fail
 have zX4:=hb.size;replace fE:=a9 fE hb;replace fR:=a9 fR hb;replace c1a_:=af hb c1a_;replace c1b_:=af hb c1b_;replace h1_:=mh hb h1_;replace c2a_:=af hb c2a_;replace c2b_:=af hb c2b_;replace h2_:=mh hb h2_;replace fC:=mh hb fC;refine hko hK (fun hH4=>?_);clear hK K hH3 hb
 try simp only[hwA]
 refine hwe bl (fun K hK=>?_)
 go_simp
 go_at_call 62
 refine(bm _ _ _ _ _ _ _ h2_.out (ai.leaf 2)).mono ?_;rintro e X5 ⟨rfl,hb⟩;rw[D2.out]
 go_wp2_with fail
 have zX5:=hb.size;replace fE:=a9 fE hb;replace fR:=a9 fR hb;replace c1a_:=af hb c1a_;replace c1b_:=af hb c1b_;replace h1_:=mh hb h1_;replace c2a_:=af hb c2a_;replace c2b_:=af hb c2b_;replace h2_:=mh hb h2_;replace fC:=mh hb fC;refine hko hK (fun hH5=>?_);clear hK K hH4 hb
 try simp only[hwA]
 refine hwq bz (.bool true) hH5 ?_;refine hwe bA (fun K hK=>?_);obtain⟨r0,r1,rf0,rf1⟩:=b8 fR
 go_simp
 (try go_wp2_with fail);have hQq:=aJ fR (.int .i64 2) (.slice none 0 0);clear fR r0 rf0 r1 rf1;obtain⟨X6,hXq,hsq,fR,zX6a,zX6b⟩:=hQq;rw[hXq];replace fE:=hsq.bk fE;replace c1a_:=hsq.cq c1a_;replace c1b_:=hsq.cq c1b_;replace h1_:=zq (hsq.rep (fun b hb=>by have:b<w.heap.size:=hb;omega) h1_.out);replace c2a_:=hsq.cq c2a_;replace c2b_:=hsq.cq c2b_;replace h2_:=zq (hsq.rep (fun b hb=>by have:b<w.heap.size:=hb;omega) h2_.out);replace fC:=hsq.be fC;refine hko hK (fun hH6=>?_);clear hK K hH5 hsq hXq
 try simp only[hwA]
 refine hwq bB (.bool true) hH6 ?_;refine hwd ?_;clear hH6;obtain⟨rc0,rc1⟩:=blk2 fR
 go_wp2_with fail
 refine bq (.tuple #[.agg #[.int .i64 2,.slice none 0 0],.bool true]) (by simp[results,Try.results34,go_sem,rc0,rc1]) ?_
 exact⟨_,_,_,_,_,.mk 2 [],rfl,by rw[HO.out,ar_t (k:=7) ⟨by omega,by omega,by omega⟩ D1.out D2.out];rfl,ai.leafG 2,(by rw[HO.out,ar_t (k:=7) ⟨by omega,by omega,by omega⟩ D1.out D2.out];intro s h;exact Option.some.inj h),fC.out⟩
theorem ji (G1 G2 G3:Nat->Prop)(nm:ByteArray)(u lb tk fk:Int)(ty src:Ty)(ta fa ca:Option Addr)(tn tq fn fq cm cq:Nat)(w:World)(hty:ai G1 w ty (.agg #[.int .i64 tk,.slice ta tn tq]))(hsrc:ai G2 w src (.agg #[.int .i64 fk,.slice fa fn fq]))(y:Value)(h1 h2:S)(d1:h1.ty.same (.mk 2 [])=false)(hy:av G3 w [h1.ty,h2.ty] y) :
  Calls Try.prog 34 #[.agg (nv 8 nm u tk ta tn tq fk fa fn fq lb ca cm cq),y] w (aX ((aM 8 ty src [h1,h2]).map S.ty) w):=by
 obtain⟨b,off,cap,k1,c1,m1,q1,k2,c2,m2,q2,rfl,-,-,hlb,e1a,e1b,e2a,e2b,ht1,ht2⟩:=hy.two;obtain⟨OO',hOO⟩ : ∃O:Option Ty,O=((aM 8 ty src [h1,h2]).map S.ty):=⟨_,rfl⟩
 rw[<-hOO];have HO:=zq hOO;clear hOO;have D1:=zq d1;clear d1;have H1:=zq ht1.old;have H2:=zq ht2.old;clear hty hsrc hy ht1 ht2
 go_enter Try.func34,Try.ntmps34
 go_wp2_with fail
 generalize hVV:World.alloc (World.alloc w _) _=VV;obtain⟨hv,o1,o2,zV⟩:=bO hVV;have fE:=o1;have fR:=o2;have c1a_:=af hv e1a;have c1b_:=af hv e1b;have h1_:=zq (H1.out.below hv);have c2a_:=af hv e2a;have c2b_:=af hv e2b;have h2_:=zq (H2.out.below hv);have fC:=zq hv;clear hv o1 o2;refine wh4 c1a_ c1b_ c2a_ c2b_ (fun U10 hb zU10a zU10b hH0=>?_);replace fE:=a9 fE hb;replace fR:=a9 fR hb;replace c1a_:=af hb c1a_;replace c1b_:=af hb c1b_;replace h1_:=mh hb h1_;replace c2a_:=af hb c2a_;replace c2b_:=af hb c2b_;replace h2_:=mh hb h2_;replace fC:=mh hb fC;rw[zV] at zU10a zU10b;clear hb hVV zV;refine hwq hx1 (.slice (some ⟨b,off,none⟩) 2 cap) hH0 ?_;refine hwq hx2 (.pointer (some ⟨b,off,none⟩)) hH0 ?_;refine hwq hx3 (.agg #[.int .i64 k1,.slice c1 m1 q1]) hH0 ?_;refine hwe hx0 (fun K hK=>?_)
 go_simp
 go_at_call 59
 refine(bX _).mono ?_;rintro e X1 ⟨rfl,hb⟩
 go_wp2_with fail
 have zX1:=hb.size;replace fE:=a9 fE hb;replace fR:=a9 fR hb;replace c1a_:=af hb c1a_;replace c1b_:=af hb c1b_;replace h1_:=mh hb h1_;replace c2a_:=af hb c2a_;replace c2b_:=af hb c2b_;replace h2_:=mh hb h2_;replace fC:=mh hb fC;refine hko hK (fun hH1=>?_);clear hK K hH0 hb
 try simp only[hwA]
 refine hwe hx4 (fun K hK=>?_)
 go_simp
 go_at_call 58
 refine(b7 _).mono ?_;rintro e X2 ⟨rfl,hb⟩
 go_wp2_with fail
 have zX2:=hb.size;replace fE:=a9 fE hb;replace fR:=a9 fR hb;replace c1a_:=af hb c1a_;replace c1b_:=af hb c1b_;replace h1_:=mh hb h1_;replace c2a_:=af hb c2a_;replace c2b_:=af hb c2b_;replace h2_:=mh hb h2_;replace fC:=mh hb fC;refine hko hK (fun hH2=>?_);clear hK K hH1 hb
 try simp only[hwA]
 refine hwe hx5 (fun K hK=>?_)
 go_simp
 go_at_call 62
 refine(bm _ _ _ _ _ _ _ h1_.out (ai.leaf 2)).mono ?_;rintro e X3 ⟨rfl,hb⟩;rw[D1.out]
 go_wp2_with fail
 have zX3:=hb.size;replace fE:=a9 fE hb;replace fR:=a9 fR hb;replace c1a_:=af hb c1a_;replace c1b_:=af hb c1b_;replace h1_:=mh hb h1_;replace c2a_:=af hb c2a_;replace c2b_:=af hb c2b_;replace h2_:=mh hb h2_;replace fC:=mh hb fC;refine hko hK (fun hH3=>?_);clear hK K hH2 hb
 try simp only[hwA]
 refine hwq hx6 (.bool false) hH3 ?_;refine hwu hx7 hH3 ?_;refine hwu hx8 hH3 ?_;refine hwu hx9 hH3 ?_;refine hwu bd hH3 ?_;refine hwu bl hH3 ?_;refine hwq bz (.bool false) hH3 ?_;refine hwe bA (fun K hK=>?_);obtain⟨r0,r1,rf0,rf1⟩:=b8 fR
 go_simp
 (try go_wp2_with fail);have hQq:=aJ fR (.int .i64 3) (.slice none 0 0);clear fR r0 rf0 r1 rf1;obtain⟨X4,hXq,hsq,fR,zX4a,zX4b⟩:=hQq;rw[hXq];replace fE:=hsq.bk fE;replace c1a_:=hsq.cq c1a_;replace c1b_:=hsq.cq c1b_;replace h1_:=zq (hsq.rep (fun b hb=>by have:b<w.heap.size:=hb;omega) h1_.out);replace c2a_:=hsq.cq c2a_;replace c2b_:=hsq.cq c2b_;replace h2_:=zq (hsq.rep (fun b hb=>by have:b<w.heap.size:=hb;omega) h2_.out);replace fC:=hsq.be fC;refine hko hK (fun hH4=>?_);clear hK K hH3 hsq hXq
 try simp only[hwA]
 refine hwq bB (.bool false) hH4 ?_;refine hwd ?_;clear hH4;obtain⟨rc0,rc1⟩:=blk2 fR
 go_wp2_with fail
 refine bq (.tuple #[.agg #[.int .i64 3,.slice none 0 0],.bool false]) (by simp[results,Try.results34,go_sem,rc0,rc1]) ?_
 exact⟨_,_,_,_,_,.mk 3 [],rfl,by rw[HO.out,ar_f (k:=8) ⟨by omega,by omega,by omega⟩ (.inl D1.out)];rfl,ai.leafG 3,(by rw[HO.out,ar_f (k:=8) ⟨by omega,by omega,by omega⟩ (.inl D1.out)];intro s h;simp at h),fC.out⟩
theorem iF (G1 G2 G3:Nat->Prop)(nm:ByteArray)(u lb tk fk:Int)(ty src:Ty)(ta fa ca:Option Addr)(tn tq fn fq cm cq:Nat)(w:World)(hty:ai G1 w ty (.agg #[.int .i64 tk,.slice ta tn tq]))(hsrc:ai G2 w src (.agg #[.int .i64 fk,.slice fa fn fq]))(y:Value)(h1 h2:S)(d1:h1.ty.same (.mk 2 [])=true)(d2:h2.ty.same (.mk 2 [])=false)(hy:av G3 w [h1.ty,h2.ty] y) :
  Calls Try.prog 34 #[.agg (nv 8 nm u tk ta tn tq fk fa fn fq lb ca cm cq),y] w (aX ((aM 8 ty src [h1,h2]).map S.ty) w):=by
 obtain⟨b,off,cap,k1,c1,m1,q1,k2,c2,m2,q2,rfl,-,-,hlb,e1a,e1b,e2a,e2b,ht1,ht2⟩:=hy.two;obtain⟨OO',hOO⟩ : ∃O:Option Ty,O=((aM 8 ty src [h1,h2]).map S.ty):=⟨_,rfl⟩
 rw[<-hOO];have HO:=zq hOO;clear hOO;have D1:=zq d1;clear d1;have D2:=zq d2;clear d2;have H1:=zq ht1.old;have H2:=zq ht2.old;clear hty hsrc hy ht1 ht2
 go_enter Try.func34,Try.ntmps34
 go_wp2_with fail
 generalize hVV:World.alloc (World.alloc w _) _=VV;obtain⟨hv,o1,o2,zV⟩:=bO hVV;have fE:=o1;have fR:=o2;have c1a_:=af hv e1a;have c1b_:=af hv e1b;have h1_:=zq (H1.out.below hv);have c2a_:=af hv e2a;have c2b_:=af hv e2b;have h2_:=zq (H2.out.below hv);have fC:=zq hv;clear hv o1 o2;refine wh4 c1a_ c1b_ c2a_ c2b_ (fun U11 hb zU11a zU11b hH0=>?_);replace fE:=a9 fE hb;replace fR:=a9 fR hb;replace c1a_:=af hb c1a_;replace c1b_:=af hb c1b_;replace h1_:=mh hb h1_;replace c2a_:=af hb c2a_;replace c2b_:=af hb c2b_;replace h2_:=mh hb h2_;replace fC:=mh hb fC;rw[zV] at zU11a zU11b;clear hb hVV zV;refine hwq hx1 (.slice (some ⟨b,off,none⟩) 2 cap) hH0 ?_;refine hwq hx2 (.pointer (some ⟨b,off,none⟩)) hH0 ?_;refine hwq hx3 (.agg #[.int .i64 k1,.slice c1 m1 q1]) hH0 ?_;refine hwe hx0 (fun K hK=>?_)
 go_simp
 go_at_call 59
 refine(bX _).mono ?_;rintro e X1 ⟨rfl,hb⟩
 go_wp2_with fail
 have zX1:=hb.size;replace fE:=a9 fE hb;replace fR:=a9 fR hb;replace c1a_:=af hb c1a_;replace c1b_:=af hb c1b_;replace h1_:=mh hb h1_;replace c2a_:=af hb c2a_;replace c2b_:=af hb c2b_;replace h2_:=mh hb h2_;replace fC:=mh hb fC;refine hko hK (fun hH1=>?_);clear hK K hH0 hb
 try simp only[hwA]
 refine hwe hx4 (fun K hK=>?_)
 go_simp
 go_at_call 58
 refine(b7 _).mono ?_;rintro e X2 ⟨rfl,hb⟩
 go_wp2_with fail
 have zX2:=hb.size;replace fE:=a9 fE hb;replace fR:=a9 fR hb;replace c1a_:=af hb c1a_;replace c1b_:=af hb c1b_;replace h1_:=mh hb h1_;replace c2a_:=af hb c2a_;replace c2b_:=af hb c2b_;replace h2_:=mh hb h2_;replace fC:=mh hb fC;refine hko hK (fun hH2=>?_);clear hK K hH1 hb
 try simp only[hwA]
 refine hwe hx5 (fun K hK=>?_)
 go_simp
 go_at_call 62
 refine(bm _ _ _ _ _ _ _ h1_.out (ai.leaf 2)).mono ?_;rintro e X3 ⟨rfl,hb⟩;rw[D1.out]
 go_wp2_with fail
 have zX3:=hb.size;replace fE:=a9 fE hb;replace fR:=a9 fR hb;replace c1a_:=af hb c1a_;replace c1b_:=af hb c1b_;replace h1_:=mh hb h1_;replace c2a_:=af hb c2a_;replace c2b_:=af hb c2b_;replace h2_:=mh hb h2_;replace fC:=mh hb fC;refine hko hK (fun hH3=>?_);clear hK K hH2 hb
 try simp only[hwA]
 refine hwq hx6 (.bool true) hH3 ?_;refine hwq hx7 (.slice (some ⟨b,off,none⟩) 2 cap) hH3 ?_;refine hwq hx8 (.pointer (some ⟨b,off+2,none⟩)) hH3 ?_;refine hwq hx9 (.agg #[.int .i64 k2,.slice c2 m2 q2]) hH3 ?_;refine hwe bd (fun K hK=>?_)
 go_simp
 go_at_call 58
 refine(b7 _).mono ?_;rintro e X4 ⟨rfl,hb⟩
 go_wp2_with fail
 have zX4:=hb.size;replace fE:=a9 fE hb;replace fR:=a9 fR hb;replace c1a_:=af hb c1a_;replace c1b_:=af hb c1b_;replace h1_:=mh hb h1_;replace c2a_:=af hb c2a_;replace c2b_:=af hb c2b_;replace h2_:=mh hb h2_;replace fC:=mh hb fC;refine hko hK (fun hH4=>?_);clear hK K hH3 hb
 try simp only[hwA]
 refine hwe bl (fun K hK=>?_)
 go_simp
 go_at_call 62
 refine(bm _ _ _ _ _ _ _ h2_.out (ai.leaf 2)).mono ?_;rintro e X5 ⟨rfl,hb⟩;rw[D2.out]
 go_wp2_with fail
 have zX5:=hb.size;replace fE:=a9 fE hb;replace fR:=a9 fR hb;replace c1a_:=af hb c1a_;replace c1b_:=af hb c1b_;replace h1_:=mh hb h1_;replace c2a_:=af hb c2a_;replace c2b_:=af hb c2b_;replace h2_:=mh hb h2_;replace fC:=mh hb fC;refine hko hK (fun hH5=>?_);clear hK K hH4 hb
 try simp only[hwA]
 refine hwq bz (.bool false) hH5 ?_;refine hwe bA (fun K hK=>?_);obtain⟨r0,r1,rf0,rf1⟩:=b8 fR
 go_simp
 (try go_wp2_with fail);have hQq:=aJ fR (.int .i64 3) (.slice none 0 0);clear fR r0 rf0 r1 rf1;obtain⟨X6,hXq,hsq,fR,zX6a,zX6b⟩:=hQq;rw[hXq];replace fE:=hsq.bk fE;replace c1a_:=hsq.cq c1a_;replace c1b_:=hsq.cq c1b_;replace h1_:=zq (hsq.rep (fun b hb=>by have:b<w.heap.size:=hb;omega) h1_.out);replace c2a_:=hsq.cq c2a_;replace c2b_:=hsq.cq c2b_;replace h2_:=zq (hsq.rep (fun b hb=>by have:b<w.heap.size:=hb;omega) h2_.out);replace fC:=hsq.be fC;refine hko hK (fun hH6=>?_);clear hK K hH5 hsq hXq
 try simp only[hwA]
 refine hwq bB (.bool false) hH6 ?_;refine hwd ?_;clear hH6;obtain⟨rc0,rc1⟩:=blk2 fR
 go_wp2_with fail
 refine bq (.tuple #[.agg #[.int .i64 3,.slice none 0 0],.bool false]) (by simp[results,Try.results34,go_sem,rc0,rc1]) ?_
 exact⟨_,_,_,_,_,.mk 3 [],rfl,by rw[HO.out,ar_f (k:=8) ⟨by omega,by omega,by omega⟩ (.inr D2.out)];rfl,ai.leafG 3,(by rw[HO.out,ar_f (k:=8) ⟨by omega,by omega,by omega⟩ (.inr D2.out)];intro s h;simp at h),fC.out⟩
theorem iG (G1 G2 G3:Nat->Prop)(nm:ByteArray)(u lb tk fk:Int)(ty src:Ty)(ta fa ca:Option Addr)(tn tq fn fq cm cq:Nat)(w:World)(hty:ai G1 w ty (.agg #[.int .i64 tk,.slice ta tn tq]))(hsrc:ai G2 w src (.agg #[.int .i64 fk,.slice fa fn fq]))(y:Value)(h1 h2:S)(d1:h1.ty.same (.mk 2 [])=true)(d2:h2.ty.same (.mk 2 [])=true)(hy:av G3 w [h1.ty,h2.ty] y) :
  Calls Try.prog 34 #[.agg (nv 8 nm u tk ta tn tq fk fa fn fq lb ca cm cq),y] w (aX ((aM 8 ty src [h1,h2]).map S.ty) w):=by
 obtain⟨b,off,cap,k1,c1,m1,q1,k2,c2,m2,q2,rfl,-,-,hlb,e1a,e1b,e2a,e2b,ht1,ht2⟩:=hy.two;obtain⟨OO',hOO⟩ : ∃O:Option Ty,O=((aM 8 ty src [h1,h2]).map S.ty):=⟨_,rfl⟩
 rw[<-hOO];have HO:=zq hOO;clear hOO;have D1:=zq d1;clear d1;have D2:=zq d2;clear d2;have H1:=zq ht1.old;have H2:=zq ht2.old;clear hty hsrc hy ht1 ht2
 go_enter Try.func34,Try.ntmps34
 go_wp2_with fail
 generalize hVV:World.alloc (World.alloc w _) _=VV;obtain⟨hv,o1,o2,zV⟩:=bO hVV;have fE:=o1;have fR:=o2;have c1a_:=af hv e1a;have c1b_:=af hv e1b;have h1_:=zq (H1.out.below hv);have c2a_:=af hv e2a;have c2b_:=af hv e2b;have h2_:=zq (H2.out.below hv);have fC:=zq hv;clear hv o1 o2;refine wh4 c1a_ c1b_ c2a_ c2b_ (fun U12 hb zU12a zU12b hH0=>?_);replace fE:=a9 fE hb;replace fR:=a9 fR hb;replace c1a_:=af hb c1a_;replace c1b_:=af hb c1b_;replace h1_:=mh hb h1_;replace c2a_:=af hb c2a_;replace c2b_:=af hb c2b_;replace h2_:=mh hb h2_;replace fC:=mh hb fC;rw[zV] at zU12a zU12b;clear hb hVV zV;refine hwq hx1 (.slice (some ⟨b,off,none⟩) 2 cap) hH0 ?_;refine hwq hx2 (.pointer (some ⟨b,off,none⟩)) hH0 ?_;refine hwq hx3 (.agg #[.int .i64 k1,.slice c1 m1 q1]) hH0 ?_;refine hwe hx0 (fun K hK=>?_)
 go_simp
 go_at_call 59
 refine(bX _).mono ?_;rintro e X1 ⟨rfl,hb⟩
 go_wp2_with fail
 have zX1:=hb.size;replace fE:=a9 fE hb;replace fR:=a9 fR hb;replace c1a_:=af hb c1a_;replace c1b_:=af hb c1b_;replace h1_:=mh hb h1_;replace c2a_:=af hb c2a_;replace c2b_:=af hb c2b_;replace h2_:=mh hb h2_;replace fC:=mh hb fC;refine hko hK (fun hH1=>?_);clear hK K hH0 hb
 try simp only[hwA]
 refine hwe hx4 (fun K hK=>?_)
 go_simp
 go_at_call 58
 refine(b7 _).mono ?_;rintro e X2 ⟨rfl,hb⟩
 go_wp2_with fail
 have zX2:=hb.size;replace fE:=a9 fE hb;replace fR:=a9 fR hb;replace c1a_:=af hb c1a_;replace c1b_:=af hb c1b_;replace h1_:=mh hb h1_;replace c2a_:=af hb c2a_;replace c2b_:=af hb c2b_;replace h2_:=mh hb h2_;replace fC:=mh hb fC;refine hko hK (fun hH2=>?_);clear hK K hH1 hb
 try simp only[hwA]
 refine hwe hx5 (fun K hK=>?_)
 go_simp
 go_at_call 62
 refine(bm _ _ _ _ _ _ _ h1_.out (ai.leaf 2)).mono ?_;rintro e X3 ⟨rfl,hb⟩;rw[D1.out]
 go_wp2_with fail
 have zX3:=hb.size;replace fE:=a9 fE hb;replace fR:=a9 fR hb;replace c1a_:=af hb c1a_;replace c1b_:=af hb c1b_;replace h1_:=mh hb h1_;replace c2a_:=af hb c2a_;replace c2b_:=af hb c2b_;replace h2_:=mh hb h2_;replace fC:=mh hb fC;refine hko hK (fun hH3=>?_);clear hK K hH2 hb
 try simp only[hwA]
 refine hwq hx6 (.bool true) hH3 ?_;refine hwq hx7 (.slice (some ⟨b,off,none⟩) 2 cap) hH3 ?_;refine hwq hx8 (.pointer (some ⟨b,off+2,none⟩)) hH3 ?_;refine hwq hx9 (.agg #[.int .i64 k2,.slice c2 m2 q2]) hH3 ?_;refine hwe bd (fun K hK=>?_)
 go_simp
 go_at_call 58
 refine(b7 _).mono ?_;rintro e X4 ⟨rfl,hb⟩
 go_wp2_with fail
 have zX4:=hb.size;replace fE:=a9 fE hb;replace fR:=a9 fR hb;replace c1a_:=af hb c1a_;replace c1b_:=af hb c1b_;replace h1_:=mh hb h1_;replace c2a_:=af hb c2a_;replace c2b_:=af hb c2b_;replace h2_:=mh hb h2_;replace fC:=mh hb fC;refine hko hK (fun hH4=>?_);clear hK K hH3 hb
 try simp only[hwA]
 refine hwe bl (fun K hK=>?_)
 go_simp
 go_at_call 62
 refine(bm _ _ _ _ _ _ _ h2_.out (ai.leaf 2)).mono ?_;rintro e X5 ⟨rfl,hb⟩;rw[D2.out]
 go_wp2_with fail
 have zX5:=hb.size;replace fE:=a9 fE hb;replace fR:=a9 fR hb;replace c1a_:=af hb c1a_;replace c1b_:=af hb c1b_;replace h1_:=mh hb h1_;replace c2a_:=af hb c2a_;replace c2b_:=af hb c2b_;replace h2_:=mh hb h2_;replace fC:=mh hb fC;refine hko hK (fun hH5=>?_);clear hK K hH4 hb
 try simp only[hwA]
 refine hwq bz (.bool true) hH5 ?_;refine hwe bA (fun K hK=>?_);obtain⟨r0,r1,rf0,rf1⟩:=b8 fR
 go_simp
 (try go_wp2_with fail);have hQq:=aJ fR (.int .i64 3) (.slice none 0 0);clear fR r0 rf0 r1 rf1;obtain⟨X6,hXq,hsq,fR,zX6a,zX6b⟩:=hQq;rw[hXq];replace fE:=hsq.bk fE;replace c1a_:=hsq.cq c1a_;replace c1b_:=hsq.cq c1b_;replace h1_:=zq (hsq.rep (fun b hb=>by have:b<w.heap.size:=hb;omega) h1_.out);replace c2a_:=hsq.cq c2a_;replace c2b_:=hsq.cq c2b_;replace h2_:=zq (hsq.rep (fun b hb=>by have:b<w.heap.size:=hb;omega) h2_.out);replace fC:=hsq.be fC;refine hko hK (fun hH6=>?_);clear hK K hH5 hsq hXq
 try simp only[hwA]
 refine hwq bB (.bool true) hH6 ?_;refine hwd ?_;clear hH6;obtain⟨rc0,rc1⟩:=blk2 fR
 go_wp2_with fail
 refine bq (.tuple #[.agg #[.int .i64 3,.slice none 0 0],.bool true]) (by simp[results,Try.results34,go_sem,rc0,rc1]) ?_
 exact⟨_,_,_,_,_,.mk 3 [],rfl,by rw[HO.out,ar_t (k:=8) ⟨by omega,by omega,by omega⟩ D1.out D2.out];rfl,ai.leafG 3,(by rw[HO.out,ar_t (k:=8) ⟨by omega,by omega,by omega⟩ D1.out D2.out];intro s h;exact Option.some.inj h),fC.out⟩
theorem if_t {ty src:Ty}{c g h:S}(d1:c.ty.same (.mk 3 [])=true)(d2:g.ty.same h.ty=true):aM 9 ty src [c,g,h]=some g:=by
 rw[show(Ty.mk 3 [])=S.bool.ty from rfl,S.same,decide_eq_true_eq] at d1;rw[S.same,decide_eq_true_eq] at d2;subst d1 d2
 simp[aM]
theorem if_f {ty src:Ty}{c g h:S}(d:c.ty.same (.mk 3 [])=false∨g.ty.same h.ty=false):aM 9 ty src [c,g,h]=none:=by
 simp only[show(Ty.mk 3 [])=S.bool.ty from rfl,S.same,decide_eq_false_iff_not] at d;have : ¬(c = .bool∧g=h):=by rintro ⟨rfl,rfl⟩;simp at d
 simp[aM,this]
theorem jl (G1 G2 G3:Nat->Prop)(nm:ByteArray)(u lb tk fk:Int)(ty src:Ty)(ta fa ca:Option Addr)(tn tq fn fq cm cq:Nat)(w:World)(hty:ai G1 w ty (.agg #[.int .i64 tk,.slice ta tn tq]))(hsrc:ai G2 w src (.agg #[.int .i64 fk,.slice fa fn fq]))(y:Value)(h1 h2 h3:S)(hv2:h2.vd=true)(d1:h1.ty.same (.mk 3 [])=false)(hy:av G3 w [h1.ty,h2.ty,h3.ty] y) :
  Calls Try.prog 34 #[.agg (nv 9 nm u tk ta tn tq fk fa fn fq lb ca cm cq),y] w (aX ((aM 9 ty src [h1,h2,h3]).map S.ty) w):=by
 obtain⟨b,off,cap,k1,c1,m1,q1,k2,c2,m2,q2,k3,c3,m3,q3,rfl,hlb,e1a,e1b,e2a,e2b,e3a,e3b,ht1,ht2,ht3⟩:=hy.three;obtain⟨OO',hOO⟩ : ∃O:Option Ty,O=((aM 9 ty src [h1,h2,h3]).map S.ty):=⟨_,rfl⟩
 rw[<-hOO];have HO:=zq hOO;clear hOO;have D1:=zq d1;have HCN:=zq (S.cnt_ok hv2);clear d1 hv2;have H1:=zq ht1.old;have H2:=zq ht2.old;have H3:=zq ht3.old;clear hty hsrc hy ht1 ht2 ht3
 go_enter Try.func34,Try.ntmps34
 go_wp2_with fail
 generalize hVV:World.alloc (World.alloc w _) _=VV;obtain⟨hv,o1,o2,zV⟩:=bO hVV;have fE:=o1;have fR:=o2;have c1a_:=af hv e1a;have c1b_:=af hv e1b;have h1_:=zq (H1.out.below hv);have c2a_:=af hv e2a;have c2b_:=af hv e2b;have h2_:=zq (H2.out.below hv);have c3a_:=af hv e3a;have c3b_:=af hv e3b;have h3_:=zq (H3.out.below hv);have fC:=zq hv;clear hv o1 o2;refine wh6 c1a_ c1b_ c2a_ c2b_ c3a_ c3b_ (fun U13 hb zU13a zU13b hH0=>?_);replace fE:=a9 fE hb;replace fR:=a9 fR hb;replace c1a_:=af hb c1a_;replace c1b_:=af hb c1b_;replace h1_:=mh hb h1_;replace c2a_:=af hb c2a_;replace c2b_:=af hb c2b_;replace h2_:=mh hb h2_;replace c3a_:=af hb c3a_;replace c3b_:=af hb c3b_;replace h3_:=mh hb h3_;replace fC:=mh hb fC;rw[zV] at zU13a zU13b;clear hb hVV zV;refine hwq hx0 (.slice (some ⟨b,off,none⟩) 3 cap) hH0 ?_;refine hwq hx1 (.pointer (some ⟨b,off+2,none⟩)) hH0 ?_;refine hwq hx2 (.agg #[.int .i64 k2,.slice c2 m2 q2]) hH0 ?_;refine hwq hx4 (.slice (some ⟨b,off,none⟩) 3 cap) hH0 ?_;refine hwq hx5 (.pointer (some ⟨b,off,none⟩)) hH0 ?_;refine hwq hx6 (.agg #[.int .i64 k1,.slice c1 m1 q1]) hH0 ?_;refine hwe hx3 (fun K hK=>?_)
 go_simp
 go_at_call 46
 refine(b5 _ h2.ty _ _ h2_.out HCN.out).mono ?_;rintro e X1 ⟨v,rfl,hv,hb⟩;obtain⟨ke,ae,ne,qe,rfl⟩:=hv.shape;have hN1':=hv.rep.rg;clear hv
 go_wp2_with fail
 have zX1:=hb.size;replace fE:=a9 fE hb;replace fR:=a9 fR hb;replace c1a_:=af hb c1a_;replace c1b_:=af hb c1b_;replace h1_:=mh hb h1_;replace c2a_:=af hb c2a_;replace c2b_:=af hb c2b_;replace h2_:=mh hb h2_;replace c3a_:=af hb c3a_;replace c3b_:=af hb c3b_;replace h3_:=mh hb h3_;replace fC:=mh hb fC;have hN1:=hN1';clear hN1';refine hko hK (fun hH1=>?_);clear hK K hH0 hb
 try simp only[hwA]
 refine hwe hx7 (fun K hK=>?_)
 go_simp
 go_at_call 59
 refine(bX _).mono ?_;rintro e X2 ⟨rfl,hb⟩
 go_wp2_with fail
 have zX2:=hb.size;replace fE:=a9 fE hb;replace fR:=a9 fR hb;replace c1a_:=af hb c1a_;replace c1b_:=af hb c1b_;replace h1_:=mh hb h1_;replace c2a_:=af hb c2a_;replace c2b_:=af hb c2b_;replace h2_:=mh hb h2_;replace c3a_:=af hb c3a_;replace c3b_:=af hb c3b_;replace h3_:=mh hb h3_;replace fC:=mh hb fC;replace hN1:=mh hb hN1;refine hko hK (fun hH2=>?_);clear hK K hH1 hb
 try simp only[hwA]
 refine hwe hx8 (fun K hK=>?_)
 go_simp
 go_at_call 62
 refine(bm _ _ _ _ _ _ _ h1_.out (ai.leaf 3)).mono ?_;rintro e X3 ⟨rfl,hb⟩;rw[D1.out]
 go_wp2_with fail
 have zX3:=hb.size;replace fE:=a9 fE hb;replace fR:=a9 fR hb;replace c1a_:=af hb c1a_;replace c1b_:=af hb c1b_;replace h1_:=mh hb h1_;replace c2a_:=af hb c2a_;replace c2b_:=af hb c2b_;replace h2_:=mh hb h2_;replace c3a_:=af hb c3a_;replace c3b_:=af hb c3b_;replace h3_:=mh hb h3_;replace fC:=mh hb fC;replace hN1:=mh hb hN1;refine hko hK (fun hH3=>?_);clear hK K hH2 hb
 try simp only[hwA]
 refine hwq hx9 (.bool false) hH3 ?_;refine hwu bd hH3 ?_;refine hwu bl hH3 ?_;refine hwu bz hH3 ?_;refine hwu bA hH3 ?_;refine hwu bB hH3 ?_;refine hwu bF hH3 ?_;refine hwu bI hH3 ?_;refine hwq co (.bool false) hH3 ?_;refine hwe cD (fun K hK=>?_);obtain⟨r0,r1,rf0,rf1⟩:=b8 fR
 go_simp
 (try go_wp2_with fail);have hQq:=aJ fR (.int .i64 ke) (.slice ae ne qe);clear fR r0 rf0 r1 rf1;obtain⟨X4,hXq,hsq,fR,zX4a,zX4b⟩:=hQq;rw[hXq];replace fE:=hsq.bk fE;replace c1a_:=hsq.cq c1a_;replace c1b_:=hsq.cq c1b_;replace h1_:=zq (hsq.rep (fun b hb=>by have:b<w.heap.size:=hb;omega) h1_.out);replace c2a_:=hsq.cq c2a_;replace c2b_:=hsq.cq c2b_;replace h2_:=zq (hsq.rep (fun b hb=>by have:b<w.heap.size:=hb;omega) h2_.out);replace c3a_:=hsq.cq c3a_;replace c3b_:=hsq.cq c3b_;replace h3_:=zq (hsq.rep (fun b hb=>by have:b<w.heap.size:=hb;omega) h3_.out);replace fC:=hsq.be fC;replace hN1:=zq (hsq.rep (fun b hb=>by have h1:U13.heap.size<=b:=hb.1;have h2:b<X1.heap.size:=hb.2;omega) hN1.out);refine hko hK (fun hH4=>?_);clear hK K hH3 hsq hXq
 try simp only[hwA]
 refine hwq dp (.bool false) hH4 ?_;refine hwd ?_;clear hH4;obtain⟨rc0,rc1⟩:=blk2 fR
 go_wp2_with fail
 refine bq (.tuple #[.agg #[.int .i64 ke,.slice ae ne qe],.bool false]) (by simp[results,Try.results34,go_sem,rc0,rc1]) ?_
 exact⟨_,_,_,_,_,h2.ty,rfl,by rw[HO.out,if_f (.inl D1.out)];rfl,hN1.out.move (.weaken fun b h _=>.inr (by have h1:=h.1;omega)),(by rw[HO.out,if_f (.inl D1.out)];intro s h;simp at h),fC.out⟩
theorem iH (G1 G2 G3:Nat->Prop)(nm:ByteArray)(u lb tk fk:Int)(ty src:Ty)(ta fa ca:Option Addr)(tn tq fn fq cm cq:Nat)(w:World)(hty:ai G1 w ty (.agg #[.int .i64 tk,.slice ta tn tq]))(hsrc:ai G2 w src (.agg #[.int .i64 fk,.slice fa fn fq]))(y:Value)(h1 h2 h3:S)(hv2:h2.vd=true)(d1:h1.ty.same (.mk 3 [])=true)(d2:h2.ty.same h3.ty=false)(hy:av G3 w [h1.ty,h2.ty,h3.ty] y) :
  Calls Try.prog 34 #[.agg (nv 9 nm u tk ta tn tq fk fa fn fq lb ca cm cq),y] w (aX ((aM 9 ty src [h1,h2,h3]).map S.ty) w):=by
 obtain⟨b,off,cap,k1,c1,m1,q1,k2,c2,m2,q2,k3,c3,m3,q3,rfl,hlb,e1a,e1b,e2a,e2b,e3a,e3b,ht1,ht2,ht3⟩:=hy.three;obtain⟨OO',hOO⟩ : ∃O:Option Ty,O=((aM 9 ty src [h1,h2,h3]).map S.ty):=⟨_,rfl⟩
 rw[<-hOO];have HO:=zq hOO;clear hOO;have D1:=zq d1;have HCN:=zq (S.cnt_ok hv2);clear d1 hv2;have D2:=zq d2;clear d2;have H1:=zq ht1.old;have H2:=zq ht2.old;have H3:=zq ht3.old;clear hty hsrc hy ht1 ht2 ht3
 go_enter Try.func34,Try.ntmps34
 go_wp2_with fail
 generalize hVV:World.alloc (World.alloc w _) _=VV;obtain⟨hv,o1,o2,zV⟩:=bO hVV;have fE:=o1;have fR:=o2;have c1a_:=af hv e1a;have c1b_:=af hv e1b;have h1_:=zq (H1.out.below hv);have c2a_:=af hv e2a;have c2b_:=af hv e2b;have h2_:=zq (H2.out.below hv);have c3a_:=af hv e3a;have c3b_:=af hv e3b;have h3_:=zq (H3.out.below hv);have fC:=zq hv;clear hv o1 o2;refine wh6 c1a_ c1b_ c2a_ c2b_ c3a_ c3b_ (fun U14 hb zU14a zU14b hH0=>?_);replace fE:=a9 fE hb;replace fR:=a9 fR hb;replace c1a_:=af hb c1a_;replace c1b_:=af hb c1b_;replace h1_:=mh hb h1_;replace c2a_:=af hb c2a_;replace c2b_:=af hb c2b_;replace h2_:=mh hb h2_;replace c3a_:=af hb c3a_;replace c3b_:=af hb c3b_;replace h3_:=mh hb h3_;replace fC:=mh hb fC;rw[zV] at zU14a zU14b;clear hb hVV zV;refine hwq hx0 (.slice (some ⟨b,off,none⟩) 3 cap) hH0 ?_;refine hwq hx1 (.pointer (some ⟨b,off+2,none⟩)) hH0 ?_;refine hwq hx2 (.agg #[.int .i64 k2,.slice c2 m2 q2]) hH0 ?_;refine hwq hx4 (.slice (some ⟨b,off,none⟩) 3 cap) hH0 ?_;refine hwq hx5 (.pointer (some ⟨b,off,none⟩)) hH0 ?_;refine hwq hx6 (.agg #[.int .i64 k1,.slice c1 m1 q1]) hH0 ?_;refine hwe hx3 (fun K hK=>?_)
 go_simp
 go_at_call 46
 refine(b5 _ h2.ty _ _ h2_.out HCN.out).mono ?_;rintro e X1 ⟨v,rfl,hv,hb⟩;obtain⟨ke,ae,ne,qe,rfl⟩:=hv.shape;have hN1':=hv.rep.rg;clear hv
 go_wp2_with fail
 have zX1:=hb.size;replace fE:=a9 fE hb;replace fR:=a9 fR hb;replace c1a_:=af hb c1a_;replace c1b_:=af hb c1b_;replace h1_:=mh hb h1_;replace c2a_:=af hb c2a_;replace c2b_:=af hb c2b_;replace h2_:=mh hb h2_;replace c3a_:=af hb c3a_;replace c3b_:=af hb c3b_;replace h3_:=mh hb h3_;replace fC:=mh hb fC;have hN1:=hN1';clear hN1';refine hko hK (fun hH1=>?_);clear hK K hH0 hb
 try simp only[hwA]
 refine hwe hx7 (fun K hK=>?_)
 go_simp
 go_at_call 59
 refine(bX _).mono ?_;rintro e X2 ⟨rfl,hb⟩
 go_wp2_with fail
 have zX2:=hb.size;replace fE:=a9 fE hb;replace fR:=a9 fR hb;replace c1a_:=af hb c1a_;replace c1b_:=af hb c1b_;replace h1_:=mh hb h1_;replace c2a_:=af hb c2a_;replace c2b_:=af hb c2b_;replace h2_:=mh hb h2_;replace c3a_:=af hb c3a_;replace c3b_:=af hb c3b_;replace h3_:=mh hb h3_;replace fC:=mh hb fC;replace hN1:=mh hb hN1;refine hko hK (fun hH2=>?_);clear hK K hH1 hb
 try simp only[hwA]
 refine hwe hx8 (fun K hK=>?_)
 go_simp
 go_at_call 62
 refine(bm _ _ _ _ _ _ _ h1_.out (ai.leaf 3)).mono ?_;rintro e X3 ⟨rfl,hb⟩;rw[D1.out]
 go_wp2_with fail
 have zX3:=hb.size;replace fE:=a9 fE hb;replace fR:=a9 fR hb;replace c1a_:=af hb c1a_;replace c1b_:=af hb c1b_;replace h1_:=mh hb h1_;replace c2a_:=af hb c2a_;replace c2b_:=af hb c2b_;replace h2_:=mh hb h2_;replace c3a_:=af hb c3a_;replace c3b_:=af hb c3b_;replace h3_:=mh hb h3_;replace fC:=mh hb fC;replace hN1:=mh hb hN1;refine hko hK (fun hH3=>?_);clear hK K hH2 hb
 try simp only[hwA]
 refine hwq hx9 (.bool true) hH3 ?_;refine hwq bd (.slice (some ⟨b,off,none⟩) 3 cap) hH3 ?_;refine hwq bl (.pointer (some ⟨b,off+2,none⟩)) hH3 ?_;refine hwq bz (.agg #[.int .i64 k2,.slice c2 m2 q2]) hH3 ?_;refine hwq bA (.slice (some ⟨b,off,none⟩) 3 cap) hH3 ?_;refine hwq bB (.pointer (some ⟨b,off+4,none⟩)) hH3 ?_;refine hwq bF (.agg #[.int .i64 k3,.slice c3 m3 q3]) hH3 ?_;refine hwe bI (fun K hK=>?_)
 go_simp
 go_at_call 62
 refine(bm _ _ _ _ _ _ _ h2_.out h3_.out).mono ?_;rintro e X4 ⟨rfl,hb⟩;rw[D2.out]
 go_wp2_with fail
 have zX4:=hb.size;replace fE:=a9 fE hb;replace fR:=a9 fR hb;replace c1a_:=af hb c1a_;replace c1b_:=af hb c1b_;replace h1_:=mh hb h1_;replace c2a_:=af hb c2a_;replace c2b_:=af hb c2b_;replace h2_:=mh hb h2_;replace c3a_:=af hb c3a_;replace c3b_:=af hb c3b_;replace h3_:=mh hb h3_;replace fC:=mh hb fC;replace hN1:=mh hb hN1;refine hko hK (fun hH4=>?_);clear hK K hH3 hb
 try simp only[hwA]
 refine hwq co (.bool false) hH4 ?_;refine hwe cD (fun K hK=>?_);obtain⟨r0,r1,rf0,rf1⟩:=b8 fR
 go_simp
 (try go_wp2_with fail);have hQq:=aJ fR (.int .i64 ke) (.slice ae ne qe);clear fR r0 rf0 r1 rf1;obtain⟨X5,hXq,hsq,fR,zX5a,zX5b⟩:=hQq;rw[hXq];replace fE:=hsq.bk fE;replace c1a_:=hsq.cq c1a_;replace c1b_:=hsq.cq c1b_;replace h1_:=zq (hsq.rep (fun b hb=>by have:b<w.heap.size:=hb;omega) h1_.out);replace c2a_:=hsq.cq c2a_;replace c2b_:=hsq.cq c2b_;replace h2_:=zq (hsq.rep (fun b hb=>by have:b<w.heap.size:=hb;omega) h2_.out);replace c3a_:=hsq.cq c3a_;replace c3b_:=hsq.cq c3b_;replace h3_:=zq (hsq.rep (fun b hb=>by have:b<w.heap.size:=hb;omega) h3_.out);replace fC:=hsq.be fC;replace hN1:=zq (hsq.rep (fun b hb=>by have h1:U14.heap.size<=b:=hb.1;have h2:b<X1.heap.size:=hb.2;omega) hN1.out);refine hko hK (fun hH5=>?_);clear hK K hH4 hsq hXq
 try simp only[hwA]
 refine hwq dp (.bool false) hH5 ?_;refine hwd ?_;clear hH5;obtain⟨rc0,rc1⟩:=blk2 fR
 go_wp2_with fail
 refine bq (.tuple #[.agg #[.int .i64 ke,.slice ae ne qe],.bool false]) (by simp[results,Try.results34,go_sem,rc0,rc1]) ?_
 exact⟨_,_,_,_,_,h2.ty,rfl,by rw[HO.out,if_f (.inr D2.out)];rfl,hN1.out.move (.weaken fun b h _=>.inr (by have h1:=h.1;omega)),(by rw[HO.out,if_f (.inr D2.out)];intro s h;simp at h),fC.out⟩
theorem iI (G1 G2 G3:Nat->Prop)(nm:ByteArray)(u lb tk fk:Int)(ty src:Ty)(ta fa ca:Option Addr)(tn tq fn fq cm cq:Nat)(w:World)(hty:ai G1 w ty (.agg #[.int .i64 tk,.slice ta tn tq]))(hsrc:ai G2 w src (.agg #[.int .i64 fk,.slice fa fn fq]))(y:Value)(h1 h2 h3:S)(hv2:h2.vd=true)(d1:h1.ty.same (.mk 3 [])=true)(d2:h2.ty.same h3.ty=true)(hy:av G3 w [h1.ty,h2.ty,h3.ty] y) :
  Calls Try.prog 34 #[.agg (nv 9 nm u tk ta tn tq fk fa fn fq lb ca cm cq),y] w (aX ((aM 9 ty src [h1,h2,h3]).map S.ty) w):=by
 obtain⟨b,off,cap,k1,c1,m1,q1,k2,c2,m2,q2,k3,c3,m3,q3,rfl,hlb,e1a,e1b,e2a,e2b,e3a,e3b,ht1,ht2,ht3⟩:=hy.three;obtain⟨OO',hOO⟩ : ∃O:Option Ty,O=((aM 9 ty src [h1,h2,h3]).map S.ty):=⟨_,rfl⟩
 rw[<-hOO];have HO:=zq hOO;clear hOO;have D1:=zq d1;have HCN:=zq (S.cnt_ok hv2);clear d1 hv2;have D2:=zq d2;clear d2;have H1:=zq ht1.old;have H2:=zq ht2.old;have H3:=zq ht3.old;clear hty hsrc hy ht1 ht2 ht3
 go_enter Try.func34,Try.ntmps34
 go_wp2_with fail
 generalize hVV:World.alloc (World.alloc w _) _=VV;obtain⟨hv,o1,o2,zV⟩:=bO hVV;have fE:=o1;have fR:=o2;have c1a_:=af hv e1a;have c1b_:=af hv e1b;have h1_:=zq (H1.out.below hv);have c2a_:=af hv e2a;have c2b_:=af hv e2b;have h2_:=zq (H2.out.below hv);have c3a_:=af hv e3a;have c3b_:=af hv e3b;have h3_:=zq (H3.out.below hv);have fC:=zq hv;clear hv o1 o2;refine wh6 c1a_ c1b_ c2a_ c2b_ c3a_ c3b_ (fun U15 hb zU15a zU15b hH0=>?_);replace fE:=a9 fE hb;replace fR:=a9 fR hb;replace c1a_:=af hb c1a_;replace c1b_:=af hb c1b_;replace h1_:=mh hb h1_;replace c2a_:=af hb c2a_;replace c2b_:=af hb c2b_;replace h2_:=mh hb h2_;replace c3a_:=af hb c3a_;replace c3b_:=af hb c3b_;replace h3_:=mh hb h3_;replace fC:=mh hb fC;rw[zV] at zU15a zU15b;clear hb hVV zV;refine hwq hx0 (.slice (some ⟨b,off,none⟩) 3 cap) hH0 ?_;refine hwq hx1 (.pointer (some ⟨b,off+2,none⟩)) hH0 ?_;refine hwq hx2 (.agg #[.int .i64 k2,.slice c2 m2 q2]) hH0 ?_;refine hwq hx4 (.slice (some ⟨b,off,none⟩) 3 cap) hH0 ?_;refine hwq hx5 (.pointer (some ⟨b,off,none⟩)) hH0 ?_;refine hwq hx6 (.agg #[.int .i64 k1,.slice c1 m1 q1]) hH0 ?_;refine hwe hx3 (fun K hK=>?_)
 go_simp
 go_at_call 46
 refine(b5 _ h2.ty _ _ h2_.out HCN.out).mono ?_;rintro e X1 ⟨v,rfl,hv,hb⟩;obtain⟨ke,ae,ne,qe,rfl⟩:=hv.shape;have hN1':=hv.rep.rg;clear hv
 go_wp2_with fail
 have zX1:=hb.size;replace fE:=a9 fE hb;replace fR:=a9 fR hb;replace c1a_:=af hb c1a_;replace c1b_:=af hb c1b_;replace h1_:=mh hb h1_;replace c2a_:=af hb c2a_;replace c2b_:=af hb c2b_;replace h2_:=mh hb h2_;replace c3a_:=af hb c3a_;replace c3b_:=af hb c3b_;replace h3_:=mh hb h3_;replace fC:=mh hb fC;have hN1:=hN1';clear hN1';refine hko hK (fun hH1=>?_);clear hK K hH0 hb
 try simp only[hwA]
 refine hwe hx7 (fun K hK=>?_)
 go_simp
 go_at_call 59
 refine(bX _).mono ?_;rintro e X2 ⟨rfl,hb⟩
 go_wp2_with fail
 have zX2:=hb.size;replace fE:=a9 fE hb;replace fR:=a9 fR hb;replace c1a_:=af hb c1a_;replace c1b_:=af hb c1b_;replace h1_:=mh hb h1_;replace c2a_:=af hb c2a_;replace c2b_:=af hb c2b_;replace h2_:=mh hb h2_;replace c3a_:=af hb c3a_;replace c3b_:=af hb c3b_;replace h3_:=mh hb h3_;replace fC:=mh hb fC;replace hN1:=mh hb hN1;refine hko hK (fun hH2=>?_);clear hK K hH1 hb
 try simp only[hwA]
 refine hwe hx8 (fun K hK=>?_)
 go_simp
 go_at_call 62
 refine(bm _ _ _ _ _ _ _ h1_.out (ai.leaf 3)).mono ?_;rintro e X3 ⟨rfl,hb⟩;rw[D1.out]
 go_wp2_with fail
 have zX3:=hb.size;replace fE:=a9 fE hb;replace fR:=a9 fR hb;replace c1a_:=af hb c1a_;replace c1b_:=af hb c1b_;replace h1_:=mh hb h1_;replace c2a_:=af hb c2a_;replace c2b_:=af hb c2b_;replace h2_:=mh hb h2_;replace c3a_:=af hb c3a_;replace c3b_:=af hb c3b_;replace h3_:=mh hb h3_;replace fC:=mh hb fC;replace hN1:=mh hb hN1;refine hko hK (fun hH3=>?_);clear hK K hH2 hb
 try simp only[hwA]
 refine hwq hx9 (.bool true) hH3 ?_;refine hwq bd (.slice (some ⟨b,off,none⟩) 3 cap) hH3 ?_;refine hwq bl (.pointer (some ⟨b,off+2,none⟩)) hH3 ?_;refine hwq bz (.agg #[.int .i64 k2,.slice c2 m2 q2]) hH3 ?_;refine hwq bA (.slice (some ⟨b,off,none⟩) 3 cap) hH3 ?_;refine hwq bB (.pointer (some ⟨b,off+4,none⟩)) hH3 ?_;refine hwq bF (.agg #[.int .i64 k3,.slice c3 m3 q3]) hH3 ?_;refine hwe bI (fun K hK=>?_)
 go_simp
 go_at_call 62
 refine(bm _ _ _ _ _ _ _ h2_.out h3_.out).mono ?_;rintro e X4 ⟨rfl,hb⟩;rw[D2.out]
 go_wp2_with fail
 have zX4:=hb.size;replace fE:=a9 fE hb;replace fR:=a9 fR hb;replace c1a_:=af hb c1a_;replace c1b_:=af hb c1b_;replace h1_:=mh hb h1_;replace c2a_:=af hb c2a_;replace c2b_:=af hb c2b_;replace h2_:=mh hb h2_;replace c3a_:=af hb c3a_;replace c3b_:=af hb c3b_;replace h3_:=mh hb h3_;replace fC:=mh hb fC;replace hN1:=mh hb hN1;refine hko hK (fun hH4=>?_);clear hK K hH3 hb
 try simp only[hwA]
 refine hwq co (.bool true) hH4 ?_;refine hwe cD (fun K hK=>?_);obtain⟨r0,r1,rf0,rf1⟩:=b8 fR
 go_simp
 (try go_wp2_with fail);have hQq:=aJ fR (.int .i64 ke) (.slice ae ne qe);clear fR r0 rf0 r1 rf1;obtain⟨X5,hXq,hsq,fR,zX5a,zX5b⟩:=hQq;rw[hXq];replace fE:=hsq.bk fE;replace c1a_:=hsq.cq c1a_;replace c1b_:=hsq.cq c1b_;replace h1_:=zq (hsq.rep (fun b hb=>by have:b<w.heap.size:=hb;omega) h1_.out);replace c2a_:=hsq.cq c2a_;replace c2b_:=hsq.cq c2b_;replace h2_:=zq (hsq.rep (fun b hb=>by have:b<w.heap.size:=hb;omega) h2_.out);replace c3a_:=hsq.cq c3a_;replace c3b_:=hsq.cq c3b_;replace h3_:=zq (hsq.rep (fun b hb=>by have:b<w.heap.size:=hb;omega) h3_.out);replace fC:=hsq.be fC;replace hN1:=zq (hsq.rep (fun b hb=>by have h1:U15.heap.size<=b:=hb.1;have h2:b<X1.heap.size:=hb.2;omega) hN1.out);refine hko hK (fun hH5=>?_);clear hK K hH4 hsq hXq
 try simp only[hwA]
 refine hwq dp (.bool true) hH5 ?_;refine hwd ?_;clear hH5;obtain⟨rc0,rc1⟩:=blk2 fR
 go_wp2_with fail
 refine bq (.tuple #[.agg #[.int .i64 ke,.slice ae ne qe],.bool true]) (by simp[results,Try.results34,go_sem,rc0,rc1]) ?_
 exact⟨_,_,_,_,_,h2.ty,rfl,by rw[HO.out,if_t D1.out D2.out];rfl,hN1.out.move (.weaken fun b h _=>.inr (by have h1:=h.1;omega)),(by rw[HO.out,if_t D1.out D2.out];intro s h;exact Option.some.inj h),fC.out⟩
end Go.Proofs.Ytfhglkmjibjjoaa

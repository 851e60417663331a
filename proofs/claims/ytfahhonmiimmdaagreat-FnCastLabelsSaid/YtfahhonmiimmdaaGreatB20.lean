/- Arguments read as data: slices of rows. And what else its parts name. -/
import Derived.ProofKit
import Derived.OpenShut
import Derived.ShutString
import Derived.ChangeOld
import Derived.Test.YtfahhonmiimmdaaGreatB10
import Derived.Test.YtfahhonmiimmdaaGreatB5
import Derived.Shelf.Small.Bits
import Derived.Shelf.Strconv.Itoa0
import Derived.Shelf.Sort.Plain
import Derived.Ground.Names2Prog
import Derived.Shelf.Slices.CompactI
import Derived.Shelf.Slices.SearchI
import Derived.Shelf.Slices.Cells
import Derived.Shelf.Slices.In.SortNone
import Derived.Test.YtfahhonmiimmdaaGreatProg
set_option linter.unusedSimpArgs false
set_option linter.unusedVariables false
set_option maxRecDepth 100000
set_option maxHeartbeats 16000000
namespace Go.Proofs.YtfahhonmiimmdaaGreat
open Go.RowKit Go.ChangeShapes Go.WideShapes
theorem oR {a:Addr}(n:Nat)(h:a.spot=none):a.add n=⟨a.block,a.off+n,none⟩:=by
 unfold Addr.add
 split
 ·rename_i h0;subst h0;cases a;simp at h;subst h;rfl
 ·rfl
theorem te {w:World}{a:Addr}{v:Value}(h:w.cell? a=some v):a.spot=none:=by
 unfold World.cell? at h
 split at h
 ·split at h
  ·cases h
  ·rename_i hs;simpa using hs
 ·cases h
theorem bz.cells {F:Nat→Prop}{w:World}{b:Nat} : ∀(r:List C) (ys:List Value) (off:Nat),bz F w r ys→(∀i,i<ys.length→w.cell? ⟨b,off+i,none⟩=ys[i]?)→aM F w b off r
 | [],_,_,_,_=>by unfold aM;trivial
 | c :: cs,_,off,⟨z,zs,e,h1,h2⟩,k=>by
  subst e;unfold aM;refine⟨⟨z,by simpa using k 0 (by simp),h1⟩,bz.cells cs zs _ h2 fun i hi=>?_⟩;have:=k (i+1) (by simpa using hi);rw[show off+1+i=off+(i+1) from by omega]
  simpa using this
section
variable {H:Type} {enc:TypeId × Value→H} {w:World} {base:Nat} {held:Bool} {spare:Nat→Bool}
end
section
variable {H:Type} {enc:TypeId × Value→H} {P:Program}
theorem ul {t:TypeId}(hl:laidOutB P=true)(hr:P.readableRec t=true)(hrow:t<P.types.size){W W':World}{v:Value}{d:DataW H}{ps:List MemPlace}
  (h:DataW.Trod enc P W 0 (fun _=>true) true t v d ps) (hb:Below W.heap.size W W') :
  DataW.Trod enc P W' 0 (fun b=>decide (b<W.heap.size)) true t v d ps:=
 Below.trod hl hr hrow h hb (by obtain⟨m,hm⟩:=h;exact DataW.trod_lt m _ _ _ hm)
end
end Go.Proofs.YtfahhonmiimmdaaGreat
namespace Go.Proofs.YtfahhonmiimmdaaGreat
open Go.RowKit
theorem jI (F:Nat→Prop)(k:Int)(t1 t2:Ty)(y:Value)(w:World)(hy:ao F w (.mk k [t1,t2]) y)(hk:(k==1)=false)(hc1:t1.cnt≤1048576)(hc2:t2.cnt≤1048576) :
  Calls Tryz.prog 119 #[.int .i64 k,y] w (jO t1 t2 true w):=by
 obtain⟨ys,rfl,hys⟩:=hy;obtain⟨b,off,cap,k1,c1,m1,q1,k2,c2,m2,q2,rfl,g2,g3,hb,e0,e1,e2,e3,ht1,ht2⟩:=aA.two hys;simp only[Ty.kind,Ty.kids] at *;have Ht1:=zq hc1;have Ht2:=zq hc2;clear hys hc1 hc2
 go_enter Tryz.func119,Tryz.ntmps119
 go_wp2_with fail
 have s0_:(World.alloc (World.alloc (World.alloc w (Obj.cells #[.int .i64 k,.slice (some ⟨b,off,none⟩) 2 cap] 25)) (Obj.cells #[.int .i64 0,.slice none 0 0] 25)) (Obj.cells #[.int .i64 0,.slice none 0 0] 25)).cell? ⟨w.heap.size,1,none⟩=some (.slice (some ⟨b,off,none⟩) 2 cap):=ah ai (ah ai (ap (by simp) 1));have s1_:(World.alloc (World.alloc (World.alloc w (Obj.cells #[.int .i64 k,.slice (some ⟨b,off,none⟩) 2 cap] 25)) (Obj.cells #[.int .i64 0,.slice none 0 0] 25)) (Obj.cells #[.int .i64 0,.slice none 0 0] 25)).cell? ⟨b,off,none⟩=some (.int .i64 k1):=ah ai (ah ai (ah ai (e0)));have s2_:(World.alloc (World.alloc (World.alloc w (Obj.cells #[.int .i64 k,.slice (some ⟨b,off,none⟩) 2 cap] 25)) (Obj.cells #[.int .i64 0,.slice none 0 0] 25)) (Obj.cells #[.int .i64 0,.slice none 0 0] 25)).cell? ⟨b,off+1,none⟩=some (.slice c1 m1 q1):=ah ai (ah ai (ah ai (e1)));have s3_:(World.alloc (World.alloc (World.alloc w (Obj.cells #[.int .i64 k,.slice (some ⟨b,off,none⟩) 2 cap] 25)) (Obj.cells #[.int .i64 0,.slice none 0 0] 25)) (Obj.cells #[.int .i64 0,.slice none 0 0] 25)).cell? ⟨b,off+2,none⟩=some (.int .i64 k2):=ah ai (ah ai (ah ai (e2)));have s4_:(World.alloc (World.alloc (World.alloc w (Obj.cells #[.int .i64 k,.slice (some ⟨b,off,none⟩) 2 cap] 25)) (Obj.cells #[.int .i64 0,.slice none 0 0] 25)) (Obj.cells #[.int .i64 0,.slice none 0 0] 25)).cell? ⟨b,off+3,none⟩=some (.slice c2 m2 q2):=ah ai (ah ai (ah ai (e3)))
 go_region_held3 (fun w'=>w'.cell? ⟨w.heap.size,1,none⟩=some (.slice (some ⟨b,off,none⟩) 2 cap)∧w'.cell? ⟨b,off,none⟩=some (.int .i64 k1)∧w'.cell? ⟨b,off+1,none⟩=some (.slice c1 m1 q1)∧w'.cell? ⟨b,off+2,none⟩=some (.int .i64 k2)∧w'.cell? ⟨b,off+3,none⟩=some (.slice c2 m2 q2))
  (first | with_reducible exact⟨av (s0_),av (s1_),av (s2_),av (s3_),av (s4_)⟩ | with_reducible exact⟨ah hb1 (av (s0_)),ah hb1 (av (s1_)),ah hb1 (av (s2_)),ah hb1 (av (s3_)),ah hb1 (av (s4_))⟩ | with_reducible exact⟨ah hb2 (ah hb1 (av (s0_))),ah hb2 (ah hb1 (av (s1_))),ah hb2 (ah hb1 (av (s2_))),ah hb2 (ah hb1 (av (s3_))),ah hb2 (ah hb1 (av (s4_)))⟩ | with_reducible exact⟨b8 (b8 (ah hb2 (ah hb1 (av (s0_)))) (by show w.heap.size≠w.heap.size+1;omega)) (by show w.heap.size≠w.heap.size+1;omega),b8 (b8 (ah hb2 (ah hb1 (av (s1_)))) (by show b≠w.heap.size+1;omega)) (by show b≠w.heap.size+1;omega),b8 (b8 (ah hb2 (ah hb1 (av (s2_)))) (by show b≠w.heap.size+1;omega)) (by show b≠w.heap.size+1;omega),b8 (b8 (ah hb2 (ah hb1 (av (s3_)))) (by show b≠w.heap.size+1;omega)) (by show b≠w.heap.size+1;omega),b8 (b8 (ah hb2 (ah hb1 (av (s4_)))) (by show b≠w.heap.size+1;omega)) (by show b≠w.heap.size+1;omega)⟩ | with_reducible exact⟨b8 (b8 (b8 (b8 (ah hb2 (ah hb1 (av (s0_)))) (by show w.heap.size≠w.heap.size+1;omega)) (by show w.heap.size≠w.heap.size+1;omega)) (by show w.heap.size≠w.heap.size+1+1;omega)) (by show w.heap.size≠w.heap.size+1+1;omega),b8 (b8 (b8 (b8 (ah hb2 (ah hb1 (av (s1_)))) (by show b≠w.heap.size+1;omega)) (by show b≠w.heap.size+1;omega)) (by show b≠w.heap.size+1+1;omega)) (by show b≠w.heap.size+1+1;omega),b8 (b8 (b8 (b8 (ah hb2 (ah hb1 (av (s2_)))) (by show b≠w.heap.size+1;omega)) (by show b≠w.heap.size+1;omega)) (by show b≠w.heap.size+1+1;omega)) (by show b≠w.heap.size+1+1;omega),b8 (b8 (b8 (b8 (ah hb2 (ah hb1 (av (s3_)))) (by show b≠w.heap.size+1;omega)) (by show b≠w.heap.size+1;omega)) (by show b≠w.heap.size+1+1;omega)) (by show b≠w.heap.size+1+1;omega),b8 (b8 (b8 (b8 (ah hb2 (ah hb1 (av (s4_)))) (by show b≠w.heap.size+1;omega)) (by show b≠w.heap.size+1;omega)) (by show b≠w.heap.size+1+1;omega)) (by show b≠w.heap.size+1+1;omega)⟩)
  (first | (go_at_call 81;((with_reducible refine(be _ t1 _ _ (ht1.below cB.drew) Ht1.out).mono ?_);rintro e w1 ⟨v1,rfl,hv1,hb1⟩;obtain⟨kr1,ar1,nr1,qr1,rfl⟩:=hv1.shape)) | (go_at_call 81;((with_reducible refine(be _ t2 _ _ (ht2.below (aj cB.drew hb1)) Ht2.out).mono ?_);rintro e w2 ⟨v2,rfl,hv2,hb2⟩;obtain⟨kr2,ar2,nr2,qr2,rfl⟩:=hv2.shape;have hp2:=bK.mk hv1 hb1.size hb2 hv2;have f1_0:w2.frozen? ⟨w.heap.size+1,0,none⟩=false:=aO hb2 (ah hb1 (av (ah ai (ap (by simp) 0)))) (aO hb1 (av (ah ai (ap (by simp) 0))) (dfro (aO ai (ap (by simp) 0) (dP (by simp) 0))));have c1_0':w2.cell? ⟨w.heap.size+1,0,none⟩=some (.int .i64 0):=ah hb2 (ah hb1 (av (ah ai (ap (by simp) 0))));have d1_:=World.block_lt_of_cell? _ _ c1_0';have f1_1:w2.frozen? ⟨w.heap.size+1,1,none⟩=false:=aO hb2 (ah hb1 (av (ah ai (ap (by simp) 1)))) (aO hb1 (av (ah ai (ap (by simp) 1))) (dfro (aO ai (ap (by simp) 1) (dP (by simp) 1))));have c1_1':w2.cell? ⟨w.heap.size+1,1,none⟩=some (.slice none 0 0):=ah hb2 (ah hb1 (av (ah ai (ap (by simp) 1))));have d1_:=World.block_lt_of_cell? _ _ c1_1';have f2_0:w2.frozen? ⟨w.heap.size+1+1,0,none⟩=false:=aO hb2 (ah hb1 (av (ap (by simp) 0))) (aO hb1 (av (ap (by simp) 0)) (dfro (dP (by simp) 0)));have c2_0':w2.cell? ⟨w.heap.size+1+1,0,none⟩=some (.int .i64 0):=ah hb2 (ah hb1 (av (ap (by simp) 0)));have d2_:=World.block_lt_of_cell? _ _ c2_0';have f2_1:w2.frozen? ⟨w.heap.size+1+1,1,none⟩=false:=aO hb2 (ah hb1 (av (ap (by simp) 1))) (aO hb1 (av (ap (by simp) 1)) (dfro (dP (by simp) 1)));have c2_1':w2.cell? ⟨w.heap.size+1+1,1,none⟩=some (.slice none 0 0):=ah hb2 (ah hb1 (av (ap (by simp) 1)));have d2_:=World.block_lt_of_cell? _ _ c2_1')))
 clear s0_ s1_ s2_ s3_ s4_;have hB:=(aj (aj cB.drew hb1) hb2)
 have zw2:=hB.size;have c1_0:w2.cell? ⟨w.heap.size+1,0,none⟩=some (.int .i64 0):=ah hb2 (ah hb1 (av (ah ai (ap (by simp) 0))));have c1_1:w2.cell? ⟨w.heap.size+1,1,none⟩=some (.slice none 0 0):=ah hb2 (ah hb1 (av (ah ai (ap (by simp) 1))));have c2_0:w2.cell? ⟨w.heap.size+1+1,0,none⟩=some (.int .i64 0):=ah hb2 (ah hb1 (av (ap (by simp) 0)));have c2_1:w2.cell? ⟨w.heap.size+1+1,1,none⟩=some (.slice none 0 0):=ah hb2 (ah hb1 (av (ap (by simp) 1)));have d1_w2:=World.block_lt_of_cell? _ _ c1_0;have d2_w2:=World.block_lt_of_cell? _ _ c2_0
 go_wp2_with fail
 refine bodyPost_ret (v:=.tuple #[.agg #[.int .i64 kr1,.slice ar1 nr1 qr1],.agg #[.int .i64 kr2,.slice ar2 nr2 qr2],.bool true]) (by simp[results,Tryz.results119,go_sem,c1_0,c1_1,c2_0,c2_1]) rfl ?_
 exact⟨_,_,rfl,bK.mono ((((hp2.setCell (by first | (show w.heap.size+1<_;omega) | (show w.heap.size+1<_;simp;omega) | simp) _).setCell (by first | (show w.heap.size+1<_;omega) | (show w.heap.size+1<_;simp;omega) | simp) _).setCell (by first | (show w.heap.size+1+1<_;omega) | (show w.heap.size+1+1<_;simp;omega) | simp) _).setCell (by first | (show w.heap.size+1+1<_;omega) | (show w.heap.size+1+1<_;simp;omega) | simp) _) (by first | exact Nat.le_refl _ | omega | (simp;done) | (simp;omega)),((((hB.setCell (by show w.heap.size≤w.heap.size+1;omega) _).setCell (by show w.heap.size≤w.heap.size+1;omega) _).setCell (by show w.heap.size≤w.heap.size+1+1;omega) _).setCell (by show w.heap.size≤w.heap.size+1+1;omega) _)⟩
theorem oO (F:Nat→Prop)(k:Int)(t:Ty)(y:Value)(w:World)(hy:ao F w t y)(ht:t.kind=1) :
  Calls Tryz.prog 119 #[.int .i64 k,y] w (jO (.mk 1 []) (.mk 1 []) true w):=by
 obtain⟨k1,a1,n1,q1,rfl⟩:=hy.shape;obtain rfl:k1=1:=by obtain⟨s,he,-⟩:=hy;simp at he;rw[he.1];exact ht
 go_enter Tryz.func119,Tryz.ntmps119
 go_wp2_with fail
 refine(cZ _).mono ?_;rintro e w1 ⟨v1,rfl,hv1,hb1⟩;obtain⟨kr1,ar1,nr1,qr1,rfl⟩:=hv1.shape;have hB:=(aj cB hb1)
 have zw1:=hB.size;have f1_0:w1.frozen? ⟨w.heap.size+1,0,none⟩=false:=aO hb1 (ah ai (ap (by simp) 0)) (aO ai (ap (by simp) 0) (dP (by simp) 0));have f1_1:w1.frozen? ⟨w.heap.size+1,1,none⟩=false:=aO hb1 (ah ai (ap (by simp) 1)) (aO ai (ap (by simp) 1) (dP (by simp) 1));have f2_0:w1.frozen? ⟨w.heap.size+1+1,0,none⟩=false:=aO hb1 (ap (by simp) 0) (dP (by simp) 0);have f2_1:w1.frozen? ⟨w.heap.size+1+1,1,none⟩=false:=aO hb1 (ap (by simp) 1) (dP (by simp) 1);have c1_0:w1.cell? ⟨w.heap.size+1,0,none⟩=some (.int .i64 0):=ah hb1 (ah ai (ap (by simp) 0));have c1_1:w1.cell? ⟨w.heap.size+1,1,none⟩=some (.slice none 0 0):=ah hb1 (ah ai (ap (by simp) 1));have c2_0:w1.cell? ⟨w.heap.size+1+1,0,none⟩=some (.int .i64 0):=ah hb1 (ap (by simp) 0);have c2_1:w1.cell? ⟨w.heap.size+1+1,1,none⟩=some (.slice none 0 0):=ah hb1 (ap (by simp) 1);have d1_w1:=World.block_lt_of_cell? _ _ c1_0;have d2_w1:=World.block_lt_of_cell? _ _ c2_0
 go_wp2_with fail
 refine(cZ _).mono ?_;rintro e w2 ⟨v2,rfl,hv2,hb2⟩;obtain⟨kr2,ar2,nr2,qr2,rfl⟩:=hv2.shape;have hp2:=bK.mk hv1 hb1.size hb2 hv2;replace hB:=(aj hB hb2)
 have zw2:=hB.size;replace f1_0:w2.frozen? ⟨w.heap.size+1,0,none⟩=false:=aO hb2 (c1_0) (f1_0);replace f1_1:w2.frozen? ⟨w.heap.size+1,1,none⟩=false:=aO hb2 (c1_1) (f1_1);replace f2_0:w2.frozen? ⟨w.heap.size+1+1,0,none⟩=false:=aO hb2 (c2_0) (f2_0);replace f2_1:w2.frozen? ⟨w.heap.size+1+1,1,none⟩=false:=aO hb2 (c2_1) (f2_1);replace c1_0:=ah hb2 c1_0;replace c1_1:=ah hb2 c1_1;replace c2_0:=ah hb2 c2_0;replace c2_1:=ah hb2 c2_1;have d1_w2:=World.block_lt_of_cell? _ _ c1_0;have d2_w2:=World.block_lt_of_cell? _ _ c2_0
 go_wp2_with fail
 refine bodyPost_ret (v:=.tuple #[.agg #[.int .i64 kr1,.slice ar1 nr1 qr1],.agg #[.int .i64 kr2,.slice ar2 nr2 qr2],.bool true]) (by simp[results,Tryz.results119,go_sem,c1_0,c1_1,c2_0,c2_1]) rfl ?_
 exact⟨_,_,rfl,bK.mono ((((hp2.setCell (by first | (show w.heap.size+1<_;omega) | (show w.heap.size+1<_;simp;omega) | simp) _).setCell (by first | (show w.heap.size+1<_;omega) | (show w.heap.size+1<_;simp;omega) | simp) _).setCell (by first | (show w.heap.size+1+1<_;omega) | (show w.heap.size+1+1<_;simp;omega) | simp) _).setCell (by first | (show w.heap.size+1+1<_;omega) | (show w.heap.size+1+1<_;simp;omega) | simp) _) (by first | exact Nat.le_refl _ | omega | (simp;done) | (simp;omega)),((((hB.setCell (by show w.heap.size≤w.heap.size+1;omega) _).setCell (by show w.heap.size≤w.heap.size+1;omega) _).setCell (by show w.heap.size≤w.heap.size+1+1;omega) _).setCell (by show w.heap.size≤w.heap.size+1+1;omega) _)⟩
theorem cY (F:Nat→Prop)(k l:Int)(t:Ty)(y:Value)(w:World)(hy:ao F w t y)(ht:t.kind=l)(hk:(l != k)=true)(h1:(l==1)=false) :
  Calls Tryz.prog 119 #[.int .i64 k,y] w (jO Ty.none Ty.none false w):=by
 obtain⟨l1,a1,n1,q1,rfl⟩:=hy.shape;obtain rfl:l1=l:=by obtain⟨s,he,-⟩:=hy;simp at he;rw[he.1];exact ht
 go_enter Tryz.func119,Tryz.ntmps119
 go_wp2_with fail
 refine bodyPost_ret (v:=.tuple #[.agg #[.int .i64 0,.slice none 0 0],.agg #[.int .i64 0,.slice none 0 0],.bool false]) (by simp[results,Tryz.results119,go_sem]) rfl ?_
 exact⟨_,_,rfl,bK.mono bK.zero (Nat.le_refl _),cB⟩
theorem dM (F:Nat→Prop)(s:S)(k:Int)(hk:k=4∨k=5)(hc:s.cnt≤1048576)(y:Value)(w:World)(hy:ao F w s.ty y) :
  Calls Tryz.prog 119 #[.int .i64 k,y] w (jO (s.mat k).1.ty (s.mat k).2.1.ty (s.mat k).2.2 w):=by
 cases s with
 | any=>exact oO F k _ y w hy rfl
 | fn a b=>
  simp only[S.cnt] at hc
  rcases hk with rfl | rfl
  ·exact jI F 4 a.ty b.ty y w hy rfl (by rw[S.ty_cnt];omega) (by rw[S.ty_cnt];omega)
  ·exact cY F 5 4 _ y w hy rfl rfl rfl
 | pr a b=>
  simp only[S.cnt] at hc
  rcases hk with rfl | rfl
  ·exact cY F 4 5 _ y w hy rfl rfl rfl
  ·exact jI F 5 a.ty b.ty y w hy rfl (by rw[S.ty_cnt];omega) (by rw[S.ty_cnt];omega)
 | zero=>exact cY F k 0 _ y w hy rfl (by rcases hk with rfl | rfl<;>rfl) rfl
 | int=>exact cY F k 2 _ y w hy rfl (by rcases hk with rfl | rfl<;>rfl) rfl
 | bool=>exact cY F k 3 _ y w hy rfl (by rcases hk with rfl | rfl<;>rfl) rfl
theorem pd (m1 rx:Int)(h0:m1=rx):(m1:Int)=(rx):=by
 simp_all
theorem fW (F:Nat→Prop)(t:Tm) : ∀(nt:Int) (n:Nat) (_:t.shape nt n=true) (d:Int) (_:(n:Int)≤d) (_:d≤40) (y:Value) (w:World),ax F w t y →
  Calls Tryz.prog 41 #[y,.int .i64 d] w fun e w'=>e = .returned (.int .i64 (t.size))∧Below w.heap.size w w':=by
 intro nt n hsh d hd0 hd5 y w hy;have IH : ∀t'∈t.kids,∀(nt:Int) (n:Nat) (_:t'.shape nt n=true) (d:Int) (_:(n:Int)≤d) (_:d≤40) (y:Value) (W:World),ax F W t' y→Calls Tryz.prog 41 #[y,.int .i64 d] W fun e W'=>e = .returned (.int .i64 (t'.size))∧Below W.heap.size W W':=
  fun t' ht nt n a d b c y W e=>fW F t' nt n a d b c y W e
 have hbd:=Tm.size_bd hsh (by omega);obtain⟨k,nm,u,tk,ta,tn,tq,fk,fa,fn,fq,l,c,m,q,rfl⟩:=hy.shape;obtain⟨r1,r2,r3,r4,r5,r6,r7,r8,r9,rn,rm,rq,hty,hsr,hks⟩:=hy.parts
 cases t with | mk kk nn uu tt ff ll ts=>
 simp only[Tm.kind,Tm.name,Tm.num,Tm.type,Tm.src,Tm.label,Tm.kids] at *;subst r1 r2 r3 r8;obtain⟨s1,-,-,-,s5⟩:=Tm.shape_parts hsh;obtain⟨dd,rfl⟩ : ∃x,n=x+1:=⟨n-1,by omega⟩
 rw[show((dd+1:Nat):Int)-1=(dd:Int) from by omega] at s5;unfold Tm.size at hbd ⊢;have hd1:0<d:=by omega
 have hdd:(dd:Int)≤d-1:=by omega
 have hd:decide (d>0)=true:=by simpa using hd1
 obtain⟨rx,hr0⟩ : ∃r,1+Tm.sizes ts=r:=⟨_,rfl⟩
 rw[hr0];have HT0:=zq hr0;have HN:=zq r9;have HB:=zq hbd;have HSH:=zq s5;have IHH:=zq IH;unfold maxLen at rq;clear hr0 IH hy r9 r4 r5 r6 r7 rn hty hsr hbd s5 hsh hd0;obtain⟨rr,hrr⟩ : ∃rr0:Int,(rx)=rr0:=⟨_,rfl⟩
 rw[hrr];have HT:=zq hrr;clear hrr
 go_enter Tryz.func41,Tryz.ntmps41
 go_wp2_with fail
 go_loopw [6,5] (fun i m1_ wr=>∃j:Nat,j≤m∧i = .int .i64 j∧(∃m1:Int,m1_ = .int .i64 m1∧(1≤m1∧m1≤6078832729528464400)∧Hid (m1=1+Tm.sizes (ts.take j)))∧Below w.heap.size w wr∧wr.cell? ⟨w.heap.size,8,none⟩=some (.slice c m q)) (fun i _ _=>m-(intOf i).toNat)
 case atStart=>exact⟨0,by omega,rfl,⟨_,rfl,(by omega),(by unfold Hid;simp[Tm.sizes])⟩,ai,ap (by simp) 8⟩
 case round=>
  obtain⟨j,hj,rfl,⟨m1,rfl,m1_0,m1_1⟩,hB,x0⟩:=hrel;have lx1:=World.block_lt_of_cell? _ _ x0
  by_cases hlt:j<m
  ·have hjt:j<ts.length:=by have:=HN.out;omega
   obtain⟨b,off,k0,nm0,u0,tk0,ta0,tn0,tq0,fk0,fa0,fn0,fq0,l0,a0,m0,q0,rfl,lb,e0,e1,e2,e3,e4,e5,e6,e7,e8,ht⟩:=hks.at hB hjt;have hshj:ts[j].shape nt dd=true:=Tm.shapes_mem HSH.out (List.getElem_mem hjt);have hcall:=IHH.out ts[j] (List.getElem_mem hjt) nt dd hshj (d-1);have hp:=Tm.size_pos ts[j];have hstep:=Tm.sizes_take_succ ts j hjt;have hle:=Tm.sizes_take_le ts (j+1);have hmr:m1+ts[j].size≤6078832729528464400:=by have:=m1_1.out;have:=HB.out;omega
   generalize ts[j].size=r at hcall hp hstep hmr;have HC:=zq hcall;have HS:=zq hstep;clear hcall hstep hshj hle;have hwr:=IntWalk.i64_in (d-1) (by omega)
   go_wp2_with fail
   refine(HC.out (by omega) (by omega) _ _ ht).mono ?_;rintro e w1 ⟨rfl,hb1⟩;replace hB:=(aj hB hb1)
   have zw1:=hB.size;replace x0:=ah hb1 x0;have d0_w1:=World.block_lt_of_cell? _ _ x0;have hwr:=IntWalk.i64_in (m1+r) (by omega);have hwr:=IntWalk.i64_in ((j:Int)+1) (by omega)
   go_wp2_with fail
   go_roundw
   case rel=>exact⟨j+1,by omega,by go_num,⟨_,rfl,(by omega),(by have h1:=m1_1.out;have h2:=HS.out;unfold Hid;omega)⟩,hB,x0⟩
   case measure=>simp[intOf];omega
  ·skip
   have HMM:Hid (m1=rx):=zq (by have:=m1_1.out;rw[List.take_of_length_le (by have:=HN.out;omega)] at this;have:=HT0.out;omega)
   go_wp2_with fail
   refine bodyPost_ret (v:=.int .i64 (m1)) (by simp[results,Tryz.results41,go_sem,bne]) rfl ?_
   exact⟨aY ((pd m1 rx HMM.out).trans HT.out),hB⟩
termination_by SizeOf.sizeOf t
decreasing_by exact Tm.kid_lt ht
end Go.Proofs.YtfahhonmiimmdaaGreat
namespace Go.Proofs
open Go.Shelf
def Tryz.lays189_ren:Go.Shelf.Ren:=⟨fun | 189=>18 | 125=>39 | 257=>38 | 128=>74 | 129=>75 | 294=>65 | 295=>66 | 296=>67 | 297=>68 | 298=>69 | 299=>70 | 216=>71 | 300=>72 | 301=>73 | 328=>98 | 329=>99 | 330=>100 | 331=>101 | 332=>102 | 215=>103 | 343=>116 | n=>n,fun | 28=>30 | 3=>3 | 46=>57 | 0=>0 | 51=>92 | 53=>94 | 4=>4 | 183=>84 | 182=>83 | 131=>89 | 5=>5 | 9=>9 | 218=>109 | 222=>54 | 228=>121 | 229=>122 | n=>n,fun | n=>n⟩
theorem Tryz.lays189:Go.Proofs.Lays.n189 Tryz.prog Tryz.lays189_ren:={
  mixed:=by kernel_rfl
  f125:=Tryz.func39.trans (congrArg some (by kernel_rfl))
  f128:=Tryz.func74.trans (congrArg some (by kernel_rfl))
  f129:=Tryz.func75.trans (congrArg some (by kernel_rfl))
  f189:=Tryz.func18.trans (congrArg some (by kernel_rfl))
  f215:=Tryz.func103.trans (congrArg some (by kernel_rfl))
  f216:=Tryz.func71.trans (congrArg some (by kernel_rfl))
  f257:=Tryz.func38.trans (congrArg some (by kernel_rfl))
  f294:=Tryz.func65.trans (congrArg some (by kernel_rfl))
  f295:=Tryz.func66.trans (congrArg some (by kernel_rfl))
  f296:=Tryz.func67.trans (congrArg some (by kernel_rfl))
  f297:=Tryz.func68.trans (congrArg some (by kernel_rfl))
  f298:=Tryz.func69.trans (congrArg some (by kernel_rfl))
  f299:=Tryz.func70.trans (congrArg some (by kernel_rfl))
  f300:=Tryz.func72.trans (congrArg some (by kernel_rfl))
  f301:=Tryz.func73.trans (congrArg some (by kernel_rfl))
  f328:=Tryz.func98.trans (congrArg some (by kernel_rfl))
  f329:=Tryz.func99.trans (congrArg some (by kernel_rfl))
  f330:=Tryz.func100.trans (congrArg some (by kernel_rfl))
  f331:=Tryz.func101.trans (congrArg some (by kernel_rfl))
  f332:=Tryz.func102.trans (congrArg some (by kernel_rfl))
  f343:=Tryz.func116.trans (congrArg some (by kernel_rfl))
  t0:=Tryz.underlying0
  a0:=Tryz.isAgg0
  z0:=Tryz.sizeOf0
  v0:=Tryz.zeroValue0
  t3:=Tryz.underlying3
  a3:=Tryz.isAgg3
  z3:=Tryz.sizeOf3
  v3:=Tryz.zeroValue3
  t4:=Tryz.underlying4
  a4:=Tryz.isAgg4
  z4:=Tryz.sizeOf4
  v4:=Tryz.zeroValue4
  t5:=Tryz.underlying5
  a5:=Tryz.isAgg5
  z5:=Tryz.sizeOf5
  v5:=Tryz.zeroValue5
  t9:=Tryz.underlying9
  a9:=Tryz.isAgg9
  z9:=Tryz.sizeOf9
  v9:=Tryz.zeroValue9
  t28:=Tryz.underlying30
  a28:=Tryz.isAgg30
  z28:=Tryz.sizeOf30
  v28:=Tryz.zeroValue30
  t46:=Tryz.underlying57
  a46:=Tryz.isAgg57
  z46:=Tryz.sizeOf57
  v46:=Tryz.zeroValue57
  t51:=Tryz.underlying92
  a51:=Tryz.isAgg92
  z51:=Tryz.sizeOf92
  v51:=Tryz.zeroValue92
  t53:=Tryz.underlying94
  a53:=Tryz.isAgg94
  z53:=Tryz.sizeOf94
  v53:=Tryz.zeroValue94
  t131:=Tryz.underlying89
  a131:=Tryz.isAgg89
  z131:=Tryz.sizeOf89
  v131:=Tryz.zeroValue89
  t182:=Tryz.underlying83
  a182:=Tryz.isAgg83
  z182:=Tryz.sizeOf83
  v182:=Tryz.zeroValue83
  t183:=Tryz.underlying84
  a183:=Tryz.isAgg84
  z183:=Tryz.sizeOf84
  v183:=Tryz.zeroValue84
  t218:=Tryz.underlying109
  a218:=Tryz.isAgg109
  z218:=Tryz.sizeOf109
  v218:=Tryz.zeroValue109
  t222:=Tryz.underlying54
  a222:=Tryz.isAgg54
  z222:=Tryz.sizeOf54
  v222:=Tryz.zeroValue54
  t228:=Tryz.underlying121
  a228:=Tryz.isAgg121
  z228:=Tryz.sizeOf121
  v228:=Tryz.zeroValue121
  t229:=Tryz.underlying122
  a229:=Tryz.isAgg122
  z229:=Tryz.sizeOf122
  v229:=Tryz.zeroValue122}
open Go.Sort Go.RowKit in
theorem Tryz.slices_Sort_int (blk off cap:Nat)(zs:List Int)(w:World)(hH:Holds (Value.int .i64) w blk off zs.toArray)(hblk:blk<w.heap.size)(hsz:zs.length<4611686018427387904) :
  Calls Tryz.prog 18 #[.slice (some ⟨blk,off,none⟩) zs.length cap] w fun e w'=>
   e = .returned (.tuple #[])∧∃n os,w'=grow (putRow (Value.int .i64) (Sort.ahead w n) blk off (zs.mergeSort fun x y=>decide (x≤y)).toArray) os:=Any.slices_Sort_int Tryz.lays189 blk off cap zs w hH hblk hsz
def Tryz.laysNm220_ren:Go.Shelf.Ren:=⟨fun | 20=>19 | n=>n,fun | 22=>30 | 3=>3 | 4=>4 | 0=>0 | n=>n,fun | n=>n⟩
theorem Tryz.laysNm220:Go.Proofs.Lays2.n20 Tryz.prog Tryz.laysNm220_ren:={
  mixed:=by kernel_rfl
  f20:=Tryz.func19.trans (congrArg some (by kernel_rfl))
  t0:=Tryz.underlying0
  a0:=Tryz.isAgg0
  z0:=Tryz.sizeOf0
  v0:=Tryz.zeroValue0
  t3:=Tryz.underlying3
  a3:=Tryz.isAgg3
  z3:=Tryz.sizeOf3
  v3:=Tryz.zeroValue3
  t4:=Tryz.underlying4
  a4:=Tryz.isAgg4
  z4:=Tryz.sizeOf4
  v4:=Tryz.zeroValue4
  t22:=Tryz.underlying30
  a22:=Tryz.isAgg30
  z22:=Tryz.sizeOf30
  v22:=Tryz.zeroValue30
  i3:=by kernel_rfl}
open Go.RowKit Go.Lib Go.Sort in
open Go.RowKit Go.Lib Go.Sort in
theorem Tryz.slices_Compact_int (blk off cap:Nat)(zs:List Int)(w:World)(hH:Holds (Value.int .i64) w blk off zs.toArray)(hsz:zs.length≤9223372036854775807)(hcap:zs.length≤cap) :
  Calls Tryz.prog 19 #[.slice (some ⟨blk,off,none⟩) zs.length cap] w fun e w'=>e = .returned (.slice (some ⟨blk,off,none⟩) (Lib.compact zs).length cap)∧∃q,w'=putRow (Value.int .i64) (Sort.ahead w q) blk off (Lib.compact zs++List.replicate (zs.length-(Lib.compact zs).length) 0).toArray:=Any.slices_Compact_int Tryz.laysNm220 blk off cap zs w hH hsz hcap
open Go.RowKit Go.Lib Go.Sort in
theorem Tryz.slices_Compact_int_empty (a:Option Addr)(cap:Nat)(w:World) :
  Calls Tryz.prog 19 #[.slice a 0 cap] w fun e w'=>e = .returned (.slice a 0 cap)∧w'=w:=Any.slices_Compact_int_empty Tryz.laysNm220 a cap w
open Go.RowKit Go.Lib in
open Go.RowKit Go.Lib in
open Go.RowKit Go.Lib Go.Sort in
open Go.RowKit Go.Sort in
theorem Tryz.slices_Sort_int_none (p:Option Addr)(cap:Nat)(w:World) :
  Calls Tryz.prog 18 #[.slice p 0 cap] w fun e w'=>e = .returned (.tuple #[])∧w'=w:=Any.slices_Sort_int_none Tryz.lays189 p cap w
end Go.Proofs

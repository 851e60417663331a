/-
  MatchFun and MatchPair of the program and of the reference.
  TermValid and CastValid of the program.
-/
import Derived.Test.YtnaoghknnenfoaaB5
import Derived.Test.YtnaoghknnenfoaaB3
set_option linter.unusedSimpArgs false
set_option linter.unusedVariables false
set_option maxRecDepth 100000
namespace Go.Proofs.Ytnaoghknnenfoaa
open Go.RowKit
set_option maxHeartbeats 4000000 in
theorem ga (F:Nat→Prop)(k:Int)(t1 t2:Ty)(y:Value)(w:World)(hy:ap F w (.mk k [t1,t2]) y)(hk:(k==1)=false)(hc1:t1.cnt≤1048576)(hc2:t2.cnt≤1048576) :
  Calls Try.prog 80 #[.int .i64 k,y] w (gF t1 t2 true w):=by
 obtain⟨ys,rfl,hys⟩:=hy
 obtain⟨b,off,cap,k1,c1,m1,q1,k2,c2,m2,q2,rfl,g2,g3,hb,e0,e1,e2,e3,ht1,ht2⟩:=aF.two hys
 simp only [Ty.kind,Ty.kids] at *
 have Ht1:=Lib.hid hc1
 have Ht2:=Lib.hid hc2
 clear hys hc1 hc2
 go_enter Try.func80,Try.ntmps80
 go_wp2_with fail
 have s0_:(World.alloc (World.alloc (World.alloc w (Obj.cells #[.int .i64 k,.slice (some ⟨b,off,none⟩) 2 cap] 25)) (Obj.cells #[.int .i64 0,.slice none 0 0] 25)) (Obj.cells #[.int .i64 0,.slice none 0 0] 25)).cell? ⟨w.heap.size,1,none⟩=some (.slice (some ⟨b,off,none⟩) 2 cap):=a9 ah (a9 ah (aj (by simp) 1))
 have s1_:(World.alloc (World.alloc (World.alloc w (Obj.cells #[.int .i64 k,.slice (some ⟨b,off,none⟩) 2 cap] 25)) (Obj.cells #[.int .i64 0,.slice none 0 0] 25)) (Obj.cells #[.int .i64 0,.slice none 0 0] 25)).cell? ⟨b,off,none⟩=some (.int .i64 k1):=a9 ah (a9 ah (a9 ah (e0)))
 have s2_:(World.alloc (World.alloc (World.alloc w (Obj.cells #[.int .i64 k,.slice (some ⟨b,off,none⟩) 2 cap] 25)) (Obj.cells #[.int .i64 0,.slice none 0 0] 25)) (Obj.cells #[.int .i64 0,.slice none 0 0] 25)).cell? ⟨b,off+1,none⟩=some (.slice c1 m1 q1):=a9 ah (a9 ah (a9 ah (e1)))
 have s3_:(World.alloc (World.alloc (World.alloc w (Obj.cells #[.int .i64 k,.slice (some ⟨b,off,none⟩) 2 cap] 25)) (Obj.cells #[.int .i64 0,.slice none 0 0] 25)) (Obj.cells #[.int .i64 0,.slice none 0 0] 25)).cell? ⟨b,off+2,none⟩=some (.int .i64 k2):=a9 ah (a9 ah (a9 ah (e2)))
 have s4_:(World.alloc (World.alloc (World.alloc w (Obj.cells #[.int .i64 k,.slice (some ⟨b,off,none⟩) 2 cap] 25)) (Obj.cells #[.int .i64 0,.slice none 0 0] 25)) (Obj.cells #[.int .i64 0,.slice none 0 0] 25)).cell? ⟨b,off+3,none⟩=some (.slice c2 m2 q2):=a9 ah (a9 ah (a9 ah (e3)))
 go_region_held3 (fun w'=>w'.cell? ⟨w.heap.size,1,none⟩=some (.slice (some ⟨b,off,none⟩) 2 cap)∧w'.cell? ⟨b,off,none⟩=some (.int .i64 k1)∧w'.cell? ⟨b,off+1,none⟩=some (.slice c1 m1 q1)∧w'.cell? ⟨b,off+2,none⟩=some (.int .i64 k2)∧w'.cell? ⟨b,off+3,none⟩=some (.slice c2 m2 q2))
  (first | with_reducible exact⟨ay (s0_),ay (s1_),ay (s2_),ay (s3_),ay (s4_)⟩ | with_reducible exact⟨a9 hb1 (ay (s0_)),a9 hb1 (ay (s1_)),a9 hb1 (ay (s2_)),a9 hb1 (ay (s3_)),a9 hb1 (ay (s4_))⟩ | with_reducible exact⟨a9 hb2 (a9 hb1 (ay (s0_))),a9 hb2 (a9 hb1 (ay (s1_))),a9 hb2 (a9 hb1 (ay (s2_))),a9 hb2 (a9 hb1 (ay (s3_))),a9 hb2 (a9 hb1 (ay (s4_)))⟩ | with_reducible exact⟨bc (bc (a9 hb2 (a9 hb1 (ay (s0_)))) (by show w.heap.size≠w.heap.size+1;omega)) (by show w.heap.size≠w.heap.size+1;omega),bc (bc (a9 hb2 (a9 hb1 (ay (s1_)))) (by show b≠w.heap.size+1;omega)) (by show b≠w.heap.size+1;omega),bc (bc (a9 hb2 (a9 hb1 (ay (s2_)))) (by show b≠w.heap.size+1;omega)) (by show b≠w.heap.size+1;omega),bc (bc (a9 hb2 (a9 hb1 (ay (s3_)))) (by show b≠w.heap.size+1;omega)) (by show b≠w.heap.size+1;omega),bc (bc (a9 hb2 (a9 hb1 (ay (s4_)))) (by show b≠w.heap.size+1;omega)) (by show b≠w.heap.size+1;omega)⟩ | with_reducible exact⟨bc (bc (bc (bc (a9 hb2 (a9 hb1 (ay (s0_)))) (by show w.heap.size≠w.heap.size+1;omega)) (by show w.heap.size≠w.heap.size+1;omega)) (by show w.heap.size≠w.heap.size+1+1;omega)) (by show w.heap.size≠w.heap.size+1+1;omega),bc (bc (bc (bc (a9 hb2 (a9 hb1 (ay (s1_)))) (by show b≠w.heap.size+1;omega)) (by show b≠w.heap.size+1;omega)) (by show b≠w.heap.size+1+1;omega)) (by show b≠w.heap.size+1+1;omega),bc (bc (bc (bc (a9 hb2 (a9 hb1 (ay (s2_)))) (by show b≠w.heap.size+1;omega)) (by show b≠w.heap.size+1;omega)) (by show b≠w.heap.size+1+1;omega)) (by show b≠w.heap.size+1+1;omega),bc (bc (bc (bc (a9 hb2 (a9 hb1 (ay (s3_)))) (by show b≠w.heap.size+1;omega)) (by show b≠w.heap.size+1;omega)) (by show b≠w.heap.size+1+1;omega)) (by show b≠w.heap.size+1+1;omega),bc (bc (bc (bc (a9 hb2 (a9 hb1 (ay (s4_)))) (by show b≠w.heap.size+1;omega)) (by show b≠w.heap.size+1;omega)) (by show b≠w.heap.size+1+1;omega)) (by show b≠w.heap.size+1+1;omega)⟩)
  (first | (go_at_call 43;((with_reducible refine(b8 _ t1 _ _ (ht1.below bS.drew) Ht1.out).mono ?_);rintro e w1 ⟨v1,rfl,hv1,hb1⟩;obtain⟨kr1,ar1,nr1,qr1,rfl⟩:=hv1.shape)) | (go_at_call 43;((with_reducible refine(b8 _ t2 _ _ (ht2.below (ai bS.drew hb1)) Ht2.out).mono ?_);rintro e w2 ⟨v2,rfl,hv2,hb2⟩;obtain⟨kr2,ar2,nr2,qr2,rfl⟩:=hv2.shape;have hp2:=bD.mk hv1 hb1.size hb2 hv2;have f1_0:w2.frozen? ⟨w.heap.size+1,0,none⟩=false:=aw hb2 (a9 hb1 (ay (a9 ah (aj (by simp) 0)))) (aw hb1 (ay (a9 ah (aj (by simp) 0))) (dfro (aw ah (aj (by simp) 0) (cG (by simp) 0))));have c1_0':w2.cell? ⟨w.heap.size+1,0,none⟩=some (.int .i64 0):=a9 hb2 (a9 hb1 (ay (a9 ah (aj (by simp) 0))));have d1_:=World.block_lt_of_cell? _ _ c1_0';have f1_1:w2.frozen? ⟨w.heap.size+1,1,none⟩=false:=aw hb2 (a9 hb1 (ay (a9 ah (aj (by simp) 1)))) (aw hb1 (ay (a9 ah (aj (by simp) 1))) (dfro (aw ah (aj (by simp) 1) (cG (by simp) 1))));have c1_1':w2.cell? ⟨w.heap.size+1,1,none⟩=some (.slice none 0 0):=a9 hb2 (a9 hb1 (ay (a9 ah (aj (by simp) 1))));have d1_:=World.block_lt_of_cell? _ _ c1_1';have f2_0:w2.frozen? ⟨w.heap.size+1+1,0,none⟩=false:=aw hb2 (a9 hb1 (ay (aj (by simp) 0))) (aw hb1 (ay (aj (by simp) 0)) (dfro (cG (by simp) 0)));have c2_0':w2.cell? ⟨w.heap.size+1+1,0,none⟩=some (.int .i64 0):=a9 hb2 (a9 hb1 (ay (aj (by simp) 0)));have d2_:=World.block_lt_of_cell? _ _ c2_0';have f2_1:w2.frozen? ⟨w.heap.size+1+1,1,none⟩=false:=aw hb2 (a9 hb1 (ay (aj (by simp) 1))) (aw hb1 (ay (aj (by simp) 1)) (dfro (cG (by simp) 1)));have c2_1':w2.cell? ⟨w.heap.size+1+1,1,none⟩=some (.slice none 0 0):=a9 hb2 (a9 hb1 (ay (aj (by simp) 1)));have d2_:=World.block_lt_of_cell? _ _ c2_1')))
 clear s0_ s1_ s2_ s3_ s4_
 have hB:=(ai (ai bS.drew hb1) hb2)
 have zw2:=hB.size
 have c1_0:w2.cell? ⟨w.heap.size+1,0,none⟩=some (.int .i64 0):=a9 hb2 (a9 hb1 (ay (a9 ah (aj (by simp) 0))))
 have c1_1:w2.cell? ⟨w.heap.size+1,1,none⟩=some (.slice none 0 0):=a9 hb2 (a9 hb1 (ay (a9 ah (aj (by simp) 1))))
 have c2_0:w2.cell? ⟨w.heap.size+1+1,0,none⟩=some (.int .i64 0):=a9 hb2 (a9 hb1 (ay (aj (by simp) 0)))
 have c2_1:w2.cell? ⟨w.heap.size+1+1,1,none⟩=some (.slice none 0 0):=a9 hb2 (a9 hb1 (ay (aj (by simp) 1)))
 have d1_w2:=World.block_lt_of_cell? _ _ c1_0
 have d2_w2:=World.block_lt_of_cell? _ _ c2_0
 go_wp2_with fail
 refine bodyPost_ret (v:=.tuple #[.agg #[.int .i64 kr1,.slice ar1 nr1 qr1],.agg #[.int .i64 kr2,.slice ar2 nr2 qr2],.bool true]) (by simp [results,Try.results80,go_sem,c1_0,c1_1,c2_0,c2_1]) rfl ?_
 exact⟨_,_,rfl,bD.mono ((((hp2.setCell (by first | (show w.heap.size+1<_;omega) | (show w.heap.size+1<_;simp;omega) | simp) _).setCell (by first | (show w.heap.size+1<_;omega) | (show w.heap.size+1<_;simp;omega) | simp) _).setCell (by first | (show w.heap.size+1+1<_;omega) | (show w.heap.size+1+1<_;simp;omega) | simp) _).setCell (by first | (show w.heap.size+1+1<_;omega) | (show w.heap.size+1+1<_;simp;omega) | simp) _) (by first | exact Nat.le_refl _ | omega | (simp;done) | (simp;omega)),((((hB.setCell (by show w.heap.size≤w.heap.size+1;omega) _).setCell (by show w.heap.size≤w.heap.size+1;omega) _).setCell (by show w.heap.size≤w.heap.size+1+1;omega) _).setCell (by show w.heap.size≤w.heap.size+1+1;omega) _)⟩
set_option maxHeartbeats 4000000 in
theorem kN (F:Nat→Prop)(k:Int)(t:Ty)(y:Value)(w:World)(hy:ap F w t y)(ht:t.kind=1) :
  Calls Try.prog 80 #[.int .i64 k,y] w (gF (.mk 1 []) (.mk 1 []) true w):=by
 obtain⟨k1,a1,n1,q1,rfl⟩:=hy.shape
 obtain rfl:k1=1:=by obtain⟨s,he,-⟩:=hy;simp at he;rw [he.1];exact ht
 go_enter Try.func80,Try.ntmps80
 go_wp2_with fail
 refine(dg _).mono ?_
 rintro e w1 ⟨v1,rfl,hv1,hb1⟩
 obtain⟨kr1,ar1,nr1,qr1,rfl⟩:=hv1.shape
 have hB:=(ai bS hb1)
 have zw1:=hB.size
 have f1_0:w1.frozen? ⟨w.heap.size+1,0,none⟩=false:=aw hb1 (a9 ah (aj (by simp) 0)) (aw ah (aj (by simp) 0) (cG (by simp) 0))
 have f1_1:w1.frozen? ⟨w.heap.size+1,1,none⟩=false:=aw hb1 (a9 ah (aj (by simp) 1)) (aw ah (aj (by simp) 1) (cG (by simp) 1))
 have f2_0:w1.frozen? ⟨w.heap.size+1+1,0,none⟩=false:=aw hb1 (aj (by simp) 0) (cG (by simp) 0)
 have f2_1:w1.frozen? ⟨w.heap.size+1+1,1,none⟩=false:=aw hb1 (aj (by simp) 1) (cG (by simp) 1)
 have c1_0:w1.cell? ⟨w.heap.size+1,0,none⟩=some (.int .i64 0):=a9 hb1 (a9 ah (aj (by simp) 0))
 have c1_1:w1.cell? ⟨w.heap.size+1,1,none⟩=some (.slice none 0 0):=a9 hb1 (a9 ah (aj (by simp) 1))
 have c2_0:w1.cell? ⟨w.heap.size+1+1,0,none⟩=some (.int .i64 0):=a9 hb1 (aj (by simp) 0)
 have c2_1:w1.cell? ⟨w.heap.size+1+1,1,none⟩=some (.slice none 0 0):=a9 hb1 (aj (by simp) 1)
 have d1_w1:=World.block_lt_of_cell? _ _ c1_0
 have d2_w1:=World.block_lt_of_cell? _ _ c2_0
 go_wp2_with fail
 refine(dg _).mono ?_
 rintro e w2 ⟨v2,rfl,hv2,hb2⟩
 obtain⟨kr2,ar2,nr2,qr2,rfl⟩:=hv2.shape
 have hp2:=bD.mk hv1 hb1.size hb2 hv2
 replace hB:=(ai hB hb2)
 have zw2:=hB.size
 replace f1_0:w2.frozen? ⟨w.heap.size+1,0,none⟩=false:=aw hb2 (c1_0) (f1_0)
 replace f1_1:w2.frozen? ⟨w.heap.size+1,1,none⟩=false:=aw hb2 (c1_1) (f1_1)
 replace f2_0:w2.frozen? ⟨w.heap.size+1+1,0,none⟩=false:=aw hb2 (c2_0) (f2_0)
 replace f2_1:w2.frozen? ⟨w.heap.size+1+1,1,none⟩=false:=aw hb2 (c2_1) (f2_1)
 replace c1_0:w2.cell? ⟨w.heap.size+1,0,none⟩=some (.int .i64 0):=a9 hb2 (c1_0)
 replace c1_1:w2.cell? ⟨w.heap.size+1,1,none⟩=some (.slice none 0 0):=a9 hb2 (c1_1)
 replace c2_0:w2.cell? ⟨w.heap.size+1+1,0,none⟩=some (.int .i64 0):=a9 hb2 (c2_0)
 replace c2_1:w2.cell? ⟨w.heap.size+1+1,1,none⟩=some (.slice none 0 0):=a9 hb2 (c2_1)
 have d1_w2:=World.block_lt_of_cell? _ _ c1_0
 have d2_w2:=World.block_lt_of_cell? _ _ c2_0
 go_wp2_with fail
 refine bodyPost_ret (v:=.tuple #[.agg #[.int .i64 kr1,.slice ar1 nr1 qr1],.agg #[.int .i64 kr2,.slice ar2 nr2 qr2],.bool true]) (by simp [results,Try.results80,go_sem,c1_0,c1_1,c2_0,c2_1]) rfl ?_
 exact⟨_,_,rfl,bD.mono ((((hp2.setCell (by first | (show w.heap.size+1<_;omega) | (show w.heap.size+1<_;simp;omega) | simp) _).setCell (by first | (show w.heap.size+1<_;omega) | (show w.heap.size+1<_;simp;omega) | simp) _).setCell (by first | (show w.heap.size+1+1<_;omega) | (show w.heap.size+1+1<_;simp;omega) | simp) _).setCell (by first | (show w.heap.size+1+1<_;omega) | (show w.heap.size+1+1<_;simp;omega) | simp) _) (by first | exact Nat.le_refl _ | omega | (simp;done) | (simp;omega)),((((hB.setCell (by show w.heap.size≤w.heap.size+1;omega) _).setCell (by show w.heap.size≤w.heap.size+1;omega) _).setCell (by show w.heap.size≤w.heap.size+1+1;omega) _).setCell (by show w.heap.size≤w.heap.size+1+1;omega) _)⟩
set_option maxHeartbeats 4000000 in
theorem cx (F:Nat→Prop)(k l:Int)(t:Ty)(y:Value)(w:World)(hy:ap F w t y)(ht:t.kind=l)(hk:(l != k)=true)(h1:(l==1)=false) :
  Calls Try.prog 80 #[.int .i64 k,y] w (gF Ty.none Ty.none false w):=by
 obtain⟨l1,a1,n1,q1,rfl⟩:=hy.shape
 obtain rfl:l1=l:=by obtain⟨s,he,-⟩:=hy;simp at he;rw [he.1];exact ht
 go_enter Try.func80,Try.ntmps80
 go_wp2_with fail
 refine bodyPost_ret (v:=.tuple #[.agg #[.int .i64 0,.slice none 0 0],.agg #[.int .i64 0,.slice none 0 0],.bool false]) (by simp [results,Try.results80,go_sem]) rfl ?_
 exact⟨_,_,rfl,bD.mono bD.zero (Nat.le_refl _),bS⟩
theorem dw (F:Nat→Prop)(s:S)(k:Int)(hk:k=4∨k=5)(hc:s.cnt≤1048576)(y:Value)(w:World)(hy:ap F w s.ty y) :
  Calls Try.prog 80 #[.int .i64 k,y] w (gF (s.mat k).1.ty (s.mat k).2.1.ty (s.mat k).2.2 w):=by
 cases s with
 | any=>exact kN F k _ y w hy rfl
 | fn a b=>
  simp only [S.cnt] at hc
  rcases hk with rfl | rfl
  ·exact ga F 4 a.ty b.ty y w hy rfl (by rw [S.ty_cnt];omega) (by rw [S.ty_cnt];omega)
  ·exact cx F 5 4 _ y w hy rfl rfl rfl
 | pr a b=>
  simp only [S.cnt] at hc
  rcases hk with rfl | rfl
  ·exact cx F 4 5 _ y w hy rfl rfl rfl
  ·exact ga F 5 a.ty b.ty y w hy rfl (by rw [S.ty_cnt];omega) (by rw [S.ty_cnt];omega)
 | zero=>exact cx F k 0 _ y w hy rfl (by rcases hk with rfl | rfl<;>rfl) rfl
 | int=>exact cx F k 2 _ y w hy rfl (by rcases hk with rfl | rfl<;>rfl) rfl
 | bool=>exact cx F k 3 _ y w hy rfl (by rcases hk with rfl | rfl<;>rfl) rfl
end Go.Proofs.Ytnaoghknnenfoaa
namespace Go.Proofs.Ytnaoghknnenfoaa
open Go.RowKit
theorem aV.chgA {r:Nat}{w w':World}{t:List Tm}{y:Value}(h:aV (· ≠ r) w t y)(k:Chg [r] w w'):aV (· ≠ r) w' t y:=h.move (k.keeps (fun b hb=>by simpa using hb))
theorem az.chgA {r:Nat}{w w':World}{t:Tm}{y:Value}(h:az (· ≠ r) w t y)(k:Chg [r] w w'):az (· ≠ r) w' t y:=h.move (k.keeps (fun b hb=>by simpa using hb))
mutual
def Tm.scan:Tm→Int→Int→Int→Int→Int→Bool × Int
 | .mk k s u t f l ts,nt,mN,mD,deep,c=>if decide (c+1>mN)||decide (deep>mD)||k==nt || !(Tm.mk k s u t f l ts).nodeB then (false,c+1) else Tm.scans ts nt mN mD (deep+1) (c+1)
def Tm.scans:List Tm→Int→Int→Int→Int→Int→Bool × Int
 | [],_,_,_,_,c=>(true,c)
 | t :: ts,nt,mN,mD,deep,c=>if (t.scan nt mN mD deep c).1 then Tm.scans ts nt mN mD deep (t.scan nt mN mD deep c).2 else (false,(t.scan nt mN mD deep c).2)
end
mutual
theorem Tm.scan_eq : ∀(t:Tm) (nt mN mD deep c:Int),c≤mN→(t.scan nt mN mD deep c).1=(t.shape nt (mD+1-deep)&&decide (c+t.size≤mN))∧((t.scan nt mN mD deep c).1=true→(t.scan nt mN mD deep c).2=c+t.size)
 | .mk k s u t f l ts,nt,mN,mD,deep,c,hc=>by
  unfold Tm.scan Tm.shape Tm.size
  have hp:=Tm.sizes_pos ts
  have hnb:(Tm.mk k s u t f l ts).nodeB=((aJ k==(ts.length:Int))&&(Tm.mk k s u t f l ts).ownB):=by unfold Tm.nodeB;rfl
  rw [←hnb]
  generalize (Tm.mk k s u t f l ts).nodeB=nb
  by_cases h1:c+1>mN
  ·have h2 : ¬c+(1+Tm.sizes ts)≤mN:=by omega
   simp [h1,h2]
  ·by_cases h3:deep>mD
   ·have h4 : ¬1≤mD+1-deep:=by omega
    simp [h1,h3,h4]
   ·have h4:1≤mD+1-deep:=by omega
    cases hk:k==nt
    ·cases nb
     ·simp [h1,h3,h4]
     ·have ih:=Tm.scans_eq ts nt mN mD (deep+1) (c+1) (by omega)
      rw [show mD+1-(deep+1)=mD+1-deep-1 from by omega] at ih
      simp only [h1,h3,h4,decide_true,decide_false,Bool.or_false,Bool.not_false,Bool.not_true,Bool.true_and,Bool.false_eq_true,if_false,Bool.and_true]
      rw [show c+(1+Tm.sizes ts)=c+1+Tm.sizes ts from by omega]
      exact ih
    ·simp [h1,h3,h4]
theorem Tm.scans_eq : ∀(ts:List Tm) (nt mN mD deep c:Int),c≤mN→(Tm.scans ts nt mN mD deep c).1=(Tm.shapes ts nt (mD+1-deep)&&decide (c+Tm.sizes ts≤mN))∧((Tm.scans ts nt mN mD deep c).1=true→(Tm.scans ts nt mN mD deep c).2=c+Tm.sizes ts)
 | [],nt,mN,mD,deep,c,hc=>by
  unfold Tm.scans Tm.shapes Tm.sizes
  simp [hc]
 | t :: ts,nt,mN,mD,deep,c,hc=>by
  unfold Tm.scans Tm.shapes Tm.sizes
  obtain⟨h1,h2⟩:=Tm.scan_eq t nt mN mD deep c hc
  have hp:=Tm.sizes_pos ts
  have hq:=Tm.size_pos t
  cases hb:(t.scan nt mN mD deep c).1
  ·rw [hb] at h1
   simp only [Bool.false_eq_true,if_false]
   refine⟨?_,fun h=>by cases h⟩
   by_cases hs:t.shape nt (mD+1-deep)=true
   ·rw [hs,Bool.true_and] at h1
    have h3 : ¬c+t.size≤mN:=by simpa using h1.symm
    have h4 : ¬c+(t.size+Tm.sizes ts)≤mN:=by omega
    simp [h4]
   ·simp [hs]
  ·rw [hb] at h1
   have h3:=h2 hb
   have h4:t.shape nt (mD+1-deep)=true∧c+t.size≤mN:=by simpa using h1.symm
   simp only [if_true]
   rw [h3,h4.1,Bool.true_and]
   have ih:=Tm.scans_eq ts nt mN mD deep (c+t.size) h4.2
   rw [show c+(t.size+Tm.sizes ts)=c+t.size+Tm.sizes ts from by omega]
   exact ih
end
theorem Tm.scan_le {t:Tm}{nt mN mD deep c x:Int}(hc:c≤mN)(h:t.scan nt mN mD deep c=(true,x)):c≤x∧x≤mN:=by
 have h0:=Tm.scan_eq t nt mN mD deep c hc
 rw [h] at h0
 have h1:=h0.2 rfl
 have h2:t.shape nt (mD+1-deep)=true∧c+t.size≤mN:=by simpa using h0.1.symm
 have:=Tm.size_pos t
 simp only at h1
 omega
theorem Tm.scans_drop (ts:List Tm)(nt mN mD deep c:Int)(k:Nat)(h:k<ts.length){a:Bool}{x:Int}(e:ts[k].scan nt mN mD deep c=(a,x)) :
  Tm.scans (ts.drop k) nt mN mD deep c=if a then Tm.scans (ts.drop (k+1)) nt mN mD deep x else (false,x):=by
 rw [List.drop_eq_getElem_cons h]
 conv=>lhs;unfold Tm.scans
 rw [e]
theorem oW (k nt mN mD deep c0 cc xc:Int)(nb:Bool)(sc:Bool × Int)(h0:(decide ((c0+1)>mN))=true):(if decide (c0+1>mN)||decide (deep>mD)||k==nt || !nb then (false,c0+1) else sc)=((false,c0+1):Bool × Int):=by
 first | (simp_all;done) | (simp_all;omega) | grind
theorem p9 (k nt mN mD deep c0 cc xc:Int)(nb:Bool)(sc:Bool × Int)(h0:(decide ((c0+1)>mN))=false)(h1:(decide (deep>mD))=true):(if decide (c0+1>mN)||decide (deep>mD)||k==nt || !nb then (false,c0+1) else sc)=((false,c0+1):Bool × Int):=by
 first | (simp_all;done) | (simp_all;omega) | grind
theorem oL (k nt mN mD deep c0 cc xc:Int)(nb:Bool)(sc:Bool × Int)(h0:(decide ((c0+1)>mN))=false)(h1:(decide (deep>mD))=false)(h2:(k==nt)=true):(if decide (c0+1>mN)||decide (deep>mD)||k==nt || !nb then (false,c0+1) else sc)=((false,c0+1):Bool × Int):=by
 first | (simp_all;done) | (simp_all;omega) | grind
theorem oH (k nt mN mD deep c0 cc xc:Int)(nb:Bool)(sc:Bool × Int)(h0:(decide ((c0+1)>mN))=false)(h1:(decide (deep>mD))=false)(h2:(k==nt)=false)(h3:(nb)=true)(h4:sc=(false,xc)):(if decide (c0+1>mN)||decide (deep>mD)||k==nt || !nb then (false,c0+1) else sc)=((false,xc):Bool × Int):=by
 first | (simp_all;done) | (simp_all;omega) | grind
theorem oV (k nt mN mD deep c0 cc xc:Int)(nb:Bool)(sc:Bool × Int)(h0:(decide ((c0+1)>mN))=false)(h1:(decide (deep>mD))=false)(h2:(k==nt)=false)(h3:(nb)=true)(h4:sc=(true,cc)):(if decide (c0+1>mN)||decide (deep>mD)||k==nt || !nb then (false,c0+1) else sc)=((true,cc):Bool × Int):=by
 first | (simp_all;done) | (simp_all;omega) | grind
theorem oP (k nt mN mD deep c0 cc xc:Int)(nb:Bool)(sc:Bool × Int)(h0:(decide ((c0+1)>mN))=false)(h1:(decide (deep>mD))=false)(h2:(k==nt)=false)(h3:(nb)=false):(if decide (c0+1>mN)||decide (deep>mD)||k==nt || !nb then (false,c0+1) else sc)=((false,c0+1):Bool × Int):=by
 first | (simp_all;done) | (simp_all;omega) | grind
set_option maxHeartbeats 8000000 in
theorem nh (r:Nat)(nt mN mD:Int)(hN:mN≤300)(hD:mD≤100)(t:Tm) : ∀(deep c0:Int) (_:1≤deep∧deep≤mD+1) (_:0≤c0) (_:c0≤mN) (y:Value) (w:World),az (· ≠ r) w t y→w.cell? ⟨r,0,none⟩=some (.int .i64 c0)→w.frozen? ⟨r,0,none⟩=false→r<w.heap.size →
  Calls Try.prog 17 #[y,.int .i64 deep,.int .i64 mN,.int .i64 mD,.int .i64 nt,.pointer (some ⟨r,0,none⟩)] w fun e w'=>e = .returned (.bool (t.scan nt mN mD deep c0).1)∧Chg [r] w w'∧w'.cell? ⟨r,0,none⟩=some (.int .i64 (t.scan nt mN mD deep c0).2)∧w'.frozen? ⟨r,0,none⟩=false:=by
 intro deep c0 hdeep hc0 hcN y w hy hc hf hr
 have IH : ∀t'∈t.kids,∀(deep c0:Int) (_:1≤deep∧deep≤mD+1) (_:0≤c0) (_:c0≤mN) (y:Value) (w:World),az (· ≠ r) w t' y→w.cell? ⟨r,0,none⟩=some (.int .i64 c0)→w.frozen? ⟨r,0,none⟩=false→r<w.heap.size →
  Calls Try.prog 17 #[y,.int .i64 deep,.int .i64 mN,.int .i64 mD,.int .i64 nt,.pointer (some ⟨r,0,none⟩)] w fun e w'=>e = .returned (.bool (t'.scan nt mN mD deep c0).1)∧Chg [r] w w'∧w'.cell? ⟨r,0,none⟩=some (.int .i64 (t'.scan nt mN mD deep c0).2)∧w'.frozen? ⟨r,0,none⟩=false:=
  fun t' ht deep c0 a b d y w e f g h=>nh r nt mN mD hN hD t' deep c0 a b d y w e f g h
 have ho:=fun W (h:Chg [r] w W)=>pm (· ≠ r) t y W (hy.chgA h)
 obtain⟨k,nm,u,tk,ta,tn,tq,fk,fa,fn,fq,l,c,m,q,rfl⟩:=hy.shape
 obtain⟨r1,r2,r3,r4,r5,r6,r7,r8,r9,rn,rm,rq,hty,hsr,hks⟩:=hy.parts
 cases t with | mk kk nn uu tt ff ll ts=>
 simp only [Tm.kind,Tm.name,Tm.num,Tm.type,Tm.src,Tm.label,Tm.kids] at *
 subst r1 r2 r3 r8
 unfold Tm.scan
 generalize (Tm.mk k nm u tt ff l ts).nodeB=nb at *
 obtain⟨sc,hsc⟩ : ∃x,x=Tm.scans ts nt mN mD (deep+1) (c0+1):=⟨_,rfl⟩
 rw [←hsc]
 have HSC0:=Lib.hid hsc
 have HN:=Lib.hid r9
 have HO:=Lib.hid ho
 have IHH:=Lib.hid IH
 unfold maxLen at rq
 clear hsc ho IH hy r9 r4 r5 r6 r7 rn hty hsr
 obtain⟨rr,hrr⟩ : ∃rr0:Bool × Int,(if decide (c0+1>mN)||decide (deep>mD)||k==nt || !nb then (false,c0+1) else sc)=rr0:=⟨_,rfl⟩
 rw [hrr]
 have HT:=Lib.hid hrr
 clear hrr
 go_enter Try.func17,Try.ntmps17
 have hwr:=IntWalk.i64_in (c0+1) (by omega)
 rcases Bool.eq_false_or_eq_true (decide ((c0+1)>mN)) with q1 | q1
 ·skip
  go_wp2_with fail
  have hfin:rr=(false,c0+1):=HT.out.symm.trans (oW k nt mN mD deep c0 0 0 nb sc q1)
  rw [hfin]
  refine bodyPost_ret (v:=.bool (false)) (by simp [results,Try.results17,go_sem,bne]) rfl ?_
  exact⟨rfl,(((Chg.refl [r] _).setCell (by simp) _).trans (Chg.of_below ah)),a9 ah (aY (hc)),aw ah (aY (hc)) (sfro (hf))⟩
 ·skip
  rcases Bool.eq_false_or_eq_true (decide (deep>mD)) with q2 | q2
  ·skip
   go_wp2_with fail
   have hfin:rr=(false,c0+1):=HT.out.symm.trans (p9 k nt mN mD deep c0 0 0 nb sc q1 q2)
   rw [hfin]
   refine bodyPost_ret (v:=.bool (false)) (by simp [results,Try.results17,go_sem,bne]) rfl ?_
   exact⟨rfl,(((Chg.refl [r] _).setCell (by simp) _).trans (Chg.of_below ah)),a9 ah (aY (hc)),aw ah (aY (hc)) (sfro (hf))⟩
  ·skip
   rcases Bool.eq_false_or_eq_true (k==nt) with q3 | q3
   ·skip
    have nq3:(k != nt)=false:=by simp only [bne,q3];rfl
    go_wp2_with fail
    have hfin:rr=(false,c0+1):=HT.out.symm.trans (oL k nt mN mD deep c0 0 0 nb sc q1 q2 q3)
    rw [hfin]
    refine bodyPost_ret (v:=.bool (false)) (by simp [results,Try.results17,go_sem,bne]) rfl ?_
    exact⟨rfl,(((Chg.refl [r] _).setCell (by simp) _).trans (Chg.of_below ah)),a9 ah (aY (hc)),aw ah (aY (hc)) (sfro (hf))⟩
   ·skip
    have nq3:(k != nt)=true:=by simp only [bne,q3];rfl
    go_wp2_with fail
    refine(HO.out _ (((Chg.refl [r] _).setCell (by simp) _).trans (Chg.of_below ah))).mono ?_
    rintro e w1 ⟨rfl,hb1⟩
    have hB:=((((Chg.refl [r] _).setCell (by simp) _).trans (Chg.of_below ah)).trans (Chg.of_below hb1))
    have zw1:=hB.size
    replace hf:w1.frozen? ⟨r,0,none⟩=false:=aw hb1 (a9 ah (aY (hc))) (aw ah (aY (hc)) (sfro (hf)))
    have c0_8:w1.cell? ⟨w.heap.size,8,none⟩=some (.slice c m q):=a9 hb1 (aj (by simp) 8)
    replace hc:w1.cell? ⟨r,0,none⟩=some (.int .i64 (c0+1)):=a9 hb1 (a9 ah (aY (hc)))
    have d0_w1:=World.block_lt_of_cell? _ _ c0_8
    have dr_w1:=World.block_lt_of_cell? _ _ hc
    rcases Bool.eq_false_or_eq_true (nb) with q4 | q4
    ·(try rw [q4])
     have Hq4:=Lib.hid q4
     clear q4
     go_wp2_with fail
     go_loopw [44] (fun i wr=>∃j:Nat,j≤m∧i = .int .i64 j∧(∃cc:Int,wr.cell? ⟨r,0,none⟩=some (.int .i64 cc)∧(0≤cc∧cc≤mN)∧Hid (sc=Tm.scans (ts.drop j) nt mN mD (deep+1) cc))∧Chg [r] w wr∧wr.frozen? ⟨r,0,none⟩=false) (fun i _=>m-(intOf i).toNat)
     case atStart=>exact⟨0,by omega,rfl,⟨_,hc,(by have h:=q1;simp only [decide_eq_false_iff_not] at h;omega),HSC0.out⟩,hB,hf⟩
     case round=>
      obtain⟨j,hj,rfl,⟨cc,cc_x,cc_0,cc_1⟩,hB,z0⟩:=hrel
      by_cases hlt:j<m
      ·have hjt:j<ts.length:=by have:=HN.out;omega
       obtain⟨b,off,k0,nm0,u0,tk0,ta0,tn0,tq0,fk0,fa0,fn0,fq0,l0,a0,m0,q0,rfl,lb,e0,e1,e2,e3,e4,e5,e6,e7,e8,ht⟩:=(hks.chgA hB).at (Below.refl _ _) hjt
       have lb_1:=Nat.lt_succ_of_lt lb
       have hdm:deep≤mD:=by have h:=q2;simp only [decide_eq_false_iff_not] at h;omega
       have hcall:=IHH.out ts[j] (List.getElem_mem hjt) (deep+1) cc (by omega) (by omega) (by omega)
       obtain⟨xb,xc,hx⟩ : ∃a b,ts[j].scan nt mN mD (deep+1) cc=(a,b):=⟨_,_,rfl⟩
       have hstep:=cc_1.out.trans (Tm.scans_drop ts nt mN mD (deep+1) cc j hjt hx)
       have hle:xb=true→cc≤xc∧xc≤mN:=fun h=>Tm.scan_le (by omega) (h▸hx)
       rw [hx] at hcall
       have HC:=Lib.hid hcall
       have HS:=Lib.hid hstep
       have HL:=Lib.hid hle
       clear hcall hstep hle hx cc_1
       have hwr:=IntWalk.i64_in (deep+1) (by omega)
       go_wp2_with fail
       refine(HC.out _ _ (ht.below ah) (a9 ah (cc_x)) (aw ah (cc_x) (z0)) (by have:=hB.size;simp;omega)).mono ?_
       rintro e w2 ⟨rfl,hb2,hc2,hf2⟩
       replace hB:=((hB.trans (Chg.of_below ah)).trans hb2)
       have zw2:=hB.size
       rcases Bool.eq_false_or_eq_true (xb) with q5 | q5
       ·(try rw [q5])
        have Hq5:=Lib.hid q5
        clear q5
        have hwr:=IntWalk.i64_in ((j:Int)+1) (by omega)
        go_wp2_with fail
        go_roundw
        case rel=>exact⟨j+1,by omega,by go_num,⟨_,hc2,(by have h:=HL.out Hq5.out;omega),(by rw [Hid,HS.out,Hq5.out];rfl)⟩,hB,hf2⟩
        case measure=>simp [intOf];omega
       ·(try rw [q5])
        have Hq5:=Lib.hid q5
        clear q5
        go_wp2_with fail
        have hfin:rr=(false,xc):=HT.out.symm.trans (oH k nt mN mD deep c0 0 xc nb sc q1 q2 q3 Hq4.out (by rw [HS.out,Hq5.out];rfl))
        rw [hfin]
        refine bodyPost_ret (v:=.bool (false)) (by simp [results,Try.results17,go_sem,bne]) rfl ?_
        exact⟨rfl,hB,hc2,hf2⟩
      ·skip
       have HSC:Hid (sc=(true,cc)):=Lib.hid (by rw [cc_1.out,List.drop_eq_nil_of_le (by have:=HN.out;omega)];unfold Tm.scans;rfl)
       go_wp2_with fail
       have hfin:rr=(true,cc):=HT.out.symm.trans (oV k nt mN mD deep c0 cc 0 nb sc q1 q2 q3 Hq4.out HSC.out)
       rw [hfin]
       refine bodyPost_ret (v:=.bool (true)) (by simp [results,Try.results17,go_sem,bne]) rfl ?_
       exact⟨rfl,hB,cc_x,z0⟩
    ·(try rw [q4])
     have Hq4:=Lib.hid q4
     clear q4
     go_wp2_with fail
     have hfin:rr=(false,c0+1):=HT.out.symm.trans (oP k nt mN mD deep c0 0 0 nb sc q1 q2 q3 Hq4.out)
     rw [hfin]
     refine bodyPost_ret (v:=.bool (false)) (by simp [results,Try.results17,go_sem,bne]) rfl ?_
     exact⟨rfl,hB,hc,hf⟩
termination_by SizeOf.sizeOf t
decreasing_by exact Tm.kid_lt ht
end Go.Proofs.Ytnaoghknnenfoaa

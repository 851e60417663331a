/- MatchFun and MatchPair of the program and of the reference. And what else its parts name. -/
import Derived.Test.YtfahhonmiimmdaaGreatB7
set_option linter.unusedSimpArgs false
set_option linter.unusedVariables false
set_option maxRecDepth 100000
set_option maxHeartbeats 16000000
namespace Go.Proofs.YtfahhonmiimmdaaGreat
open Go.RowKit
theorem iX (F:Nat→Prop)(k:Int)(t1 t2:Ty)(y:Value)(w:World)(hy:ap F w (.mk k [t1,t2]) y)(hk:(k==1)=false)(hc1:t1.cnt≤1048576)(hc2:t2.cnt≤1048576) :
  Calls Tryz.prog 119 #[.int .i64 k,y] w (j7 t1 t2 true w):=by
 obtain⟨ys,rfl,hys⟩:=hy;obtain⟨b,off,cap,k1,c1,m1,q1,k2,c2,m2,q2,rfl,g2,g3,hb,e0,e1,e2,e3,ht1,ht2⟩:=aE.two hys;simp only[Ty.kind,Ty.kids] at *;have Ht1:=zq hc1;have Ht2:=zq hc2;clear hys hc1 hc2
 go_enter Tryz.func119,Tryz.ntmps119
 go_wp2_with fail
 have s0_:(World.alloc (World.alloc (World.alloc w (Obj.cells #[.int .i64 k,.slice (some ⟨b,off,none⟩) 2 cap] 25)) (Obj.cells #[.int .i64 0,.slice none 0 0] 25)) (Obj.cells #[.int .i64 0,.slice none 0 0] 25)).cell? ⟨w.heap.size,1,none⟩=some (.slice (some ⟨b,off,none⟩) 2 cap):=af aj (af aj (au (by simp) 1));have s1_:(World.alloc (World.alloc (World.alloc w (Obj.cells #[.int .i64 k,.slice (some ⟨b,off,none⟩) 2 cap] 25)) (Obj.cells #[.int .i64 0,.slice none 0 0] 25)) (Obj.cells #[.int .i64 0,.slice none 0 0] 25)).cell? ⟨b,off,none⟩=some (.int .i64 k1):=af aj (af aj (af aj (e0)));have s2_:(World.alloc (World.alloc (World.alloc w (Obj.cells #[.int .i64 k,.slice (some ⟨b,off,none⟩) 2 cap] 25)) (Obj.cells #[.int .i64 0,.slice none 0 0] 25)) (Obj.cells #[.int .i64 0,.slice none 0 0] 25)).cell? ⟨b,off+1,none⟩=some (.slice c1 m1 q1):=af aj (af aj (af aj (e1)));have s3_:(World.alloc (World.alloc (World.alloc w (Obj.cells #[.int .i64 k,.slice (some ⟨b,off,none⟩) 2 cap] 25)) (Obj.cells #[.int .i64 0,.slice none 0 0] 25)) (Obj.cells #[.int .i64 0,.slice none 0 0] 25)).cell? ⟨b,off+2,none⟩=some (.int .i64 k2):=af aj (af aj (af aj (e2)));have s4_:(World.alloc (World.alloc (World.alloc w (Obj.cells #[.int .i64 k,.slice (some ⟨b,off,none⟩) 2 cap] 25)) (Obj.cells #[.int .i64 0,.slice none 0 0] 25)) (Obj.cells #[.int .i64 0,.slice none 0 0] 25)).cell? ⟨b,off+3,none⟩=some (.slice c2 m2 q2):=af aj (af aj (af aj (e3)))
 go_region_held3 (fun w'=>w'.cell? ⟨w.heap.size,1,none⟩=some (.slice (some ⟨b,off,none⟩) 2 cap)∧w'.cell? ⟨b,off,none⟩=some (.int .i64 k1)∧w'.cell? ⟨b,off+1,none⟩=some (.slice c1 m1 q1)∧w'.cell? ⟨b,off+2,none⟩=some (.int .i64 k2)∧w'.cell? ⟨b,off+3,none⟩=some (.slice c2 m2 q2))
  (first | with_reducible exact⟨ay (s0_),ay (s1_),ay (s2_),ay (s3_),ay (s4_)⟩ | with_reducible exact⟨af hb1 (ay (s0_)),af hb1 (ay (s1_)),af hb1 (ay (s2_)),af hb1 (ay (s3_)),af hb1 (ay (s4_))⟩ | with_reducible exact⟨af hb2 (af hb1 (ay (s0_))),af hb2 (af hb1 (ay (s1_))),af hb2 (af hb1 (ay (s2_))),af hb2 (af hb1 (ay (s3_))),af hb2 (af hb1 (ay (s4_)))⟩ | with_reducible exact⟨bf (bf (af hb2 (af hb1 (ay (s0_)))) (by show w.heap.size≠w.heap.size+1;omega)) (by show w.heap.size≠w.heap.size+1;omega),bf (bf (af hb2 (af hb1 (ay (s1_)))) (by show b≠w.heap.size+1;omega)) (by show b≠w.heap.size+1;omega),bf (bf (af hb2 (af hb1 (ay (s2_)))) (by show b≠w.heap.size+1;omega)) (by show b≠w.heap.size+1;omega),bf (bf (af hb2 (af hb1 (ay (s3_)))) (by show b≠w.heap.size+1;omega)) (by show b≠w.heap.size+1;omega),bf (bf (af hb2 (af hb1 (ay (s4_)))) (by show b≠w.heap.size+1;omega)) (by show b≠w.heap.size+1;omega)⟩ | with_reducible exact⟨bf (bf (bf (bf (af hb2 (af hb1 (ay (s0_)))) (by show w.heap.size≠w.heap.size+1;omega)) (by show w.heap.size≠w.heap.size+1;omega)) (by show w.heap.size≠w.heap.size+1+1;omega)) (by show w.heap.size≠w.heap.size+1+1;omega),bf (bf (bf (bf (af hb2 (af hb1 (ay (s1_)))) (by show b≠w.heap.size+1;omega)) (by show b≠w.heap.size+1;omega)) (by show b≠w.heap.size+1+1;omega)) (by show b≠w.heap.size+1+1;omega),bf (bf (bf (bf (af hb2 (af hb1 (ay (s2_)))) (by show b≠w.heap.size+1;omega)) (by show b≠w.heap.size+1;omega)) (by show b≠w.heap.size+1+1;omega)) (by show b≠w.heap.size+1+1;omega),bf (bf (bf (bf (af hb2 (af hb1 (ay (s3_)))) (by show b≠w.heap.size+1;omega)) (by show b≠w.heap.size+1;omega)) (by show b≠w.heap.size+1+1;omega)) (by show b≠w.heap.size+1+1;omega),bf (bf (bf (bf (af hb2 (af hb1 (ay (s4_)))) (by show b≠w.heap.size+1;omega)) (by show b≠w.heap.size+1;omega)) (by show b≠w.heap.size+1+1;omega)) (by show b≠w.heap.size+1+1;omega)⟩)
  (first | (go_at_call 81;((with_reducible refine(bi _ t1 _ _ (ht1.below cA.drew) Ht1.out).mono ?_);rintro e w1 ⟨v1,rfl,hv1,hb1⟩;obtain⟨kr1,ar1,nr1,qr1,rfl⟩:=hv1.shape)) | (go_at_call 81;((with_reducible refine(bi _ t2 _ _ (ht2.below (al cA.drew hb1)) Ht2.out).mono ?_);rintro e w2 ⟨v2,rfl,hv2,hb2⟩;obtain⟨kr2,ar2,nr2,qr2,rfl⟩:=hv2.shape;have hp2:=bP.mk hv1 hb1.size hb2 hv2;have f1_0:w2.frozen? ⟨w.heap.size+1,0,none⟩=false:=az hb2 (af hb1 (ay (af aj (au (by simp) 0)))) (az hb1 (ay (af aj (au (by simp) 0))) (dfro (az aj (au (by simp) 0) (di (by simp) 0))));have c1_0':w2.cell? ⟨w.heap.size+1,0,none⟩=some (.int .i64 0):=af hb2 (af hb1 (ay (af aj (au (by simp) 0))));have d1_:=World.block_lt_of_cell? _ _ c1_0';have f1_1:w2.frozen? ⟨w.heap.size+1,1,none⟩=false:=az hb2 (af hb1 (ay (af aj (au (by simp) 1)))) (az hb1 (ay (af aj (au (by simp) 1))) (dfro (az aj (au (by simp) 1) (di (by simp) 1))));have c1_1':w2.cell? ⟨w.heap.size+1,1,none⟩=some (.slice none 0 0):=af hb2 (af hb1 (ay (af aj (au (by simp) 1))));have d1_:=World.block_lt_of_cell? _ _ c1_1';have f2_0:w2.frozen? ⟨w.heap.size+1+1,0,none⟩=false:=az hb2 (af hb1 (ay (au (by simp) 0))) (az hb1 (ay (au (by simp) 0)) (dfro (di (by simp) 0)));have c2_0':w2.cell? ⟨w.heap.size+1+1,0,none⟩=some (.int .i64 0):=af hb2 (af hb1 (ay (au (by simp) 0)));have d2_:=World.block_lt_of_cell? _ _ c2_0';have f2_1:w2.frozen? ⟨w.heap.size+1+1,1,none⟩=false:=az hb2 (af hb1 (ay (au (by simp) 1))) (az hb1 (ay (au (by simp) 1)) (dfro (di (by simp) 1)));have c2_1':w2.cell? ⟨w.heap.size+1+1,1,none⟩=some (.slice none 0 0):=af hb2 (af hb1 (ay (au (by simp) 1)));have d2_:=World.block_lt_of_cell? _ _ c2_1')))
 clear s0_ s1_ s2_ s3_ s4_;have hB:=(al (al cA.drew hb1) hb2)
 have zw2:=hB.size;have c1_0:w2.cell? ⟨w.heap.size+1,0,none⟩=some (.int .i64 0):=af hb2 (af hb1 (ay (af aj (au (by simp) 0))));have c1_1:w2.cell? ⟨w.heap.size+1,1,none⟩=some (.slice none 0 0):=af hb2 (af hb1 (ay (af aj (au (by simp) 1))));have c2_0:w2.cell? ⟨w.heap.size+1+1,0,none⟩=some (.int .i64 0):=af hb2 (af hb1 (ay (au (by simp) 0)));have c2_1:w2.cell? ⟨w.heap.size+1+1,1,none⟩=some (.slice none 0 0):=af hb2 (af hb1 (ay (au (by simp) 1)));have d1_w2:=World.block_lt_of_cell? _ _ c1_0;have d2_w2:=World.block_lt_of_cell? _ _ c2_0
 go_wp2_with fail
 refine bodyPost_ret (v:=.tuple #[.agg #[.int .i64 kr1,.slice ar1 nr1 qr1],.agg #[.int .i64 kr2,.slice ar2 nr2 qr2],.bool true]) (by simp[results,Tryz.results119,go_sem,c1_0,c1_1,c2_0,c2_1]) rfl ?_
 exact⟨_,_,rfl,bP.mono ((((hp2.setCell (by first | (show w.heap.size+1<_;omega) | (show w.heap.size+1<_;simp;omega) | simp) _).setCell (by first | (show w.heap.size+1<_;omega) | (show w.heap.size+1<_;simp;omega) | simp) _).setCell (by first | (show w.heap.size+1+1<_;omega) | (show w.heap.size+1+1<_;simp;omega) | simp) _).setCell (by first | (show w.heap.size+1+1<_;omega) | (show w.heap.size+1+1<_;simp;omega) | simp) _) (by first | exact Nat.le_refl _ | omega | (simp;done) | (simp;omega)),((((hB.setCell (by show w.heap.size≤w.heap.size+1;omega) _).setCell (by show w.heap.size≤w.heap.size+1;omega) _).setCell (by show w.heap.size≤w.heap.size+1+1;omega) _).setCell (by show w.heap.size≤w.heap.size+1+1;omega) _)⟩
theorem nS (F:Nat→Prop)(k:Int)(t:Ty)(y:Value)(w:World)(hy:ap F w t y)(ht:t.kind=1) :
  Calls Tryz.prog 119 #[.int .i64 k,y] w (j7 (.mk 1 []) (.mk 1 []) true w):=by
 obtain⟨k1,a1,n1,q1,rfl⟩:=hy.shape;obtain rfl:k1=1:=by obtain⟨s,he,-⟩:=hy;simp at he;rw[he.1];exact ht
 go_enter Tryz.func119,Tryz.ntmps119
 go_wp2_with fail
 refine(cM _).mono ?_;rintro e w1 ⟨v1,rfl,hv1,hb1⟩;obtain⟨kr1,ar1,nr1,qr1,rfl⟩:=hv1.shape;have hB:=(al cA hb1)
 have zw1:=hB.size;have f1_0:w1.frozen? ⟨w.heap.size+1,0,none⟩=false:=az hb1 (af aj (au (by simp) 0)) (az aj (au (by simp) 0) (di (by simp) 0));have f1_1:w1.frozen? ⟨w.heap.size+1,1,none⟩=false:=az hb1 (af aj (au (by simp) 1)) (az aj (au (by simp) 1) (di (by simp) 1));have f2_0:w1.frozen? ⟨w.heap.size+1+1,0,none⟩=false:=az hb1 (au (by simp) 0) (di (by simp) 0);have f2_1:w1.frozen? ⟨w.heap.size+1+1,1,none⟩=false:=az hb1 (au (by simp) 1) (di (by simp) 1);have c1_0:w1.cell? ⟨w.heap.size+1,0,none⟩=some (.int .i64 0):=af hb1 (af aj (au (by simp) 0));have c1_1:w1.cell? ⟨w.heap.size+1,1,none⟩=some (.slice none 0 0):=af hb1 (af aj (au (by simp) 1));have c2_0:w1.cell? ⟨w.heap.size+1+1,0,none⟩=some (.int .i64 0):=af hb1 (au (by simp) 0);have c2_1:w1.cell? ⟨w.heap.size+1+1,1,none⟩=some (.slice none 0 0):=af hb1 (au (by simp) 1);have d1_w1:=World.block_lt_of_cell? _ _ c1_0;have d2_w1:=World.block_lt_of_cell? _ _ c2_0
 go_wp2_with fail
 refine(cM _).mono ?_;rintro e w2 ⟨v2,rfl,hv2,hb2⟩;obtain⟨kr2,ar2,nr2,qr2,rfl⟩:=hv2.shape;have hp2:=bP.mk hv1 hb1.size hb2 hv2;replace hB:=(al hB hb2)
 have zw2:=hB.size;replace f1_0:w2.frozen? ⟨w.heap.size+1,0,none⟩=false:=az hb2 (c1_0) (f1_0);replace f1_1:w2.frozen? ⟨w.heap.size+1,1,none⟩=false:=az hb2 (c1_1) (f1_1);replace f2_0:w2.frozen? ⟨w.heap.size+1+1,0,none⟩=false:=az hb2 (c2_0) (f2_0);replace f2_1:w2.frozen? ⟨w.heap.size+1+1,1,none⟩=false:=az hb2 (c2_1) (f2_1);replace c1_0:=af hb2 c1_0;replace c1_1:=af hb2 c1_1;replace c2_0:=af hb2 c2_0;replace c2_1:=af hb2 c2_1;have d1_w2:=World.block_lt_of_cell? _ _ c1_0;have d2_w2:=World.block_lt_of_cell? _ _ c2_0
 go_wp2_with fail
 refine bodyPost_ret (v:=.tuple #[.agg #[.int .i64 kr1,.slice ar1 nr1 qr1],.agg #[.int .i64 kr2,.slice ar2 nr2 qr2],.bool true]) (by simp[results,Tryz.results119,go_sem,c1_0,c1_1,c2_0,c2_1]) rfl ?_
 exact⟨_,_,rfl,bP.mono ((((hp2.setCell (by first | (show w.heap.size+1<_;omega) | (show w.heap.size+1<_;simp;omega) | simp) _).setCell (by first | (show w.heap.size+1<_;omega) | (show w.heap.size+1<_;simp;omega) | simp) _).setCell (by first | (show w.heap.size+1+1<_;omega) | (show w.heap.size+1+1<_;simp;omega) | simp) _).setCell (by first | (show w.heap.size+1+1<_;omega) | (show w.heap.size+1+1<_;simp;omega) | simp) _) (by first | exact Nat.le_refl _ | omega | (simp;done) | (simp;omega)),((((hB.setCell (by show w.heap.size≤w.heap.size+1;omega) _).setCell (by show w.heap.size≤w.heap.size+1;omega) _).setCell (by show w.heap.size≤w.heap.size+1+1;omega) _).setCell (by show w.heap.size≤w.heap.size+1+1;omega) _)⟩
theorem cU (F:Nat→Prop)(k l:Int)(t:Ty)(y:Value)(w:World)(hy:ap F w t y)(ht:t.kind=l)(hk:(l != k)=true)(h1:(l==1)=false) :
  Calls Tryz.prog 119 #[.int .i64 k,y] w (j7 Ty.none Ty.none false w):=by
 obtain⟨l1,a1,n1,q1,rfl⟩:=hy.shape;obtain rfl:l1=l:=by obtain⟨s,he,-⟩:=hy;simp at he;rw[he.1];exact ht
 go_enter Tryz.func119,Tryz.ntmps119
 go_wp2_with fail
 refine bodyPost_ret (v:=.tuple #[.agg #[.int .i64 0,.slice none 0 0],.agg #[.int .i64 0,.slice none 0 0],.bool false]) (by simp[results,Tryz.results119,go_sem]) rfl ?_
 exact⟨_,_,rfl,bP.mono bP.zero (Nat.le_refl _),cA⟩
theorem dJ (F:Nat→Prop)(s:S)(k:Int)(hk:k=4∨k=5)(hc:s.cnt≤1048576)(y:Value)(w:World)(hy:ap F w s.ty y) :
  Calls Tryz.prog 119 #[.int .i64 k,y] w (j7 (s.mat k).1.ty (s.mat k).2.1.ty (s.mat k).2.2 w):=by
 cases s with
 | any=>exact nS F k _ y w hy rfl
 | fn a b=>
  simp only[S.cnt] at hc
  rcases hk with rfl | rfl
  ·exact iX F 4 a.ty b.ty y w hy rfl (by rw[S.ty_cnt];omega) (by rw[S.ty_cnt];omega)
  ·exact cU F 5 4 _ y w hy rfl rfl rfl
 | pr a b=>
  simp only[S.cnt] at hc
  rcases hk with rfl | rfl
  ·exact cU F 4 5 _ y w hy rfl rfl rfl
  ·exact iX F 5 a.ty b.ty y w hy rfl (by rw[S.ty_cnt];omega) (by rw[S.ty_cnt];omega)
 | zero=>exact cU F k 0 _ y w hy rfl (by rcases hk with rfl | rfl<;>rfl) rfl
 | int=>exact cU F k 2 _ y w hy rfl (by rcases hk with rfl | rfl<;>rfl) rfl
 | bool=>exact cU F k 3 _ y w hy rfl (by rcases hk with rfl | rfl<;>rfl) rfl
def gl:Oper:=⟨some 6,.move (.tmp 1),3,"l2_terms.go:44",#[],none⟩
def gm:Oper:=⟨some 7,.binOp .lss 3 (.tmp 6) (.const (.int .i64 1)) 3,4,"l2_terms.go:44",#[⟨0,.data⟩],none⟩
def gr:Oper:=⟨some 8,.move (.tmp 7),4,"l2_terms.go:44",#[⟨1,.data⟩],none⟩
def oSt3:Oper:=⟨some 9,.fieldAddr 28 (.tmp 2) 0,0,"l2_terms.go:44",#[⟨2,.guard⟩],some (2,false)⟩
def oSt4:Oper:=⟨some 10,.load 3 (.tmp 9),3,"l2_terms.go:44",#[⟨3,.data⟩,⟨2,.guard⟩],some (2,false)⟩
def oSt5:Oper:=⟨some 11,.call {callee:=.value (.func 76),args:=#[.tmp 10],argTypes:=#[3]},3,"l2_terms.go:44",#[⟨4,.data⟩,⟨2,.chain⟩,⟨2,.guard⟩],some (2,false)⟩
def oSt6:Oper:=⟨some 12,.fieldAddr 28 (.tmp 2) 6,0,"l2_terms.go:44",#[⟨2,.guard⟩],some (2,false)⟩
def oSt7:Oper:=⟨some 13,.load 26 (.tmp 12),26,"l2_terms.go:44",#[⟨6,.data⟩,⟨2,.guard⟩],some (2,false)⟩
def oSt8:Oper:=⟨some 14,.call {callee:=.builtin .len,args:=#[.tmp 13],argTypes:=#[26]},3,"l2_terms.go:44",#[⟨7,.data⟩,⟨2,.guard⟩],some (2,false)⟩
def oSt9:Oper:=⟨some 15,.binOp .neq 3 (.tmp 11) (.tmp 14) 3,4,"l2_terms.go:44",#[⟨5,.data⟩,⟨8,.data⟩,⟨2,.guard⟩],some (2,false)⟩
def eC:Oper:=⟨some 16,.pick (.tmp 8) (.const (.bool true)) (.tmp 15),4,"l2_terms.go:44",#[⟨2,.data⟩,⟨9,.data⟩],none⟩
def eD:Oper:=⟨some 17,.move (.tmp 16),4,"l2_terms.go:44",#[⟨10,.data⟩,⟨5,.chain⟩],none⟩
def gn:Oper:=⟨some 18,.fieldAddr 28 (.tmp 2) 0,0,"l2_terms.go:44",#[⟨11,.guard⟩],some (11,false)⟩
def gp:Oper:=⟨some 19,.load 3 (.tmp 18),3,"l2_terms.go:44",#[⟨12,.data⟩,⟨11,.guard⟩],some (11,false)⟩
def gq:Oper:=⟨some 20,.binOp .eql 3 (.tmp 19) (.const (.int .i64 14)) 3,4,"l2_terms.go:44",#[⟨13,.data⟩,⟨11,.guard⟩],some (11,false)⟩
def eE:Oper:=⟨some 21,.pick (.tmp 17) (.const (.bool true)) (.tmp 20),4,"l2_terms.go:44",#[⟨11,.data⟩,⟨14,.data⟩],none⟩
def eF:Oper:=⟨some 22,.move (.tmp 21),4,"l2_terms.go:44",#[⟨15,.data⟩,⟨11,.chain⟩],none⟩
def jw:Oper:=⟨some 23,.load 28 (.tmp 2),28,"l2_terms.go:44",#[⟨16,.guard⟩],some (16,false)⟩
def jA:Oper:=⟨some 24,.call {callee:=.value (.func 78),args:=#[.tmp 23],argTypes:=#[28]},4,"l2_terms.go:44",#[⟨17,.data⟩,⟨16,.chain⟩,⟨16,.guard⟩],some (16,false)⟩
def jB:Oper:=⟨some 25,.unOp .not 4 (.tmp 24),4,"l2_terms.go:44",#[⟨18,.data⟩,⟨16,.guard⟩],some (16,false)⟩
def eG:Oper:=⟨some 26,.pick (.tmp 22) (.const (.bool true)) (.tmp 25),4,"l2_terms.go:44",#[⟨16,.data⟩,⟨19,.data⟩],none⟩
theorem nw (k d:Int)(m:Nat)(ow rk:Bool)(h0:(decide (d<1))=true):(false:Bool)=(decide (1≤d) && !(k==14)&&((aG k==(m:Int))&&ow)&&rk):=by
 first | (simp_all;done) | (simp_all;omega) | grind
theorem ny (k d:Int)(m:Nat)(ow rk:Bool)(h0:(decide (d<1))=false)(h1:((aG k)==(m:Int))=true)(h2:(k==14)=true):(false:Bool)=(decide (1≤d) && !(k==14)&&((aG k==(m:Int))&&ow)&&rk):=by
 first | (simp_all;done) | (simp_all;omega) | grind
theorem nz (k d:Int)(m:Nat)(ow rk:Bool)(h0:(decide (d<1))=false)(h1:((aG k)==(m:Int))=true)(h2:(k==14)=false)(h3:(ow)=true)(h4:rk=false):(false:Bool)=(decide (1≤d) && !(k==14)&&((aG k==(m:Int))&&ow)&&rk):=by
 first | (simp_all;done) | (simp_all;omega) | grind
theorem nA (k d:Int)(m:Nat)(ow rk:Bool)(h0:(decide (d<1))=false)(h1:((aG k)==(m:Int))=true)(h2:(k==14)=false)(h3:(ow)=true)(h4:rk=true):(true:Bool)=(decide (1≤d) && !(k==14)&&((aG k==(m:Int))&&ow)&&rk):=by
 first | (simp_all;done) | (simp_all;omega) | grind
theorem nB (k d:Int)(m:Nat)(ow rk:Bool)(h0:(decide (d<1))=false)(h1:((aG k)==(m:Int))=true)(h2:(k==14)=false)(h3:(ow)=false):(false:Bool)=(decide (1≤d) && !(k==14)&&((aG k==(m:Int))&&ow)&&rk):=by
 first | (simp_all;done) | (simp_all;omega) | grind
theorem nC (k d:Int)(m:Nat)(ow rk:Bool)(h0:(decide (d<1))=false)(h1:((aG k)==(m:Int))=false):(false:Bool)=(decide (1≤d) && !(k==14)&&((aG k==(m:Int))&&ow)&&rk):=by
 first | (simp_all;done) | (simp_all;omega) | grind
theorem jR (F:Nat→Prop)(t:Tm) : ∀(d:Int) (y:Value) (w:World),aA F w t y→0≤d→d≤100 →
  Calls Tryz.prog 63 #[y,.int .i64 d] w fun e w'=>e = .returned (.bool (t.shape 14 d))∧Below w.heap.size w w':=by
 intro d y w hy hd0 hd5;have IH : ∀t'∈t.kids,∀(d:Int) (y:Value) (W:World),aA F W t' y→0≤d→d≤100→Calls Tryz.prog 63 #[y,.int .i64 d] W fun e W'=>e = .returned (.bool (t'.shape 14 d))∧Below W.heap.size W W':=
  fun t' ht d y W a b c=>jR F t' d y W a b c
 have ho:=fun(hk:(t.kind==14)=false) W (h:Below w.heap.size w W)=>ni F t y W (hy.below h) hk;obtain⟨k,nm,u,tk,ta,tn,tq,fk,fa,fn,fq,l,c,m,q,rfl⟩:=hy.shape;obtain⟨r1,r2,r3,r4,r5,r6,r7,r8,r9,rn,rm,rq,hty,hsr,hks⟩:=hy.parts
 cases t with | mk kk nn uu tt ff ll ts=>
 simp only[Tm.kind,Tm.name,Tm.num,Tm.type,Tm.src,Tm.label,Tm.kids] at *;subst r1 r2 r3 r8;unfold Tm.shape;generalize (Tm.mk k nm u tt ff l ts).ownB=ow at *;obtain⟨rk,hrk⟩ : ∃r,r=Tm.shapes ts 14 (d-1):=⟨_,rfl⟩
 rw[←hrk,←r9];have HN:=zq r9;have HRK:=zq hrk;have HO:=zq ho;have IHH:=zq IH;unfold maxLen at rq;clear hrk ho IH hy r9 r4 r5 r6 r7 rn hty hsr;obtain⟨rr,hrr⟩ : ∃rr0:Bool,(decide (1≤d) && !(k==14)&&((aG k==(m:Int))&&ow)&&rk)=rr0:=⟨_,rfl⟩
 rw[hrr];have HT:=zq hrr;clear hrr
 go_enter Tryz.func63,Tryz.ntmps63
 rcases Bool.eq_false_or_eq_true (decide (d<1)) with q1 | q1
 ·skip
  go_wp2_with fail
  refine wp_region_noPanic ?_;refine wp_region_held_drew (S:=fun w'=>True) (by kernel_rfl) ?_ (fun hH0=>?_)
  ·exact trivial
  refine hwt 0 gl (.int .i64 d) hH0 ?_ ?_
  ·intro w' hSw;dsimp only[gl];go_simp
  try simp only[gl,hwA]
  refine hwt 1 gm (.bool true) hH0 ?_ ?_
  ·intro w' hSw;dsimp only[gm];go_simp
  try simp only[gm,hwA]
  refine hwt 2 gr (.bool true) hH0 ?_ ?_
  ·intro w' hSw;dsimp only[gr];go_simp
  try simp only[gr,hwA]
  refine hwn 3 oSt3 hH0 ?_
  try simp only[oSt3,hwA]
  refine hwn 4 oSt4 hH0 ?_
  try simp only[oSt4,hwA]
  refine hwn 5 oSt5 hH0 ?_
  try simp only[oSt5,hwA]
  refine hwn 6 oSt6 hH0 ?_
  try simp only[oSt6,hwA]
  refine hwn 7 oSt7 hH0 ?_
  try simp only[oSt7,hwA]
  refine hwn 8 oSt8 hH0 ?_
  try simp only[oSt8,hwA]
  refine hwn 9 oSt9 hH0 ?_
  try simp only[oSt9,hwA]
  refine hwt 10 eC (.bool true) hH0 ?_ ?_
  ·intro w' hSw;dsimp only[eC];go_simp
  try simp only[eC,hwA]
  refine hwt 11 eD (.bool true) hH0 ?_ ?_
  ·intro w' hSw;dsimp only[eD];go_simp
  try simp only[eD,hwA]
  refine hwn 12 gn hH0 ?_
  try simp only[gn,hwA]
  refine hwn 13 gp hH0 ?_
  try simp only[gp,hwA]
  refine hwn 14 gq hH0 ?_
  try simp only[gq,hwA]
  refine hwt 15 eE (.bool true) hH0 ?_ ?_
  ·intro w' hSw;dsimp only[eE];go_simp
  try simp only[eE,hwA]
  refine hwt 16 eF (.bool true) hH0 ?_ ?_
  ·intro w' hSw;dsimp only[eF];go_simp
  try simp only[eF,hwA]
  refine hwn 17 jw hH0 ?_
  try simp only[jw,hwA]
  refine hwn 18 jA hH0 ?_
  try simp only[jA,hwA]
  refine hwn 19 jB hH0 ?_
  try simp only[jB,hwA]
  refine hwt 20 eG (.bool true) hH0 ?_ ?_
  ·intro w' hSw;dsimp only[eG];go_simp
  try simp only[eG,hwA]
  refine wpAnyH_done (by kernel_rfl) ?_ _;refine NoPanic.normal ?_;clear hH0
  go_wp2_with fail
  refine bodyPost_ret (v:=.bool (false)) (by simp[results,Tryz.results63,go_sem,bne]) rfl ?_
  exact⟨ax ((nw k d m ow rk q1).trans HT.out),aj.drew⟩
 ·skip
  rcases Bool.eq_false_or_eq_true ((aG k)==(m:Int)) with q2 | q2
  ·skip
   have nq2:((aG k) != (m:Int))=false:=by simp only[bne,q2];rfl
   rcases Bool.eq_false_or_eq_true (k==14) with q3 | q3
   ·skip
    have nq3:(k != 14)=false:=by simp only[bne,q3];rfl
    go_wp2_with fail
    have s0_:(World.alloc w (Obj.cells #[.int .i64 k,.string nm,.int .i64 u,.int .i64 tk,.slice ta tn tq,.int .i64 fk,.slice fa fn fq,.int .i64 l,.slice c m q] 28)).cell? ⟨w.heap.size,0,none⟩=some (.int .i64 k):=au (by simp) 0;have s1_:(World.alloc w (Obj.cells #[.int .i64 k,.string nm,.int .i64 u,.int .i64 tk,.slice ta tn tq,.int .i64 fk,.slice fa fn fq,.int .i64 l,.slice c m q] 28)).cell? ⟨w.heap.size,8,none⟩=some (.slice c m q):=au (by simp) 8;refine wp_region_noPanic ?_;refine wp_region_held_drew (S:=fun w'=>w'.cell? ⟨w.heap.size,0,none⟩=some (.int .i64 k)∧w'.cell? ⟨w.heap.size,8,none⟩=some (.slice c m q)) (by kernel_rfl) ?_ (fun hH0=>?_)
    ·exact⟨ay (s0_),ay (s1_)⟩
    refine hwt 0 gl (.int .i64 d) hH0 ?_ ?_
    ·intro w' hSw;dsimp only[gl];go_simp
    try simp only[gl,hwA]
    refine hwt 1 gm (.bool false) hH0 ?_ ?_
    ·intro w' hSw;dsimp only[gm];go_simp
    try simp only[gm,hwA]
    refine hwt 2 gr (.bool false) hH0 ?_ ?_
    ·intro w' hSw;dsimp only[gr];go_simp
    try simp only[gr,hwA]
    refine hwt 3 oSt3 (.pointer (some ⟨w.heap.size,0,none⟩)) hH0 ?_ ?_
    ·intro w' hSw;dsimp only[oSt3];go_simp
    try simp only[oSt3,hwA]
    refine hwt 4 oSt4 (.int .i64 k) hH0 ?_ ?_
    ·intro w' hSw;dsimp only[oSt4];go_simp
    try simp only[oSt4,hwA]
    refine hwt 6 oSt6 (.pointer (some ⟨w.heap.size,8,none⟩)) hH0 ?_ ?_
    ·intro w' hSw;dsimp only[oSt6];go_simp
    try simp only[oSt6,hwA]
    refine hwt 7 oSt7 (.slice c m q) hH0 ?_ ?_
    ·intro w' hSw;dsimp only[oSt7];go_simp
    try simp only[oSt7,hwA]
    refine hwt 8 oSt8 (.int .i64 (m:Int)) hH0 ?_ ?_
    ·intro w' hSw;dsimp only[oSt8];go_simp
    try simp only[oSt8,hwA]
    refine hwr 5 oSt5 (fun K hK=>?_)
    dsimp only[oSt5];go_simp
    go_at_call 76
    (with_reducible refine(cB k _).mono ?_)
    rintro e w1 ⟨rfl,hb1⟩
    go_wp2_with fail
    refine hK.out _ _ ?_ (fun hH1=>?_)
    ·exact⟨af hb1 (ay (s0_)),af hb1 (ay (s1_))⟩
    clear hK K hH0
    try simp only[oSt5,hwA]
    refine hwt 9 oSt9 (.bool false) hH1 ?_ ?_
    ·intro w' hSw;dsimp only[oSt9];go_simp
    try simp only[oSt9,hwA]
    refine hwt 10 eC (.bool false) hH1 ?_ ?_
    ·intro w' hSw;dsimp only[eC];go_simp
    try simp only[eC,hwA]
    refine hwt 11 eD (.bool false) hH1 ?_ ?_
    ·intro w' hSw;dsimp only[eD];go_simp
    try simp only[eD,hwA]
    refine hwt 12 gn (.pointer (some ⟨w.heap.size,0,none⟩)) hH1 ?_ ?_
    ·intro w' hSw;dsimp only[gn];go_simp
    try simp only[gn,hwA]
    refine hwt 13 gp (.int .i64 k) hH1 ?_ ?_
    ·intro w' hSw;dsimp only[gp];go_simp
    try simp only[gp,hwA]
    refine hwt 14 gq (.bool true) hH1 ?_ ?_
    ·intro w' hSw;dsimp only[gq];go_simp
    try simp only[gq,hwA]
    refine hwt 15 eE (.bool true) hH1 ?_ ?_
    ·intro w' hSw;dsimp only[eE];go_simp
    try simp only[eE,hwA]
    refine hwt 16 eF (.bool true) hH1 ?_ ?_
    ·intro w' hSw;dsimp only[eF];go_simp
    try simp only[eF,hwA]
    refine hwn 17 jw hH1 ?_
    try simp only[jw,hwA]
    refine hwn 18 jA hH1 ?_
    try simp only[jA,hwA]
    refine hwn 19 jB hH1 ?_
    try simp only[jB,hwA]
    refine hwt 20 eG (.bool true) hH1 ?_ ?_
    ·intro w' hSw;dsimp only[eG];go_simp
    try simp only[eG,hwA]
    refine wpAnyH_done (by kernel_rfl) ?_ _;refine NoPanic.normal ?_;clear hH1 s0_ s1_;have hB:=(al aj.drew hb1)
    have zw1:=hB.size
    go_wp2_with fail
    refine bodyPost_ret (v:=.bool (false)) (by simp[results,Tryz.results63,go_sem,bne]) rfl ?_
    exact⟨ax ((ny k d m ow rk q1 q2 q3).trans HT.out),hB⟩
   ·skip
    have nq3:(k != 14)=true:=by simp only[bne,q3];rfl
    go_wp2_with fail
    have s0_:(World.alloc w (Obj.cells #[.int .i64 k,.string nm,.int .i64 u,.int .i64 tk,.slice ta tn tq,.int .i64 fk,.slice fa fn fq,.int .i64 l,.slice c m q] 28)).cell? ⟨w.heap.size,0,none⟩=some (.int .i64 k):=au (by simp) 0;have s1_:(World.alloc w (Obj.cells #[.int .i64 k,.string nm,.int .i64 u,.int .i64 tk,.slice ta tn tq,.int .i64 fk,.slice fa fn fq,.int .i64 l,.slice c m q] 28)).cell? ⟨w.heap.size,8,none⟩=some (.slice c m q):=au (by simp) 8;have s2_:(World.alloc w (Obj.cells #[.int .i64 k,.string nm,.int .i64 u,.int .i64 tk,.slice ta tn tq,.int .i64 fk,.slice fa fn fq,.int .i64 l,.slice c m q] 28)).cell? ⟨w.heap.size,1,none⟩=some (.string nm):=au (by simp) 1;have s3_:(World.alloc w (Obj.cells #[.int .i64 k,.string nm,.int .i64 u,.int .i64 tk,.slice ta tn tq,.int .i64 fk,.slice fa fn fq,.int .i64 l,.slice c m q] 28)).cell? ⟨w.heap.size,2,none⟩=some (.int .i64 u):=au (by simp) 2;have s4_:(World.alloc w (Obj.cells #[.int .i64 k,.string nm,.int .i64 u,.int .i64 tk,.slice ta tn tq,.int .i64 fk,.slice fa fn fq,.int .i64 l,.slice c m q] 28)).cell? ⟨w.heap.size,3,none⟩=some (.int .i64 tk):=au (by simp) 3;have s5_:(World.alloc w (Obj.cells #[.int .i64 k,.string nm,.int .i64 u,.int .i64 tk,.slice ta tn tq,.int .i64 fk,.slice fa fn fq,.int .i64 l,.slice c m q] 28)).cell? ⟨w.heap.size,4,none⟩=some (.slice ta tn tq):=au (by simp) 4;have s6_:(World.alloc w (Obj.cells #[.int .i64 k,.string nm,.int .i64 u,.int .i64 tk,.slice ta tn tq,.int .i64 fk,.slice fa fn fq,.int .i64 l,.slice c m q] 28)).cell? ⟨w.heap.size,5,none⟩=some (.int .i64 fk):=au (by simp) 5;have s7_:(World.alloc w (Obj.cells #[.int .i64 k,.string nm,.int .i64 u,.int .i64 tk,.slice ta tn tq,.int .i64 fk,.slice fa fn fq,.int .i64 l,.slice c m q] 28)).cell? ⟨w.heap.size,6,none⟩=some (.slice fa fn fq):=au (by simp) 6;have s8_:(World.alloc w (Obj.cells #[.int .i64 k,.string nm,.int .i64 u,.int .i64 tk,.slice ta tn tq,.int .i64 fk,.slice fa fn fq,.int .i64 l,.slice c m q] 28)).cell? ⟨w.heap.size,7,none⟩=some (.int .i64 l):=au (by simp) 7
    have hS0:=zq (show(World.drew (World.alloc w (Obj.cells #[.int .i64 k,.string nm,.int .i64 u,.int .i64 tk,.slice ta tn tq,.int .i64 fk,.slice fa fn fq,.int .i64 l,.slice c m q] 28))).cell? ⟨w.heap.size,0,none⟩=some (.int .i64 k)∧(World.drew (World.alloc w (Obj.cells #[.int .i64 k,.string nm,.int .i64 u,.int .i64 tk,.slice ta tn tq,.int .i64 fk,.slice fa fn fq,.int .i64 l,.slice c m q] 28))).cell? ⟨w.heap.size,8,none⟩=some (.slice c m q)∧(World.drew (World.alloc w (Obj.cells #[.int .i64 k,.string nm,.int .i64 u,.int .i64 tk,.slice ta tn tq,.int .i64 fk,.slice fa fn fq,.int .i64 l,.slice c m q] 28))).cell? ⟨w.heap.size,1,none⟩=some (.string nm)∧(World.drew (World.alloc w (Obj.cells #[.int .i64 k,.string nm,.int .i64 u,.int .i64 tk,.slice ta tn tq,.int .i64 fk,.slice fa fn fq,.int .i64 l,.slice c m q] 28))).cell? ⟨w.heap.size,2,none⟩=some (.int .i64 u)∧(World.drew (World.alloc w (Obj.cells #[.int .i64 k,.string nm,.int .i64 u,.int .i64 tk,.slice ta tn tq,.int .i64 fk,.slice fa fn fq,.int .i64 l,.slice c m q] 28))).cell? ⟨w.heap.size,3,none⟩=some (.int .i64 tk)∧(World.drew (World.alloc w (Obj.cells #[.int .i64 k,.string nm,.int .i64 u,.int .i64 tk,.slice ta tn tq,.int .i64 fk,.slice fa fn fq,.int .i64 l,.slice c m q] 28))).cell? ⟨w.heap.size,4,none⟩=some (.slice ta tn tq)∧(World.drew (World.alloc w (Obj.cells #[.int .i64 k,.string nm,.int .i64 u,.int .i64 tk,.slice ta tn tq,.int .i64 fk,.slice fa fn fq,.int .i64 l,.slice c m q] 28))).cell? ⟨w.heap.size,5,none⟩=some (.int .i64 fk)∧(World.drew (World.alloc w (Obj.cells #[.int .i64 k,.string nm,.int .i64 u,.int .i64 tk,.slice ta tn tq,.int .i64 fk,.slice fa fn fq,.int .i64 l,.slice c m q] 28))).cell? ⟨w.heap.size,6,none⟩=some (.slice fa fn fq)∧(World.drew (World.alloc w (Obj.cells #[.int .i64 k,.string nm,.int .i64 u,.int .i64 tk,.slice ta tn tq,.int .i64 fk,.slice fa fn fq,.int .i64 l,.slice c m q] 28))).cell? ⟨w.heap.size,7,none⟩=some (.int .i64 l) from⟨ay (s0_),ay (s1_),ay (s2_),ay (s3_),ay (s4_),ay (s5_),ay (s6_),ay (s7_),ay (s8_)⟩)
    have hSb:=zq (show ∀X Y:World,Below X.heap.size X Y→(X.cell? ⟨w.heap.size,0,none⟩=some (.int .i64 k)∧X.cell? ⟨w.heap.size,8,none⟩=some (.slice c m q)∧X.cell? ⟨w.heap.size,1,none⟩=some (.string nm)∧X.cell? ⟨w.heap.size,2,none⟩=some (.int .i64 u)∧X.cell? ⟨w.heap.size,3,none⟩=some (.int .i64 tk)∧X.cell? ⟨w.heap.size,4,none⟩=some (.slice ta tn tq)∧X.cell? ⟨w.heap.size,5,none⟩=some (.int .i64 fk)∧X.cell? ⟨w.heap.size,6,none⟩=some (.slice fa fn fq)∧X.cell? ⟨w.heap.size,7,none⟩=some (.int .i64 l))→(Y.cell? ⟨w.heap.size,0,none⟩=some (.int .i64 k)∧Y.cell? ⟨w.heap.size,8,none⟩=some (.slice c m q)∧Y.cell? ⟨w.heap.size,1,none⟩=some (.string nm)∧Y.cell? ⟨w.heap.size,2,none⟩=some (.int .i64 u)∧Y.cell? ⟨w.heap.size,3,none⟩=some (.int .i64 tk)∧Y.cell? ⟨w.heap.size,4,none⟩=some (.slice ta tn tq)∧Y.cell? ⟨w.heap.size,5,none⟩=some (.int .i64 fk)∧Y.cell? ⟨w.heap.size,6,none⟩=some (.slice fa fn fq)∧Y.cell? ⟨w.heap.size,7,none⟩=some (.int .i64 l)) from fun X Y h s=>⟨af h s.1,af h s.2.1,af h s.2.2.1,af h s.2.2.2.1,af h s.2.2.2.2.1,af h s.2.2.2.2.2.1,af h s.2.2.2.2.2.2.1,af h s.2.2.2.2.2.2.2.1,af h s.2.2.2.2.2.2.2.2⟩)
    go_region_held3 (fun w'=>w'.cell? ⟨w.heap.size,0,none⟩=some (.int .i64 k)∧w'.cell? ⟨w.heap.size,8,none⟩=some (.slice c m q)∧w'.cell? ⟨w.heap.size,1,none⟩=some (.string nm)∧w'.cell? ⟨w.heap.size,2,none⟩=some (.int .i64 u)∧w'.cell? ⟨w.heap.size,3,none⟩=some (.int .i64 tk)∧w'.cell? ⟨w.heap.size,4,none⟩=some (.slice ta tn tq)∧w'.cell? ⟨w.heap.size,5,none⟩=some (.int .i64 fk)∧w'.cell? ⟨w.heap.size,6,none⟩=some (.slice fa fn fq)∧w'.cell? ⟨w.heap.size,7,none⟩=some (.int .i64 l))
     (repeat (first | with_reducible refine hSb.out _ _ hb3 ?_ | with_reducible refine hSb.out _ _ hb2 ?_ | with_reducible exact hS0.out))
     (first | (go_at_call 76;((with_reducible refine(cB k _).mono ?_);rintro e w2 ⟨rfl,hb2⟩)) | (go_at_call 78;((with_reducible refine(HO.out q3 _ (al aj.drew hb2)).mono ?_);rintro e w3 ⟨rfl,hb3⟩)))
    clear s0_ s1_ s2_ s3_ s4_ s5_ s6_ s7_ s8_;have hB:=(al (al aj.drew hb2) hb3)
    have zw3:=hB.size;have c0_8:w3.cell? ⟨w.heap.size,8,none⟩=some (.slice c m q):=af hb3 (af hb2 (ay (au (by simp) 8)));have d0_w3:=World.block_lt_of_cell? _ _ c0_8
    rcases Bool.eq_false_or_eq_true (ow) with q4 | q4
    ·(try rw[q4])
     have Hq4:=zq q4;clear q4
     go_wp2_with fail
     go_loopw [5] (fun i wr=>∃j:Nat,j≤m∧i = .int .i64 j∧Below w.heap.size w wr∧wr.cell? ⟨w.heap.size,8,none⟩=some (.slice c m q)∧Hid (rk=Tm.shapes (ts.drop j) 14 (d-1))) (fun i _=>m-(intOf i).toNat)
     case atStart=>exact⟨0,by omega,rfl,hB,c0_8,HRK.out⟩
     case round=>
      obtain⟨j,hj,rfl,hB,x0,hR0⟩:=hrel;have lx1:=World.block_lt_of_cell? _ _ x0
      by_cases hlt:j<m
      ·have hjt:j<ts.length:=by have:=HN.out;omega
       obtain⟨b,off,k0,nm0,u0,tk0,ta0,tn0,tq0,fk0,fa0,fn0,fq0,l0,a0,m0,q0,rfl,lb,e0,e1,e2,e3,e4,e5,e6,e7,e8,ht⟩:=hks.at hB hjt;have hcall:=IHH.out ts[j] (List.getElem_mem hjt) (d-1);have hstep:=hR0.out.trans (Tm.shapes_drop ts 14 (d-1) j hjt);generalize ts[j].shape 14 (d-1)=r at hcall hstep;have HC:=zq hcall;have HS:=zq hstep;clear hcall hstep hR0;have hwr:=IntWalk.i64_in (d-1) (by omega)
       go_wp2_with fail
       refine(HC.out _ _ ht (by have h:=q1;simp only[decide_eq_false_iff_not] at h;omega) (by have h:=q1;simp only[decide_eq_false_iff_not] at h;omega)).mono ?_;rintro e w4 ⟨rfl,hb4⟩;replace hB:=(al hB hb4)
       have zw4:=hB.size;replace x0:=af hb4 x0;have d0_w4:=World.block_lt_of_cell? _ _ x0
       rcases Bool.eq_false_or_eq_true (r) with q5 | q5
       ·(try rw[q5])
        have Hq5:=zq q5;clear q5;have hwr:=IntWalk.i64_in ((j:Int)+1) (by omega)
        go_wp2_with fail
        go_roundw
        case rel=>exact⟨j+1,by omega,by go_num,hB,x0,(by rw[Hid,HS.out,Hq5.out];rfl)⟩
        case measure=>simp[intOf];omega
       ·(try rw[q5])
        have Hq5:=zq q5;clear q5
        go_wp2_with fail
        refine bodyPost_ret (v:=.bool (false)) (by simp[results,Tryz.results63,go_sem,bne]) rfl ?_
        exact⟨ax ((nz k d m ow rk q1 q2 q3 Hq4.out (by rw[HS.out,Hq5.out];rfl)).trans HT.out),hB⟩
      ·skip
       have HRK:Hid (rk=true):=zq (by rw[hR0.out,List.drop_eq_nil_of_le (by have:=HN.out;omega)];unfold Tm.shapes;rfl)
       go_wp2_with fail
       refine bodyPost_ret (v:=.bool (true)) (by simp[results,Tryz.results63,go_sem,bne]) rfl ?_
       exact⟨ax ((nA k d m ow rk q1 q2 q3 Hq4.out HRK.out).trans HT.out),hB⟩
    ·(try rw[q4])
     have Hq4:=zq q4;clear q4
     go_wp2_with fail
     refine bodyPost_ret (v:=.bool (false)) (by simp[results,Tryz.results63,go_sem,bne]) rfl ?_
     exact⟨ax ((nB k d m ow rk q1 q2 q3 Hq4.out).trans HT.out),hB⟩
  ·skip
   have nq2:((aG k) != (m:Int))=true:=by simp only[bne,q2];rfl
   go_wp2_with fail
   have s0_:(World.alloc w (Obj.cells #[.int .i64 k,.string nm,.int .i64 u,.int .i64 tk,.slice ta tn tq,.int .i64 fk,.slice fa fn fq,.int .i64 l,.slice c m q] 28)).cell? ⟨w.heap.size,0,none⟩=some (.int .i64 k):=au (by simp) 0;have s1_:(World.alloc w (Obj.cells #[.int .i64 k,.string nm,.int .i64 u,.int .i64 tk,.slice ta tn tq,.int .i64 fk,.slice fa fn fq,.int .i64 l,.slice c m q] 28)).cell? ⟨w.heap.size,8,none⟩=some (.slice c m q):=au (by simp) 8;refine wp_region_noPanic ?_;refine wp_region_held_drew (S:=fun w'=>w'.cell? ⟨w.heap.size,0,none⟩=some (.int .i64 k)∧w'.cell? ⟨w.heap.size,8,none⟩=some (.slice c m q)) (by kernel_rfl) ?_ (fun hH0=>?_)
   ·exact⟨ay (s0_),ay (s1_)⟩
   refine hwt 0 gl (.int .i64 d) hH0 ?_ ?_
   ·intro w' hSw;dsimp only[gl];go_simp
   try simp only[gl,hwA]
   refine hwt 1 gm (.bool false) hH0 ?_ ?_
   ·intro w' hSw;dsimp only[gm];go_simp
   try simp only[gm,hwA]
   refine hwt 2 gr (.bool false) hH0 ?_ ?_
   ·intro w' hSw;dsimp only[gr];go_simp
   try simp only[gr,hwA]
   refine hwt 3 oSt3 (.pointer (some ⟨w.heap.size,0,none⟩)) hH0 ?_ ?_
   ·intro w' hSw;dsimp only[oSt3];go_simp
   try simp only[oSt3,hwA]
   refine hwt 4 oSt4 (.int .i64 k) hH0 ?_ ?_
   ·intro w' hSw;dsimp only[oSt4];go_simp
   try simp only[oSt4,hwA]
   refine hwt 6 oSt6 (.pointer (some ⟨w.heap.size,8,none⟩)) hH0 ?_ ?_
   ·intro w' hSw;dsimp only[oSt6];go_simp
   try simp only[oSt6,hwA]
   refine hwt 7 oSt7 (.slice c m q) hH0 ?_ ?_
   ·intro w' hSw;dsimp only[oSt7];go_simp
   try simp only[oSt7,hwA]
   refine hwt 8 oSt8 (.int .i64 (m:Int)) hH0 ?_ ?_
   ·intro w' hSw;dsimp only[oSt8];go_simp
   try simp only[oSt8,hwA]
   refine hwr 5 oSt5 (fun K hK=>?_)
   dsimp only[oSt5];go_simp
   go_at_call 76
   (with_reducible refine(cB k _).mono ?_)
   rintro e w5 ⟨rfl,hb5⟩
   go_wp2_with fail
   refine hK.out _ _ ?_ (fun hH1=>?_)
   ·exact⟨af hb5 (ay (s0_)),af hb5 (ay (s1_))⟩
   clear hK K hH0
   try simp only[oSt5,hwA]
   refine hwt 9 oSt9 (.bool true) hH1 ?_ ?_
   ·intro w' hSw;dsimp only[oSt9];go_simp
   try simp only[oSt9,hwA]
   refine hwt 10 eC (.bool true) hH1 ?_ ?_
   ·intro w' hSw;dsimp only[eC];go_simp
   try simp only[eC,hwA]
   refine hwt 11 eD (.bool true) hH1 ?_ ?_
   ·intro w' hSw;dsimp only[eD];go_simp
   try simp only[eD,hwA]
   refine hwn 12 gn hH1 ?_
   try simp only[gn,hwA]
   refine hwn 13 gp hH1 ?_
   try simp only[gp,hwA]
   refine hwn 14 gq hH1 ?_
   try simp only[gq,hwA]
   refine hwt 15 eE (.bool true) hH1 ?_ ?_
   ·intro w' hSw;dsimp only[eE];go_simp
   try simp only[eE,hwA]
   refine hwt 16 eF (.bool true) hH1 ?_ ?_
   ·intro w' hSw;dsimp only[eF];go_simp
   try simp only[eF,hwA]
   refine hwn 17 jw hH1 ?_
   try simp only[jw,hwA]
   refine hwn 18 jA hH1 ?_
   try simp only[jA,hwA]
   refine hwn 19 jB hH1 ?_
   try simp only[jB,hwA]
   refine hwt 20 eG (.bool true) hH1 ?_ ?_
   ·intro w' hSw;dsimp only[eG];go_simp
   try simp only[eG,hwA]
   refine wpAnyH_done (by kernel_rfl) ?_ _;refine NoPanic.normal ?_;clear hH1 s0_ s1_;have hB:=(al aj.drew hb5)
   have zw5:=hB.size
   go_wp2_with fail
   refine bodyPost_ret (v:=.bool (false)) (by simp[results,Tryz.results63,go_sem,bne]) rfl ?_
   exact⟨ax ((nC k d m ow rk q1 q2).trans HT.out),hB⟩
termination_by SizeOf.sizeOf t
decreasing_by exact Tm.kid_lt ht
end Go.Proofs.YtfahhonmiimmdaaGreat

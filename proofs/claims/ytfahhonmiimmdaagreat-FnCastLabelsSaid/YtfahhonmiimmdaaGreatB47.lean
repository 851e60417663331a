/- Typed terms are drawn: bounds, rows, nodes. And what else its parts name. -/
import Derived.Test.YtfahhonmiimmdaaGreatB45
import Derived.Test.YtfahhonmiimmdaaGreatB46
set_option linter.unusedSimpArgs false
set_option linter.unusedVariables false
set_option maxRecDepth 100000
set_option maxHeartbeats 16000000
namespace Go.Proofs.YtfahhonmiimmdaaGreat
open Go.RowKit
theorem ax.rg {B:Nat}{X:World}{t:Tm}{v:Value}(h:ax (B ≤ ·) X t v):Hid (ax (fun b=>B≤b∧b<X.heap.size) X t v):=zq (h.move (.weaken fun b h1 h2=>⟨h1,h2⟩))
theorem aN.blk {F:Nat→Prop}{w:World}{b n:Nat}{ts:List Tm}{cs:Array Value}{T:TypeId}(hF:F b)(h:w.heap[b]?=some (.cells cs T (0,0)))(hn:n=ts.length)(hm:n≤maxLen)(hv:aS F w (Tm.rows ts) cs.toList):aN F w ts (.slice (some ⟨b,0,none⟩) n n):=by
 subst hn;have hl:(Tm.rows ts).length=ts.length:=by rw[Tm.rows_eq];simp
 unfold aN aH;refine⟨_,ts.length,by rw[hl],by rw[hl];exact Nat.le_refl _,hm,.inr ⟨b,0,rfl,hF,aC h,?_⟩⟩;refine aS.rows _ cs.toList 0 hv fun j u hj=>?_;rw[Nat.zero_add]
 exact ag h (by simpa using hj)
theorem aS.c1 {F:Nat→Prop}{w:World}{t1:Tm}{ys1:List Value}(h1:bz F w t1.row ys1):aS F w (Tm.rows [t1]) ys1:=by
 rw[Tm.rows_eq];exact⟨ys1,[],by simp,h1,rfl⟩
theorem aS.c2 {F:Nat→Prop}{w:World}{t1 t2:Tm}{ys1 ys2:List Value}(h1:bz F w t1.row ys1)(h2:bz F w t2.row ys2):aS F w (Tm.rows [t1,t2]) (ys1++ys2):=by
 rw[Tm.rows_eq];exact⟨ys1,ys2,rfl,h1,ys2,[],by simp,h2,rfl⟩
theorem aS.c3 {F:Nat→Prop}{w:World}{t1 t2 t3:Tm}{ys1 ys2 ys3:List Value}(h1:bz F w t1.row ys1)(h2:bz F w t2.row ys2)(h3:bz F w t3.row ys3):aS F w (Tm.rows [t1,t2,t3]) (ys1++(ys2++ys3)):=by
 rw[Tm.rows_eq];exact⟨ys1,ys2++ys3,rfl,h1,ys2,ys3,rfl,h2,ys3,[],by simp,h3,rfl⟩
def mkB (d:Int)(s:S):Nat:=if d≤1 then 100*(s.cnt+1) else 4000*4 ^ (d-1).toNat
def mkU (d:Int):Nat:=4000*4 ^ (d-2).toNat
def mkM (d:Int)(s:S):Nat:=5*(max d 1).toNat+s.dep
theorem i7 {s:S}(h:s.vd=true):s.cnt≤14:=by
 have h1:=Ty.cnt_shape s.ty 4 (by have:=S.valid s;rw[h] at this;exact this);rw[S.ty_cnt] at h1
 omega
theorem ft {d:Int}(s:S)(h:2≤d):mkB d s=4*mkU d:=by
 unfold mkB mkU;rw[if_neg (by omega),show(d-1).toNat=(d-2).toNat+1 by omega,Nat.pow_succ]
 omega
theorem bI {d:Int}{s:S}(h:2≤d)(hs:s.vd=true):mkB (d-1) s≤mkU d:=by
 have h1:=i7 hs;have h2:1≤4 ^ (d-2).toNat:=Nat.pow_pos (by omega);unfold mkB mkU
 split
 ·omega
 ·rw[show(d-1-1).toNat=(d-2).toNat by omega];exact Nat.le_refl _
theorem fd (d:Int):4000≤mkU d:=by
 have h2:1≤4 ^ (d-2).toNat:=Nat.pow_pos (by omega);unfold mkU;omega
theorem mkU_top {d:Int}(h:d≤5):4*mkU d≤1024000:=by
 have h2:4 ^ (d-2).toNat≤4 ^ 3:=Nat.pow_le_pow_right (by omega) (by omega);unfold mkU;have:4 ^ 3=64:=rfl
 omega
theorem cQ {d:Int}{s s':S}(h:2≤d)(hs:s.vd=true)(hs':s'.vd=true):mkM (d-1) s'<mkM d s:=by
 have h1:=S.vd_dep hs';have h2:1≤s.dep:=by cases s<;>simp[S.dep]
 unfold mkM;rw[show(max d 1)=d by omega,show max (d-1) 1=d-1 by omega]
 omega
theorem mi {d:Int}{s s':S}(h:s'.dep<s.dep):mkM (d-1) s'<mkM d s:=by
 unfold mkM
 omega
def MkC (r:Nat)(dd:Int)(s:S)(l:List Bd):Prop:=∀(q:Nat) (W:World) (c' y':Value),aQ W r q→aE (· ≠ r) W l c'→fl l c'→ao (· ≠ r) W s.ty y'→q+mkB dd s≤1125899906800000→Calls Tryz.prog 51 #[.pointer (some ⟨r,0,none⟩),c',y',.int .i64 dd] W (DTm r q (mkB dd s) (mkB dd s) W)
theorem cR (k:Int)(a:Option Addr)(n q:Nat)(w:World):Calls Tryz.prog 84 #[.int .i64 k,.slice a n q] w fun e w'=>e = .returned (.agg #[.int .i64 k,.string {data:=#[]},.int .i64 0,.int .i64 0,.slice none 0 0,.int .i64 0,.slice none 0 0,.int .i64 0,.slice a n q])∧Below w.heap.size w w':=by
 go_enter Tryz.func84,Tryz.ntmps84
 go_wp2_with fail
 refine bodyPost_ret (v:=.agg #[.int .i64 k,.string {data:=#[]},.int .i64 0,.int .i64 0,.slice none 0 0,.int .i64 0,.slice none 0 0,.int .i64 0,.slice a n q]) (by simp[results,Tryz.results84,go_sem]) rfl ?_
 exact⟨rfl,ai⟩
theorem HSt.rd {b r p:Nat}{W X:World}(h:HSt b W X)(f:aQ W r p)(hb:r<b):aQ X r p:=f.keep h.2.2.1 fun c hc=>h.1 c (by omega)
theorem aE.blkF {F:Nat→Prop}{w:World}{l:List Bd}{b off n q:Nat}(h:aE F w l (.slice (some ⟨b,off,none⟩) n q))(hl:0<l.length):F b:=by
 unfold aE aH at h;obtain⟨a,cap,he,-,-,h4⟩:=h;simp only[Value.slice.injEq] at he
 rcases h4 with h4 | ⟨b',off',ha,hF,-⟩
 ·have e:(Bd.rows l).length=0:=by rw[h4];rfl
  rw[Bd.rows_length] at e;omega
 ·rw[←he.1] at ha
  simp only[Option.some.injEq,Addr.mk.injEq] at ha;rw[ha.1];exact hF
theorem bi:({data:=#[]}:ByteArray).size≤maxLen:=by unfold maxLen;decide
theorem aS.setTm {F:Nat→Prop}{w:World}{t:Tm}{a0 a1 a2 a3 a4 a5 a6 a7 a8:Value}(ht:bz F w t.row [a0,a1,a2,a3,a4,a5,a6,a7,a8]) : ∀(L:List Tm) (xs:List Value) (j:Nat),j<L.length→aS F w (Tm.rows L) xs→aS F w (Tm.rows (L.set j t)) (((((((((xs.set (j*9) a0).set (j*9+1) a1).set (j*9+2) a2).set (j*9+3) a3).set (j*9+4) a4).set (j*9+5) a5).set (j*9+6) a6).set (j*9+7) a7).set (j*9+8) a8)
 | [],_,_,hj,_=>absurd hj (Nat.not_lt_zero _)
 | u :: L,_,j,hj,h=>by
  unfold Tm.rows at h;obtain⟨ys,rest,rfl,h2,h3⟩:=h;have hl:=h2.len;rw[u.row_length] at hl;obtain⟨y0,y1,y2,y3,y4,y5,y6,y7,y8,rfl⟩ : ∃y0 y1 y2 y3 y4 y5 y6 y7 y8,ys = [y0,y1,y2,y3,y4,y5,y6,y7,y8]:=by
   match ys,hl with
   | [y0,y1,y2,y3,y4,y5,y6,y7,y8],_=>exact⟨y0,y1,y2,y3,y4,y5,y6,y7,y8,rfl⟩
  cases j with
  | zero=>
   show aS F w (Tm.rows (t :: L)) _
   unfold Tm.rows
   exact⟨[a0,a1,a2,a3,a4,a5,a6,a7,a8],rest,rfl,ht,h3⟩
  | succ j=>
   have ih:=aS.setTm ht L rest j (by simpa using hj) h3
   show aS F w (Tm.rows (u :: L.set j t)) _
   unfold Tm.rows;refine⟨[y0,y1,y2,y3,y4,y5,y6,y7,y8],_,?_,h2,ih⟩;rw[show(j+1)*9=j*9+1+1+1+1+1+1+1+1+1 from by omega]
   rfl
theorem bG.setTm {B g n q j:Nat}{e:TypeId}{w:World}{L:List Tm}{t:Tm}{k u tk fk l:Int}{nm:ByteArray}{s1 s2 s:Value}(h:bG B e 9 w (.slice (some ⟨g,0,none⟩) n q) n (Tm.rows L))(hj:j<n)(ht:ax (fun b=>B≤b∧b≠g) w t (.agg #[.int .i64 k,.string nm,.int .i64 u,.int .i64 tk,s1,.int .i64 fk,s2,.int .i64 l,s])) :
  bG B e 9 (((((((((w.setCell ⟨g,j*9,none⟩ (.int .i64 k)).setCell ⟨g,j*9+1,none⟩ (.string nm)).setCell ⟨g,j*9+2,none⟩ (.int .i64 u)).setCell ⟨g,j*9+3,none⟩ (.int .i64 tk)).setCell ⟨g,j*9+4,none⟩ s1).setCell ⟨g,j*9+5,none⟩ (.int .i64 fk)).setCell ⟨g,j*9+6,none⟩ s2).setCell ⟨g,j*9+7,none⟩ (.int .i64 l)).setCell ⟨g,j*9+8,none⟩ s) (.slice (some ⟨g,0,none⟩) n q) n (Tm.rows (L.set j t)):=by
 obtain⟨hl,xs,h1,h2⟩:=h;rw[Tm.rows_length] at hl;have o0:=cf (i:=j*9) (u:=.int .i64 k) h1 (by omega);have o1:=cf (i:=j*9+1) (u:=.string nm) o0 (by omega);have o2:=cf (i:=j*9+2) (u:=.int .i64 u) o1 (by omega);have o3:=cf (i:=j*9+3) (u:=.int .i64 tk) o2 (by omega);have o4:=cf (i:=j*9+4) (u:=s1) o3 (by omega);have o5:=cf (i:=j*9+5) (u:=.int .i64 fk) o4 (by omega);have o6:=cf (i:=j*9+6) (u:=s2) o5 (by omega);have o7:=cf (i:=j*9+7) (u:=.int .i64 l) o6 (by omega);have o8:=cf (i:=j*9+8) (u:=s) o7 (by omega);have K1 : ∀(W:World) (o:Nat) (v:Value),bl (fun b=>B≤b∧b≠g) (fun b=>B≤b∧b≠g) W (W.setCell ⟨g,o,none⟩ v):=fun W o v=>
  ⟨by simp[World.setCell],fun b hb _=>hb,fun b hb _=>Below.heap_setCell W ⟨g,o,none⟩ v b hb.2⟩
 have h2':aS (fun b=>B≤b∧b≠g) w (Tm.rows L) xs:=h2.move (.weaken fun b hb _=>⟨hb.1,fun e=>hb.2 (by rw[e];rfl)⟩) _ _;have h3:=aS.setTm ht.srep L xs j (by omega) h2';have h4:=((((((((h3.move (K1 _ (j*9) (.int .i64 k)) _ _).move (K1 _ (j*9+1) (.string nm)) _ _).move (K1 _ (j*9+2) (.int .i64 u)) _ _).move (K1 _ (j*9+3) (.int .i64 tk)) _ _).move (K1 _ (j*9+4) s1) _ _).move (K1 _ (j*9+5) (.int .i64 fk)) _ _).move (K1 _ (j*9+6) s2) _ _).move (K1 _ (j*9+7) (.int .i64 l)) _ _).move (K1 _ (j*9+8) s) _ _
 exact⟨by rw[Tm.rows_length,List.length_set];exact hl,_,o8,h4.move (.weaken fun b hb _=>⟨hb.1,fun e=>hb.2 (by simpa [Value.ownBlock] using e.symm)⟩) _ _⟩
theorem aA.blkT' {F:Nat→Prop}{w:World}{ts:List Ty}{a:Option Addr}{n q:Nat}(h:aA F w ts (.slice a n q)) : ∀(b off:Nat),a=some ⟨b,off,none⟩→0<n→F b:=by
 unfold aA aH at h;obtain⟨a',cap,he,-,-,h4⟩:=h;simp only[Value.slice.injEq] at he;intro b off hab hn
 rcases h4 with h4 | ⟨b',off',ha,hF,-⟩
 ·rw[h4] at he;have:=he.2.1;simp at this;omega
 ·rw[←he.1,hab] at ha
  simp only[Option.some.injEq,Addr.mk.injEq] at ha;rw[ha.1];exact hF
theorem bG.atTm {B g n q j:Nat}{e:TypeId}{w:World}{L:List Tm}(h:bG B e 9 w (.slice (some ⟨g,0,none⟩) n q) n (Tm.rows L))(hj:j<L.length) :
  ∃k nm u tk ta tn tq fk fa fn fq l c m q',w.cell? ⟨g,j*9,none⟩=some (.int .i64 k)∧w.cell? ⟨g,j*9+1,none⟩=some (.string nm)∧w.cell? ⟨g,j*9+2,none⟩=some (.int .i64 u)∧w.cell? ⟨g,j*9+3,none⟩=some (.int .i64 tk)∧w.cell? ⟨g,j*9+4,none⟩=some (.slice ta tn tq)∧w.cell? ⟨g,j*9+5,none⟩=some (.int .i64 fk)∧w.cell? ⟨g,j*9+6,none⟩=some (.slice fa fn fq)∧w.cell? ⟨g,j*9+7,none⟩=some (.int .i64 l)∧w.cell? ⟨g,j*9+8,none⟩=some (.slice c m q') ∧
   ax (fun b=>B≤b∧b≠g) w L[j] (.agg #[.int .i64 k,.string nm,.int .i64 u,.int .i64 tk,.slice ta tn tq,.int .i64 fk,.slice fa fn fq,.int .i64 l,.slice c m q']):=by
 obtain⟨hl,xs,⟨hx,h3 | ⟨g',cap,cur,h3,hB,hg,hn,hc,hs,ht⟩⟩,h2⟩:=h
 ·simp at h3
 simp only[Value.slice.injEq,Option.some.injEq,Addr.mk.injEq,and_true] at h3;obtain⟨rfl,-,rfl⟩:=h3;have hcl : ∀j u,xs[j]?=some u→w.cell? ⟨g,0+j,none⟩=some u:=by
  intro j u hj;rw[Nat.zero_add];subst ht;simp only[World.cell?,hg];rw[List.getElem?_take] at hj
  split at hj
  ·simpa using hj
  ·cases hj
 have hR:=aS.rows _ xs 0 (h2.move (G:=fun b=>B≤b∧b≠g) (.weaken fun b hb _=>⟨hb.1,fun e=>hb.2 (by rw[e];rfl)⟩) _ _) hcl;have hS:aN (fun b=>(B≤b∧b≠g)∨b=g) w L (.slice (some ⟨g,0,none⟩) n q):=by
  unfold aN aH;refine⟨_,q,by rw[hl],by rw[hl];exact hn,hc,.inr ⟨g,0,rfl,.inr rfl,(Array.getElem?_eq_some_iff.1 hg).1,aS.rows _ xs 0 (h2.move (.weaken fun b hb _=>.inl ⟨hb.1,fun e=>hb.2 (by rw[e];rfl)⟩) _ _) hcl⟩⟩
 have hC:=hR.get (fun r hr=>by rw[Tm.rows_eq] at hr;obtain⟨t,-,rfl⟩:=List.mem_map.1 hr;exact t.row_length) j (by rw[Tm.rows_length];exact hj);obtain⟨b1,off1,k,nm,u,tk,ta,tn,tq,fk,fa,fn,fq,l,c,m,q',he,-,e0,e1,e2,e3,e4,e5,e6,e7,e8,htm⟩:=hS.at (Below.refl _ _) hj;simp only[Option.some.injEq,Addr.mk.injEq,and_true] at he;obtain⟨rfl,rfl⟩:=he;simp only[Nat.zero_add] at e0 e1 e2 e3 e4 e5 e6 e7 e8;refine⟨k,nm,u,tk,ta,tn,tq,fk,fa,fn,fq,l,c,m,q',e0,e1,e2,e3,e4,e5,e6,e7,e8,?_⟩;obtain⟨z1,z2,z3,he,hnm,-,-,-⟩:=htm;simp only[Tm.rows_eq,List.getElem_map,Nat.zero_add] at hC;simp only[Value.agg.injEq,Array.mk.injEq,List.cons.injEq,Value.int.injEq,Value.string.injEq,true_and,and_true] at he;obtain⟨rfl,rfl,rfl,rfl,rfl,rfl,rfl,rfl,rfl⟩:=he;generalize L[j]=T at hC hnm e0 e1 e2 e3 e4 e5 e6 e7 e8 ⊢
 cases T with | mk kk nn uu tt ff ll ts=>
 simp only[Tm.kind,Tm.name,Tm.num,Tm.type,Tm.src,Tm.label,Tm.kids] at *;unfold Tm.row at hC;simp only[aM] at hC;obtain⟨-,-,-,-,⟨x4,c4,r4⟩,-,⟨x6,c6,r6⟩,-,⟨x8,c8,r8⟩,-⟩:=hC;have f4:x4 = .slice ta tn tq:=Option.some.inj (c4.symm.trans e4);have f6:x6 = .slice fa fn fq:=Option.some.inj (c6.symm.trans e6);have f8:x8 = .slice c m q':=Option.some.inj (c8.symm.trans e8);subst f4 f6 f8
 exact⟨_,_,_,rfl,hnm,r4,r6,r8⟩
theorem iT (F:Nat→Prop)(N0:Nat)(hF : ∀b,F b→b<N0)(t:Tm):fZ F N0 t:=by
 have IH : ∀t'∈t.kids,fZ F N0 t':=fun t' ht=>iT F N0 hF t'
 by_cases hk:(t.kind==14)=true
 ·exact castsA F N0 hF t hk IH
 ·exact castsB F N0 hF t (by simpa using hk) IH
termination_by SizeOf.sizeOf t
decreasing_by exact Tm.kid_lt ht
theorem bz.lenOf {F:Nat→Prop}{w:World} : ∀ {r:List C} {ys:List Value},bz F w r ys→ys.length=r.length
 | [],_,h=>by unfold bz at h;subst h;rfl
 | c :: cs,_,⟨z,zs,e,h1,h2⟩=>by subst e;simp[bz.lenOf h2]
theorem bz.cellsAtOf {F:Nat→Prop}{w:World}{b:Nat} : ∀(r:List C) (ys:List Value) (off:Nat),bz F w r ys→(∀i,i<ys.length→w.cell? ⟨b,off+i,none⟩=ys[i]?)→aM F w b off r
 | [],_,_,_,_=>by unfold aM;trivial
 | c :: cs,_,off,⟨z,zs,e,h1,h2⟩,k=>by
  subst e;unfold aM;refine⟨⟨z,?_,h1⟩,bz.cellsAtOf cs zs _ h2 fun i hi=>?_⟩
  ·have:=k 0 (by simp);simpa using this
  ·rw[Nat.add_assoc,k (1+i) (by simp;omega),Nat.add_comm 1 i];simp
theorem bm.rowsAt {F:Nat→Prop}{w:World}{b:Nat} : ∀(rs:List (List C)) (xs:List Value) (off:Nat),bm F w rs xs→(∀i,i<xs.length→w.cell? ⟨b,off+i,none⟩=xs[i]?)→b9 F w b off rs
 | [],_,_,_,_=>by unfold b9;trivial
 | r :: rs,_,off,⟨ys,xs',e,h1,h2⟩,k=>by
  subst e;have hl:=h1.lenOf;unfold b9;refine⟨bz.cellsAtOf r ys off h1 (fun i hi=>?_),bm.rowsAt rs xs' _ h2 fun i hi=>?_⟩
  ·rw[k i (by rw[List.length_append];omega),List.getElem?_append_left hi]
  ·rw[←hl,Nat.add_assoc,k (ys.length+i) (by rw[List.length_append];omega),List.getElem?_append_right (by omega)]
   congr 1
   omega
theorem bW.crep {B n size:Nat}{F:Nat→Prop}{e:TypeId}{w:World}{v:Value}{rows:List (List C)}(h:bW B F e size w v n rows):aH (· < w.heap.size) w (.sl rows) v:=by
 obtain⟨xs,⟨hl,h1⟩,h2,h3⟩:=h;have h3':=h3.move (bl.weaken (G:=(· < w.heap.size)) fun b _ hl=>hl) _ _;unfold aH
 rcases h1 with ⟨rfl,rfl⟩ | ⟨g,cap,cur,rfl,hb,hg,hn,hc,hs,ht⟩
 ·obtain rfl:rows = []:=List.eq_nil_of_length_eq_zero h2
  exact⟨none,0,rfl,Nat.le_refl _,by unfold maxLen;omega,.inl rfl⟩
 ·have hlt:g<w.heap.size:=by
   rcases Nat.lt_or_ge g w.heap.size with h | h
   ·exact h
   ·rw[Array.getElem?_eq_none h] at hg;cases hg
  exact⟨_,cap,by rw[h2],by omega,hc,.inr ⟨g,0,rfl,hlt,hlt,h3'.rowsAt _ _ 0 (fun i hi=>by
    rw[←ht] at hi ⊢;simp only[World.cell?,hg];simp only[List.length_take] at hi
    simp
    rw[List.getElem?_take_of_lt (by omega),Array.getElem?_toList])⟩⟩
theorem bW.tms {B n:Nat}{F:Nat→Prop}{e:TypeId}{w:World}{v:Value}{us:List Tm}(h:bW B F e 9 w v n (Tm.rows us)):aN (· < w.heap.size) w us v:=h.crep
def b4 (l:Int):List Tm→List Ty
 | []=> []
 | t :: ts=>(if t.label==l then [t.src,t.type] else [])++b4 l ts
mutual
def Tm.ctys (l:Int):Tm→List Ty
 | .mk k s u t f b ts=>(if k==14&&b==l then [f,t] else [])++Tm.ctyss l ts
def Tm.ctyss (l:Int):List Tm→List Ty
 | []=> []
 | t :: ts=>t.ctys l++Tm.ctyss l ts
end
theorem eo (l:Int)(xs bs:List Tm):b4 l (xs++bs)=b4 l xs++b4 l bs:=by
 induction xs with
 | nil=>simp[b4]
 | cons a xs ih=>simp[b4,ih]
mutual
theorem Tm.ctys_eq (l:Int) : ∀t:Tm,b4 l t.casts=t.ctys l
 | .mk k s u t f b ts=>by
  unfold Tm.casts Tm.ctys;rw[eo,Tm.ctyss_eq l ts]
  congr 1
  by_cases hk:k=14
  ·subst hk;simp[b4,Tm.label,Tm.src,Tm.type]
  ·have:(k==14)=false:=by simpa using hk
   rw[this];simp[b4]
theorem Tm.ctyss_eq (l:Int) : ∀ts:List Tm,b4 l (Tm.castss ts)=Tm.ctyss l ts
 | []=>by unfold Tm.castss Tm.ctyss;rfl
 | t :: ts=>by unfold Tm.castss Tm.ctyss;rw[eo,Tm.ctys_eq l t,Tm.ctyss_eq l ts]
end
theorem kB (l:Int)(us:List Tm)(j:Nat)(h:j<us.length):b4 l (us.take (j+1))=b4 l (us.take j)++(if us[j].label==l then [us[j].src,us[j].type] else []):=by
 rw[List.take_succ_eq_append_getElem h,eo]
 simp[b4]
theorem fJ (l:Int) : ∀us:List Tm,(b4 l us).length≤2*us.length
 | []=>by simp[b4]
 | t :: ts=>by
  have:=fJ l ts;unfold b4;rw[List.length_append]
  split<;>simp<;>omega
theorem ln (l:Int)(us:List Tm)(j:Nat):(b4 l (us.take j)).length≤2*us.length:=by
 have:=fJ l (us.take j);have h2:(us.take j).length≤us.length:=by rw[List.length_take];omega
 omega
theorem Tm.own_cast {k u l:Int}{s:ByteArray}{t f:Ty}{ts:List Tm}(h:(Tm.mk k s u t f l ts).ownB=true)(hk:(k==14)=true):f.valid=true∧t.valid=true:=by
 have h1:Go.Proofs.YtfahhonmiimmdaaGreat.ownB k u l s t.valid t.noneB f.noneB (f.valid&&t.valid&&f.cons t)=true:=h;unfold Go.Proofs.YtfahhonmiimmdaaGreat.ownB at h1;simp only[hk,if_true,Bool.and_eq_true] at h1
 exact h1.2.1.1
theorem Tm.ctys_valid (lb:Int) : ∀(t:Tm) (n d:Int),t.shape n d=true→∀x∈t.ctys lb,x.valid=true:=by
 intro t
 exact Tm.rec (motive_1:=fun t=>∀(n d:Int),t.shape n d=true→∀x∈t.ctys lb,x.valid=true) (motive_2:=fun ts=>∀(n d:Int),Tm.shapes ts n d=true→∀x∈Tm.ctyss lb ts,x.valid=true)
  (fun k s u ty f l ts ih n d h x hx=>by
    obtain⟨-,-,-,ho,h5⟩:=Tm.shape_parts h;unfold Tm.ctys at hx
    rcases List.mem_append.1 hx with hx | hx
    · by_cases hk:(k==14&&l==lb)=true
      · rw[if_pos hk] at hx
        have h2:=Tm.own_cast ho (by simp only[Bool.and_eq_true] at hk;exact hk.1);simp only[List.mem_cons,List.not_mem_nil,or_false] at hx
        rcases hx with rfl | rfl
        · exact h2.1
        · exact h2.2
      · rw[if_neg hk] at hx
        cases hx
    · exact ih _ _ h5 x hx)
  (fun _ _ _ x hx=>by unfold Tm.ctyss at hx;cases hx)
  (fun t ts ih1 ih2 n d h x hx=>by
    unfold Tm.shapes at h;simp only[Bool.and_eq_true] at h;unfold Tm.ctyss at hx
    rcases List.mem_append.1 hx with hx | hx
    · exact ih1 n d h.1 x hx
    · exact ih2 n d h.2 x hx) t
def Tm.castTypes (lb:Int)(t:Tm):List Ty:=if t.castValid then t.ctys lb else []
theorem Tm.castValid_shape {t:Tm}(h:t.castValid=true):t.shape 13 40=true:=by
 unfold Tm.castValid at h;simp only[Bool.and_eq_true] at h
 exact h.1
theorem Tm.casts_ok {t:Tm}(h:t.castValid=true):t.casts.length≤200:=by
 have h1:=t.casts_len;unfold Tm.castValid at h;simp only[Bool.and_eq_true,decide_eq_true_eq] at h
 omega
theorem Tm.ctys_ok {t:Tm}(lb:Int)(h:t.castValid=true):((t.ctys lb).length≤400)∧(∀x∈t.ctys lb,x.valid=true)∧∀x∈t.ctys lb,x.cnt≤1048576:=by
 have hv:=Tm.ctys_valid lb t 13 40 (Tm.castValid_shape h);refine⟨?_,hv,fun x hx=>Ty.cnt_valid (hv x hx)⟩;have h1:=fJ lb t.casts;rw[Tm.ctys_eq] at h1;have:=Tm.casts_ok h
 omega
def cO:List Ty→Bool
 | []=>true
 | [_]=>false
 | a :: b :: r=>a.valid&&b.valid&&a.cons b&&cO r
theorem o9 : ∀(xs:List Ty),cO xs=true→xs.length % 2=0∧∀(k:Nat) (h1:2*k<xs.length) (h2:2*k+1<xs.length),(xs[2*k].valid&&xs[2*k+1].valid&&xs[2*k].cons xs[2*k+1])=true
 | [],_=>⟨rfl,fun k h1 _=>absurd h1 (by simp)⟩
 | [_],h=>by cases h
 | a :: b :: r,h=>by
  unfold cO at h;rw[Bool.and_eq_true] at h;obtain⟨i1,i2⟩:=o9 r h.2;refine⟨by simp only[List.length_cons];omega,fun k h1 h2=>?_⟩
  cases k with
  | zero=>exact h.1
  | succ k=>
   have e1:2*(k+1)=2*k+1+1:=by omega
   have e2:2*(k+1)+1=2*k+1+1+1:=by omega
   simp only[e1,e2,List.getElem_cons_succ,List.length_cons] at h1 h2 ⊢
   exact i2 k (by omega) (by omega)
theorem jA : ∀(xs ys:List Ty),cO xs=true→cO ys=true→cO (xs++ys)=true
 | [],ys,_,h=>by simpa using h
 | [_],_,h,_=>by cases h
 | a :: b :: r,ys,h,h'=>by
  unfold cO at h;rw[Bool.and_eq_true] at h
  show cO (a :: b :: (r++ys))=true
  unfold cO;rw[Bool.and_eq_true]
  exact⟨h.1,jA r ys h.2 h'⟩
def oV (u:Tm):Prop:=(u.src.valid&&u.type.valid&&u.src.cons u.type)=true∧u.label≠0
mutual
theorem Tm.casts_own : ∀(t:Tm) (n d:Int),t.shape n d=true→∀u∈t.casts,oV u
 | .mk k s u ty f l ts,n,d,h,x,hx=>by
  obtain⟨-,-,-,ho,h5⟩:=Tm.shape_parts h;unfold Tm.casts at hx
  rcases List.mem_append.1 hx with hx | hx
  ·by_cases hk:(k==14)=true
   ·rw[if_pos hk] at hx
    simp only[List.mem_cons,List.not_mem_nil,or_false] at hx;subst hx;have h1:Go.Proofs.YtfahhonmiimmdaaGreat.ownB k u l s ty.valid ty.noneB f.noneB (f.valid&&ty.valid&&f.cons ty)=true:=ho;unfold Go.Proofs.YtfahhonmiimmdaaGreat.ownB at h1;simp only[hk,if_true,Bool.and_eq_true] at h1;refine⟨by show(f.valid&&ty.valid&&f.cons ty)=true;rw[Bool.and_eq_true,Bool.and_eq_true];exact h1.2.1,?_⟩
    show l≠0
    intro e;have h2:=h1.2.2;rw[e] at h2
    exact absurd h2 (by decide)
   ·rw[if_neg hk] at hx
    cases hx
  ·exact Tm.castss_own ts n (d-1) h5 x hx
theorem Tm.castss_own : ∀(ts:List Tm) (n d:Int),Tm.shapes ts n d=true→∀u∈Tm.castss ts,oV u
 | [],_,_,_,x,hx=>by unfold Tm.castss at hx;cases hx
 | t :: ts,n,d,h,x,hx=>by
  unfold Tm.shapes at h;rw[Bool.and_eq_true] at h;unfold Tm.castss at hx
  rcases List.mem_append.1 hx with hx | hx
  ·exact Tm.casts_own t n d h.1 x hx
  ·exact Tm.castss_own ts n d h.2 x hx
end
theorem i8 (lb:Int) : ∀(us:List Tm),(∀u∈us,oV u)→cO (b4 lb us)=true
 | [],_=>rfl
 | u :: us,h=>by
  have ih:=i8 lb us fun x hx=>h x (List.mem_cons_of_mem _ hx);have hu:=(h u (by simp)).1;have e:b4 lb (u :: us)=(if u.label==lb then [u.src,u.type] else [])++b4 lb us:=rfl;rw[e];refine jA _ _ ?_ ih
  split
  ·unfold cO;rw[hu];rfl
  ·rfl
theorem iS (lb:Int) : ∀(us:List Tm),lb∈us.map Tm.label→0<(b4 lb us).length
 | [],h=>by cases h
 | u :: us,h=>by
  have e:b4 lb (u :: us)=(if u.label==lb then [u.src,u.type] else [])++b4 lb us:=rfl;rw[e,List.length_append]
  by_cases hu:u.label=lb
  ·rw[if_pos (by rw[hu];simp)];simp only[List.length_cons];omega
  ·have h2:lb∈us.map Tm.label:=by
    simp only[List.map_cons,List.mem_cons] at h
    rcases h with h | h
    ·exact absurd h.symm hu
    ·exact h
   have:=iS lb us h2
   omega
theorem Tm.labels_law (t:Tm):Asc t.labels∧∀x∈t.labels,x≠0∧0<(t.castTypes x).length∧cO (t.castTypes x)=true:=by
 unfold Tm.labels Tm.castTypes
 by_cases hv:t.castValid=true
 ·have hc:=Tm.casts_own t 13 40 (Tm.castValid_shape hv)
  obtain⟨a1,a2⟩:=Tm.labs_ok t [] (by unfold Asc;exact List.Pairwise.nil);simp only[hv,if_true];refine⟨a1,fun x hx=>?_⟩;have hm:x∈t.casts.map Tm.label:=((a2 x).1 hx).elim (fun h=>by cases h) id;rw[←Tm.ctys_eq];refine⟨?_,iS x _ hm,i8 x _ hc⟩;obtain⟨u,hu,rfl⟩:=List.mem_map.1 hm
  exact(hc u hu).2
 ·have hf:t.castValid=false:=by simpa using hv
  simp only[hf]
  exact⟨by unfold Asc;exact List.Pairwise.nil,fun x hx=>by cases hx⟩
end Go.Proofs.YtfahhonmiimmdaaGreat

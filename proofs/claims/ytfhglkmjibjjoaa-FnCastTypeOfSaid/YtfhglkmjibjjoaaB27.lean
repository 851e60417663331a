/- The types of a term as a list, by the program. And what else its parts name. -/
import Derived.Test.YtfhglkmjibjjoaaB23
set_option linter.unusedSimpArgs false
set_option linter.unusedVariables false
set_option maxRecDepth 100000
set_option maxHeartbeats 16000000
namespace Go.Proofs.Ytfhglkmjibjjoaa
open Go.RowKit
def Tm.types (t:Tm):List Ty:=if t.valid then t.tys else []
theorem aS.empty {B g:Nat}{e:TypeId}{size:Nat}{w:World}(hB:B<=g)(h:w.heap[g]?=some (.cells #[] e (0,0))):aS B e size w (.slice (some ⟨g,0,none⟩) 0 0) 0 []:=
 ⟨[],[],⟨by simp,.inr ⟨g,0,#[],rfl,hB,h,Nat.le_refl _,by unfold maxLen;omega,by simp,by simp⟩⟩,rfl,⟨rfl,rfl⟩,List.nodup_nil,by simp⟩
theorem aV.setTm {F:Nat->Prop}{w:World}{t:Tm}{a0 a1 a2 a3 a4 a5 a6 a7 a8:Value}(ht:cn F w t.row [a0,a1,a2,a3,a4,a5,a6,a7,a8]) : ∀(L:List Tm) (xs:List Value) (j:Nat),j<L.length->aV F w (Tm.rows L) xs->aV F w (Tm.rows (L.set j t)) (((((((((xs.set (j*9) a0).set (j*9+1) a1).set (j*9+2) a2).set (j*9+3) a3).set (j*9+4) a4).set (j*9+5) a5).set (j*9+6) a6).set (j*9+7) a7).set (j*9+8) a8)
 | [],_,_,hj,_=>absurd hj (Nat.not_lt_zero _)
 | u::L,_,j,hj,h=>by
  unfold Tm.rows at h;obtain⟨ys,rest,rfl,h2,h3⟩:=h;have hl:=h2.len;rw[u.row_length] at hl;obtain⟨y0,y1,y2,y3,y4,y5,y6,y7,y8,rfl⟩ : ∃y0 y1 y2 y3 y4 y5 y6 y7 y8,ys = [y0,y1,y2,y3,y4,y5,y6,y7,y8]:=by
   match ys,hl with
   | [y0,y1,y2,y3,y4,y5,y6,y7,y8],_=>exact⟨y0,y1,y2,y3,y4,y5,y6,y7,y8,rfl⟩
  cases j with
  | zero=>
   show aV F w (Tm.rows (t::L)) _
   unfold Tm.rows
   exact⟨[a0,a1,a2,a3,a4,a5,a6,a7,a8],rest,rfl,ht,h3⟩
  | succ j=>
   have ih:=aV.setTm ht L rest j (by simpa using hj) h3
   show aV F w (Tm.rows (u::L.set j t)) _
   unfold Tm.rows;refine⟨[y0,y1,y2,y3,y4,y5,y6,y7,y8],_,?_,h2,ih⟩;rw[show(j+1)*9=j*9+1+1+1+1+1+1+1+1+1 from by omega]
   rfl
theorem bR.setTm {B g n q j:Nat}{e:TypeId}{w:World}{L:List Tm}{t:Tm}{k u tk fk l:Int}{nm:ByteArray}{s1 s2 s:Value}(h:bR B e 9 w (.slice (some ⟨g,0,none⟩) n q) n (Tm.rows L))(hj:j<n)(ht:aB (fun b=>B<=b∧b≠g) w t (.agg #[.int .i64 k,.string nm,.int .i64 u,.int .i64 tk,s1,.int .i64 fk,s2,.int .i64 l,s])) :
  bR B e 9 (((((((((w.setCell ⟨g,j*9,none⟩ (.int .i64 k)).setCell ⟨g,j*9+1,none⟩ (.string nm)).setCell ⟨g,j*9+2,none⟩ (.int .i64 u)).setCell ⟨g,j*9+3,none⟩ (.int .i64 tk)).setCell ⟨g,j*9+4,none⟩ s1).setCell ⟨g,j*9+5,none⟩ (.int .i64 fk)).setCell ⟨g,j*9+6,none⟩ s2).setCell ⟨g,j*9+7,none⟩ (.int .i64 l)).setCell ⟨g,j*9+8,none⟩ s) (.slice (some ⟨g,0,none⟩) n q) n (Tm.rows (L.set j t)):=by
 obtain⟨hl,xs,h1,h2⟩:=h;rw[Tm.rows_length] at hl;have o0:=cr (i:=j*9) (u:=.int .i64 k) h1 (by omega);have o1:=cr (i:=j*9+1) (u:=.string nm) o0 (by omega);have o2:=cr (i:=j*9+2) (u:=.int .i64 u) o1 (by omega);have o3:=cr (i:=j*9+3) (u:=.int .i64 tk) o2 (by omega);have o4:=cr (i:=j*9+4) (u:=s1) o3 (by omega);have o5:=cr (i:=j*9+5) (u:=.int .i64 fk) o4 (by omega);have o6:=cr (i:=j*9+6) (u:=s2) o5 (by omega);have o7:=cr (i:=j*9+7) (u:=.int .i64 l) o6 (by omega);have o8:=cr (i:=j*9+8) (u:=s) o7 (by omega);have K1 : ∀(W:World) (o:Nat) (v:Value),bU (fun b=>B<=b∧b≠g) (fun b=>B<=b∧b≠g) W (W.setCell ⟨g,o,none⟩ v):=fun W o v=>
  ⟨by simp[World.setCell],fun b hb _=>hb,fun b hb _=>Below.heap_setCell W ⟨g,o,none⟩ v b hb.2⟩
 have h2':aV (fun b=>B<=b∧b≠g) w (Tm.rows L) xs:=h2.move (.weaken fun b hb _=>⟨hb.1,fun e=>hb.2 (by rw[e];rfl)⟩) _ _;have h3:=aV.setTm ht.srep L xs j (by omega) h2';have h4:=((((((((h3.move (K1 _ (j*9) (.int .i64 k)) _ _).move (K1 _ (j*9+1) (.string nm)) _ _).move (K1 _ (j*9+2) (.int .i64 u)) _ _).move (K1 _ (j*9+3) (.int .i64 tk)) _ _).move (K1 _ (j*9+4) s1) _ _).move (K1 _ (j*9+5) (.int .i64 fk)) _ _).move (K1 _ (j*9+6) s2) _ _).move (K1 _ (j*9+7) (.int .i64 l)) _ _).move (K1 _ (j*9+8) s) _ _
 exact⟨by rw[Tm.rows_length,List.length_set];exact hl,_,o8,h4.move (.weaken fun b hb _=>⟨hb.1,fun e=>hb.2 (by simpa [Value.ownBlock] using e.symm)⟩) _ _⟩
theorem av.blkT' {F:Nat->Prop}{w:World}{ts:List Ty}{a:Option Addr}{n q:Nat}(h:av F w ts (.slice a n q)) : ∀(b off:Nat),a=some ⟨b,off,none⟩->0<n->F b:=by
 unfold av aL at h;obtain⟨a',cap,he,-,-,h4⟩:=h;simp only[Value.slice.injEq] at he;intro b off hab hn
 rcases h4 with h4 | ⟨b',off',ha,hF,-⟩
 ·rw[h4] at he;have:=he.2.1;simp at this;omega
 ·rw[<-he.1,hab] at ha
  simp only[Option.some.injEq,Addr.mk.injEq] at ha;rw[ha.1];exact hF
theorem bR.atTm {B g n q j:Nat}{e:TypeId}{w:World}{L:List Tm}(h:bR B e 9 w (.slice (some ⟨g,0,none⟩) n q) n (Tm.rows L))(hj:j<L.length) :
  ∃k nm u tk ta tn tq fk fa fn fq l c m q',w.cell? ⟨g,j*9,none⟩=some (.int .i64 k)∧w.cell? ⟨g,j*9+1,none⟩=some (.string nm)∧w.cell? ⟨g,j*9+2,none⟩=some (.int .i64 u)∧w.cell? ⟨g,j*9+3,none⟩=some (.int .i64 tk)∧w.cell? ⟨g,j*9+4,none⟩=some (.slice ta tn tq)∧w.cell? ⟨g,j*9+5,none⟩=some (.int .i64 fk)∧w.cell? ⟨g,j*9+6,none⟩=some (.slice fa fn fq)∧w.cell? ⟨g,j*9+7,none⟩=some (.int .i64 l)∧w.cell? ⟨g,j*9+8,none⟩=some (.slice c m q') ∧
   aB (fun b=>B<=b∧b≠g) w L[j] (.agg (nv k nm u tk ta tn tq fk fa fn fq l c m q')):=by
 obtain⟨hl,xs,⟨hx,h3 | ⟨g',cap,cur,h3,hB,hg,hn,hc,hs,ht⟩⟩,h2⟩:=h
 ·simp at h3
 simp only[Value.slice.injEq,Option.some.injEq,Addr.mk.injEq,and_true] at h3;obtain⟨rfl,-,rfl⟩:=h3;have hcl : ∀j u,xs[j]?=some u->w.cell? ⟨g,0+j,none⟩=some u:=by
  intro j u hj;rw[Nat.zero_add];subst ht;simp only[World.cell?,hg];rw[List.getElem?_take] at hj
  split at hj
  ·simpa using hj
  ·cases hj
 have hR:=aV.rows _ xs 0 (h2.move (G:=fun b=>B<=b∧b≠g) (.weaken fun b hb _=>⟨hb.1,fun e=>hb.2 (by rw[e];rfl)⟩) _ _) hcl;have hS:aN (fun b=>(B<=b∧b≠g)∨b=g) w L (.slice (some ⟨g,0,none⟩) n q):=by
  unfold aN aL;refine⟨_,q,by rw[hl],by rw[hl];exact hn,hc,.inr ⟨g,0,rfl,.inr rfl,(Array.getElem?_eq_some_iff.1 hg).1,aV.rows _ xs 0 (h2.move (.weaken fun b hb _=>.inl ⟨hb.1,fun e=>hb.2 (by rw[e];rfl)⟩) _ _) hcl⟩⟩
 have hC:=hR.get (fun r hr=>by rw[Tm.rows_eq] at hr;obtain⟨t,-,rfl⟩:=List.mem_map.1 hr;exact t.row_length) j (by rw[Tm.rows_length];exact hj);obtain⟨b1,off1,k,nm,u,tk,ta,tn,tq,fk,fa,fn,fq,l,c,m,q',he,-,e0,e1,e2,e3,e4,e5,e6,e7,e8,htm⟩:=hS.at (Below.refl _ _) hj;simp only[Option.some.injEq,Addr.mk.injEq,and_true] at he;obtain⟨rfl,rfl⟩:=he;simp only[Nat.zero_add] at e0 e1 e2 e3 e4 e5 e6 e7 e8;refine⟨k,nm,u,tk,ta,tn,tq,fk,fa,fn,fq,l,c,m,q',e0,e1,e2,e3,e4,e5,e6,e7,e8,?_⟩;obtain⟨z1,z2,z3,he,hnm,-,-,-⟩:=htm;simp only[Tm.rows_eq,List.getElem_map,Nat.zero_add] at hC;simp only[Value.agg.injEq,Array.mk.injEq,List.cons.injEq,Value.int.injEq,Value.string.injEq,true_and,and_true] at he;obtain⟨rfl,rfl,rfl,rfl,rfl,rfl,rfl,rfl,rfl⟩:=he;generalize L[j]=T at hC hnm e0 e1 e2 e3 e4 e5 e6 e7 e8 ⊢
 cases T with | mk kk nn uu tt ff ll ts=>
 simp only[Tm.kind,Tm.name,Tm.num,Tm.type,Tm.src,Tm.label,Tm.kids] at *;unfold Tm.row at hC;simp only[aP] at hC;obtain⟨-,-,-,-,⟨x4,c4,r4⟩,-,⟨x6,c6,r6⟩,-,⟨x8,c8,r8⟩,-⟩:=hC;have f4:x4 = .slice ta tn tq:=Option.some.inj (c4.symm.trans e4);have f6:x6 = .slice fa fn fq:=Option.some.inj (c6.symm.trans e6);have f8:x8 = .slice c m q':=Option.some.inj (c8.symm.trans e8);subst f4 f6 f8
 exact⟨_,_,_,rfl,hnm,r4,r6,r8⟩
end Go.Proofs.Ytfhglkmjibjjoaa

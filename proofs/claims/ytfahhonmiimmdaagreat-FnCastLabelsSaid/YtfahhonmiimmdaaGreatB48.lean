/- A slice of rows that grows by append: the rows lie in a block of one's own, what they hold are readings. And what else its parts name. -/
import Derived.Test.YtfahhonmiimmdaaGreatB10
import Derived.Maps.AppendAt
import Derived.Lib.SliceRun
import Derived.Test.YtfahhonmiimmdaaGreatB22
import Derived.Test.YtfahhonmiimmdaaGreatProg
import Derived.Deep.DeepCutAuto
set_option linter.unusedSimpArgs false
set_option linter.unusedVariables false
set_option maxRecDepth 100000
set_option maxHeartbeats 16000000
namespace Go.Proofs.YtfahhonmiimmdaaGreat
open Go.RowKit
def aS (F:Nat→Prop)(w:World):List (List C)→List Value→Prop
 | [],xs=>xs = []
 | r :: rs,xs=>∃ys rest,xs=ys++rest∧bz F w r ys∧aS F w rs rest
theorem aS.move {F G:Nat→Prop}{w w':World}(k:bl F G w w') : ∀(rs:List (List C)) (xs:List Value),aS F w rs xs→aS G w' rs xs
 | [],_,h=>h
 | r :: rs,_,⟨ys,rest,h1,h2,h3⟩=>⟨ys,rest,h1,h2.move k,aS.move k rs rest h3⟩
theorem aS.append {F:Nat→Prop}{w:World} : ∀(rs us:List (List C)) (xs ys:List Value),aS F w rs xs→aS F w us ys→aS F w (rs++us) (xs++ys)
 | [],us,xs,ys,h,h'=>by
  have h0:xs = []:=h;subst h0;simpa using h'
 | r :: rs,us,_,zs,⟨ys,rest,h1,h2,h3⟩,h'=>by
  subst h1
  exact⟨ys,rest++zs,by simp,h2,aS.append rs us rest zs h3 h'⟩
theorem aS.one {F:Nat→Prop}{w:World}{r:List C}{ys:List Value}(h:bz F w r ys):aS F w [r] ys:=⟨ys,[],by simp,h,rfl⟩
theorem bz.len {F:Nat→Prop}{w:World} : ∀ {r:List C} {ys:List Value},bz F w r ys→ys.length=r.length
 | [],_,h=>by
  have h0:_ = []:=h;rw[h0];rfl
 | c :: cs,_,⟨z,zs,h1,h2,h3⟩=>by rw[h1,List.length_cons,List.length_cons,bz.len h3]
theorem bz.cellsAt {F:Nat→Prop}{w:World}{g:Nat} : ∀ {r:List C} {ys:List Value} {off:Nat},bz F w r ys→(∀j u,ys[j]?=some u→w.cell? ⟨g,off+j,none⟩=some u)→aM F w g off r
 | [],_,off,_,_=>by unfold aM;trivial
 | c :: cs,_,off,⟨z,zs,h1,h2,h3⟩,hc=>by
  subst h1;unfold aM;refine⟨⟨z,hc 0 z rfl,h2⟩,bz.cellsAt h3 fun j u hj=>?_⟩;have:=hc (j+1) u (by simpa using hj);rw[show off+1+j=off+(j+1) from by omega];exact this
theorem aS.rows {F:Nat→Prop}{w:World}{g:Nat} : ∀(rs:List (List C)) (xs:List Value) (off:Nat),aS F w rs xs→(∀j u,xs[j]?=some u→w.cell? ⟨g,off+j,none⟩=some u)→b9 F w g off rs
 | [],_,off,_,_=>by unfold b9;trivial
 | r :: rs,_,off,⟨ys,rest,h1,h2,h3⟩,hc=>by
  subst h1;have hl:=h2.len;unfold b9;refine⟨bz.cellsAt h2 fun j u hj=>hc j u ?_,aS.rows rs rest _ h3 fun j u hj=>?_⟩
  ·have hlt:=(List.getElem?_eq_some_iff.1 hj).1
   rw[List.getElem?_append_left hlt];exact hj
  ·have:=hc (ys.length+j) u (by rw[List.getElem?_append_right (by omega)];simpa using hj)
   rw[←hl,show off+ys.length+j=off+(ys.length+j) from by omega];exact this
def bG (B:Nat)(e:TypeId)(sz:Nat)(w:World)(v:Value)(n:Nat)(rows:List (List C)):Prop:=
 rows.length=n∧∃xs,w.ownsRow B e sz v n xs∧aS (fun b=>B≤b∧v.ownBlock≠some b) w rows xs
theorem bG.nil {B:Nat}{e:TypeId}{sz:Nat}{w:World}:bG B e sz w (.slice none 0 0) 0 []:=⟨rfl,[],World.ownsRow_nil w B e sz,rfl⟩
theorem bG.chg {r B:Nat}{e:TypeId}{sz n:Nat}{w w':World}{v:Value}{rows:List (List C)}(h:bG B e sz w v n rows)(k:Chg [r] w w')(hr:r<B):bG B e sz w' v n rows:=by
 obtain⟨hl,xs,h1,h2⟩:=h
 exact⟨hl,xs,bZ h1 k hr,h2.move (k.keeps fun b hb=>by have:=hb.1;simp;omega) _ _⟩
theorem bG.below {B:Nat}{e:TypeId}{sz n:Nat}{w w':World}{v:Value}{rows:List (List C)}(h:bG B e sz w v n rows)(k:Below w.heap.size w w'):bG B e sz w' v n rows:=by
 obtain⟨hl,xs,h1,h2⟩:=h
 exact⟨hl,xs,aP h1 k,h2.move (.below k) _ _⟩
theorem bG.setCell {B:Nat}{e:TypeId}{sz n:Nat}{w:World}{v:Value}{rows:List (List C)}(h:bG B e sz w v n rows){p:Addr}(hp:p.block<B)(u:Value):bG B e sz (w.setCell p u) v n rows:=by
 obtain⟨hl,xs,h1,h2⟩:=h
 exact⟨hl,xs,ownsRow_setCell_below h1 hp u,h2.move ⟨by simp[World.setCell],fun _ h _=>h,fun b hb _=>Below.heap_setCell w p u b (by have:=hb.1;omega)⟩ _ _⟩
theorem bG.shape {B:Nat}{e:TypeId}{sz n:Nat}{w:World}{v:Value}{rows:List (List C)}(h:bG B e sz w v n rows) : ∃a q,v = .slice a n q:=by
 obtain⟨hl,xs,⟨h1,h2 | ⟨g,cap,cur,h2,hB,hg,hn,hc,hs,ht⟩⟩,-⟩:=h
 ·exact⟨none,0,by rw[h2.1,h2.2]⟩
 ·exact⟨_,cap,h2⟩
theorem bG.push {r B g cap n sz:Nat}{e:TypeId}{wr W w2:World}{v:Value}{rows:List (List C)}{xs ys:List Value}{rw':List C}(hl:rows.length=n)(ho:wr.ownsRow B e sz v n xs)(hv:aS (fun b=>B≤b∧v.ownBlock≠some b) wr rows xs)
  (hrB:r<B) (hb:Chg [r] wr W) (hr:bz (fun b=>wr.heap.size≤b) W rw' ys) (hB:B≤wr.heap.size)
  (hown:w2.ownsRow B e sz (.slice (some ⟨g,0,none⟩) (n+1) cap) (n+1) (xs++ys)) (hgrow:W.grownBy w2 v.ownBlock) (hat:v.ownBlock=some g∨g=W.heap.size) :
  bG B e sz w2 (.slice (some ⟨g,0,none⟩) (n+1) cap) (n+1) (rows ++ [rw']):=by
 have hlt : ∀b,v.ownBlock=some b→b<wr.heap.size:=fun b hb=>(ho.lt b hb).2;have kk:bl (fun b=>B≤b∧v.ownBlock≠some b) (fun b=>B≤b∧(Value.slice (some ⟨g,0,none⟩) (n+1) cap).ownBlock≠some b) W w2:=by
  refine⟨hgrow.size,fun b hb hl=>⟨hb.1,fun e=>?_⟩,fun b hb hl=>hgrow.block b hl (fun e=>hb.2 e.symm)⟩;simp only[Value.ownBlock,Option.some.injEq] at e;subst e
  rcases hat with h | h
  ·exact hb.2 h
  ·omega
 have k0:bl (fun b=>B≤b∧v.ownBlock≠some b) (fun b=>B≤b∧v.ownBlock≠some b) wr W:=hb.keeps fun b hb=>by have:=hb.1;simp;omega
 have k1:bl (fun b=>wr.heap.size≤b) (fun b=>B≤b∧v.ownBlock≠some b) W W:=.weaken fun b hb _=>⟨by omega,fun e=>by have:=hlt b e;omega⟩
 exact⟨by simp[hl],xs++ys,hown,aS.append rows [rw'] xs ys ((hv.move k0 _ _).move kk _ _) (aS.one ((hr.move k1).move kk))⟩
theorem bG.rep {B:Nat}{e:TypeId}{sz n:Nat}{w:World}{v:Value}{rows:List (List C)}(h:bG B e sz w v n rows):aH (B ≤ ·) w (.sl rows) v:=by
 obtain⟨hl,xs,h1,h2⟩:=h;subst hl;have h1':=h1;obtain⟨hx,h3 | ⟨g,cap,cur,h3,hB,hg,hn,hc,hs,ht⟩⟩:=h1
 ·obtain⟨rfl,h4⟩:=h3
  have:rows = []:=List.length_eq_zero_iff.1 h4;subst this;unfold aH
  exact⟨none,0,rfl,Nat.le_refl _,by unfold maxLen;omega,.inl rfl⟩
 ·subst h3
  have hcl : ∀j u,xs[j]?=some u→w.cell? ⟨g,j,none⟩=some u:=by
   intro j u hj;subst ht;simp only[World.cell?,hg];rw[List.getElem?_take] at hj
   split at hj
   ·simpa using hj
   ·cases hj
  unfold aH
  exact⟨_,cap,rfl,hn,hc,.inr ⟨g,0,rfl,hB,(Array.getElem?_eq_some_iff.1 hg).1,aS.rows rows xs 0 (h2.move (.weaken fun _ hb _=>hb.1) _ _) (fun j u hj=>by simpa using hcl j u hj)⟩⟩
section
variable {P:Program} {ops:Array Oper} {Q:Exit→Act→World→Prop} {md:Region.Mode} {S:World→Prop} {fuel:Nat} {listed:Array Bool} {a:Act} {w:World}
theorem hwt (i:Nat)(oi:Oper)(v:Value)(hS:S w)(hy : ∀w',S w'→(execOp a.eval oi).run P w' = .ok (.value v) w')(h:wpAnyH P md ops Q S fuel (listed.setIfInBounds i true) (a.put oi.dst v) w)
  (hw:Region.wanted oi (yielded ops a.tmps)=true:=by rfl) (hi:ops[i]?=some oi:=by rfl) (hs:Region.noSelect ops=true:=by kernel_rfl) (hf:Region.free md ops listed i=true:=by kernel_rfl) (hr:(Region.ready md ops listed).contains i=true:=by kernel_rfl)
  (hQ : ∀c a w,Q (.panic c) (a.put oi.dst v) w→Q (.panic c) a w:=by exact fun _ _ _ h=>h):wpAnyH P md ops Q S (fuel+1) listed a w:=
 wpAnyH_take hi hs hf hr hQ (.inl ⟨hw,hy⟩) hS h
theorem hwn (i:Nat)(oi:Oper)(hS:S w)(h:wpAnyH P md ops Q S fuel (listed.setIfInBounds i true) (a.put oi.dst undef) w)
  (hw:Region.wanted oi (yielded ops a.tmps)=false:=by rfl) (hi:ops[i]?=some oi:=by rfl) (hs:Region.noSelect ops=true:=by kernel_rfl) (hf:Region.free md ops listed i=true:=by kernel_rfl) (hr:(Region.ready md ops listed).contains i=true:=by kernel_rfl)
  (hQ : ∀c a w,Q (.panic c) (a.put oi.dst undef) w→Q (.panic c) a w:=by exact fun _ _ _ h=>h):wpAnyH P md ops Q S (fuel+1) listed a w:=
 wpAnyH_take hi hs hf hr hQ (.inr ⟨hw,rfl⟩) hS h
theorem hwr (i:Nat)(oi:Oper)(h : ∀K':Act→World→Prop,Shut (∀a w,S w→(S w→wpAnyH P md ops Q S fuel (listed.setIfInBounds i true) a w)→K' a w)→if Region.wanted oi (yielded ops a.tmps)=true then Oper.wp P oi a w K' Q else K' (a.put oi.dst undef) w)
  (hi:ops[i]?=some oi:=by rfl) (hr:Region.ready md ops listed = [i]:=by kernel_rfl):wpAnyH P md ops Q S (fuel+1) listed a w:=
 wpAnyH_ready hr (by simp) (AllReadyH.cons hi h AllReadyH.nil)
end
theorem hw1 {α:Type}(l:List α)(i:Nat)(a:α):l.toArray.setIfInBounds i a=(l.set i a).toArray:=by simp
theorem hw2 {α:Type}(l:List α)(a b:α):(a :: l).set 0 b=b :: l:=rfl
theorem hw3 {α:Type}(l:List α)(i:Nat)(a b:α):(a :: l).set (i+1) b=a :: l.set i b:=rfl
theorem hwA:(∀(l:List Value) (i:Nat) (a:Value),l.toArray.setIfInBounds i a=(l.set i a).toArray)∧(∀(l:List Value) (a b:Value),(a :: l).set 0 b=b :: l)∧(∀(l:List Value) (i:Nat) (a b:Value),(a :: l).set (i+1) b=a :: l.set i b) ∧
  (∀(a:Act) (d:Tmp) (v:Value),a.put (some d) v={a with tmps:=a.tmps.setIfInBounds d v})∧(∀(a:Act) (v:Value),a.put none v=a):=⟨hw1,hw2,hw3,fun _ _ _=>rfl,fun _ _=>rfl⟩
theorem co {W:World}{b:Nat}{a0 a1:Value}{T:TypeId}(h:W.heap[b]?=some (.cells #[a0,a1] T (0,0))):W.cell? ⟨b,0,none⟩=some a0∧W.cell? ⟨b,1,none⟩=some a1∧W.frozen? ⟨b,0,none⟩=false∧W.frozen? ⟨b,1,none⟩=false:=
 ⟨ag h rfl,ag h rfl,al h 0,al h 1⟩
theorem bD (W:World) : ∃X,World.drew W=X∧Below W.heap.size W X∧W.heap.size≤X.heap.size∧X.heap.size≤W.heap.size:=⟨_,rfl,bdr,Nat.le_refl _,Nat.le_refl _⟩
theorem aU (W:World)(o:Obj) : ∃X,World.alloc W o=X∧Below W.heap.size W X∧X.heap[W.heap.size]?=some o∧W.heap.size+1≤X.heap.size∧X.heap.size≤W.heap.size+1:=⟨_,rfl,ai,aB rfl,by simp,by simp⟩
def HSt (b:Nat)(W X:World):Prop:=(∀c,c≠b→X.heap[c]?=W.heap[c]?)∧(∀w:World,Below w.heap.size w W→w.heap.size≤b→Below w.heap.size w X)∧W.heap.size≤X.heap.size∧X.heap.size≤W.heap.size∧(∀(w:World) (fp:List Nat),Chg fp w W→w.heap.size≤b→Chg fp w X)
theorem HSt.blk {b c:Nat}{W X:World}{x:Obj}(h:HSt b W X)(hn:c≠b)(f:W.heap[c]?=some x):X.heap[c]?=some x:=(h.1 c hn).trans f
theorem HSt.cell {b:Nat}{p:Addr}{W X:World}{v:Value}(h:HSt b W X)(hn:p.block≠b)(f:W.cell? p=some v):X.cell? p=some v:=by
 simp only[World.cell?] at f ⊢;rw[h.1 p.block hn];exact f
theorem HSt.bel {b:Nat}{w W X:World}(h:HSt b W X)(f:Below w.heap.size w W)(hb:w.heap.size≤b):Below w.heap.size w X:=h.2.1 w f hb
theorem HSt.chg {b:Nat}{fp:List Nat}{w W X:World}(h:HSt b W X)(f:Chg fp w W)(hb:w.heap.size≤b):Chg fp w X:=h.2.2.2.2 w fp f hb
theorem HSt.keeps {b:Nat}{W X:World}{F:Nat→Prop}(h:HSt b W X)(hn : ∀c,F c→c≠b):bl F F W X:=⟨h.2.2.1,fun _ hc _=>hc,fun c hc _=>h.1 c (hn c hc)⟩
theorem HSt.refl (b:Nat)(W:World):HSt b W W:=⟨fun _ _=>rfl,fun _ f _=>f,Nat.le_refl _,Nat.le_refl _,fun _ _ f _=>f⟩
theorem HSt.step {b o:Nat}{W X:World}{v:Value}(h:HSt b W X):HSt b W (X.setCell ⟨b,o,none⟩ v):=
 ⟨fun c hc=>(Below.heap_setCell _ ⟨b,o,none⟩ v c hc).trans (h.1 c hc),fun w f hb=>(h.2.1 w f hb).setCell (p:=⟨b,o,none⟩) hb _,by simpa [World.setCell] using h.2.2.1,by simpa [World.setCell] using h.2.2.2.1,fun w fp f hb=>by
   have k:=h.2.2.2.2 w fp f hb
   exact⟨k.os,k.tape,k.output,by simpa [World.setCell] using k.size,fun c hc hn=>(Below.heap_setCell _ ⟨b,o,none⟩ v c (by show c≠b;omega)).trans (k.block c hc hn)⟩⟩
theorem bw {W:World}{b:Nat}{a0 a1:Value}{T:TypeId}(h:W.heap[b]?=some (.cells #[a0,a1] T (0,0)))(v0 v1:Value) :
  ∃X,World.setCell (World.setCell W ⟨b,0,none⟩ v0) ⟨b,1,none⟩ v1=X∧HSt b W X∧X.heap[b]?=some (.cells #[v0,v1] T (0,0))∧W.heap.size≤X.heap.size∧X.heap.size≤W.heap.size:=
 ⟨_,rfl,(HSt.refl b W).step.step,aI (aI h rfl) rfl,by simp[World.setCell],by simp[World.setCell]⟩
theorem bL {W:World}{b:Nat}{a0 a1 a2 a3 a4 a5 a6 a7 a8:Value}{T:TypeId}(h:W.heap[b]?=some (.cells #[a0,a1,a2,a3,a4,a5,a6,a7,a8] T (0,0)))(v0 v1 v2 v3 v4 v5 v6 v7 v8:Value) :
  ∃X,World.setCell (World.setCell (World.setCell (World.setCell (World.setCell (World.setCell (World.setCell (World.setCell (World.setCell W ⟨b,0,none⟩ v0) ⟨b,1,none⟩ v1) ⟨b,2,none⟩ v2) ⟨b,3,none⟩ v3) ⟨b,4,none⟩ v4) ⟨b,5,none⟩ v5) ⟨b,6,none⟩ v6) ⟨b,7,none⟩ v7) ⟨b,8,none⟩ v8=X∧HSt b W X∧X.heap[b]?=some (.cells #[v0,v1,v2,v3,v4,v5,v6,v7,v8] T (0,0))∧W.heap.size≤X.heap.size∧X.heap.size≤W.heap.size:=by
 have h0:=aI (v:=v0) h (rfl:(#[a0,a1,a2,a3,a4,a5,a6,a7,a8]:Array Value).setIfInBounds 0 v0 = #[v0,a1,a2,a3,a4,a5,a6,a7,a8]);have h1:=aI (v:=v1) h0 (rfl:(#[v0,a1,a2,a3,a4,a5,a6,a7,a8]:Array Value).setIfInBounds 1 v1 = #[v0,v1,a2,a3,a4,a5,a6,a7,a8]);have h2:=aI (v:=v2) h1 (rfl:(#[v0,v1,a2,a3,a4,a5,a6,a7,a8]:Array Value).setIfInBounds 2 v2 = #[v0,v1,v2,a3,a4,a5,a6,a7,a8]);have h3:=aI (v:=v3) h2 (rfl:(#[v0,v1,v2,a3,a4,a5,a6,a7,a8]:Array Value).setIfInBounds 3 v3 = #[v0,v1,v2,v3,a4,a5,a6,a7,a8]);have h4:=aI (v:=v4) h3 (rfl:(#[v0,v1,v2,v3,a4,a5,a6,a7,a8]:Array Value).setIfInBounds 4 v4 = #[v0,v1,v2,v3,v4,a5,a6,a7,a8]);have h5:=aI (v:=v5) h4 (rfl:(#[v0,v1,v2,v3,v4,a5,a6,a7,a8]:Array Value).setIfInBounds 5 v5 = #[v0,v1,v2,v3,v4,v5,a6,a7,a8]);have h6:=aI (v:=v6) h5 (rfl:(#[v0,v1,v2,v3,v4,v5,a6,a7,a8]:Array Value).setIfInBounds 6 v6 = #[v0,v1,v2,v3,v4,v5,v6,a7,a8]);have h7:=aI (v:=v7) h6 (rfl:(#[v0,v1,v2,v3,v4,v5,v6,a7,a8]:Array Value).setIfInBounds 7 v7 = #[v0,v1,v2,v3,v4,v5,v6,v7,a8]);have h8:=aI (v:=v8) h7 (rfl:(#[v0,v1,v2,v3,v4,v5,v6,v7,a8]:Array Value).setIfInBounds 8 v8 = #[v0,v1,v2,v3,v4,v5,v6,v7,v8]);have hs:=((((((((((HSt.refl b W).step (o:=0) (v:=v0)).step (o:=1) (v:=v1)).step (o:=2) (v:=v2)).step (o:=3) (v:=v3)).step (o:=4) (v:=v4)).step (o:=5) (v:=v5)).step (o:=6) (v:=v6)).step (o:=7) (v:=v7)).step (o:=8) (v:=v8))
 exact⟨_,rfl,hs,h8,hs.2.2.1,hs.2.2.2.1⟩
theorem HSt.rep {b:Nat}{W X:World}{F:Nat→Prop}{t:Ty}{y:Value}(h:HSt b W X)(hn : ∀c,F c→c≠b)(f:ao F W t y):ao F X t y:=f.move (h.keeps hn)
theorem kpN {r:Nat}{W X:World}{F:Nat→Prop}(h:Chg [r] W X)(hn : ∀b,F b→b≠r):bl F F W X:=h.keeps fun b hb=>by simpa using hn b hb
theorem ao.rg {B:Nat}{X:World}{t:Ty}{v:Value}(h:ao (B ≤ ·) X t v):Hid (ao (fun b=>B≤b∧b<X.heap.size) X t v):=zq (h.move (.weaken fun b h1 h2=>⟨h1,h2⟩))
def aW (F:Nat→Prop)(w:World):List Bd→List Value→Prop
 | [],xs=>xs = []
 | b :: bs,xs=>∃k sl rest,xs = .string b.name :: .int .i64 k :: sl :: rest∧b.name.size≤maxLen∧ao F w b.ty (.agg #[.int .i64 k,sl])∧aW F w bs rest
theorem aW.move {F G:Nat→Prop}{w w':World}(k:bl F G w w') : ∀(bs:List Bd) (xs:List Value),aW F w bs xs→aW G w' bs xs
 | [],_,h=>h
 | b :: bs,_,⟨kk,sl,rest,h1,h2,h3,h4⟩=>⟨kk,sl,rest,h1,h2,h3.move k,aW.move k bs rest h4⟩
theorem aW.append {F:Nat→Prop}{w:World} : ∀(bs cs:List Bd) (xs ys:List Value),aW F w bs xs→aW F w cs ys→aW F w (bs++cs) (xs++ys)
 | [],cs,xs,ys,h,h'=>by
  have h0:xs = []:=h;subst h0;simpa using h'
 | b :: bs,cs,_,ys,⟨kk,sl,rest,h1,h2,h3,h4⟩,h'=>by
  subst h1
  exact⟨kk,sl,rest++ys,rfl,h2,h3,aW.append bs cs rest ys h4 h'⟩
theorem aW.len {F:Nat→Prop}{w:World} : ∀(bs:List Bd) (xs:List Value),aW F w bs xs→xs.length=bs.length*3
 | [],xs,h=>by
  have h0:xs = []:=h;subst h0;rfl
 | b :: bs,_,⟨kk,sl,rest,h1,h2,h3,h4⟩=>by
  subst h1;have:=aW.len bs rest h4;simp only[List.length_cons];omega
theorem aW.rows {F:Nat→Prop}{w:World}{g:Nat} : ∀(bs:List Bd) (xs:List Value) (off:Nat),aW F w bs xs→(∀j u,xs[j]?=some u→w.cell? ⟨g,off+j,none⟩=some u)→b9 F w g off (Bd.rows bs)
 | [],_,_,_,_=>by unfold Bd.rows b9;trivial
 | b :: bs,_,off,⟨kk,sl,rest,h1,h2,h3,h4⟩,hc=>by
  subst h1;obtain⟨s,he,hs⟩:=h3;simp only[Value.agg.injEq,Array.mk.injEq,List.cons.injEq,Value.int.injEq,true_and,and_true] at he;obtain⟨rfl,rfl⟩:=he;have e0:=hc 0 _ rfl;have e1:=hc 1 _ rfl;have e2:=hc 2 _ rfl
  show b9 F w g off (b.row :: Bd.rows bs)
  unfold b9;refine⟨?_,aW.rows bs rest _ h4 fun j u hj=>?_⟩
  ·unfold Bd.row aM
   refine⟨⟨_,e0,by unfold aH;exact⟨rfl,h2⟩⟩,?_⟩;unfold aM;refine⟨⟨_,e1,by unfold aH;rfl⟩,?_⟩;unfold aM
   exact⟨⟨_,e2,hs⟩,by unfold aM;trivial⟩
  ·have:=hc (j+3) u (by simpa using hj)
   rw[Bd.row_length,Nat.add_assoc,Nat.add_comm 3 j];exact this
theorem eM {w:World}{B:Nat}{e:TypeId}{size n q g:Nat}{xs:List Value}(h:w.ownsRow B e size (.slice (some ⟨g,0,none⟩) n q) n xs) : ∀j u,xs[j]?=some u→w.cell? ⟨g,j,none⟩=some u:=by
 obtain⟨h1,h2 | ⟨g',cap,cur,h2,hB,hg,hn,hc,hs,ht⟩⟩:=h
 ·exact absurd h2.1 (by simp)
 ·simp only[Value.slice.injEq,Option.some.injEq,Addr.mk.injEq,and_true] at h2
  obtain⟨rfl,-,rfl⟩:=h2;intro j u hj;subst ht;simp only[World.cell?,hg];rw[List.getElem?_take] at hj
  split at hj
  ·simpa using hj
  ·cases hj
def BdL (r B:Nat)(w:World)(v:Value)(bs:List Bd):Prop:=r<B∧(∃g,v.ownBlock=some g)∧∃xs,w.ownsRow B 99 3 v bs.length xs∧aW (fun b=>b≠r∧v.ownBlock≠some b) w bs xs
theorem BdL.nil {r B:Nat}{w:World}{g:Nat}{cs:Array Value}(hr:r<B)(hB:B≤g)(h:w.heap[g]?=some (.cells cs 99 (0,0)))(h0:cs.size=0):BdL r B w (.slice (some ⟨g,0,none⟩) 0 0) []:=
 ⟨hr,⟨g,rfl⟩,[],⟨rfl,.inr ⟨g,0,cs,rfl,hB,h,Nat.le_refl _,by unfold maxLen;omega,by simpa using h0,by simp⟩⟩,rfl⟩
theorem BdL.chg {r B:Nat}{w w':World}{v:Value}{bs:List Bd}(h:BdL r B w v bs)(k:Chg [r] w w'):BdL r B w' v bs:=by
 obtain⟨hr,hso,xs,h1,h2⟩:=h
 exact⟨hr,hso,xs,bZ h1 k hr,h2.move (k.keeps fun b hb=>by simpa using hb.1) _ _⟩
theorem BdL.below {r B:Nat}{w w':World}{v:Value}{bs:List Bd}(h:BdL r B w v bs)(k:Below w.heap.size w w'):BdL r B w' v bs:=by
 obtain⟨hr,hso,xs,h1,h2⟩:=h
 exact⟨hr,hso,xs,aP h1 k,h2.move (.below k) _ _⟩
theorem BdL.shape {r B:Nat}{w:World}{v:Value}{bs:List Bd}(h:BdL r B w v bs) : ∃a q,v = .slice a bs.length q:=by
 obtain⟨hr,hso,xs,⟨h1,h2 | ⟨g,cap,cur,h2,hB,hg,hn,hc,hs,ht⟩⟩,-⟩:=h
 ·exact⟨none,0,by rw[h2.1,h2.2]⟩
 ·exact⟨_,cap,h2⟩
theorem BdL.push {r B g cap:Nat}{W w2:World}{v:Value}{bs:List Bd}{xs:List Value}{nm:ByteArray}{k:Int}{sl:Value}{t:Ty}(hr:r<B)(hv:aW (fun b=>b≠r∧v.ownBlock≠some b) W bs xs)(hn:nm.size≤maxLen)
  (ht:ao (fun b=>b≠r∧v.ownBlock≠some b) W t (.agg #[.int .i64 k,sl])) (hown:w2.ownsRow B 99 3 (.slice (some ⟨g,0,none⟩) (bs.length+1) cap) (bs.length+1) (xs ++ [.string nm,.int .i64 k,sl])) (hgrow:W.grownBy w2 v.ownBlock) (hat:v.ownBlock=some g∨g=W.heap.size) :
  BdL r B w2 (.slice (some ⟨g,0,none⟩) (bs.length+1) cap) (bs ++ [⟨nm,t⟩]):=by
 have kk:bl (fun b=>b≠r∧v.ownBlock≠some b) (fun b=>b≠r∧(Value.slice (some ⟨g,0,none⟩) (bs.length+1) cap).ownBlock≠some b) W w2:=by
  refine⟨hgrow.size,fun b hb hl=>⟨hb.1,fun e=>?_⟩,fun b hb hl=>hgrow.block b hl (fun e=>hb.2 e.symm)⟩;simp only[Value.ownBlock,Option.some.injEq] at e;subst e
  rcases hat with h | h
  ·exact hb.2 h
  ·omega
 refine⟨hr,⟨g,rfl⟩,xs ++ [.string nm,.int .i64 k,sl],by simpa using hown,aW.append bs [⟨nm,t⟩] xs _ (hv.move kk _ _) ⟨k,sl,[],rfl,hn,ht.move kk,rfl⟩⟩
theorem BdL.rep {r B:Nat}{w:World}{v:Value}{bs:List Bd}(h:BdL r B w v bs):aE (fun _=>True) w bs v:=by
 obtain⟨a,q,rfl⟩:=h.shape;obtain⟨hr,hso,xs,h1,h2⟩:=h;have h1':=h1;obtain⟨hx,h3 | ⟨g,cap,cur,h3,hB,hg,hn,hc,hs,ht⟩⟩:=h1
 ·obtain⟨h3,h4⟩:=h3
  simp only[Value.slice.injEq] at h3;obtain⟨rfl,-,rfl⟩:=h3;have:bs = []:=List.length_eq_zero_iff.1 h4;subst this;unfold aE aH
  exact⟨none,0,rfl,Nat.le_refl _,by unfold maxLen;omega,.inl rfl⟩
 ·simp only[Value.slice.injEq] at h3
  obtain⟨rfl,-,rfl⟩:=h3;have hcl:=eM h1';unfold aE aH;refine⟨_,q,by rw[Bd.rows_length],by rw[Bd.rows_length];exact hn,hc,.inr ⟨g,0,rfl,trivial,(Array.getElem?_eq_some_iff.1 hg).1,?_⟩⟩
  exact aW.rows bs xs 0 (h2.move (.weaken fun _ _ _=>trivial) _ _) (fun j u hj=>by simpa using hcl j u hj)
theorem jC (F:Nat→Prop)(l:List Bd)(y:Value)(w:World)(hy:aE F w l y) :
  Calls Tryz.prog 110 #[y] w fun e w'=>e = .returned (.bool (ctxB l))∧Below w.heap.size w w':=by
 have HV:=zq (bV F);obtain⟨a,cap,rfl,h2,h3,-⟩:=hy.open;unfold maxLen at h3;obtain⟨n,hn⟩ : ∃n,l.length=n:=⟨_,rfl⟩
 rw[hn] at h2 hy ⊢;have HN:=zq hn;clear hn
 go_enter Tryz.func110,Tryz.ntmps110
 go_wp2_with fail
 go_loopw [3] (fun i wr=>∃j:Nat,j≤n∧i = .int .i64 j∧Below w.heap.size w wr∧Hid (l.all Bd.ok=(l.drop j).all Bd.ok)) (fun i _=>n-(intOf i).toNat)
 case atStart=>exact⟨0,by omega,rfl,Below.refl _ _,rfl⟩
 case round=>
  obtain⟨j,hj,rfl,hbw,hR⟩:=hrel
  by_cases hlt:j<n
  ·have hjt:j<l.length:=by rw[HN.out];exact hlt
   obtain⟨b,off,k0,a0,m0,q0,rfl,l0,e0,ez,e1,e2,ht⟩:=hy.at hbw hjt;have hstep:l.all Bd.ok=((aJ l[j].name&&l[j].ty.valid)&&(l.drop (j+1)).all Bd.ok):=by rw[hR.out,List.drop_eq_getElem_cons hjt];rfl
   have HC:=HV.out l[j].ty _ _ ht;have HM:=fun W=>lQ l[j].name W;generalize l[j].name=nm at *;generalize aJ nm=nb at *;generalize l[j].ty.valid=tv at *;have HS:=zq hstep;have HCC:=zq HC;have HMM:=zq HM;clear hstep HC HM hR ht ez
   cases nb
   ·go_wp2_with fail
    refine(HMM.out _).mono ?_;rintro e w1 ⟨rfl,rfl⟩
    go_wp2_with fail
    go_ret
    exact⟨au (by unfold ctxB;rw[HS.out];simp),hbw⟩
   ·cases tv
    ·go_wp2_with fail
     refine(HMM.out _).mono ?_;rintro e w1 ⟨rfl,rfl⟩
     go_wp2_with fail
     refine HCC.out.mono ?_;rintro e w1 ⟨rfl,hb1⟩
     go_wp2_with fail
     go_ret
     exact⟨au (by unfold ctxB;rw[HS.out];simp),aj hbw hb1⟩
    ·go_wp2_with fail
     refine(HMM.out _).mono ?_;rintro e w1 ⟨rfl,rfl⟩
     go_wp2_with fail
     refine HCC.out.mono ?_;rintro e w1 ⟨rfl,hb1⟩
     go_wp2_with fail
     go_roundw
     case rel=>exact⟨j+1,by omega,by go_num,aj hbw hb1,by rw[Hid,HS.out];rfl⟩
     case measure=>simp[intOf];omega
  ·have hall:l.all Bd.ok=true:=by rw[hR.out,List.drop_eq_nil_of_le (by rw[HN.out];omega)];rfl
   have HA:=zq hall;clear hall
   go_wp2_with fail
   go_ret
   exact⟨au (by unfold ctxB;rw[HA.out,HN.out];simp<;>omega),hbw⟩
def BdM (B:Nat)(w:World)(v:Value)(bs:List Bd):Prop:=∃xs,w.ownsRow B 99 3 v bs.length xs∧aW (fun b=>v.ownBlock≠some b) w bs xs
theorem BdM.nil {B:Nat}{w:World}{g:Nat}{cs:Array Value}(hB:B≤g)(h:w.heap[g]?=some (.cells cs 99 (0,0)))(h0:cs.size=0):BdM B w (.slice (some ⟨g,0,none⟩) 0 0) []:=
 ⟨[],⟨rfl,.inr ⟨g,0,cs,rfl,hB,h,Nat.le_refl _,by unfold maxLen;omega,by simpa using h0,by simp⟩⟩,rfl⟩
theorem BdM.push {B:Nat}{W w2:World}{v v':Value}{bs cs:List Bd}{xs ys:List Value}(hv:aW (fun b=>v.ownBlock≠some b) W bs xs)(hc:aW (fun b=>v.ownBlock≠some b) W cs ys)
  (hown:w2.ownsRow B 99 3 v' (bs.length+cs.length) (xs++ys)) (hgrow:W.grownBy w2 v.ownBlock) (hat:v'.ownBlock=v.ownBlock∨v'.ownBlock=some W.heap.size) :
  BdM B w2 v' (bs++cs):=by
 have kk:bl (fun b=>v.ownBlock≠some b) (fun b=>v'.ownBlock≠some b) W w2:=by
  refine⟨hgrow.size,fun b hb hl e=>?_,fun b hb hl=>hgrow.block b hl (fun e=>hb e.symm)⟩
  rcases hat with h | h
  ·exact hb (h▸e)
  ·rw[h] at e
   simp only[Option.some.injEq] at e
   omega
 exact⟨xs++ys,by simpa using hown,aW.append bs cs xs ys (hv.move kk _ _) (hc.move kk _ _)⟩
theorem BdM.shape {B:Nat}{w:World}{v:Value}{bs:List Bd}(h:BdM B w v bs) : ∃a q,v = .slice a bs.length q:=by
 obtain⟨xs,⟨h1,h2 | ⟨g,cap,cur,h2,hB,hg,hn,hc,hs,ht⟩⟩,-⟩:=h
 ·exact⟨none,0,by rw[h2.1,h2.2]⟩
 ·exact⟨_,cap,h2⟩
theorem BdM.rep {B:Nat}{w:World}{v:Value}{bs:List Bd}(h:BdM B w v bs):aE (fun _=>True) w bs v:=by
 obtain⟨a,q,rfl⟩:=h.shape;obtain⟨xs,h1,h2⟩:=h;have h1':=h1;obtain⟨hx,h3 | ⟨g,cap,cur,h3,hB,hg,hn,hc,hs,ht⟩⟩:=h1
 ·obtain⟨h3,h4⟩:=h3
  simp only[Value.slice.injEq] at h3;obtain⟨rfl,-,rfl⟩:=h3;have:bs = []:=List.length_eq_zero_iff.1 h4;subst this;unfold aE aH
  exact⟨none,0,rfl,Nat.le_refl _,by unfold maxLen;omega,.inl rfl⟩
 ·simp only[Value.slice.injEq] at h3
  obtain⟨rfl,-,rfl⟩:=h3;have hcl:=eM h1';unfold aE aH;refine⟨_,q,by rw[Bd.rows_length],by rw[Bd.rows_length];exact hn,hc,.inr ⟨g,0,rfl,trivial,(Array.getElem?_eq_some_iff.1 hg).1,?_⟩⟩
  exact aW.rows bs xs 0 (h2.move (.weaken fun _ _ _=>trivial) _ _) (fun j u hj=>by simpa using hcl j u hj)
theorem aW.of_rows {F:Nat→Prop}{w:World}{b:Nat} : ∀(bs:List Bd) (off:Nat),b9 F w b off (Bd.rows bs)→∃xs,aW F w bs xs∧(∀j u,xs[j]?=some u→w.cell? ⟨b,off+j,none⟩=some u)∧∀u∈xs,u.oneCell'=true
 | [],_,_=>⟨[],rfl,by simp,by simp⟩
 | d :: bs,off,h=>by
  have h':b9 F w b off (d.row :: Bd.rows bs):=h;unfold b9 at h';obtain⟨h1,h2⟩:=h';obtain⟨rest,r1,r2,r3⟩:=aW.of_rows bs _ h2;rw[Bd.row_length] at r2;unfold Bd.row aM at h1;obtain⟨⟨y0,e0,c0⟩,h1⟩:=h1;unfold aM at h1;obtain⟨⟨y1,e1,c1⟩,h1⟩:=h1;unfold aM at h1;obtain⟨⟨y2,e2,c2⟩,-⟩:=h1;unfold aH at c0;obtain⟨rfl,hz⟩:=c0;obtain rfl:=aH.int_eq c1;obtain⟨a,q,hs,-⟩:=aH.rows c2;subst hs;refine⟨_ :: _ :: _ :: rest,⟨_,_,rest,rfl,hz,⟨_,rfl,c2⟩,r1⟩,fun j u hj=>?_,fun u hu=>?_⟩
  ·match j with
   | 0=>simp at hj;subst hj;exact e0
   | 1=>simp at hj;subst hj;exact e1
   | 2=>simp at hj;subst hj;exact e2
   | j+3=>
    have:=r2 j u (by simpa using hj);rw[show off+(j+3)=off+3+j from by omega];exact this
  ·simp only[List.mem_cons] at hu
   rcases hu with rfl | rfl | rfl | hu
   ·rfl
   ·rfl
   ·rfl
   ·exact r3 u hu
theorem aE.cells {F:Nat→Prop}{w:World}{bs:List Bd}{a:Option Addr}{n q:Nat}(h:aE F w bs (.slice a n q))(hn:0<n) : ∃ad xs,a=some ad∧aW F w bs xs∧(∀j u,xs[j]?=some u→w.cell? (ad.add j)=some u)∧∀u∈xs,u.oneCell'=true:=by
 unfold aE aH at h;obtain⟨a',q',he,h1,h2,h3⟩:=h;simp only[Value.slice.injEq] at he;obtain⟨rfl,rfl,rfl⟩:=he
 rcases h3 with h3 | ⟨b,off,rfl,-,-,h3⟩
 ·rw[h3] at hn;exact absurd hn (by simp)
 ·obtain⟨xs,r1,r2,r3⟩:=aW.of_rows bs off h3
  exact⟨_,xs,rfl,r1,fun j u hj=>by have:=r2 j u hj;cases j<;>simpa [Addr.add] using this,r3⟩
theorem aE.n_eq {F:Nat→Prop}{w:World}{bs:List Bd}{a:Option Addr}{n q:Nat}(h:aE F w bs (.slice a n q)):n=bs.length:=by
 unfold aE aH at h;obtain⟨a',q',he,-⟩:=h;simp only[Value.slice.injEq] at he;rw[he.2.1,Bd.rows_length]
theorem aE.cellsAny {F:Nat→Prop}{w:World}{bs:List Bd}{ad:Addr}{n q:Nat}(h:aE F w bs (.slice (some ad) n q)) : ∃ad' xs,some ad=some ad'∧aW F w bs xs∧(∀j u,xs[j]?=some u→w.cell? (ad'.add j)=some u)∧∀u∈xs,u.oneCell'=true:=by
 by_cases hn:0<n
 ·exact h.cells hn
 ·have:=h.n_eq
  have:bs = []:=List.length_eq_zero_iff.1 (by omega);subst this
  exact⟨ad,[],rfl,rfl,by simp,by simp⟩
theorem aE.old {F:Nat→Prop}{w:World}{bs:List Bd}{y:Value}(r:aE F w bs y):aE (· < w.heap.size) w bs y:=r.move (.weaken fun _ _ h=>h)
theorem Tryz.infoBdC:(Tryz.prog.info? 99).map (fun i=>(i.zero,i.size,i.bytes))=some (some (.agg #[.string ByteArray.empty,.int .i64 0,.slice none 0 0]),3,48):=by kernel_rfl
theorem BdM.none {B:Nat}{w:World}:BdM B w (.slice none 0 0) []:=⟨[],World.ownsRow_nil w B _ _,rfl⟩
theorem tS {w w':World}{B n sz:Nat}{e:TypeId}{v:Value}{xs:List Value}(h:w.ownsRow B e sz v n xs)(hk : ∀b,v.ownBlock=some b→w'.heap[b]?=w.heap[b]?):w'.ownsRow B e sz v n xs:=by
 obtain⟨h1,h2 | ⟨g,cap,cur,rfl,hB,hg,hn,hc,hs,ht⟩⟩:=h
 ·exact⟨h1,.inl h2⟩
 ·exact⟨h1,.inr ⟨g,cap,cur,rfl,hB,(hk g rfl).trans hg,hn,hc,hs,ht⟩⟩
def dl (B:Nat)(e1 e2:TypeId)(s1 s2:Nat)(w:World)(v1 v2:Value)(n1 n2:Nat)(r1 r2:List (List C)):Prop:=
 r1.length=n1∧r2.length=n2∧(∀b,v1.ownBlock=some b→v2.ownBlock≠some b)∧∃xs1 xs2,w.ownsRow B e1 s1 v1 n1 xs1∧w.ownsRow B e2 s2 v2 n2 xs2 ∧
  aS (fun b=>B≤b∧v1.ownBlock≠some b∧v2.ownBlock≠some b) w r1 xs1∧aS (fun b=>B≤b∧v1.ownBlock≠some b∧v2.ownBlock≠some b) w r2 xs2
theorem dl.below {B:Nat}{e1 e2:TypeId}{s1 s2 n1 n2:Nat}{w w':World}{v1 v2:Value}{r1 r2:List (List C)}(h:dl B e1 e2 s1 s2 w v1 v2 n1 n2 r1 r2)(k:Below w.heap.size w w'):dl B e1 e2 s1 s2 w' v1 v2 n1 n2 r1 r2:=by
 obtain⟨a,b,c,xs1,xs2,o1,o2,p1,p2⟩:=h
 exact⟨a,b,c,xs1,xs2,aP o1 k,aP o2 k,p1.move (.below k) _ _,p2.move (.below k) _ _⟩
theorem dl.swap {B:Nat}{e1 e2:TypeId}{s1 s2 n1 n2:Nat}{w:World}{v1 v2:Value}{r1 r2:List (List C)}(h:dl B e1 e2 s1 s2 w v1 v2 n1 n2 r1 r2):dl B e2 e1 s2 s1 w v2 v1 n2 n1 r2 r1:=by
 obtain⟨a,b,c,xs1,xs2,o1,o2,p1,p2⟩:=h
 exact⟨b,a,fun x hx e=>c x e hx,xs2,xs1,o2,o1,p2.move (.weaken fun x h _=>⟨h.1,h.2.2,h.2.1⟩) _ _,p1.move (.weaken fun x h _=>⟨h.1,h.2.2,h.2.1⟩) _ _⟩
theorem dl.setCell {B:Nat}{e1 e2:TypeId}{s1 s2 n1 n2:Nat}{w:World}{v1 v2:Value}{r1 r2:List (List C)}(h:dl B e1 e2 s1 s2 w v1 v2 n1 n2 r1 r2){p:Addr}(hp:p.block<B)(u:Value):dl B e1 e2 s1 s2 (w.setCell p u) v1 v2 n1 n2 r1 r2:=by
 obtain⟨a,b,c,xs1,xs2,o1,o2,p1,p2⟩:=h
 exact⟨a,b,c,xs1,xs2,ownsRow_setCell_below o1 hp u,ownsRow_setCell_below o2 hp u,p1.move ⟨by simp[World.setCell],fun _ h _=>h,fun b hb _=>Below.heap_setCell w p u b (by have:=hb.1;omega)⟩ _ _,p2.move ⟨by simp[World.setCell],fun _ h _=>h,fun b hb _=>Below.heap_setCell w p u b (by have:=hb.1;omega)⟩ _ _⟩
theorem dl.push {B g cap n1 n2 s1 s2:Nat}{e1 e2:TypeId}{wr W w2:World}{v1 v2:Value}{r1 r2:List (List C)}{xs1 ys:List Value}{rw':List C}(hl:r1.length=n1)(hl2:r2.length=n2)(hd : ∀b,v1.ownBlock=some b→v2.ownBlock≠some b)
  (ho:wr.ownsRow B e1 s1 v1 n1 xs1) (h2 : ∃xs2,wr.ownsRow B e2 s2 v2 n2 xs2∧aS (fun b=>B≤b∧v1.ownBlock≠some b∧v2.ownBlock≠some b) wr r2 xs2) (hv:aS (fun b=>B≤b∧v1.ownBlock≠some b∧v2.ownBlock≠some b) wr r1 xs1)
  (hb:Below wr.heap.size wr W) (hr:bz (fun b=>B≤b∧v1.ownBlock≠some b∧v2.ownBlock≠some b) W rw' ys)
  (hown:w2.ownsRow B e1 s1 (.slice (some ⟨g,0,none⟩) (n1+1) cap) (n1+1) (xs1++ys)) (hgrow:W.grownBy w2 v1.ownBlock) (hat:v1.ownBlock=some g∨g=W.heap.size) :
  dl B e1 e2 s1 s2 w2 (.slice (some ⟨g,0,none⟩) (n1+1) cap) v2 (n1+1) n2 (r1 ++ [rw']) r2:=by
 obtain⟨xs2,ho2,hv2⟩:=h2;have hlt2 : ∀b,v2.ownBlock=some b→b<wr.heap.size:=fun b hb=>(ho2.lt b hb).2;have hsz:wr.heap.size≤W.heap.size:=hb.size;have hgd:v2.ownBlock≠some g:=by
  intro e
  rcases hat with h | h
  ·exact hd g h e
  ·have:=hlt2 g e;omega
 have kk:bl (fun b=>B≤b∧v1.ownBlock≠some b∧v2.ownBlock≠some b) (fun b=>B≤b∧(Value.slice (some ⟨g,0,none⟩) (n1+1) cap).ownBlock≠some b∧v2.ownBlock≠some b) W w2:=by
  refine⟨hgrow.size,fun b hb hl=>⟨hb.1,fun e=>?_,hb.2.2⟩,fun b hb hl=>hgrow.block b hl (fun e=>hb.2.1 e.symm)⟩;simp only[Value.ownBlock,Option.some.injEq] at e;subst e
  rcases hat with h | h
  ·exact hb.2.1 h
  ·omega
 refine⟨by simp[hl],hl2,fun b hb e=>?_,xs1++ys,xs2,hown,tS ho2 (fun b hbb=>?_),aS.append r1 [rw'] xs1 ys ((hv.move (.below hb) _ _).move kk _ _) (aS.one (hr.move kk)),(hv2.move (.below hb) _ _).move kk _ _⟩
 ·simp only[Value.ownBlock,Option.some.injEq] at hb
  subst hb
  exact hgd e
 ·have h3:=hlt2 b hbb
  rw[hgrow.block b (by omega) (fun e=>hd b e.symm hbb),hb.block b h3]
theorem dl.fst {B:Nat}{e1 e2:TypeId}{s1 s2 n1 n2:Nat}{w:World}{v1 v2:Value}{r1 r2:List (List C)}(h:dl B e1 e2 s1 s2 w v1 v2 n1 n2 r1 r2):bG B e1 s1 w v1 n1 r1:=by
 obtain⟨a,b,c,xs1,xs2,o1,o2,p1,p2⟩:=h
 exact⟨a,xs1,o1,p1.move (.weaken fun x h _=>⟨h.1,h.2.1⟩) _ _⟩
theorem dl.sndRep {B:Nat}{e1 e2:TypeId}{s1 s2 n1 n2:Nat}{w:World}{v1 v2:Value}{r1 r2:List (List C)}(h:dl B e1 e2 s1 s2 w v1 v2 n1 n2 r1 r2):aH (fun b=>B≤b∧v1.ownBlock≠some b) w (.sl r2) v2:=by
 obtain⟨a,b,c,xs1,xs2,o1,o2,p1,h2⟩:=h;subst b;have h1':=o2;obtain⟨hx,h3 | ⟨g,cap,cur,h3,hB,hg,hn,hc,hs,ht⟩⟩:=o2
 ·obtain⟨rfl,h4⟩:=h3
  have:r2 = []:=List.length_eq_zero_iff.1 h4;subst this;unfold aH
  exact⟨none,0,rfl,Nat.le_refl _,by unfold maxLen;omega,.inl rfl⟩
 ·subst h3
  have hcl : ∀j u,xs2[j]?=some u→w.cell? ⟨g,j,none⟩=some u:=by
   intro j u hj;subst ht;simp only[World.cell?,hg];rw[List.getElem?_take] at hj
   split at hj
   ·simpa using hj
   ·cases hj
  unfold aH
  exact⟨_,cap,rfl,hn,hc,.inr ⟨g,0,rfl,⟨hB,fun e=>c g e rfl⟩,(Array.getElem?_eq_some_iff.1 hg).1,aS.rows r2 xs2 0 (h2.move (.weaken fun _ hb _=>⟨hb.1,hb.2.1⟩) _ _) (fun j u hj=>by simpa using hcl j u hj)⟩⟩
def pI:Oper:=⟨some 17,.move (.tmp 0),30,"laws.go:598",#[],none⟩
def pJ:Oper:=⟨some 18,.move (.tmp 5),3,"laws.go:598",#[],none⟩
def pK:Oper:=⟨some 19,.indexAddr 30 (.tmp 17) (.tmp 18),0,"laws.go:598",#[⟨0,.data⟩,⟨1,.data⟩],none⟩
def pL:Oper:=⟨some 20,.load 3 (.tmp 19),3,"laws.go:598",#[⟨2,.data⟩],none⟩
def pM:Oper:=⟨some 21,.move (.tmp 1),30,"laws.go:598",#[],none⟩
def pN:Oper:=⟨some 22,.move (.tmp 5),3,"laws.go:598",#[],none⟩
def pO:Oper:=⟨some 23,.indexAddr 30 (.tmp 21) (.tmp 22),0,"laws.go:598",#[⟨4,.data⟩,⟨5,.data⟩],none⟩
def pP:Oper:=⟨some 24,.load 3 (.tmp 23),3,"laws.go:598",#[⟨6,.data⟩],none⟩
def pQ:Oper:=⟨some 25,.binOp .neq 3 (.tmp 20) (.tmp 24) 3,4,"laws.go:598",#[⟨3,.data⟩,⟨7,.data⟩],none⟩
theorem uv (F G:Nat→Prop)(l:List Int)(a1 a2:Option Addr)(n ca cb:Nat)(w:World)(hn:l.length=n)(hn2:n≤1000000)(hy:cn F w l (.slice a1 n ca))(hz:cn G w l (.slice a2 n cb)) :
  Calls Tryz.prog 7 #[.slice a1 n ca,.slice a2 n cb] w fun e w'=>e = .returned (.bool true)∧Below w.heap.size w w':=by
 have HY:=zq hy;have HZ:=zq hz;have HN:=zq hn;clear hy hz hn
 go_enter Tryz.func7,Tryz.ntmps7
 go_wp2_with fail
 go_loopw [5] (fun s5 wr=>∃j:Nat,j≤n∧s5 = .int .i64 (j:Int)∧Hid (Below w.heap.size w wr)) (fun i _=>n-(intOf i).toNat)
 case atStart=>exact⟨0,by omega,rfl,zq (Below.refl _ _)⟩
 case round=>
  obtain⟨j,hj,rfl,hB⟩:=hrel
  by_cases hlt:j<n
  ·have hjl:j<l.length:=by rw[HN.out];exact hlt
   obtain⟨b,off,rfl,lb,e0⟩:=HY.out.at hB.out hjl;obtain⟨b2,off2,rfl,lb2,e1⟩:=HZ.out.at hB.out hjl;obtain⟨x,hx⟩ : ∃x,l[j]=x:=⟨_,rfl⟩
   rw[hx] at e0 e1;have hji:(j:Int)<(n:Int):=by omega
   have hj0:(0:Int)≤(j:Int):=by omega
   clear hx hjl
   go_wp2_with fail
   refine wp_region_noPanic ?_;refine wp_region_held_drew (S:=fun w'=>w'.cell? ⟨b,off+j,none⟩=some (.int .i64 x)∧w'.cell? ⟨b2,off2+j,none⟩=some (.int .i64 x)) (by kernel_rfl) ?_ (fun hH0=>?_)
   ·exact⟨e0,e1⟩
   obtain⟨U1,hU,hb,zU1a,zU1b⟩:=bD wr;rw[hU] at hH0 ⊢;replace e0:=ah hb e0;replace e1:=ah hb e1;replace hB:=zq (aj hB.out hb);(try simp only[World.size_alloc] at zU1a zU1b);clear hU hb;refine hwt 0 pI (.slice (some ⟨b,off,none⟩) n ca) hH0 ?_ ?_
   ·intro w' hSw;dsimp only[pI];go_simp
   try simp only[pI,hwA]
   refine hwt 1 pJ (.int .i64 (j:Int)) hH0 ?_ ?_
   ·intro w' hSw;dsimp only[pJ];go_simp
   try simp only[pJ,hwA]
   refine hwt 2 pK (.pointer (some ⟨b,off+j,none⟩)) hH0 ?_ ?_
   ·intro w' hSw;dsimp only[pK];go_simp
   try simp only[pK,hwA]
   refine hwt 3 pL (.int .i64 x) hH0 ?_ ?_
   ·intro w' hSw;dsimp only[pL];go_simp
   try simp only[pL,hwA]
   refine hwt 4 pM (.slice (some ⟨b2,off2,none⟩) n cb) hH0 ?_ ?_
   ·intro w' hSw;dsimp only[pM];go_simp
   try simp only[pM,hwA]
   refine hwt 5 pN (.int .i64 (j:Int)) hH0 ?_ ?_
   ·intro w' hSw;dsimp only[pN];go_simp
   try simp only[pN,hwA]
   refine hwt 6 pO (.pointer (some ⟨b2,off2+j,none⟩)) hH0 ?_ ?_
   ·intro w' hSw;dsimp only[pO];go_simp
   try simp only[pO,hwA]
   refine hwt 7 pP (.int .i64 x) hH0 ?_ ?_
   ·intro w' hSw;dsimp only[pP];go_simp
   try simp only[pP,hwA]
   refine hwt 8 pQ (.bool false) hH0 ?_ ?_
   ·intro w' hSw;dsimp only[pQ];go_simp
   try simp only[pQ,hwA]
   refine wpAnyH_done (by kernel_rfl) ?_ _;refine NoPanic.normal ?_;clear hH0
   go_wp2_with fail
   go_roundw
   case rel=>exact⟨j+1,by omega,by go_num,hB⟩
   case measure=>simp[intOf];omega
  ·go_wp2_with fail
   go_ret
   exact⟨rfl,hB.out⟩
end Go.Proofs.YtfahhonmiimmdaaGreat

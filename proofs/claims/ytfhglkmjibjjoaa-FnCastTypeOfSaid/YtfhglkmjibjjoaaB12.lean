/- A slice of rows that grows by append: the rows lie in a block of one's own, what they hold are readings. And what else its parts name. -/
import Derived.Test.YtfhglkmjibjjoaaB1
import Derived.Test.YtfhglkmjibjjoaaB11
set_option linter.unusedSimpArgs false
set_option linter.unusedVariables false
set_option maxRecDepth 100000
set_option maxHeartbeats 16000000
namespace Go.Proofs.Ytfhglkmjibjjoaa
open Go.RowKit
def aV (F:Nat->Prop)(w:World):List (List C)->List Value->Prop
 | [],xs=>xs = []
 | r::rs,xs=>∃ys rest,xs=ys++rest∧cn F w r ys∧aV F w rs rest
theorem aV.move {F G:Nat->Prop}{w w':World}(k:bU F G w w') : ∀(rs:List (List C)) (xs:List Value),aV F w rs xs->aV G w' rs xs
 | [],_,h=>h
 | r::rs,_,⟨ys,rest,h1,h2,h3⟩=>⟨ys,rest,h1,h2.move k,aV.move k rs rest h3⟩
theorem aV.append {F:Nat->Prop}{w:World} : ∀(rs us:List (List C)) (xs ys:List Value),aV F w rs xs->aV F w us ys->aV F w (rs++us) (xs++ys)
 | [],us,xs,ys,h,h'=>by
  have h0:xs = []:=h;subst h0;simpa using h'
 | r::rs,us,_,zs,⟨ys,rest,h1,h2,h3⟩,h'=>by
  subst h1
  exact⟨ys,rest++zs,by simp,h2,aV.append rs us rest zs h3 h'⟩
theorem aV.one {F:Nat->Prop}{w:World}{r:List C}{ys:List Value}(h:cn F w r ys):aV F w [r] ys:=⟨ys,[],by simp,h,rfl⟩
theorem cn.len {F:Nat->Prop}{w:World} : ∀ {r:List C} {ys:List Value},cn F w r ys->ys.length=r.length
 | [],_,h=>by
  have h0:_ = []:=h;rw[h0];rfl
 | c::cs,_,⟨z,zs,h1,h2,h3⟩=>by rw[h1,List.length_cons,List.length_cons,cn.len h3]
theorem cn.cellsAt {F:Nat->Prop}{w:World}{g:Nat} : ∀ {r:List C} {ys:List Value} {off:Nat},cn F w r ys->(∀j u,ys[j]?=some u->w.cell? ⟨g,off+j,none⟩=some u)->aP F w g off r
 | [],_,off,_,_=>by unfold aP;trivial
 | c::cs,_,off,⟨z,zs,h1,h2,h3⟩,hc=>by
  subst h1;unfold aP;refine⟨⟨z,hc 0 z rfl,h2⟩,cn.cellsAt h3 fun j u hj=>?_⟩;have:=hc (j+1) u (by simpa using hj);rw[show off+1+j=off+(j+1) from by omega];exact this
theorem aV.rows {F:Nat->Prop}{w:World}{g:Nat} : ∀(rs:List (List C)) (xs:List Value) (off:Nat),aV F w rs xs->(∀j u,xs[j]?=some u->w.cell? ⟨g,off+j,none⟩=some u)->bC F w g off rs
 | [],_,off,_,_=>by unfold bC;trivial
 | r::rs,_,off,⟨ys,rest,h1,h2,h3⟩,hc=>by
  subst h1;have hl:=h2.len;unfold bC;refine⟨cn.cellsAt h2 fun j u hj=>hc j u ?_,aV.rows rs rest _ h3 fun j u hj=>?_⟩
  ·have hlt:=(List.getElem?_eq_some_iff.1 hj).1
   rw[List.getElem?_append_left hlt];exact hj
  ·have:=hc (ys.length+j) u (by rw[List.getElem?_append_right (by omega)];simpa using hj)
   rw[<-hl,show off+ys.length+j=off+(ys.length+j) from by omega];exact this
def bR (B:Nat)(e:TypeId)(sz:Nat)(w:World)(v:Value)(n:Nat)(rows:List (List C)):Prop:=
 rows.length=n∧∃xs,w.ownsRow B e sz v n xs∧aV (fun b=>B<=b∧v.ownBlock≠some b) w rows xs
theorem bR.nil {B:Nat}{e:TypeId}{sz:Nat}{w:World}:bR B e sz w (.slice none 0 0) 0 []:=⟨rfl,[],World.ownsRow_nil w B e sz,rfl⟩
theorem bR.chg {r B:Nat}{e:TypeId}{sz n:Nat}{w w':World}{v:Value}{rows:List (List C)}(h:bR B e sz w v n rows)(k:Chg [r] w w')(hr:r<B):bR B e sz w' v n rows:=by
 obtain⟨hl,xs,h1,h2⟩:=h
 exact⟨hl,xs,ck h1 k hr,h2.move (k.keeps fun b hb=>by have:=hb.1;simp;omega) _ _⟩
theorem bR.below {B:Nat}{e:TypeId}{sz n:Nat}{w w':World}{v:Value}{rows:List (List C)}(h:bR B e sz w v n rows)(k:Below w.heap.size w w'):bR B e sz w' v n rows:=by
 obtain⟨hl,xs,h1,h2⟩:=h
 exact⟨hl,xs,bc h1 k,h2.move (.below k) _ _⟩
theorem bR.setCell {B:Nat}{e:TypeId}{sz n:Nat}{w:World}{v:Value}{rows:List (List C)}(h:bR B e sz w v n rows){p:Addr}(hp:p.block<B)(u:Value):bR B e sz (w.setCell p u) v n rows:=by
 obtain⟨hl,xs,h1,h2⟩:=h
 exact⟨hl,xs,ownsRow_setCell_below h1 hp u,h2.move ⟨by simp[World.setCell],fun _ h _=>h,fun b hb _=>Below.heap_setCell w p u b (by have:=hb.1;omega)⟩ _ _⟩
theorem bR.shape {B:Nat}{e:TypeId}{sz n:Nat}{w:World}{v:Value}{rows:List (List C)}(h:bR B e sz w v n rows) : ∃a q,v = .slice a n q:=by
 obtain⟨hl,xs,⟨h1,h2 | ⟨g,cap,cur,h2,hB,hg,hn,hc,hs,ht⟩⟩,-⟩:=h
 ·exact⟨none,0,by rw[h2.1,h2.2]⟩
 ·exact⟨_,cap,h2⟩
theorem bR.push {r B g cap n sz:Nat}{e:TypeId}{wr W w2:World}{v:Value}{rows:List (List C)}{xs ys:List Value}{rw':List C}(hl:rows.length=n)(ho:wr.ownsRow B e sz v n xs)(hv:aV (fun b=>B<=b∧v.ownBlock≠some b) wr rows xs)
  (hrB:r<B) (hb:Chg [r] wr W) (hr:cn (fun b=>wr.heap.size<=b) W rw' ys) (hB:B<=wr.heap.size)
  (hown:w2.ownsRow B e sz (.slice (some ⟨g,0,none⟩) (n+1) cap) (n+1) (xs++ys)) (hgrow:W.grownBy w2 v.ownBlock) (hat:v.ownBlock=some g∨g=W.heap.size) :
  bR B e sz w2 (.slice (some ⟨g,0,none⟩) (n+1) cap) (n+1) (rows ++ [rw']):=by
 have hlt : ∀b,v.ownBlock=some b->b<wr.heap.size:=fun b hb=>(ho.lt b hb).2;have kk:bU (fun b=>B<=b∧v.ownBlock≠some b) (fun b=>B<=b∧(Value.slice (some ⟨g,0,none⟩) (n+1) cap).ownBlock≠some b) W w2:=by
  refine⟨hgrow.size,fun b hb hl=>⟨hb.1,fun e=>?_⟩,fun b hb hl=>hgrow.block b hl (fun e=>hb.2 e.symm)⟩;simp only[Value.ownBlock,Option.some.injEq] at e;subst e
  rcases hat with h | h
  ·exact hb.2 h
  ·omega
 have k0:bU (fun b=>B<=b∧v.ownBlock≠some b) (fun b=>B<=b∧v.ownBlock≠some b) wr W:=hb.keeps fun b hb=>by have:=hb.1;simp;omega
 have k1:bU (fun b=>wr.heap.size<=b) (fun b=>B<=b∧v.ownBlock≠some b) W W:=.weaken fun b hb _=>⟨by omega,fun e=>by have:=hlt b e;omega⟩
 exact⟨by simp[hl],xs++ys,hown,aV.append rows [rw'] xs ys ((hv.move k0 _ _).move kk _ _) (aV.one ((hr.move k1).move kk))⟩
theorem bR.rep {B:Nat}{e:TypeId}{sz n:Nat}{w:World}{v:Value}{rows:List (List C)}(h:bR B e sz w v n rows):aL (B <= ·) w (.sl rows) v:=by
 obtain⟨hl,xs,h1,h2⟩:=h;subst hl;have h1':=h1;obtain⟨hx,h3 | ⟨g,cap,cur,h3,hB,hg,hn,hc,hs,ht⟩⟩:=h1
 ·obtain⟨rfl,h4⟩:=h3
  have:rows = []:=List.length_eq_zero_iff.1 h4;subst this;unfold aL
  exact⟨none,0,rfl,Nat.le_refl _,by unfold maxLen;omega,.inl rfl⟩
 ·subst h3
  have hcl : ∀j u,xs[j]?=some u->w.cell? ⟨g,j,none⟩=some u:=by
   intro j u hj;subst ht;simp only[World.cell?,hg];rw[List.getElem?_take] at hj
   split at hj
   ·simpa using hj
   ·cases hj
  unfold aL
  exact⟨_,cap,rfl,hn,hc,.inr ⟨g,0,rfl,hB,(Array.getElem?_eq_some_iff.1 hg).1,aV.rows rows xs 0 (h2.move (.weaken fun _ hb _=>hb.1) _ _) (fun j u hj=>by simpa using hcl j u hj)⟩⟩
mutual
def Ty.join:Ty->Ty->Ty
 | .mk k ts,.mk l us=>if k=l then .mk k (Ty.joins ts us) else .mk 1 []
def Ty.joins:List Ty->List Ty->List Ty
 | t::ts,u::us=>t.join u::Ty.joins ts us
 | _,_=> []
end
theorem eJ {α β γ:Type}(f:α->β->γ) : ∀(xs:List α) (ys:List β) (j:Nat) (h:j<xs.length) (h':j<ys.length),List.zipWith f (xs.take (j+1)) (ys.take (j+1))=List.zipWith f (xs.take j) (ys.take j) ++ [f xs[j] ys[j]]
 | [],_,_,h,_=>by simp at h
 | _::_,[],_,_,h=>by simp at h
 | x::xs,y::ys,0,_,_=>by simp
 | x::xs,y::ys,j+1,h,h'=>by simp only[List.take_succ_cons,List.zipWith_cons_cons,List.cons_append,List.getElem_cons_succ];rw[eJ f xs ys j (by simpa using h) (by simpa using h')]
inductive S where
 | zero | any | int | bool
 | fn (a b:S)
 | pr (a b:S)
deriving DecidableEq
def S.ty:S->Ty
 | .zero=>.mk 0 []
 | .any=>.mk 1 []
 | .int=>.mk 2 []
 | .bool=>.mk 3 []
 | .fn a b=>.mk 4 [a.ty,b.ty]
 | .pr a b=>.mk 5 [a.ty,b.ty]
def S.ok:S->Bool
 | .zero=>false
 | .any=>true
 | .int=>true
 | .bool=>true
 | .fn a b=>a.ok&&b.ok
 | .pr a b=>a.ok&&b.ok
def S.dep:S->Nat
 | .fn a b=>max a.dep b.dep+1
 | .pr a b=>max a.dep b.dep+1
 | _=>1
def S.vd (s:S):Bool:=s.ok&&decide (s.dep<=4)
def S.cnt:S->Nat
 | .fn a b=>a.cnt+b.cnt+2
 | .pr a b=>a.cnt+b.cnt+2
 | _=>0
theorem S.ty_cnt : ∀s:S,s.ty.cnt=s.cnt
 | .zero=>rfl
 | .any=>rfl
 | .int=>rfl
 | .bool=>rfl
 | .fn a b=>by simp[S.ty,Ty.cnt,Ty.cnts,S.cnt,a.ty_cnt,b.ty_cnt];omega
 | .pr a b=>by simp[S.ty,Ty.cnt,Ty.cnts,S.cnt,a.ty_cnt,b.ty_cnt];omega
theorem S.dep_pos : ∀s:S,1<=s.dep
 | .zero=>Nat.le_refl _
 | .any=>Nat.le_refl _
 | .int=>Nat.le_refl _
 | .bool=>Nat.le_refl _
 | .fn a b=>by unfold S.dep;omega
 | .pr a b=>by unfold S.dep;omega
theorem nF (a b:Nat)(d:Int)(h:1<=a):((max a b+1:Nat):Int)<=d↔(a:Int)<=d-1∧(b:Int)<=d-1:=by
 rcases Nat.le_total a b with h1 | h1
 ·rw[Nat.max_eq_right h1];omega
 ·rw[Nat.max_eq_left h1];omega
theorem S.shape : ∀(s:S) (d:Int),s.ty.shape d=(s.ok&&decide ((s.dep:Int)<=d))
 | .zero,d=>by simp[S.ty,Ty.shape,S.ok,bK]
 | .any,d=>by simp[S.ty,Ty.shape,Ty.shapes,S.ok,S.dep,bK];rfl
 | .int,d=>by simp[S.ty,Ty.shape,Ty.shapes,S.ok,S.dep,bK];rfl
 | .bool,d=>by simp[S.ty,Ty.shape,Ty.shapes,S.ok,S.dep,bK];rfl
 | .fn a b,d=>by
  simp only[S.ty,Ty.shape,Ty.shapes,S.ok,S.dep,a.shape,b.shape];have ha:=a.dep_pos;rw[Bool.eq_iff_iff];simp only[Bool.and_eq_true,decide_eq_true_eq,nF _ _ _ ha]
  simp[bK]
  constructor
  ·rintro ⟨h1,⟨h2,h3⟩,h4,h5⟩;exact⟨⟨h2,h4⟩,h3,h5⟩
  ·rintro ⟨⟨h2,h4⟩,h3,h5⟩;exact⟨by omega,⟨h2,h3⟩,h4,h5⟩
 | .pr a b,d=>by
  simp only[S.ty,Ty.shape,Ty.shapes,S.ok,S.dep,a.shape,b.shape];have ha:=a.dep_pos;rw[Bool.eq_iff_iff];simp only[Bool.and_eq_true,decide_eq_true_eq,nF _ _ _ ha]
  simp[bK]
  constructor
  ·rintro ⟨h1,⟨h2,h3⟩,h4,h5⟩;exact⟨⟨h2,h4⟩,h3,h5⟩
  ·rintro ⟨⟨h2,h4⟩,h3,h5⟩;exact⟨by omega,⟨h2,h3⟩,h4,h5⟩
theorem S.valid (s:S):s.ty.valid=s.vd:=by
 unfold Ty.valid S.vd;rw[S.shape]
 congr 1
 rw[Bool.eq_iff_iff];simp;omega
theorem Ty.shape_S : ∀(t:Ty) (d:Int),t.shape d=true->∃s:S,t=s.ty
 | .mk k ts,d,h=>by
  obtain⟨h1,h2,h3⟩:=Ty.shape_mk h;unfold bK at h2
  split at h2
  ·rename_i hk
   obtain rfl:ts = []:=List.eq_nil_of_length_eq_zero (by omega)
   rcases hk with rfl | rfl | rfl
   ·exact⟨.any,rfl⟩
   ·exact⟨.int,rfl⟩
   ·exact⟨.bool,rfl⟩
  ·split at h2
   ·rename_i hk
    match ts,h2,h3 with
    | [a,b],_,h3=>
     obtain⟨x,hx⟩:=Ty.shape_S a (d-1) (Ty.shapes_mem h3 (by simp));obtain⟨y,hy⟩:=Ty.shape_S b (d-1) (Ty.shapes_mem h3 (by simp));subst hx hy
     rcases hk with rfl | rfl
     ·exact⟨.fn x y,rfl⟩
     ·exact⟨.pr x y,rfl⟩
   ·omega
theorem Ty.valid_S {t:Ty}(h:t.valid=true) : ∃s:S,t=s.ty∧s.vd=true:=by
 obtain⟨s,rfl⟩:=Ty.shape_S t 4 h
 exact⟨s,rfl,by rw[<-S.valid];exact h⟩
theorem S.vd_ok {s:S}(h:s.vd=true):s.ok=true:=by unfold S.vd at h;simp at h;exact h.1
theorem S.vd_dep {s:S}(h:s.vd=true):s.dep<=4:=by unfold S.vd at h;simp at h;exact h.2
theorem S.vd_mk {s:S}(h:s.ok=true)(h2:s.dep<=4):s.vd=true:=by unfold S.vd;simp[h,h2]
theorem S.ty_inj : ∀ {s u:S},s.ty=u.ty->s=u
 | .zero,u,h=>by cases u<;>simp[S.ty] at h ⊢
 | .any,u,h=>by cases u<;>simp[S.ty] at h ⊢
 | .int,u,h=>by cases u<;>simp[S.ty] at h ⊢
 | .bool,u,h=>by cases u<;>simp[S.ty] at h ⊢
 | .fn a b,u,h=>by
  cases u<;>simp[S.ty] at h ⊢
  exact⟨S.ty_inj h.1,S.ty_inj h.2⟩
 | .pr a b,u,h=>by
  cases u<;>simp[S.ty] at h ⊢
  exact⟨S.ty_inj h.1,S.ty_inj h.2⟩
mutual
theorem Ty.same_eq : ∀ {t u:Ty},t.same u=true->t=u
 | .mk k ts,.mk l us,h=>by
  unfold Ty.same at h
  simp at h
  rw[h.1,Ty.sames_eq h.2]
theorem Ty.sames_eq : ∀ {ts us:List Ty},Ty.sames ts us=true->ts=us
 | [],[],_=>rfl
 | [],_::_,h=>by unfold Ty.sames at h;cases h
 | _::_,[],h=>by unfold Ty.sames at h;cases h
 | t::ts,u::us,h=>by
  unfold Ty.sames at h
  simp at h
  rw[Ty.same_eq h.1,Ty.sames_eq h.2]
end
theorem Ty.same_iff {t u:Ty}:t.same u=true↔t=u:=⟨Ty.same_eq,fun h=>h▸Ty.same_refl t⟩
theorem S.same (s u:S):s.ty.same u.ty=decide (s=u):=by
 rw[Bool.eq_iff_iff,Ty.same_iff]
 simp
 exact⟨S.ty_inj,fun h=>h▸rfl⟩
def S.kind:S->Int
 | .zero=>0 | .any=>1 | .int=>2 | .bool=>3 | .fn _ _=>4 | .pr _ _=>5
def S.cons:S->S->Bool
 | .any,_=>true
 | _,.any=>true
 | .zero,.zero=>true
 | .int,.int=>true
 | .bool,.bool=>true
 | .fn a b,.fn c d=>a.cons c&&b.cons d
 | .pr a b,.pr c d=>a.cons c&&b.cons d
 | _,_=>false
def S.meet:S->S->S
 | .any,u=>u
 | .fn a b,.fn c d=>.fn (a.meet c) (b.meet d)
 | .pr a b,.pr c d=>.pr (a.meet c) (b.meet d)
 | s,_=>s
def S.join:S->S->S
 | .zero,.zero=>.zero
 | .int,.int=>.int
 | .bool,.bool=>.bool
 | .fn a b,.fn c d=>.fn (a.join c) (b.join d)
 | .pr a b,.pr c d=>.pr (a.join c) (b.join d)
 | _,_=>.any
theorem S.ty_cons : ∀(s u:S),s.ty.cons u.ty=s.cons u
 | .fn a b,.fn c d=>by have h1:=S.ty_cons a c;have h2:=S.ty_cons b d;simp[S.ty,Ty.cons,Ty.conss,S.cons,h1,h2]
 | .pr a b,.pr c d=>by have h1:=S.ty_cons a c;have h2:=S.ty_cons b d;simp[S.ty,Ty.cons,Ty.conss,S.cons,h1,h2]
 | .fn a b,.pr c d=>by simp[S.ty,Ty.cons,S.cons]
 | .pr a b,.fn c d=>by simp[S.ty,Ty.cons,S.cons]
 | .zero,u=>by cases u<;>simp[S.ty,Ty.cons,Ty.conss,S.cons]
 | .any,u=>by cases u<;>simp[S.ty,Ty.cons,Ty.conss,S.cons]
 | .int,u=>by cases u<;>simp[S.ty,Ty.cons,Ty.conss,S.cons]
 | .bool,u=>by cases u<;>simp[S.ty,Ty.cons,Ty.conss,S.cons]
 | .fn a b,.zero=>by simp[S.ty,Ty.cons,S.cons]
 | .fn a b,.any=>by simp[S.ty,Ty.cons,S.cons]
 | .fn a b,.int=>by simp[S.ty,Ty.cons,S.cons]
 | .fn a b,.bool=>by simp[S.ty,Ty.cons,S.cons]
 | .pr a b,.zero=>by simp[S.ty,Ty.cons,S.cons]
 | .pr a b,.any=>by simp[S.ty,Ty.cons,S.cons]
 | .pr a b,.int=>by simp[S.ty,Ty.cons,S.cons]
 | .pr a b,.bool=>by simp[S.ty,Ty.cons,S.cons]
theorem S.cons_refl : ∀s:S,s.cons s=true
 | .zero=>rfl
 | .any=>rfl
 | .int=>rfl
 | .bool=>rfl
 | .fn a b=>by simp[S.cons,a.cons_refl,b.cons_refl]
 | .pr a b=>by simp[S.cons,a.cons_refl,b.cons_refl]
theorem S.any_cons (s:S):S.any.cons s=true:=by cases s<;>rfl
theorem S.any_meet (s:S):S.any.meet s=s:=by cases s<;>rfl
theorem S.meet_self : ∀s:S,s.meet s=s
 | .zero=>rfl
 | .any=>rfl
 | .int=>rfl
 | .bool=>rfl
 | .fn a b=>by simp[S.meet,a.meet_self,b.meet_self]
 | .pr a b=>by simp[S.meet,a.meet_self,b.meet_self]
theorem ai.all {F:Nat->Prop}{w:World}{t:Ty}{y:Value}(h:ai F w t y):ai (fun _=>True) w t y:=h.move (.weaken fun _ _ _=>trivial)
theorem ai.zero {F:Nat->Prop}{w:World}:ai F w Ty.none (.agg #[.int .i64 0,.slice none 0 0]):=by
 refine⟨_,rfl,?_⟩;unfold av Ty.none Ty.kids Ty.rows aL
 exact⟨none,0,rfl,Nat.le_refl _,by unfold maxLen;omega,.inl rfl⟩
def bZ (B:Nat)(w:World)(t u:Ty)(y z:Value):Prop:=∃f g,cb w t y f∧cb w u z g∧(f++g).Nodup∧∀b∈f++g,B<=b
theorem cb.setCell {w:World}{t:Ty}{y:Value}{f:List Nat}(h:cb w t y f){p:Addr}(hp : ∀b∈f,b≠p.block)(v:Value):cb (w.setCell p v) t y f:=by
 obtain⟨s,hs,h1⟩:=h
 exact⟨s,hs,aQ.move _ _ _ (fun b hb=>Below.heap_setCell w p v b (hp b hb)) h1⟩
theorem bZ.below {B:Nat}{w w':World}{t u:Ty}{y z:Value}(h:bZ B w t u y z)(k:Below w.heap.size w w'):bZ B w' t u y z:=
 let ⟨f,g,h1,h2,h3,h4⟩:=h;⟨f,g,h1.below k,h2.below k,h3,h4⟩
theorem bZ.setCell {B:Nat}{w:World}{t u:Ty}{y z:Value}(h:bZ B w t u y z){p:Addr}(hp:p.block<B)(v:Value):bZ B (w.setCell p v) t u y z:=by
 obtain⟨f,g,h1,h2,h3,h4⟩:=h
 exact⟨f,g,h1.setCell (fun b hb e=>by have:=h4 b (by simp[hb]);omega) v,h2.setCell (fun b hb e=>by have:=h4 b (by simp[hb]);omega) v,h3,h4⟩
theorem bZ.mono {B B':Nat}{w:World}{t u:Ty}{y z:Value}(h:bZ B w t u y z)(hB:B'<=B):bZ B' w t u y z:=
 let ⟨f,g,h1,h2,h3,h4⟩:=h;⟨f,g,h1,h2,h3,fun b hb=>Nat.le_trans hB (h4 b hb)⟩
theorem bZ.zero {B:Nat}{w:World}:bZ B w Ty.none Ty.none (.agg #[.int .i64 0,.slice none 0 0]) (.agg #[.int .i64 0,.slice none 0 0]):=by
 refine⟨[],[],⟨_,rfl,?_⟩,⟨_,rfl,?_⟩,List.nodup_nil,by simp⟩<;>exact aQ.sl_nil (by unfold maxLen;omega)
theorem bZ.shape {B:Nat}{w:World}{t u:Ty}{y z:Value}(h:bZ B w t u y z) : ∃k a n q l c m r,y = .agg #[.int .i64 k,.slice a n q]∧z = .agg #[.int .i64 l,.slice c m r]:=by
 obtain⟨f,g,h1,h2,-,-⟩:=h;obtain⟨k,a,n,q,rfl,-⟩:=h1.shape;obtain⟨l,c,m,r,rfl,-⟩:=h2.shape
 exact⟨k,a,n,q,l,c,m,r,rfl,rfl⟩
theorem bZ.mk {B:Nat}{w1 w2:World}{t u:Ty}{y z:Value}(h1:bp B w1 t y)(hB:B<=w1.heap.size)(hb:Below w1.heap.size w1 w2)(h2:bp w1.heap.size w2 u z):bZ B w2 t u y z:=by
 obtain⟨f,o1,d1,l1⟩:=h1;obtain⟨g,o2,d2,l2⟩:=h2;have hl : ∀b∈f,b<w1.heap.size:=by
  obtain⟨s,rfl,h⟩:=o1
  exact aQ.lt _ _ _ h
 refine⟨f,g,o1.below hb,o2,List.nodup_append.2 ⟨d1,d2,fun x hx y hy e=>by have:=hl x hx;have:=l2 y hy;omega⟩,fun b hb=>?_⟩
 rcases List.mem_append.1 hb with hb | hb
 ·exact l1 b hb
 ·have:=l2 b hb;omega
def gU (t u:Ty)(b:Bool)(w:World)(e:Ending)(w':World):Prop:=∃y z,e = .returned (.tuple #[y,z,.bool b])∧bZ w.heap.size w' t u y z∧Below w.heap.size w w'
theorem av.two {F:Nat->Prop}{w:World}{t u:Ty}{y:Value}(h:av F w [t,u] y) :
  ∃b off cap k1 c1 m1 q1 k2 c2 m2 q2,y = .slice (some ⟨b,off,none⟩) 2 cap∧2<=cap∧cap<=maxLen∧b<w.heap.size ∧
   w.cell? ⟨b,off,none⟩=some (.int .i64 k1)∧w.cell? ⟨b,off+1,none⟩=some (.slice c1 m1 q1)∧w.cell? ⟨b,off+2,none⟩=some (.int .i64 k2)∧w.cell? ⟨b,off+3,none⟩=some (.slice c2 m2 q2) ∧
   ai F w t (.agg #[.int .i64 k1,.slice c1 m1 q1])∧ai F w u (.agg #[.int .i64 k2,.slice c2 m2 q2]):=by
 obtain⟨a,cap,rfl,h2,h3,hg⟩:=h.open;obtain⟨b,off,k1,c1,m1,q1,rfl,e0,e1,ht⟩:=hg 0 (by simp);obtain⟨b',off',k2,c2,m2,q2,he,e2,e3,hu⟩:=hg 1 (by simp);simp only[Option.some.injEq,Addr.mk.injEq,and_true] at he;obtain⟨rfl,rfl⟩:=he
 exact⟨b,off,cap,k1,c1,m1,q1,k2,c2,m2,q2,rfl,by simpa using h2,h3,World.block_lt_of_cell? w _ e0,by simpa using e0,by simpa using e1,by simpa using e2,by simpa using e3,ht,hu⟩
def S.mat (k:Int):S->S × S × Bool
 | .any=>(.any,.any,true)
 | .fn a b=>if k=4 then (a,b,true) else (.zero,.zero,false)
 | .pr a b=>if k=5 then (a,b,true) else (.zero,.zero,false)
 | _=>(.zero,.zero,false)
theorem cr {w:World}{B:Nat}{e:TypeId}{size n q g i:Nat}{xs:List Value}{u:Value}(h:w.ownsRow B e size (.slice (some ⟨g,0,none⟩) n q) n xs)(hi:i<n*size):(w.setCell ⟨g,i,none⟩ u).ownsRow B e size (.slice (some ⟨g,0,none⟩) n q) n (xs.set i u):=by
 obtain⟨h1,h2 | ⟨g',cap,cur,h2,hB,hg,hn,hc,hs,ht⟩⟩:=h
 ·exact absurd h2.1 (by simp)
 ·simp only[Value.slice.injEq,Option.some.injEq,Addr.mk.injEq,and_true] at h2
  obtain⟨rfl,-,rfl⟩:=h2;refine⟨by rw[List.length_set];exact h1,.inr ⟨g,q,_,rfl,hB,cR hg,hn,hc,by simpa using hs,?_⟩⟩;subst ht
  simp[List.take_set]
theorem bR.cell {B g n q sz o:Nat}{e:TypeId}{w:World}{rows:List (List C)}(h:bR B e sz w (.slice (some ⟨g,0,none⟩) n q) n rows)(ho:o<n*sz):(∃u,w.cell? ⟨g,o,none⟩=some u)∧w.frozen? ⟨g,o,none⟩=false:=by
 obtain⟨hl,xs,⟨h1,h2 | ⟨g',cap,cur,h2,hB,hg,hn,hc,hs,ht⟩⟩,-⟩:=h
 ·simp at h2
 ·simp only[Value.slice.injEq,Option.some.injEq,Addr.mk.injEq,and_true] at h2
  obtain⟨rfl,-,rfl⟩:=h2;have hlt:o<cur.size:=by
   have:n*sz<=q*sz:=Nat.mul_le_mul_right _ hn
   omega
  exact⟨⟨cur[o],by simp[World.cell?,hg,hlt]⟩,by simp[World.frozen?,hg]⟩
theorem bR.form {B n sz:Nat}{e:TypeId}{w:World}{v:Value}{rows:List (List C)}(h:bR B e sz w v n rows)(hn:0<n) : ∃g q,v = .slice (some ⟨g,0,none⟩) n q∧B<=g∧g<w.heap.size∧n<=q∧q<=maxLen:=by
 obtain⟨hl,xs,⟨h1,h2 | ⟨g',cap,cur,h2,hB,hg,hn',hc,hs,ht⟩⟩,-⟩:=h
 ·omega
 ·exact⟨g',cap,h2,hB,aw hg,hn',hc⟩
end Go.Proofs.Ytfhglkmjibjjoaa

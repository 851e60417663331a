/- A block of cells as one fact. And what else its parts name. -/
import Derived.Test.YtfahhonmiimmdaaGreatB9
set_option linter.unusedSimpArgs false
set_option linter.unusedVariables false
set_option maxRecDepth 100000
set_option maxHeartbeats 16000000
namespace Go.Proofs.YtfahhonmiimmdaaGreat
open Go.RowKit
theorem ag {w:World}{b o:Nat}{cs:Array Value}{T:TypeId}{fr:Nat × Nat}{v:Value}(h:w.heap[b]?=some (.cells cs T fr))(hv:cs[o]?=some v):w.cell? ⟨b,o,none⟩=some v:=by
 simp only[World.cell?,h]
 simpa using hv
theorem al {w:World}{b:Nat}{cs:Array Value}{T:TypeId}(h:w.heap[b]?=some (.cells cs T (0,0)))(o:Nat):w.frozen? ⟨b,o,none⟩=false:=by
 simp[World.frozen?,h]
theorem aC {w:World}{b:Nat}{x:Obj}(h:w.heap[b]?=some x):b<w.heap.size:=(Array.getElem?_eq_some_iff.1 h).1
theorem aB {w:World}{b:Nat}{o:Obj}(hb:w.heap.size=b):(w.alloc o).heap[b]?=some o:=by subst hb;exact heap_alloc_new w o
theorem af {w w':World}{b:Nat}{x:Obj}(h:w.heap[b]?=some x)(k:Below w.heap.size w w'):w'.heap[b]?=some x:=(k.block b (aC h)).trans h
theorem aw {r:Nat}{w w':World}{b:Nat}{x:Obj}(h:w.heap[b]?=some x)(k:Chg [r] w w')(hn:b≠r:=by omega):w'.heap[b]?=some x:=(k.block b (aC h) (by simpa using hn)).trans h
theorem cy {w:World}{b:Nat}{x:Obj}{p:Addr}{v:Value}(h:w.heap[b]?=some x)(hn:b≠p.block):(w.setCell p v).heap[b]?=some x:=(Below.heap_setCell w p v b hn).trans h
theorem aI {w:World}{b o:Nat}{cs cs':Array Value}{T:TypeId}{fr:Nat × Nat}{v:Value}(h:w.heap[b]?=some (.cells cs T fr))(e:cs.setIfInBounds o v=cs'):(w.setCell ⟨b,o,none⟩ v).heap[b]?=some (.cells cs' T fr):=by
 subst e;exact cz h
theorem blk9 {w:World}{b:Nat}{a0 a1 a2 a3 a4 a5 a6 a7 a8:Value}{T:TypeId}(h:w.heap[b]?=some (.cells #[a0,a1,a2,a3,a4,a5,a6,a7,a8] T (0,0))):w.cell? ⟨b,0,none⟩=some a0∧w.cell? ⟨b,1,none⟩=some a1∧w.cell? ⟨b,2,none⟩=some a2∧w.cell? ⟨b,3,none⟩=some a3∧w.cell? ⟨b,4,none⟩=some a4∧w.cell? ⟨b,5,none⟩=some a5∧w.cell? ⟨b,6,none⟩=some a6∧w.cell? ⟨b,7,none⟩=some a7∧w.cell? ⟨b,8,none⟩=some a8:=
 ⟨(ag h rfl),ag h rfl,ag h rfl,ag h rfl,ag h rfl,ag h rfl,ag h rfl,ag h rfl,ag h rfl⟩
theorem blk9r {w:World}{b:Nat}{a0 a1 a2 a3 a4 a5 a6 a7 a8:Value}{T:TypeId}{R:Prop}(h:w.heap[b]?=some (.cells #[a0,a1,a2,a3,a4,a5,a6,a7,a8] T (0,0)))(r:R):w.cell? ⟨b,0,none⟩=some a0∧w.cell? ⟨b,1,none⟩=some a1∧w.cell? ⟨b,2,none⟩=some a2∧w.cell? ⟨b,3,none⟩=some a3∧w.cell? ⟨b,4,none⟩=some a4∧w.cell? ⟨b,5,none⟩=some a5∧w.cell? ⟨b,6,none⟩=some a6∧w.cell? ⟨b,7,none⟩=some a7∧w.cell? ⟨b,8,none⟩=some a8∧R:=
 ⟨(ag h rfl),ag h rfl,ag h rfl,ag h rfl,ag h rfl,ag h rfl,ag h rfl,ag h rfl,ag h rfl,r⟩
theorem blk9f {w:World}{b:Nat}{a0 a1 a2 a3 a4 a5 a6 a7 a8:Value}{T:TypeId}(h:w.heap[b]?=some (.cells #[a0,a1,a2,a3,a4,a5,a6,a7,a8] T (0,0))):w.cell? ⟨b,0,none⟩=some a0∧w.frozen? ⟨b,0,none⟩=false∧w.cell? ⟨b,1,none⟩=some a1∧w.frozen? ⟨b,1,none⟩=false∧w.cell? ⟨b,2,none⟩=some a2∧w.frozen? ⟨b,2,none⟩=false∧w.cell? ⟨b,3,none⟩=some a3∧w.frozen? ⟨b,3,none⟩=false∧w.cell? ⟨b,4,none⟩=some a4∧w.frozen? ⟨b,4,none⟩=false∧w.cell? ⟨b,5,none⟩=some a5∧w.frozen? ⟨b,5,none⟩=false∧w.cell? ⟨b,6,none⟩=some a6∧w.frozen? ⟨b,6,none⟩=false∧w.cell? ⟨b,7,none⟩=some a7∧w.frozen? ⟨b,7,none⟩=false∧w.cell? ⟨b,8,none⟩=some a8∧w.frozen? ⟨b,8,none⟩=false:=
 ⟨ag h rfl,al h 0,ag h rfl,al h 1,ag h rfl,al h 2,ag h rfl,al h 3,ag h rfl,al h 4,ag h rfl,al h 5,ag h rfl,al h 6,ag h rfl,al h 7,ag h rfl,al h 8⟩
theorem blk2 {w:World}{b:Nat}{a0 a1:Value}{T:TypeId}(h:w.heap[b]?=some (.cells #[a0,a1] T (0,0))):w.cell? ⟨b,0,none⟩=some a0∧w.cell? ⟨b,1,none⟩=some a1:=⟨ag h rfl,ag h rfl⟩
theorem zqb {fp:List Nat}{w W X:World}(h:Hid (Chg fp w W))(k:Below W.heap.size W X):Hid (Chg fp w X):=zq (Chg.trans h.out (Chg.of_below k))
theorem zqc {fp:List Nat}{w W X:World}(h:Hid (Chg fp w W))(k:Chg fp W X):Hid (Chg fp w X):=zq (Chg.trans h.out k)
inductive S where
 | zero | any | int | bool
 | fn (a b:S)
 | pr (a b:S)
deriving DecidableEq
def S.ty:S→Ty
 | .zero=>.mk 0 []
 | .any=>.mk 1 []
 | .int=>.mk 2 []
 | .bool=>.mk 3 []
 | .fn a b=>.mk 4 [a.ty,b.ty]
 | .pr a b=>.mk 5 [a.ty,b.ty]
def S.ok:S→Bool
 | .zero=>false
 | .any=>true
 | .int=>true
 | .bool=>true
 | .fn a b=>a.ok&&b.ok
 | .pr a b=>a.ok&&b.ok
def S.dep:S→Nat
 | .fn a b=>max a.dep b.dep+1
 | .pr a b=>max a.dep b.dep+1
 | _=>1
def S.vd (s:S):Bool:=s.ok&&decide (s.dep≤4)
def S.cnt:S→Nat
 | .fn a b=>a.cnt+b.cnt+2
 | .pr a b=>a.cnt+b.cnt+2
 | _=>0
theorem S.ty_cnt : ∀s:S,s.ty.cnt=s.cnt
 | .zero=>rfl
 | .any=>rfl
 | .int=>rfl
 | .bool=>rfl
 | .fn a b=>by simp[S.ty,Ty.cnt,Ty.cnts,S.cnt,a.ty_cnt,b.ty_cnt];omega
 | .pr a b=>by simp[S.ty,Ty.cnt,Ty.cnts,S.cnt,a.ty_cnt,b.ty_cnt];omega
theorem S.dep_pos : ∀s:S,1≤s.dep
 | .zero=>Nat.le_refl _
 | .any=>Nat.le_refl _
 | .int=>Nat.le_refl _
 | .bool=>Nat.le_refl _
 | .fn a b=>by unfold S.dep;omega
 | .pr a b=>by unfold S.dep;omega
theorem uh (a b:Nat)(d:Int)(h:1≤a):((max a b+1:Nat):Int)≤d↔(a:Int)≤d-1∧(b:Int)≤d-1:=by
 rcases Nat.le_total a b with h1 | h1
 ·rw[Nat.max_eq_right h1];omega
 ·rw[Nat.max_eq_left h1];omega
theorem S.shape : ∀(s:S) (d:Int),s.ty.shape d=(s.ok&&decide ((s.dep:Int)≤d))
 | .zero,d=>by simp[S.ty,Ty.shape,S.ok,bx]
 | .any,d=>by simp[S.ty,Ty.shape,Ty.shapes,S.ok,S.dep,bx];rfl
 | .int,d=>by simp[S.ty,Ty.shape,Ty.shapes,S.ok,S.dep,bx];rfl
 | .bool,d=>by simp[S.ty,Ty.shape,Ty.shapes,S.ok,S.dep,bx];rfl
 | .fn a b,d=>by
  simp only[S.ty,Ty.shape,Ty.shapes,S.ok,S.dep,a.shape,b.shape];have ha:=a.dep_pos;rw[Bool.eq_iff_iff];simp only[Bool.and_eq_true,decide_eq_true_eq,uh _ _ _ ha]
  simp[bx]
  constructor
  ·rintro ⟨h1,⟨h2,h3⟩,h4,h5⟩;exact⟨⟨h2,h4⟩,h3,h5⟩
  ·rintro ⟨⟨h2,h4⟩,h3,h5⟩;exact⟨by omega,⟨h2,h3⟩,h4,h5⟩
 | .pr a b,d=>by
  simp only[S.ty,Ty.shape,Ty.shapes,S.ok,S.dep,a.shape,b.shape];have ha:=a.dep_pos;rw[Bool.eq_iff_iff];simp only[Bool.and_eq_true,decide_eq_true_eq,uh _ _ _ ha]
  simp[bx]
  constructor
  ·rintro ⟨h1,⟨h2,h3⟩,h4,h5⟩;exact⟨⟨h2,h4⟩,h3,h5⟩
  ·rintro ⟨⟨h2,h4⟩,h3,h5⟩;exact⟨by omega,⟨h2,h3⟩,h4,h5⟩
theorem S.valid (s:S):s.ty.valid=s.vd:=by
 unfold Ty.valid S.vd;rw[S.shape]
 congr 1
 rw[Bool.eq_iff_iff];simp;omega
theorem Ty.shape_S : ∀(t:Ty) (d:Int),t.shape d=true→∃s:S,t=s.ty
 | .mk k ts,d,h=>by
  obtain⟨h1,h2,h3⟩:=Ty.shape_mk h;unfold bx at h2
  split at h2
  ·rename_i hk
   obtain rfl:ts = []:=List.eq_nil_of_length_eq_zero (by omega)
   rcases hk with rfl | rfl | rfl
   ·exact⟨.any,rfl⟩
   ·exact⟨.int,rfl⟩
   ·exact⟨.bool,rfl⟩
  ·split at h2
   ·rename_i hk
    match ts,h2,h3 with
    | [a,b],_,h3=>
     obtain⟨x,hx⟩:=Ty.shape_S a (d-1) (Ty.shapes_mem h3 (by simp));obtain⟨y,hy⟩:=Ty.shape_S b (d-1) (Ty.shapes_mem h3 (by simp));subst hx hy
     rcases hk with rfl | rfl
     ·exact⟨.fn x y,rfl⟩
     ·exact⟨.pr x y,rfl⟩
   ·omega
theorem Ty.valid_S {t:Ty}(h:t.valid=true) : ∃s:S,t=s.ty∧s.vd=true:=by
 obtain⟨s,rfl⟩:=Ty.shape_S t 4 h
 exact⟨s,rfl,by rw[←S.valid];exact h⟩
theorem S.vd_ok {s:S}(h:s.vd=true):s.ok=true:=by unfold S.vd at h;simp at h;exact h.1
theorem S.vd_dep {s:S}(h:s.vd=true):s.dep≤4:=by unfold S.vd at h;simp at h;exact h.2
theorem S.vd_mk {s:S}(h:s.ok=true)(h2:s.dep≤4):s.vd=true:=by unfold S.vd;simp[h,h2]
theorem S.ty_inj : ∀ {s u:S},s.ty=u.ty→s=u
 | .zero,u,h=>by cases u<;>simp[S.ty] at h ⊢
 | .any,u,h=>by cases u<;>simp[S.ty] at h ⊢
 | .int,u,h=>by cases u<;>simp[S.ty] at h ⊢
 | .bool,u,h=>by cases u<;>simp[S.ty] at h ⊢
 | .fn a b,u,h=>by
  cases u<;>simp[S.ty] at h ⊢
  exact⟨S.ty_inj h.1,S.ty_inj h.2⟩
 | .pr a b,u,h=>by
  cases u<;>simp[S.ty] at h ⊢
  exact⟨S.ty_inj h.1,S.ty_inj h.2⟩
mutual
theorem Ty.same_eq : ∀ {t u:Ty},t.same u=true→t=u
 | .mk k ts,.mk l us,h=>by
  unfold Ty.same at h
  simp at h
  rw[h.1,Ty.sames_eq h.2]
theorem Ty.sames_eq : ∀ {ts us:List Ty},Ty.sames ts us=true→ts=us
 | [],[],_=>rfl
 | [],_ :: _,h=>by unfold Ty.sames at h;cases h
 | _ :: _,[],h=>by unfold Ty.sames at h;cases h
 | t :: ts,u :: us,h=>by
  unfold Ty.sames at h
  simp at h
  rw[Ty.same_eq h.1,Ty.sames_eq h.2]
end
theorem Ty.same_iff {t u:Ty}:t.same u=true↔t=u:=⟨Ty.same_eq,fun h=>h▸Ty.same_refl t⟩
theorem S.same (s u:S):s.ty.same u.ty=decide (s=u):=by
 rw[Bool.eq_iff_iff,Ty.same_iff]
 simp
 exact⟨S.ty_inj,fun h=>h▸rfl⟩
def S.kind:S→Int
 | .zero=>0 | .any=>1 | .int=>2 | .bool=>3 | .fn _ _=>4 | .pr _ _=>5
def S.cons:S→S→Bool
 | .any,_=>true
 | _,.any=>true
 | .zero,.zero=>true
 | .int,.int=>true
 | .bool,.bool=>true
 | .fn a b,.fn c d=>a.cons c&&b.cons d
 | .pr a b,.pr c d=>a.cons c&&b.cons d
 | _,_=>false
def S.meet:S→S→S
 | .any,u=>u
 | .fn a b,.fn c d=>.fn (a.meet c) (b.meet d)
 | .pr a b,.pr c d=>.pr (a.meet c) (b.meet d)
 | s,_=>s
def S.join:S→S→S
 | .zero,.zero=>.zero
 | .int,.int=>.int
 | .bool,.bool=>.bool
 | .fn a b,.fn c d=>.fn (a.join c) (b.join d)
 | .pr a b,.pr c d=>.pr (a.join c) (b.join d)
 | _,_=>.any
theorem S.ty_cons : ∀(s u:S),s.ty.cons u.ty=s.cons u
 | .fn a b,.fn c d=>by have h1:=S.ty_cons a c;have h2:=S.ty_cons b d;simp[S.ty,Ty.cons,Ty.conss,S.cons,h1,h2]
 | .pr a b,.pr c d=>by have h1:=S.ty_cons a c;have h2:=S.ty_cons b d;simp[S.ty,Ty.cons,Ty.conss,S.cons,h1,h2]
 | .fn a b,.pr c d=>by simp[S.ty,Ty.cons,S.cons]
 | .pr a b,.fn c d=>by simp[S.ty,Ty.cons,S.cons]
 | .zero,u=>by cases u<;>simp[S.ty,Ty.cons,Ty.conss,S.cons]
 | .any,u=>by cases u<;>simp[S.ty,Ty.cons,Ty.conss,S.cons]
 | .int,u=>by cases u<;>simp[S.ty,Ty.cons,Ty.conss,S.cons]
 | .bool,u=>by cases u<;>simp[S.ty,Ty.cons,Ty.conss,S.cons]
 | .fn a b,.zero=>by simp[S.ty,Ty.cons,S.cons]
 | .fn a b,.any=>by simp[S.ty,Ty.cons,S.cons]
 | .fn a b,.int=>by simp[S.ty,Ty.cons,S.cons]
 | .fn a b,.bool=>by simp[S.ty,Ty.cons,S.cons]
 | .pr a b,.zero=>by simp[S.ty,Ty.cons,S.cons]
 | .pr a b,.any=>by simp[S.ty,Ty.cons,S.cons]
 | .pr a b,.int=>by simp[S.ty,Ty.cons,S.cons]
 | .pr a b,.bool=>by simp[S.ty,Ty.cons,S.cons]
theorem S.any_cons (s:S):S.any.cons s=true:=by cases s<;>rfl
end Go.Proofs.YtfahhonmiimmdaaGreat

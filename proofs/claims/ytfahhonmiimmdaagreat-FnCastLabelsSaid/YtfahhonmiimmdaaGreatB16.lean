/- spec.l4Exact: the type of a node of a term with casts by its operands' types. And what else its parts name. -/
import Derived.Test.YtfahhonmiimmdaaGreatB21
import Derived.Test.YtfahhonmiimmdaaGreatB15
import Derived.Test.YtfahhonmiimmdaaGreatB17
set_option linter.unusedSimpArgs false
set_option linter.unusedVariables false
set_option maxRecDepth 100000
set_option maxHeartbeats 16000000
namespace Go.Proofs.YtfahhonmiimmdaaGreat
open Go.RowKit
theorem ao.srep {F:Nat→Prop}{w:World}{t:Ty}{k:Int}{c:Option Addr}{m q:Nat}(h:ao F w t (.agg #[.int .i64 k,.slice c m q])):bz F w t.row [.int .i64 k,.slice c m q]:=by
 obtain⟨s,he,hs⟩:=h;simp only[Value.agg.injEq,Array.mk.injEq,List.cons.injEq,Value.int.injEq,and_true] at he;obtain⟨⟨-,rfl⟩,rfl⟩:=he
 cases t with
 | mk kk us=>
  unfold Ty.row
  exact⟨_,_,rfl,(by unfold aH;rfl),_,_,rfl,hs,rfl⟩
theorem mg {l:List Bd}{nm:ByteArray}(h : ∀b∈l,b.ty.valid=true) : ∀n,((cE l nm n).map Ty.toS).map S.ty=cE l nm n
 | 0=>rfl
 | n+1=>by
  unfold cE
  cases hb:l[n]? with
  | none=>exact mg h n
  | some b=>
   dsimp only
   split
   ·simp[Ty.toS_ty (h b (List.mem_of_getElem? hb))]
   ·exact mg h n
def d9 (l:List Bd):Prop:=∀b∈l,b.ty.valid=true
theorem d9.snoc {l:List Bd}{nm:ByteArray}{ty:Ty}(h:d9 l)(hv:ty.valid=true):d9 (l ++ [⟨nm,ty⟩]):=fun b hb=>by
 rcases List.mem_append.1 hb with h1 | h1
 ·exact h b h1
 ·simp at h1;subst h1;exact hv
theorem Ty.toS_vd {t:Ty}(h:t.valid=true):t.toS.vd=true:=by
 rw[←S.valid,Ty.toS_ty h];exact h
theorem mh {l:List Bd}{nm:ByteArray}(h:d9 l) : ∀(n:Nat) (t:Ty),cE l nm n=some t→t.valid=true
 | 0,t,e=>by cases e
 | n+1,t,e=>by
  unfold cE at e
  cases hb:l[n]? with
  | none=>rw[hb] at e;exact mh h n t e
  | some b=>
   rw[hb] at e
   dsimp only at e
   split at e
   ·simp at e;subst e;exact h b (List.mem_of_getElem? hb)
   ·exact mh h n t e
def aZ (k:Int)(ty:Ty):List S→Option S
  | [h]=>if k=5 then (if (S.fn ty.toS h).vd then some (.fn ty.toS h) else none)
           else if k=13 then (if h.cons ty.toS then some ty.toS else none)
           else if (h.mat 5).2.2 then some (if k=12 then (h.mat 5).2.1 else (h.mat 5).1) else none
  | [g,h]=>if k=6 then (if (g.mat 4).2.2&&h.cons (g.mat 4).1 then some (g.mat 4).2.1 else none)
              else if k=10 then (if (S.pr g h).vd then some (.pr g h) else none)
              else if g.cons .int&&h.cons .int then some (if k=8 then .bool else .int) else none
  | [c,g,h]=>if g.cons h&&c.cons .bool then some (g.meet h) else none
  | _=>none
mutual
def Tm.typS:Tm→List Bd→Option S
 | .mk k nm u ty src lb ts,l=>
  if k=1 then (cE l nm l.length).map Ty.toS
  else if k=2 then some .int
  else if k=3∨k=4 then some .bool
  else if k=5 then (match Tm.typsS ts (l ++ [⟨nm,ty⟩]) with
    | some [h]=>if (S.fn ty.toS h).vd then some (.fn ty.toS h) else none
    | _=>none)
  else (match Tm.typsS ts l with
    | some hs=>aZ k ty hs
    | none=>none)
def Tm.typsS:List Tm→List Bd→Option (List S)
 | [],_=>some []
 | t :: ts,l=>match t.typS l with
  | none=>none
  | some h=>(match Tm.typsS ts l with
    | none=>none
    | some hs=>some (h :: hs))
end
theorem bY (F G:Nat→Prop)(s u:S)(y z:Value)(w:World)(hy:ao F w s.ty y)(hz:ao G w u.ty z)(hs:s.vd=true)(hu:u.vd=true) :
  Calls Tryz.prog 58 #[y,z] w fun e w'=>e = .returned (.bool (s.cons u))∧Below w.heap.size w w':=by
 have h:=ef F G s.ty u.ty 4 4 y z w hy hz ((S.valid s).trans hs) ((S.valid u).trans hu)
 rwa [S.ty_cons] at h
theorem ls {s:S}{k:Int}(h:s.vd=true):(s.mat k).2.2=true→(s.mat k).1.vd=true∧(s.mat k).2.1.vd=true:=by
 cases s with
 | fn a b=>intro e;by_cases q:k=4<;>simp[S.mat,q] at e ⊢;exact jP h
 | pr a b=>intro e;by_cases q:k=5<;>simp[S.mat,q] at e ⊢;exact hI h
 | any=>intro _;simp[S.mat,S.vd,S.ok,S.dep]
 | _=>intro e;simp[S.mat] at e
theorem ee {s:S}(h:s.vd=true):s.cnt≤1048576:=by rw[←S.ty_cnt];exact Ty.cnt_valid (by rw[S.valid];exact h)
theorem oQ {k:Int}{ty:Ty}{g h:S}(hk:k=7∨k=8):aZ k ty [g,h]=if (g.cons .int&&h.cons .int)=true then some (if k=8 then .bool else .int) else none:=by
 have h6 : ¬k=6:=by omega
 have h10 : ¬k=10:=by omega
 simp only[aZ,if_neg h6,if_neg h10]
theorem ui {ty:Ty}{g h:S}:(aZ 10 ty [g,h]).map S.ty=if (Ty.mk 5 [g.ty,h.ty]).valid=true then some (.mk 5 [g.ty,h.ty]) else none:=by
 rw[show(Ty.mk 5 [g.ty,h.ty])=(S.pr g h).ty from rfl,S.valid];simp only[aZ]
 cases (S.pr g h).vd<;>simp
theorem uj {k:Int}{ty:Ty}{h:S}(hk:k=11∨k=12):aZ k ty [h]=if (h.mat 5).2.2=true then some (if k=12 then (h.mat 5).2.1 else (h.mat 5).1) else none:=by
 have h5 : ¬k=5:=by omega
 have h13 : ¬k=13:=by omega
 simp only[aZ,if_neg h5,if_neg h13]
end Go.Proofs.YtfahhonmiimmdaaGreat

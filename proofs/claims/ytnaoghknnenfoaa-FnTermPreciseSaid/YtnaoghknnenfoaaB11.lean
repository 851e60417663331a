/-
  spec.l4Exact: the type of a node of a term with casts by its operands' types.
  spec.l4Exact: the type of a node of a term with casts by its operands' types.
  spec.l4Exact: the type of a node of a term with casts by its operands' types.
  spec.l4Exact joined.
  spec.l4Type at a node with operands.
  spec.l4Type at a function, at the leaves.
  The types of terms with casts are valid: plain Lean.
  The type of a term by the reference: plain Lean.
  CountNodes of both sides.
  Nodes that have a type of their own; terms that are alike: plain facts.
  The types of a term as a list: plain facts; rows appended to rows.
-/
import Derived.Test.YtnaoghknnenfoaaB8
import Derived.Test.YtnaoghknnenfoaaCtTwo
import Derived.Test.YtnaoghknnenfoaaB10
import Derived.Test.YtnaoghknnenfoaaB7
import Derived.Test.YtnaoghknnenfoaaB2
import Derived.Test.YtnaoghknnenfoaaB5
import Derived.Deep.RegionHeld3
import Derived.Test.YtnaoghknnenfoaaB16
import Derived.Test.YtnaoghknnenfoaaB6
import Derived.Test.YtnaoghknnenfoaaTyCopyB
import Derived.Deep.AppendLies
import Derived.Test.YtnaoghknnenfoaaB15
import Derived.Test.YtnaoghknnenfoaaTmSame
import Derived.Test.YtnaoghknnenfoaaB3
import Derived.Test.YtnaoghknnenfoaaTyOwnT
import Derived.Laws.AppendOwnNone
set_option linter.unusedSimpArgs false
set_option linter.unusedVariables false
set_option maxRecDepth 100000
namespace Go.Proofs.Ytnaoghknnenfoaa
open Go.RowKit
theorem ap.kindE {F:Nat→Prop}{w:World}{t:Ty}{k:Int}{s:Value}(h:ap F w t (.agg #[.int .i64 k,s])):k=t.kind:=by
 obtain⟨s',he,-⟩:=h
 simp only [Value.agg.injEq,Array.mk.injEq,List.cons.injEq,Value.int.injEq,true_and] at he
 exact he.1
end Go.Proofs.Ytnaoghknnenfoaa
namespace Go.Proofs.Ytnaoghknnenfoaa
open Go.RowKit
end Go.Proofs.Ytnaoghknnenfoaa
namespace Go.Proofs.Ytnaoghknnenfoaa
open Go.RowKit
end Go.Proofs.Ytnaoghknnenfoaa
namespace Go.Proofs.Ytnaoghknnenfoaa
open Go.RowKit
end Go.Proofs.Ytnaoghknnenfoaa
namespace Go.Proofs.Ytnaoghknnenfoaa
open Go.RowKit
theorem ap.srep {F:Nat→Prop}{w:World}{t:Ty}{k:Int}{c:Option Addr}{m q:Nat}(h:ap F w t (.agg #[.int .i64 k,.slice c m q])):bT F w t.row [.int .i64 k,.slice c m q]:=by
 obtain⟨s,he,hs⟩:=h
 simp only [Value.agg.injEq,Array.mk.injEq,List.cons.injEq,Value.int.injEq,and_true] at he
 obtain⟨⟨-,rfl⟩,rfl⟩:=he
 cases t with
 | mk kk us=>
  unfold Ty.row
  exact⟨_,_,rfl,(by unfold aS;rfl),_,_,rfl,hs,rfl⟩
end Go.Proofs.Ytnaoghknnenfoaa
namespace Go.Proofs.Ytnaoghknnenfoaa
open Go.RowKit
theorem jX {l:List Bd}{nm:ByteArray}(h : ∀b∈l,b.ty.valid=true) : ∀n,((co l nm n).map Ty.toS).map S.ty=co l nm n
 | 0=>rfl
 | n+1=>by
  unfold co
  cases hb:l[n]? with
  | none=>exact jX h n
  | some b=>
   dsimp only
   split
   ·simp [Ty.toS_ty (h b (List.mem_of_getElem? hb))]
   ·exact jX h n
end Go.Proofs.Ytnaoghknnenfoaa
namespace Go.Proofs.Ytnaoghknnenfoaa
open Go.RowKit
def cI (l:List Bd):Prop:=∀b∈l,b.ty.valid=true
theorem cI.snoc {l:List Bd}{nm:ByteArray}{ty:Ty}(h:cI l)(hv:ty.valid=true):cI (l ++ [⟨nm,ty⟩]):=fun b hb=>by
 rcases List.mem_append.1 hb with h1 | h1
 ·exact h b h1
 ·simp at h1;subst h1;exact hv
theorem Ty.toS_vd {t:Ty}(h:t.valid=true):t.toS.vd=true:=by
 rw [←S.valid,Ty.toS_ty h];exact h
theorem jO {l:List Bd}{nm:ByteArray}(h:cI l) : ∀(n:Nat) (t:Ty),co l nm n=some t→t.valid=true
 | 0,t,e=>by cases e
 | n+1,t,e=>by
  unfold co at e
  cases hb:l[n]? with
  | none=>rw [hb] at e;exact jO h n t e
  | some b=>
   rw [hb] at e
   dsimp only at e
   split at e
   ·simp at e;subst e;exact h b (List.mem_of_getElem? hb)
   ·exact jO h n t e
end Go.Proofs.Ytnaoghknnenfoaa
namespace Go.Proofs.Ytnaoghknnenfoaa
open Go.RowKit
def bd (k:Int)(ty:Ty):List S→Option S
  | [h]=>if k=5 then (if (S.fn ty.toS h).vd then some (.fn ty.toS h) else none)
           else if k=13 then (if h.cons ty.toS then some ty.toS else none)
           else if (h.mat 5).2.2 then some (if k=12 then (h.mat 5).2.1 else (h.mat 5).1) else none
  | [g,h]=>if k=6 then (if (g.mat 4).2.2&&h.cons (g.mat 4).1 then some (g.mat 4).2.1 else none)
              else if k=10 then (if (S.pr g h).vd then some (.pr g h) else none)
              else if g.cons .int&&h.cons .int then some (if k=8 then .bool else .int) else none
  | [c,g,h]=>if g.cons h&&c.cons .bool then some (g.meet h) else none
  | _=>none
mutual
def Tm.typS:Tm→List Bd→Option S
 | .mk k nm u ty src lb ts,l=>
  if k=1 then (co l nm l.length).map Ty.toS
  else if k=2 then some .int
  else if k=3∨k=4 then some .bool
  else if k=5 then (match Tm.typsS ts (l ++ [⟨nm,ty⟩]) with
    | some [h]=>if (S.fn ty.toS h).vd then some (.fn ty.toS h) else none
    | _=>none)
  else (match Tm.typsS ts l with
    | some hs=>bd k ty hs
    | none=>none)
def Tm.typsS:List Tm→List Bd→Option (List S)
 | [],_=>some []
 | t :: ts,l=>match t.typS l with
  | none=>none
  | some h=>(match Tm.typsS ts l with
    | none=>none
    | some hs=>some (h :: hs))
end
theorem bV (F G:Nat→Prop)(s u:S)(y z:Value)(w:World)(hy:ap F w s.ty y)(hz:ap G w u.ty z)(hs:s.vd=true)(hu:u.vd=true) :
  Calls Try.prog 42 #[y,z] w fun e w'=>e = .returned (.bool (s.cons u))∧Below w.heap.size w w':=by
 have h:=dn F G s.ty u.ty 4 4 y z w hy hz ((S.valid s).trans hs) ((S.valid u).trans hu)
 rwa [S.ty_cons] at h
theorem iD {s:S}{k:Int}(h:s.vd=true):(s.mat k).2.2=true→(s.mat k).1.vd=true∧(s.mat k).2.1.vd=true:=by
 cases s with
 | fn a b=>intro e;by_cases q:k=4<;>simp [S.mat,q] at e ⊢;exact fn_vd h
 | pr a b=>intro e;by_cases q:k=5<;>simp [S.mat,q] at e ⊢;exact pr_vd h
 | any=>intro _;simp [S.mat,S.vd,S.ok,S.dep]
 | _=>intro e;simp [S.mat] at e
theorem eh {s:S}(h:s.vd=true):s.cnt≤1048576:=by rw [←S.ty_cnt];exact Ty.cnt_valid (by rw [S.valid];exact h)
theorem li {k:Int}{ty:Ty}{g h:S}(hk:k=7∨k=8):bd k ty [g,h]=if (g.cons .int&&h.cons .int)=true then some (if k=8 then .bool else .int) else none:=by
 have h6 : ¬k=6:=by omega
 have h10 : ¬k=10:=by omega
 simp only [bd,if_neg h6,if_neg h10]
theorem pc {ty:Ty}{g h:S}:(bd 10 ty [g,h]).map S.ty=if (Ty.mk 5 [g.ty,h.ty]).valid=true then some (.mk 5 [g.ty,h.ty]) else none:=by
 rw [show(Ty.mk 5 [g.ty,h.ty])=(S.pr g h).ty from rfl,S.valid]
 simp only [bd]
 cases (S.pr g h).vd<;>simp
theorem pa {k:Int}{ty:Ty}{h:S}(hk:k=11∨k=12):bd k ty [h]=if (h.mat 5).2.2=true then some (if k=12 then (h.mat 5).2.1 else (h.mat 5).1) else none:=by
 have h5 : ¬k=5:=by omega
 have h13 : ¬k=13:=by omega
 simp only [bd,if_neg h5,if_neg h13]
end Go.Proofs.Ytnaoghknnenfoaa
namespace Go.Proofs.Ytnaoghknnenfoaa
open Go.RowKit
def Tm.nodes (t:Tm):Int:=if t.valid then t.size else 0
theorem Tm.valid_shape {t:Tm}(h:t.valid=true):t.shape 14 (12:Nat)=true:=by
 unfold Tm.valid at h
 simp only [Bool.and_eq_true] at h
 exact h.1
end Go.Proofs.Ytnaoghknnenfoaa
namespace Go.Proofs.Ytnaoghknnenfoaa
open Go.RowKit
mutual
def Tm.alike:Tm→Tm→Bool
 | .mk k s u t f l ts,.mk k' s' u' t' f' l' us=>k==k'&&s.toList==s'.toList&&u==u'&&(!(k==5||k==13)||t.prec t')&&Tm.alikes ts us
def Tm.alikes:List Tm→List Tm→Bool
 | [],[]=>true
 | t :: ts,u :: us=>t.alike u&&Tm.alikes ts us
 | _,_=>false
end
theorem Tm.alikes_all2 : ∀ts us:List Tm,bZ Tm.alike ts us=Tm.alikes ts us
 | [],[]=>by unfold Tm.alikes;rfl
 | [],_ :: _=>by unfold Tm.alikes;rfl
 | _ :: _,[]=>by unfold Tm.alikes;rfl
 | t :: ts,u :: us=>by unfold Tm.alikes bZ;rw [Tm.alikes_all2 ts us]
def Tm.precB (t u:Tm):Bool:=t.valid&&u.valid&&t.alike u
theorem Tm.own_type {k u l:Int}{s:ByteArray}{t f:Ty}{ts:List Tm}(h:(Tm.mk k s u t f l ts).ownB=true)(hk:(k==5)=true∨(k==13)=true):t.valid=true:=by
 have hk':(k==5||k==13||k==14)=true:=by rcases hk with h | h<;>simp [h]
 have h1:Go.Proofs.Ytnaoghknnenfoaa.ownB k u l s t.valid t.noneB f.noneB (f.valid&&t.valid&&f.cons t)=true:=h
 unfold Go.Proofs.Ytnaoghknnenfoaa.ownB at h1
 rw [if_pos hk'] at h1
 simp only [Bool.and_eq_true] at h1
 exact h1.1.2
def b7 (k:Int):Bool:=k==5||k==13
theorem kV (r:Bool):(r:Bool)=(r):=by
 rfl
theorem lG (k u k' u':Int)(nm nm':ByteArray)(r1 r3:Bool)(h0:(b7 k)=true)(h1:(k==k')=true)(h2:(r1)=true)(h3:(nm.toList==nm'.toList)=true)(h4:(u==u')=true):(r3:Bool)=(k==k'&&nm.toList==nm'.toList&&u==u'&&(!(k==5||k==13)||r1)&&r3):=by
 first | (simp_all [b7];done) | grind [b7]
theorem nG (k u k' u':Int)(nm nm':ByteArray)(r1 r3:Bool)(h0:(b7 k)=true)(h1:(k==k')=true)(h2:(r1)=true)(h3:(nm.toList==nm'.toList)=true)(h4:(u==u')=false):(false:Bool)=(k==k'&&nm.toList==nm'.toList&&u==u'&&(!(k==5||k==13)||r1)&&r3):=by
 first | (simp_all [b7];done) | grind [b7]
theorem nu (k u k' u':Int)(nm nm':ByteArray)(r1 r3:Bool)(h0:(b7 k)=true)(h1:(k==k')=true)(h2:(r1)=true)(h3:(nm.toList==nm'.toList)=false):(false:Bool)=(k==k'&&nm.toList==nm'.toList&&u==u'&&(!(k==5||k==13)||r1)&&r3):=by
 first | (simp_all [b7];done) | grind [b7]
theorem nI (k u k' u':Int)(nm nm':ByteArray)(r1 r3:Bool)(h0:(b7 k)=true)(h1:(k==k')=true)(h2:(r1)=false):(false:Bool)=(k==k'&&nm.toList==nm'.toList&&u==u'&&(!(k==5||k==13)||r1)&&r3):=by
 first | (simp_all [b7];done) | grind [b7]
theorem lp (k u k' u':Int)(nm nm':ByteArray)(r1 r3:Bool)(h0:(b7 k)=true)(h1:(k==k')=false):(false:Bool)=(k==k'&&nm.toList==nm'.toList&&u==u'&&(!(k==5||k==13)||r1)&&r3):=by
 first | (simp_all [b7];done) | grind [b7]
theorem nB (k u k' u':Int)(nm nm':ByteArray)(r1 r3:Bool)(h0:(b7 k)=false)(h1:(k==k')=true)(h2:(nm.toList==nm'.toList)=true)(h3:(u==u')=true):(r3:Bool)=(k==k'&&nm.toList==nm'.toList&&u==u'&&(!(k==5||k==13)||r1)&&r3):=by
 first | (simp_all [b7];done) | grind [b7]
theorem mU (k u k' u':Int)(nm nm':ByteArray)(r1 r3:Bool)(h0:(b7 k)=false)(h1:(k==k')=true)(h2:(nm.toList==nm'.toList)=true)(h3:(u==u')=false):(false:Bool)=(k==k'&&nm.toList==nm'.toList&&u==u'&&(!(k==5||k==13)||r1)&&r3):=by
 first | (simp_all [b7];done) | grind [b7]
theorem n9 (k u k' u':Int)(nm nm':ByteArray)(r1 r3:Bool)(h0:(b7 k)=false)(h1:(k==k')=true)(h2:(nm.toList==nm'.toList)=false):(false:Bool)=(k==k'&&nm.toList==nm'.toList&&u==u'&&(!(k==5||k==13)||r1)&&r3):=by
 first | (simp_all [b7];done) | grind [b7]
theorem mc (k u k' u':Int)(nm nm':ByteArray)(r1 r3:Bool)(h0:(b7 k)=false)(h1:(k==k')=false):(false:Bool)=(k==k'&&nm.toList==nm'.toList&&u==u'&&(!(k==5||k==13)||r1)&&r3):=by
 first | (simp_all [b7];done) | grind [b7]
theorem mX (k:Int)(h0:(k==5)=true):(true:Bool)=(b7 k):=by
 simp_all [b7]
theorem mP (k:Int)(h0:(k==5)=false):(k==13:Bool)=(b7 k):=by
 simp_all [b7]
theorem kQ (k u k' u':Int)(nm nm':ByteArray)(r1 r3:Bool)(m m':Nat)(h0:(k==k')=true)(h1:(nm.toList==nm'.toList)=true)(h2:(u==u')=true)(h3:((m:Int)==(m':Int))=true)(h4:(k==5)=true)(h5:(r1)=true)(h6:r3=false):(false:Bool)=(k==k'&&nm.toList==nm'.toList&&u==u'&&(!(k==5||k==13)||r1)&&r3):=by
 first | (simp_all;done) | grind
theorem kU (k u k' u':Int)(nm nm':ByteArray)(r1 r3:Bool)(m m':Nat)(h0:(k==k')=true)(h1:(nm.toList==nm'.toList)=true)(h2:(u==u')=true)(h3:((m:Int)==(m':Int))=true)(h4:(k==5)=true)(h5:(r1)=true)(h6:r3=true):(true:Bool)=(k==k'&&nm.toList==nm'.toList&&u==u'&&(!(k==5||k==13)||r1)&&r3):=by
 first | (simp_all;done) | grind
theorem kZ (k u k' u':Int)(nm nm':ByteArray)(r1 r3:Bool)(m m':Nat)(h0:(k==k')=true)(h1:(nm.toList==nm'.toList)=true)(h2:(u==u')=true)(h3:((m:Int)==(m':Int))=true)(h4:(k==5)=true)(h5:(r1)=false):(false:Bool)=(k==k'&&nm.toList==nm'.toList&&u==u'&&(!(k==5||k==13)||r1)&&r3):=by
 first | (simp_all;done) | grind
theorem kP (k u k' u':Int)(nm nm':ByteArray)(r1 r3:Bool)(m m':Nat)(h0:(k==k')=true)(h1:(nm.toList==nm'.toList)=true)(h2:(u==u')=true)(h3:((m:Int)==(m':Int))=true)(h4:(k==5)=false)(h5:(k==13)=true)(h6:(r1)=true)(h7:r3=false):(false:Bool)=(k==k'&&nm.toList==nm'.toList&&u==u'&&(!(k==5||k==13)||r1)&&r3):=by
 first | (simp_all;done) | grind
theorem kD (k u k' u':Int)(nm nm':ByteArray)(r1 r3:Bool)(m m':Nat)(h0:(k==k')=true)(h1:(nm.toList==nm'.toList)=true)(h2:(u==u')=true)(h3:((m:Int)==(m':Int))=true)(h4:(k==5)=false)(h5:(k==13)=true)(h6:(r1)=true)(h7:r3=true):(true:Bool)=(k==k'&&nm.toList==nm'.toList&&u==u'&&(!(k==5||k==13)||r1)&&r3):=by
 first | (simp_all;done) | grind
theorem kG (k u k' u':Int)(nm nm':ByteArray)(r1 r3:Bool)(m m':Nat)(h0:(k==k')=true)(h1:(nm.toList==nm'.toList)=true)(h2:(u==u')=true)(h3:((m:Int)==(m':Int))=true)(h4:(k==5)=false)(h5:(k==13)=true)(h6:(r1)=false):(false:Bool)=(k==k'&&nm.toList==nm'.toList&&u==u'&&(!(k==5||k==13)||r1)&&r3):=by
 first | (simp_all;done) | grind
theorem kT (k u k' u':Int)(nm nm':ByteArray)(r1 r3:Bool)(m m':Nat)(h0:(k==k')=true)(h1:(nm.toList==nm'.toList)=true)(h2:(u==u')=true)(h3:((m:Int)==(m':Int))=true)(h4:(k==5)=false)(h5:(k==13)=false)(h6:r3=false):(false:Bool)=(k==k'&&nm.toList==nm'.toList&&u==u'&&(!(k==5||k==13)||r1)&&r3):=by
 first | (simp_all;done) | grind
theorem l4 (k u k' u':Int)(nm nm':ByteArray)(r1 r3:Bool)(m m':Nat)(h0:(k==k')=true)(h1:(nm.toList==nm'.toList)=true)(h2:(u==u')=true)(h3:((m:Int)==(m':Int))=true)(h4:(k==5)=false)(h5:(k==13)=false)(h6:r3=true):(true:Bool)=(k==k'&&nm.toList==nm'.toList&&u==u'&&(!(k==5||k==13)||r1)&&r3):=by
 first | (simp_all;done) | grind
theorem kH (k u k' u':Int)(nm nm':ByteArray)(r1 r3:Bool)(m m':Nat)(h0:(k==k')=true)(h1:(nm.toList==nm'.toList)=true)(h2:(u==u')=true)(h3:((m:Int)==(m':Int))=false)(h4:r3=false):(false:Bool)=(k==k'&&nm.toList==nm'.toList&&u==u'&&(!(k==5||k==13)||r1)&&r3):=by
 first | (simp_all;done) | grind
theorem kX (k u k' u':Int)(nm nm':ByteArray)(r1 r3:Bool)(m m':Nat)(h0:(k==k')=true)(h1:(nm.toList==nm'.toList)=true)(h2:(u==u')=false):(false:Bool)=(k==k'&&nm.toList==nm'.toList&&u==u'&&(!(k==5||k==13)||r1)&&r3):=by
 first | (simp_all;done) | grind
theorem kW (k u k' u':Int)(nm nm':ByteArray)(r1 r3:Bool)(m m':Nat)(h0:(k==k')=true)(h1:(nm.toList==nm'.toList)=false):(false:Bool)=(k==k'&&nm.toList==nm'.toList&&u==u'&&(!(k==5||k==13)||r1)&&r3):=by
 first | (simp_all;done) | grind
theorem kL (k u k' u':Int)(nm nm':ByteArray)(r1 r3:Bool)(m m':Nat)(h0:(k==k')=false):(false:Bool)=(k==k'&&nm.toList==nm'.toList&&u==u'&&(!(k==5||k==13)||r1)&&r3):=by
 first | (simp_all;done) | grind
theorem hP (v v' r:Bool)(h0:(v)=true)(h1:(v')=true):(r:Bool)=(v&&v'&&r):=by
 simp_all
theorem hJ (v v' r:Bool)(h0:(v)=true)(h1:(v')=false):(false:Bool)=(v&&v'&&r):=by
 simp_all
theorem i3 (v v' r:Bool)(h0:(v)=false):(false:Bool)=(v&&v'&&r):=by
 simp_all
theorem gW (v v' r:Bool)(h0:(v)=true)(h1:(v')=true):(r:Bool)=(v&&v'&&r):=by
 simp_all
theorem gZ (v v' r:Bool)(h0:(v)=true)(h1:(v')=false):(false:Bool)=(v&&v'&&r):=by
 simp_all
theorem gY (v v' r:Bool)(h0:(v)=false):(false:Bool)=(v&&v'&&r):=by
 simp_all
theorem cM (k:Int)(nm:ByteArray)(u tk:Int)(ta:Option Addr)(tn tq:Nat)(fk:Int)(fa:Option Addr)(fn fq:Nat)(l:Int)(c:Option Addr)(m q:Nat)(w:World):Calls Try.prog 20 #[.agg #[.int .i64 k,.string nm,.int .i64 u,.int .i64 tk,.slice ta tn tq,.int .i64 fk,.slice fa fn fq,.int .i64 l,.slice c m q]] w fun e w'=>e = .returned (.bool (b7 k))∧Below w.heap.size w w':=by
 obtain⟨rr,hrr⟩ : ∃rr0:Bool,(b7 k)=rr0:=⟨_,rfl⟩
 rw [hrr]
 have HT:=Lib.hid hrr
 clear hrr
 go_enter Try.func20,Try.ntmps20
 rcases Bool.eq_false_or_eq_true (k==5) with q1 | q1
 ·skip
  have nq1:(k != 5)=false:=by simp only [bne,q1];rfl
  go_wp2_with fail
  refine bodyPost_ret (v:=.bool (true)) (by simp [results,Try.results20,go_sem,bne]) rfl ?_
  exact⟨au ((mX k q1).trans HT.out),ah⟩
 ·skip
  have nq1:(k != 5)=true:=by simp only [bne,q1];rfl
  go_wp2_with fail
  refine bodyPost_ret (v:=.bool (k==13)) (by simp [results,Try.results20,go_sem,bne]) rfl ?_
  exact⟨au ((mP k q1).trans HT.out),ah⟩
end Go.Proofs.Ytnaoghknnenfoaa
namespace Go.Proofs.Ytnaoghknnenfoaa
open Go.RowKit
mutual
def Tm.tys:Tm→List Ty
 | .mk k _ _ t _ _ ts=>(if b7 k then [t] else [])++Tm.tyss ts
def Tm.tyss:List Tm→List Ty
 | []=> []
 | t :: ts=>t.tys++Tm.tyss ts
end
theorem Tm.tyss_take_succ : ∀(ts:List Tm) (j:Nat) (h:j<ts.length),Tm.tyss (ts.take (j+1))=Tm.tyss (ts.take j)++ts[j].tys
 | [],_,h=>absurd h (Nat.not_lt_zero _)
 | t :: ts,0,_=>by simp [Tm.tyss]
 | t :: ts,j+1,h=>by
  have:=Tm.tyss_take_succ ts j (by simpa using h)
  simp only [List.take_succ_cons,Tm.tyss,List.getElem_cons_succ,this,List.append_assoc]
theorem Tm.tyss_take_le (ts:List Tm)(j:Nat):(Tm.tyss (ts.take j)).length≤(Tm.tyss ts).length:=by
 induction ts generalizing j with
 | nil=>simp
 | cons t ts ih=>
  cases j with
  | zero=>simp [Tm.tyss]
  | succ j=>have:=ih j;simp only [List.take_succ_cons,Tm.tyss,List.length_append];omega
theorem Tm.tys_mem {ts:List Tm}{t:Tm}(ht:t∈ts) : ∀x∈t.tys,x∈Tm.tyss ts:=by
 induction ts with
 | nil=>cases ht
 | cons u ts ih=>
  intro x hx
  unfold Tm.tyss
  rcases List.mem_cons.1 ht with rfl | ht
  ·exact List.mem_append_left _ hx
  ·exact List.mem_append_right _ (ih ht x hx)
mutual
theorem Tm.tys_len : ∀t:Tm,((t.tys.length:Nat):Int)≤t.size
 | .mk k _ _ t _ _ ts=>by
  unfold Tm.tys Tm.size
  have:=Tm.tyss_len ts
  rw [List.length_append]
  split<;>simp<;>omega
theorem Tm.tyss_len : ∀ts:List Tm,(((Tm.tyss ts).length:Nat):Int)≤Tm.sizes ts
 | []=>by unfold Tm.tyss Tm.sizes;simp
 | t :: ts=>by
  unfold Tm.tyss Tm.sizes
  have:=Tm.tys_len t
  have:=Tm.tyss_len ts
  rw [List.length_append]
  omega
end
theorem be.append {w:World} : ∀ {r1 r2:List (List C)} {x1 x2:List Value} {f1 f2:List Nat},be w r1 x1 f1→be w r2 x2 f2→be w (r1++r2) (x1++x2) (f1++f2)
 | [],r2,_,x2,_,f2,⟨h1,h2⟩,h=>by subst h1 h2;exact h
 | r :: r1,r2,_,x2,_,f2,⟨ys,xs',g1,g2,e1,e2,h1,h2⟩,h=>by
  subst e1 e2
  exact⟨ys,xs'++x2,g1,g2++f2,by simp,by simp,h1,be.append h2 h⟩
theorem aG.one {w:World} : ∀ {c:C} {y:Value} {fp:List Nat},aG w c y fp→y.oneCell'=true
 | .int _,_,_,h=>by unfold aG at h;rw [h.1];rfl
 | .str _,_,_,h=>by unfold aG at h;rw [h.1];rfl
 | .sl _,_,_,h=>by unfold aG at h;obtain⟨a,q,h,-⟩:=h;rw [h];rfl
theorem bg.one {w:World} : ∀ {r:List C} {ys:List Value} {fp:List Nat},bg w r ys fp→∀y∈ys,y.oneCell'=true
 | [],_,_,⟨h,_⟩,y,hy=>by subst h;cases hy
 | c :: cs,_,_,⟨z,zs,f1,f2,e,_,h1,h2⟩,y,hy=>by
  subst e
  rcases List.mem_cons.1 hy with rfl | hy
  ·exact h1.one
  ·exact bg.one h2 y hy
theorem be.one {w:World} : ∀ {rs:List (List C)} {ys:List Value} {fp:List Nat},be w rs ys fp→∀y∈ys,y.oneCell'=true
 | [],_,_,⟨h,_⟩,y,hy=>by subst h;cases hy
 | r :: rs,_,_,⟨y1,x',f1,f2,e,_,h1,h2⟩,y,hy=>by
  subst e
  rcases List.mem_append.1 hy with hy | hy
  ·exact h1.one y hy
  ·exact be.one h2 y hy
theorem aH.pushS {B g cap m:Nat}{e:TypeId}{size n:Nat}{W w2:World}{v:Value}{xs ys:List Value}{fps f:List Nat}{rows rs:List (List C)}(hl:rows.length=n)(hs:be W rows xs fps)(hd:fps.Nodup)
  (hfp : ∀x∈fps,B≤x∧v.ownBlock≠some x) (hrl:rs.length=m) (hr:be W rs ys f) (hdf:f.Nodup) (hxf : ∀x∈f,B≤x∧v.ownBlock≠some x∧x∉fps)
  (hown:w2.ownsRow B e size (.slice (some ⟨g,0,none⟩) (n+m) cap) (n+m) (xs++ys)) (hgrow:W.grownBy w2 v.ownBlock) (hat:v.ownBlock=some g∨g=W.heap.size) :
  aH B e size w2 (.slice (some ⟨g,0,none⟩) (n+m) cap) (n+m) (rows++rs):=by
 have l1 : ∀b∈fps,b<W.heap.size:=fun b hb=>be.lt _ _ _ hs b hb
 have l2 : ∀b∈f,b<W.heap.size:=fun b hb=>be.lt _ _ _ hr b hb
 have keep : ∀x,x<W.heap.size→v.ownBlock≠some x→w2.heap[x]?=W.heap[x]?:=fun x hx hn=>hgrow.block x hx (fun e=>hn e.symm)
 refine⟨xs++ys,fps++f,hown,by simp [hl,hrl],be.append (hs.move _ _ _ fun b hb=>keep b (l1 b hb) (hfp b hb).2) (hr.move _ _ _ fun b hb=>keep b (l2 b hb) (hxf b hb).2.1),?_,?_⟩
 ·exact List.nodup_append.2 ⟨hd,hdf,fun x hx y hy e=>(hxf y hy).2.2 (e▸hx)⟩
 ·intro x hx
  have hlt:x<W.heap.size∧B≤x∧v.ownBlock≠some x:=by
   rcases List.mem_append.1 hx with hx | hx
   ·exact⟨l1 x hx,hfp x hx⟩
   ·exact⟨l2 x hx,(hxf x hx).1,(hxf x hx).2.1⟩
  refine⟨hlt.2.1,fun e=>?_⟩
  simp only [Value.ownBlock,Option.some.injEq] at e
  rcases hat with hat | hat
  ·exact hlt.2.2 (by rw [hat,e])
  ·omega
theorem be.single {w:World}{r:List C}{ys:List Value}{f:List Nat}(h:bg w r ys f):be w [r] ys f:=⟨ys,[],f,[],by simp,by simp,h,rfl,rfl⟩
theorem aH.mono {B B' n size:Nat}{e:TypeId}{w:World}{v:Value}{rows:List (List C)}(h:aH B e size w v n rows)(hb:B'≤B):aH B' e size w v n rows:=by
 obtain⟨xs,fps,⟨h0,h1⟩,h2,h3,h4,h5⟩:=h
 refine⟨xs,fps,⟨h0,?_⟩,h2,h3,h4,fun x hx=>⟨Nat.le_trans hb (h5 x hx).1,(h5 x hx).2⟩⟩
 rcases h1 with h1 | ⟨g,cap,cur,e1,e2,e3⟩
 ·exact .inl h1
 ·exact .inr ⟨g,cap,cur,e1,Nat.le_trans hb e2,e3⟩
end Go.Proofs.Ytnaoghknnenfoaa

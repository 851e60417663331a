/- The type of a term by the reference is valid. And what else its parts name. -/
import Derived.Test.YtfahhonmiimmdaaGreatB16
import Derived.Test.YtfahhonmiimmdaaGreatB28
import Derived.Test.YtfahhonmiimmdaaGreatB29
set_option linter.unusedSimpArgs false
set_option linter.unusedVariables false
set_option maxRecDepth 100000
set_option maxHeartbeats 16000000
namespace Go.Proofs.YtfahhonmiimmdaaGreat
open Go.RowKit
theorem S.meet_okT : ∀s u:S,s.cons u=true→s.ok=true→u.ok=true→(s.meet u).ok=true:=by
 intro s
 induction s with
 | fn a b ha hb=>
  intro u h h1 h2
  cases u<;>simp[S.cons] at h
  ·simpa [S.meet] using h1
  ·simp[S.ok] at h1 h2
   simp[S.meet,S.ok,ha _ h.1 h1.1 h2.1,hb _ h.2 h1.2 h2.2]
 | pr a b ha hb=>
  intro u h h1 h2
  cases u<;>simp[S.cons] at h
  ·simpa [S.meet] using h1
  ·simp[S.ok] at h1 h2
   simp[S.meet,S.ok,ha _ h.1 h1.1 h2.1,hb _ h.2 h1.2 h2.2]
 | _=>intro u h h1 h2;cases u<;>simp[S.cons] at h<;>simpa [S.meet] using (by assumption)
theorem S.meet_depT : ∀s u:S,s.cons u=true→(s.meet u).dep≤max s.dep u.dep:=by
 intro s
 induction s with
 | fn a b ha hb=>
  intro u h
  cases u<;>simp[S.cons] at h
  ·simp only[S.meet];exact Nat.le_max_left _ _
  ·rename_i c d
   have h1:=ha _ h.1;have h2:=hb _ h.2;simp only[S.meet,S.dep]
   omega
 | pr a b ha hb=>
  intro u h
  cases u<;>simp[S.cons] at h
  ·simp only[S.meet];exact Nat.le_max_left _ _
  ·rename_i c d
   have h1:=ha _ h.1;have h2:=hb _ h.2;simp only[S.meet,S.dep]
   omega
 | _=>intro u h;cases u<;>simp[S.cons] at h<;>simp only[S.meet]<;>first | exact Nat.le_max_left _ _ | exact Nat.le_max_right _ _
theorem S.meet_vdT (s u:S)(h:s.cons u=true)(hs:s.vd=true)(hu:u.vd=true):(s.meet u).vd=true:=by
 have h1:=S.meet_okT s u h (S.vd_ok hs) (S.vd_ok hu);have h2:=S.meet_depT s u h;have h3:=S.vd_dep hs;have h4:=S.vd_dep hu
 exact S.vd_mk h1 (by omega)
theorem vo {k:Int}{ty:Ty}{hs:List S}{h:S}(hk:k≠5)(hv : ∀g∈hs,g.vd=true)(hvt:k=13→ty.valid=true)(e:aZ k ty hs=some h):h.vd=true:=by
 match hs,hv,e with
 | [],_,e=>simp[aZ] at e
 | [g],hv,e=>
  simp only[aZ,if_neg hk] at e
  split at e
  ·rename_i h13
   split at e
   ·simp at e;subst e;exact Ty.toS_vd (hvt h13)
   ·cases e
  ·split at e
   ·rename_i hm
    have hp:=ls (k:=5) (hv g (by simp)) hm;simp only[Option.some.injEq] at e;subst e
    split
    ·exact hp.2
    ·exact hp.1
   ·cases e
 | [g,q],hv,e=>
  simp only[aZ] at e
  split at e
  ·split at e
   ·rename_i hm
    simp only[Bool.and_eq_true] at hm;simp only[Option.some.injEq] at e;subst e
    exact(ls (k:=4) (hv g (by simp)) hm.1).2
   ·cases e
  ·split at e
   ·split at e
    ·rename_i h10 hvd;simp at e;subst e;exact hvd
    ·cases e
   ·split at e
    ·simp only[Option.some.injEq] at e
     subst e
     split<;>rfl
    ·cases e
 | [c,g,q],hv,e=>
  simp only[aZ] at e
  split at e
  ·rename_i hm
   simp only[Bool.and_eq_true] at hm;simp only[Option.some.injEq] at e;subst e
   exact S.meet_vdT _ _ hm.1 (hv g (by simp)) (hv q (by simp))
  ·cases e
 | _ :: _ :: _ :: _ :: _,_,e=>simp[aZ] at e
theorem th {d:Int}{l:List Bd}(hc:d9 l) : ∀(ts:List Tm),Tm.shapes ts 14 d=true→(∀t∈ts,∀h,t.shape 14 d=true→t.typS l=some h→h.vd=true)→∀hs,Tm.typsS ts l=some hs→hs.length=ts.length∧∀h∈hs,h.vd=true
 | [],_,_,hs,e=>by simp[Tm.typsS] at e;subst e;simp
 | t :: ts,hsh,IH,hs,e=>by
  unfold Tm.shapes at hsh;simp only[Bool.and_eq_true] at hsh;rw[Tm.typsS] at e
  cases h1:t.typS l with
  | none=>rw[h1] at e;cases e
  | some h=>
   rw[h1] at e
   dsimp only at e
   cases h2:Tm.typsS ts l with
   | none=>rw[h2] at e;cases e
   | some hs2=>
    rw[h2] at e;simp only[Option.some.injEq] at e;subst e;obtain⟨e1,e2⟩:=th hc ts hsh.2 (fun t' ht'=>IH t' (List.mem_cons_of_mem _ ht')) hs2 h2;refine⟨by simp[e1],fun g hg=>?_⟩
    rcases List.mem_cons.1 hg with rfl | hg
    ·exact IH t (by simp) _ hsh.1 h1
    ·exact e2 g hg
theorem kA {k u lb:Int}{nm:ByteArray}{ty src:Ty}{ts:List Tm}(h:(Tm.mk k nm u ty src lb ts).ownB=true)(hk:k=5∨k=13):ty.valid=true:=by
 unfold Tm.ownB ownB at h;simp only[Tm.kind,Tm.type,Tm.src,Tm.num,Tm.label,Tm.name] at h
 rcases hk with rfl | rfl
 ·simp at h;exact h.1.2
 ·simp at h;exact h.1.2
theorem fi : ∀(t:Tm) (d:Int) (l:List Bd),t.shape 14 d=true→d9 l→∀h,t.typS l=some h→h.vd=true
 | .mk k nm u ty src lb ts,d,l,hsh,hc,h,e=>by
  obtain⟨hd,hk13,hlen,hown,hkids⟩:=Tm.shape_parts hsh;have IH : ∀t'∈ts,∀l',d9 l'→∀h',t'.shape 14 (d-1)=true→t'.typS l'=some h'→h'.vd=true:=fun t' ht' l' hc' h' hs' e'=>fi t' (d-1) l' hs' hc' h' e'
  by_cases h1:k=1
  ·subst h1
   rw[Tm.typS,if_pos rfl] at e
   cases hlk:cE l nm l.length with
   | none=>rw[hlk] at e;cases e
   | some t'=>rw[hlk] at e;simp at e;subst e;exact Ty.toS_vd (mh hc _ _ hlk)
  by_cases h2:k=2
  ·subst h2;rw[Tm.typS,if_neg (by omega),if_pos rfl] at e;simp at e;subst e;rfl
  by_cases h34:k=3∨k=4
  ·rw[Tm.typS,if_neg h1,if_neg h2,if_pos h34] at e;simp at e;subst e;rfl
  by_cases h5:k=5
  ·subst h5
   rw[Tm.typS,if_neg (by omega),if_neg (by omega),if_neg (by omega),if_pos rfl] at e
   split at e
   ·split at e
    ·rename_i hv;simp at e;subst e;exact hv
    ·cases e
   ·cases e
  rw[Tm.typS,if_neg h1,if_neg h2,if_neg h34,if_neg h5] at e
  cases hcs:Tm.typsS ts l with
  | none=>rw[hcs] at e;cases e
  | some hs=>
   rw[hcs] at e
   exact vo h5 (th hc ts hkids (fun t' ht' h' hs' e'=>IH t' ht' l hc h' hs' e') hs hcs).2 (fun h13=>kA hown (.inr h13)) e
termination_by t=>SizeOf.sizeOf t
decreasing_by exact Tm.kid_lt (t:=.mk k nm u ty src lb ts) ht'
theorem cf {w:World}{B:Nat}{e:TypeId}{size n q g i:Nat}{xs:List Value}{u:Value}(h:w.ownsRow B e size (.slice (some ⟨g,0,none⟩) n q) n xs)(hi:i<n*size):(w.setCell ⟨g,i,none⟩ u).ownsRow B e size (.slice (some ⟨g,0,none⟩) n q) n (xs.set i u):=by
 obtain⟨h1,h2 | ⟨g',cap,cur,h2,hB,hg,hn,hc,hs,ht⟩⟩:=h
 ·exact absurd h2.1 (by simp)
 ·simp only[Value.slice.injEq,Option.some.injEq,Addr.mk.injEq,and_true] at h2
  obtain⟨rfl,-,rfl⟩:=h2;refine⟨by rw[List.length_set];exact h1,.inr ⟨g,q,_,rfl,hB,cz hg,hn,hc,by simpa using hs,?_⟩⟩;subst ht
  simp[List.take_set]
theorem bG.cell {B g n q sz o:Nat}{e:TypeId}{w:World}{rows:List (List C)}(h:bG B e sz w (.slice (some ⟨g,0,none⟩) n q) n rows)(ho:o<n*sz):(∃u,w.cell? ⟨g,o,none⟩=some u)∧w.frozen? ⟨g,o,none⟩=false:=by
 obtain⟨hl,xs,⟨h1,h2 | ⟨g',cap,cur,h2,hB,hg,hn,hc,hs,ht⟩⟩,-⟩:=h
 ·simp at h2
 ·simp only[Value.slice.injEq,Option.some.injEq,Addr.mk.injEq,and_true] at h2
  obtain⟨rfl,-,rfl⟩:=h2;have hlt:o<cur.size:=by
   have:n*sz≤q*sz:=Nat.mul_le_mul_right _ hn
   omega
  exact⟨⟨cur[o],by simp[World.cell?,hg,hlt]⟩,by simp[World.frozen?,hg]⟩
theorem bG.form {B n sz:Nat}{e:TypeId}{w:World}{v:Value}{rows:List (List C)}(h:bG B e sz w v n rows)(hn:0<n) : ∃g q,v = .slice (some ⟨g,0,none⟩) n q∧B≤g∧g<w.heap.size∧n≤q∧q≤maxLen:=by
 obtain⟨hl,xs,⟨h1,h2 | ⟨g',cap,cur,h2,hB,hg,hn',hc,hs,ht⟩⟩,-⟩:=h
 ·omega
 ·exact⟨g',cap,h2,hB,aC hg,hn',hc⟩
mutual
def Tm.casts:Tm→List Tm
 | .mk k s u t f l ts=>(if k==14 then [.mk k s u t f l ts] else [])++Tm.castss ts
def Tm.castss:List Tm→List Tm
 | []=> []
 | t :: ts=>t.casts++Tm.castss ts
end
theorem Tm.castss_take_succ : ∀(ts:List Tm) (j:Nat) (h:j<ts.length),Tm.castss (ts.take (j+1))=Tm.castss (ts.take j)++ts[j].casts
 | [],_,h=>absurd h (Nat.not_lt_zero _)
 | t :: ts,0,_=>by simp[Tm.castss]
 | t :: ts,j+1,h=>by
  have:=Tm.castss_take_succ ts j (by simpa using h);simp only[List.take_succ_cons,Tm.castss,List.getElem_cons_succ,this,List.append_assoc]
theorem Tm.castss_take_le (ts:List Tm)(j:Nat):(Tm.castss (ts.take j)).length≤(Tm.castss ts).length:=by
 induction ts generalizing j with
 | nil=>simp
 | cons t ts ih=>
  cases j with
  | zero=>simp[Tm.castss]
  | succ j=>have:=ih j;simp only[List.take_succ_cons,Tm.castss,List.length_append];omega
mutual
theorem Tm.casts_len : ∀t:Tm,((t.casts.length:Nat):Int)≤t.size
 | .mk k _ _ t _ _ ts=>by
  unfold Tm.casts Tm.size;have:=Tm.castss_len ts;rw[List.length_append]
  split<;>simp<;>omega
theorem Tm.castss_len : ∀ts:List Tm,(((Tm.castss ts).length:Nat):Int)≤Tm.sizes ts
 | []=>by unfold Tm.castss Tm.sizes;simp
 | t :: ts=>by
  unfold Tm.castss Tm.sizes;have:=Tm.casts_len t;have:=Tm.castss_len ts;rw[List.length_append]
  omega
end
def bm (F:Nat→Prop)(w:World):List (List C)→List Value→Prop
 | [],xs=>xs = []
 | r :: rs,xs=>∃ys xs',xs=ys++xs'∧bz F w r ys∧bm F w rs xs'
theorem bm.move {F G:Nat→Prop}{w w':World}(k:bl F G w w') : ∀(rs:List (List C)) (xs:List Value),bm F w rs xs→bm G w' rs xs
 | [],_,h=>h
 | _ :: rs,_,⟨ys,xs',e,h1,h2⟩=>⟨ys,xs',e,h1.move k _ _,bm.move k rs xs' h2⟩
theorem bm.append {F:Nat→Prop}{w:World} : ∀ {r1 r2:List (List C)} {x1 x2:List Value},bm F w r1 x1→bm F w r2 x2→bm F w (r1++r2) (x1++x2)
 | [],r2,_,x2,h1,h=>by unfold bm at h1;subst h1;exact h
 | r :: r1,r2,_,x2,⟨ys,xs',e1,h1,h2⟩,h=>by
  subst e1
  exact⟨ys,xs'++x2,by simp,h1,bm.append h2 h⟩
theorem aH.one {F:Nat→Prop}{w:World} : ∀ {c:C} {y:Value},aH F w c y→y.oneCell'=true
 | .int _,_,h=>by rw[aH.int_eq h];rfl
 | .str _,_,h=>by rw[(aH.str_eq h).1];rfl
 | .sl _,_,h=>by obtain⟨a,q,h,-⟩:=aH.rows h;rw[h];rfl
theorem bz.one {F:Nat→Prop}{w:World} : ∀ {r:List C} {ys:List Value},bz F w r ys→∀y∈ys,y.oneCell'=true
 | [],_,h,y,hy=>by unfold bz at h;subst h;cases hy
 | c :: cs,_,⟨z,zs,e,h1,h2⟩,y,hy=>by
  subst e
  rcases List.mem_cons.1 hy with rfl | hy
  ·exact h1.one
  ·exact bz.one h2 y hy
theorem bm.one {F:Nat→Prop}{w:World} : ∀ {rs:List (List C)} {ys:List Value},bm F w rs ys→∀y∈ys,y.oneCell'=true
 | [],_,h,y,hy=>by unfold bm at h;subst h;cases hy
 | r :: rs,_,⟨y1,x',e,h1,h2⟩,y,hy=>by
  subst e
  rcases List.mem_append.1 hy with hy | hy
  ·exact h1.one y hy
  ·exact bm.one h2 y hy
def bW (B:Nat)(F:Nat→Prop)(e:TypeId)(size:Nat)(w:World)(v:Value)(n:Nat)(rows:List (List C)):Prop:=
 ∃xs,w.ownsRow B e size v n xs∧rows.length=n∧bm F w rows xs
theorem bW.nil (B:Nat)(F:Nat→Prop)(e:TypeId)(size:Nat)(w:World):bW B F e size w (.slice none 0 0) 0 []:=⟨[],World.ownsRow_nil w B e size,rfl,rfl⟩
theorem bW.shape {B:Nat}{F:Nat→Prop}{e:TypeId}{size n:Nat}{w:World}{v:Value}{rows:List (List C)}(h:bW B F e size w v n rows) : ∃c q,v = .slice c n q:=by
 obtain⟨xs,⟨_,h1⟩,_⟩:=h
 rcases h1 with ⟨rfl,rfl⟩ | ⟨g,cap,cur,rfl,_⟩
 ·exact⟨none,0,rfl⟩
 ·exact⟨_,cap,rfl⟩
theorem bW.mono {B B' n size:Nat}{F:Nat→Prop}{e:TypeId}{w:World}{v:Value}{rows:List (List C)}(h:bW B F e size w v n rows)(hb:B'≤B):bW B' F e size w v n rows:=by
 obtain⟨xs,⟨h0,h1⟩,h2,h3⟩:=h;refine⟨xs,⟨h0,?_⟩,h2,h3⟩
 rcases h1 with h1 | ⟨g,cap,cur,e1,e2,e3⟩
 ·exact .inl h1
 ·exact .inr ⟨g,cap,cur,e1,Nat.le_trans hb e2,e3⟩
theorem bW.pushR {B g cap m:Nat}{F:Nat→Prop}{e:TypeId}{size n:Nat}{W w2:World}{v:Value}{xs ys:List Value}{rows rs:List (List C)}(hl:rows.length=n)(hs:bm F W rows xs)(hrl:rs.length=m)(hr:bm F W rs ys)
  (hF : ∀b,F b→b<B) (hv : ∀g,v.ownBlock=some g→B≤g)
  (hown:w2.ownsRow B e size (.slice (some ⟨g,0,none⟩) (n+m) cap) (n+m) (xs++ys)) (hgrow:W.grownBy w2 v.ownBlock):bW B F e size w2 (.slice (some ⟨g,0,none⟩) (n+m) cap) (n+m) (rows++rs):=by
 have k:bl F F W w2:=⟨hgrow.size,fun _ h _=>h,fun b hb hl=>hgrow.block b hl (fun e=>by have h1:=hF b hb;have h2:=hv b e.symm;omega)⟩
 exact⟨xs++ys,hown,by simp[hl,hrl],bm.append (hs.move k _ _) (hr.move k _ _)⟩
theorem oJ {W:World}{B:Nat}{e:TypeId}{cs z:Array Value}{size tp cap:Nat}(hcs:cs.size=size)(hz:z.size=size)(hcap:cap=1+tp % (2 ^ 63-1))(hB:B≤W.heap.size) :
  (World.drew (W.alloc (.cells (cs++Builtin.zeroCells z (cap-1)) e))).ownsRow B e size (.slice (some ⟨W.heap.size,0,none⟩) 1 cap) 1 cs.toList:=by
 have hlt:=Nat.mod_lt tp (show 0<2 ^ 63-1 by omega);refine⟨by simp[hcs],.inr ⟨W.heap.size,cap,cs++Builtin.zeroCells z (cap-1),rfl,hB,?_,by omega,by unfold maxLen;omega,?_,?_⟩⟩
 ·exact heap_alloc_new _ _
 ·rw[Array.size_append,size_zeroCells,hcs,hz]
  obtain⟨k,rfl⟩ : ∃k,cap=1+k:=⟨cap-1,by omega⟩
  simp[Nat.add_mul]
 ·rw[Array.toList_append,Nat.one_mul,←hcs]
  simp
theorem tl (W:World)(o:Obj):W.grownBy (World.drew (W.alloc o)) (Value.ownBlock (.slice none 0 0)):=
 have h:=World.grownBy_alloc W o (Value.ownBlock (.slice none 0 0))
 ⟨h.os,h.tape,h.output,h.size,h.block⟩
theorem ax.srepQ {F:Nat→Prop}{w:World}{t:Tm}{k u tk fk l:Int}{nm:ByteArray}{ta fa c:Option Addr}{tn tq fn fq m q:Nat}(h:ax F w t (.agg #[.int .i64 k,.string nm,.int .i64 u,.int .i64 tk,.slice ta tn tq,.int .i64 fk,.slice fa fn fq,.int .i64 l,.slice c m q])):bz F w t.row [.int .i64 k,.string nm,.int .i64 u,.int .i64 tk,.slice ta tn tq,.int .i64 fk,.slice fa fn fq,.int .i64 l,.slice c m q]:=by
 obtain⟨r1,r2,r3,r4,r5,r6,r7,r8,r9,rn,rm,rq,hty,hsr,hks⟩:=h.parts;obtain⟨s1,e1,p1⟩:=hty;obtain⟨s2,e2,p2⟩:=hsr;simp only[Value.agg.injEq,Array.mk.injEq,List.cons.injEq,and_true,true_and] at e1 e2
 cases t with | mk kk nn uu tt ff ll ts=>
 simp only[Tm.kind,Tm.name,Tm.num,Tm.type,Tm.src,Tm.label,Tm.kids] at *;subst r1 r2 r3 r8;unfold Tm.row;have i1 : ∀n:Int,aH F w (.int n) (.int .i64 n):=fun n=>by unfold aH;rfl
 exact⟨_,_,rfl,i1 _,_,_,rfl,by unfold aH;exact⟨rfl,rn⟩,_,_,rfl,i1 _,_,_,rfl,by rw[r4];exact i1 _,_,_,rfl,by rw[e1.2];exact p1,_,_,rfl,by rw[r6];exact i1 _,_,_,rfl,by rw[e2.2];exact p2,_,_,rfl,i1 _,_,_,rfl,hks,rfl⟩
def oS (F:Nat→Prop)(w:World)(us:List Tm)(e:Ending)(w':World):Prop:=∃v,e = .returned v∧bW w.heap.size F 28 9 w' v us.length (Tm.rows us)∧(us.length=0→v = .slice none 0 0)∧Below w.heap.size w w'
def fZ (F:Nat→Prop)(N0:Nat)(t:Tm):Prop:=∀(_:t.casts.length≤1000000) (y:Value) (w:World),ax F w t y→N0≤w.heap.size→Calls Tryz.prog 17 #[y] w (oS F w t.casts)
end Go.Proofs.YtfahhonmiimmdaaGreat

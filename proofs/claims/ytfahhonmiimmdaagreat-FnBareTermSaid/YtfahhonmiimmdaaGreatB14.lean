/- spec.l4Type at a function, at the leaves. And what else its parts name. -/
import Derived.Test.YtfahhonmiimmdaaGreatB13
set_option linter.unusedSimpArgs false
set_option linter.unusedVariables false
set_option maxRecDepth 100000
set_option maxHeartbeats 16000000
namespace Go.Proofs.YtfahhonmiimmdaaGreat
open Go.RowKit
theorem lw {l:List Bd}{nm:ByteArray}(h : ∀b∈l,b.ty.valid=true) : ∀n,((cC l nm n).map Ty.toS).map S.ty=cC l nm n
 | 0=>rfl
 | n+1=>by
  unfold cC
  cases hb:l[n]? with
  | none=>exact lw h n
  | some b=>
   dsimp only
   split
   ·simp[Ty.toS_ty (h b (List.mem_of_getElem? hb))]
   ·exact lw h n
def cW (l:List Bd):Prop:=∀b∈l,b.ty.valid=true
theorem cW.snoc {l:List Bd}{nm:ByteArray}{ty:Ty}(h:cW l)(hv:ty.valid=true):cW (l ++ [⟨nm,ty⟩]):=fun b hb=>by
 rcases List.mem_append.1 hb with h1 | h1
 ·exact h b h1
 ·simp at h1;subst h1;exact hv
theorem Ty.toS_vd {t:Ty}(h:t.valid=true):t.toS.vd=true:=by
 rw[←S.valid,Ty.toS_ty h];exact h
theorem ly {l:List Bd}{nm:ByteArray}(h:cW l) : ∀(n:Nat) (t:Ty),cC l nm n=some t→t.valid=true
 | 0,t,e=>by cases e
 | n+1,t,e=>by
  unfold cC at e
  cases hb:l[n]? with
  | none=>rw[hb] at e;exact ly h n t e
  | some b=>
   rw[hb] at e
   dsimp only at e
   split at e
   ·simp at e;subst e;exact h b (List.mem_of_getElem? hb)
   ·exact ly h n t e
def bd (k:Int)(ty:Ty):List S→Option S
  | [h]=>if k=5 then (if (S.fn ty.toS h).vd then some (.fn ty.toS h) else none)
           else if k=13 then (if h.cons ty.toS then some ty.toS else none)
           else if (h.mat 5).2.2 then some (if k=12 then (h.mat 5).2.1 else (h.mat 5).1) else none
  | [g,h]=>if k=6 then (if (g.mat 4).2.2&&h.cons (g.mat 4).1 then some (g.mat 4).2.1 else none)
              else if k=10 then (if (S.pr g h).vd then some (.pr g h) else none)
              else if g.cons .int&&h.cons .int then some (if k=8 then .bool else .int) else none
  | [c,g,h]=>if g.cons h&&c.cons .bool then some (g.meet h) else none
  | _=>none
mutual
def Tm.typS:Tm→List Bd→Option S
 | .mk k nm u ty src lb ts,l=>
  if k=1 then (cC l nm l.length).map Ty.toS
  else if k=2 then some .int
  else if k=3∨k=4 then some .bool
  else if k=5 then (match Tm.typsS ts (l ++ [⟨nm,ty⟩]) with
    | some [h]=>if (S.fn ty.toS h).vd then some (.fn ty.toS h) else none
    | _=>none)
  else (match Tm.typsS ts l with
    | some hs=>bd k ty hs
    | none=>none)
def Tm.typsS:List Tm→List Bd→Option (List S)
 | [],_=>some []
 | t :: ts,l=>match t.typS l with
  | none=>none
  | some h=>(match Tm.typsS ts l with
    | none=>none
    | some hs=>some (h :: hs))
end
theorem ce (F G:Nat→Prop)(s u:S)(y z:Value)(w:World)(hy:ap F w s.ty y)(hz:ap G w u.ty z)(hs:s.vd=true)(hu:u.vd=true) :
  Calls Tryz.prog 58 #[y,z] w fun e w'=>e = .returned (.bool (s.cons u))∧Below w.heap.size w w':=by
 have h:=ec F G s.ty u.ty 4 4 y z w hy hz ((S.valid s).trans hs) ((S.valid u).trans hu)
 rwa [S.ty_cons] at h
theorem kI {s:S}{k:Int}(h:s.vd=true):(s.mat k).2.2=true→(s.mat k).1.vd=true∧(s.mat k).2.1.vd=true:=by
 cases s with
 | fn a b=>intro e;by_cases q:k=4<;>simp[S.mat,q] at e ⊢;exact j8 h
 | pr a b=>intro e;by_cases q:k=5<;>simp[S.mat,q] at e ⊢;exact gu h
 | any=>intro _;simp[S.mat,S.vd,S.ok,S.dep]
 | _=>intro e;simp[S.mat] at e
theorem eb {s:S}(h:s.vd=true):s.cnt≤1048576:=by rw[←S.ty_cnt];exact Ty.cnt_valid (by rw[S.valid];exact h)
theorem nU {k:Int}{ty:Ty}{g h:S}(hk:k=7∨k=8):bd k ty [g,h]=if (g.cons .int&&h.cons .int)=true then some (if k=8 then .bool else .int) else none:=by
 have h6 : ¬k=6:=by omega
 have h10 : ¬k=10:=by omega
 simp only[bd,if_neg h6,if_neg h10]
theorem sU {ty:Ty}{g h:S}:(bd 10 ty [g,h]).map S.ty=if (Ty.mk 5 [g.ty,h.ty]).valid=true then some (.mk 5 [g.ty,h.ty]) else none:=by
 rw[show(Ty.mk 5 [g.ty,h.ty])=(S.pr g h).ty from rfl,S.valid];simp only[bd]
 cases (S.pr g h).vd<;>simp
theorem sV {k:Int}{ty:Ty}{h:S}(hk:k=11∨k=12):bd k ty [h]=if (h.mat 5).2.2=true then some (if k=12 then (h.mat 5).2.1 else (h.mat 5).1) else none:=by
 have h5 : ¬k=5:=by omega
 have h13 : ¬k=13:=by omega
 simp only[bd,if_neg h5,if_neg h13]
theorem S.meet_okT : ∀s u:S,s.cons u=true→s.ok=true→u.ok=true→(s.meet u).ok=true:=by
 intro s
 induction s with
 | fn a b ha hb=>
  intro u h h1 h2
  cases u<;>simp[S.cons] at h
  ·simpa [S.meet] using h1
  ·simp[S.ok] at h1 h2
   simp[S.meet,S.ok,ha _ h.1 h1.1 h2.1,hb _ h.2 h1.2 h2.2]
 | pr a b ha hb=>
  intro u h h1 h2
  cases u<;>simp[S.cons] at h
  ·simpa [S.meet] using h1
  ·simp[S.ok] at h1 h2
   simp[S.meet,S.ok,ha _ h.1 h1.1 h2.1,hb _ h.2 h1.2 h2.2]
 | _=>intro u h h1 h2;cases u<;>simp[S.cons] at h<;>simpa [S.meet] using (by assumption)
theorem S.meet_depT : ∀s u:S,s.cons u=true→(s.meet u).dep≤max s.dep u.dep:=by
 intro s
 induction s with
 | fn a b ha hb=>
  intro u h
  cases u<;>simp[S.cons] at h
  ·simp only[S.meet];exact Nat.le_max_left _ _
  ·rename_i c d
   have h1:=ha _ h.1;have h2:=hb _ h.2;simp only[S.meet,S.dep]
   omega
 | pr a b ha hb=>
  intro u h
  cases u<;>simp[S.cons] at h
  ·simp only[S.meet];exact Nat.le_max_left _ _
  ·rename_i c d
   have h1:=ha _ h.1;have h2:=hb _ h.2;simp only[S.meet,S.dep]
   omega
 | _=>intro u h;cases u<;>simp[S.cons] at h<;>simp only[S.meet]<;>first | exact Nat.le_max_left _ _ | exact Nat.le_max_right _ _
theorem S.meet_vdT (s u:S)(h:s.cons u=true)(hs:s.vd=true)(hu:u.vd=true):(s.meet u).vd=true:=by
 have h1:=S.meet_okT s u h (S.vd_ok hs) (S.vd_ok hu);have h2:=S.meet_depT s u h;have h3:=S.vd_dep hs;have h4:=S.vd_dep hu
 exact S.vd_mk h1 (by omega)
theorem ug {k:Int}{ty:Ty}{hs:List S}{h:S}(hk:k≠5)(hv : ∀g∈hs,g.vd=true)(hvt:k=13→ty.valid=true)(e:bd k ty hs=some h):h.vd=true:=by
 match hs,hv,e with
 | [],_,e=>simp[bd] at e
 | [g],hv,e=>
  simp only[bd,if_neg hk] at e
  split at e
  ·rename_i h13
   split at e
   ·simp at e;subst e;exact Ty.toS_vd (hvt h13)
   ·cases e
  ·split at e
   ·rename_i hm
    have hp:=kI (k:=5) (hv g (by simp)) hm;simp only[Option.some.injEq] at e;subst e
    split
    ·exact hp.2
    ·exact hp.1
   ·cases e
 | [g,q],hv,e=>
  simp only[bd] at e
  split at e
  ·split at e
   ·rename_i hm
    simp only[Bool.and_eq_true] at hm;simp only[Option.some.injEq] at e;subst e
    exact(kI (k:=4) (hv g (by simp)) hm.1).2
   ·cases e
  ·split at e
   ·split at e
    ·rename_i h10 hvd;simp at e;subst e;exact hvd
    ·cases e
   ·split at e
    ·simp only[Option.some.injEq] at e
     subst e
     split<;>rfl
    ·cases e
 | [c,g,q],hv,e=>
  simp only[bd] at e
  split at e
  ·rename_i hm
   simp only[Bool.and_eq_true] at hm;simp only[Option.some.injEq] at e;subst e
   exact S.meet_vdT _ _ hm.1 (hv g (by simp)) (hv q (by simp))
  ·cases e
 | _ :: _ :: _ :: _ :: _,_,e=>simp[bd] at e
theorem rT {d:Int}{l:List Bd}(hc:cW l) : ∀(ts:List Tm),Tm.shapes ts 14 d=true→(∀t∈ts,∀h,t.shape 14 d=true→t.typS l=some h→h.vd=true)→∀hs,Tm.typsS ts l=some hs→hs.length=ts.length∧∀h∈hs,h.vd=true
 | [],_,_,hs,e=>by simp[Tm.typsS] at e;subst e;simp
 | t :: ts,hsh,IH,hs,e=>by
  unfold Tm.shapes at hsh;simp only[Bool.and_eq_true] at hsh;rw[Tm.typsS] at e
  cases h1:t.typS l with
  | none=>rw[h1] at e;cases e
  | some h=>
   rw[h1] at e
   dsimp only at e
   cases h2:Tm.typsS ts l with
   | none=>rw[h2] at e;cases e
   | some hs2=>
    rw[h2] at e;simp only[Option.some.injEq] at e;subst e;obtain⟨e1,e2⟩:=rT hc ts hsh.2 (fun t' ht'=>IH t' (List.mem_cons_of_mem _ ht')) hs2 h2;refine⟨by simp[e1],fun g hg=>?_⟩
    rcases List.mem_cons.1 hg with rfl | hg
    ·exact IH t (by simp) _ hsh.1 h1
    ·exact e2 g hg
theorem jD {k u lb:Int}{nm:ByteArray}{ty src:Ty}{ts:List Tm}(h:(Tm.mk k nm u ty src lb ts).ownB=true)(hk:k=5∨k=13):ty.valid=true:=by
 unfold Tm.ownB ownB at h;simp only[Tm.kind,Tm.type,Tm.src,Tm.num,Tm.label,Tm.name] at h
 rcases hk with rfl | rfl
 ·simp at h;exact h.1.2
 ·simp at h;exact h.1.2
theorem eJ : ∀(t:Tm) (d:Int) (l:List Bd),t.shape 14 d=true→cW l→∀h,t.typS l=some h→h.vd=true
 | .mk k nm u ty src lb ts,d,l,hsh,hc,h,e=>by
  obtain⟨hd,hk13,hlen,hown,hkids⟩:=Tm.shape_parts hsh;have IH : ∀t'∈ts,∀l',cW l'→∀h',t'.shape 14 (d-1)=true→t'.typS l'=some h'→h'.vd=true:=fun t' ht' l' hc' h' hs' e'=>eJ t' (d-1) l' hs' hc' h' e'
  by_cases h1:k=1
  ·subst h1
   rw[Tm.typS,if_pos rfl] at e
   cases hlk:cC l nm l.length with
   | none=>rw[hlk] at e;cases e
   | some t'=>rw[hlk] at e;simp at e;subst e;exact Ty.toS_vd (ly hc _ _ hlk)
  by_cases h2:k=2
  ·subst h2;rw[Tm.typS,if_neg (by omega),if_pos rfl] at e;simp at e;subst e;rfl
  by_cases h34:k=3∨k=4
  ·rw[Tm.typS,if_neg h1,if_neg h2,if_pos h34] at e;simp at e;subst e;rfl
  by_cases h5:k=5
  ·subst h5
   rw[Tm.typS,if_neg (by omega),if_neg (by omega),if_neg (by omega),if_pos rfl] at e
   split at e
   ·split at e
    ·rename_i hv;simp at e;subst e;exact hv
    ·cases e
   ·cases e
  rw[Tm.typS,if_neg h1,if_neg h2,if_neg h34,if_neg h5] at e
  cases hcs:Tm.typsS ts l with
  | none=>rw[hcs] at e;cases e
  | some hs=>
   rw[hcs] at e
   exact ug h5 (rT hc ts hkids (fun t' ht' h' hs' e'=>IH t' ht' l hc h' hs' e') hs hcs).2 (fun h13=>jD hown (.inr h13)) e
termination_by t=>SizeOf.sizeOf t
decreasing_by exact Tm.kid_lt (t:=.mk k nm u ty src lb ts) ht'
def gB:Tm→Tm
 | .mk k s u t f l ts=>if k==13||k==14 then ts.headD .zero else if k==5 then .mk k s u .any1 f l ts else .mk k s u t f l ts
def PB (t:Tm):Prop:=t.kind=13∨t.kind=14→t.kids ≠ []
theorem Ty.noneB_eq {t:Ty}(h:t.noneB=true):t = .no:=by
 cases t with | mk k ts=>
 cases ts with
 | nil=>simp[Ty.noneB,Go.Proofs.YtfahhonmiimmdaaGreat.noneB,Ty.kind,Ty.kids] at h;subst h;rfl
 | cons a b=>(simp[Ty.noneB,Go.Proofs.YtfahhonmiimmdaaGreat.noneB,Ty.kind,Ty.kids] at h;try omega)
theorem ul {k:Int}(h:k=13∨k=14):aG k=1:=by rcases h with rfl | rfl<;>rfl
mutual
theorem Tm.map_bare (nt:Int) : ∀(t:Tm) (d:Int),t.shape nt d=true→t.mapT gB=t.bare∧t.mapOk gB PB
 | .mk k s u t f l ts,d,h=>by
  obtain⟨-,-,h3,h4,h5⟩:=Tm.shape_parts h;obtain⟨e1,e2⟩:=Tm.maps_bare nt ts (d-1) h5;unfold Tm.mapT Tm.bare Tm.mapOk;rw[e1];refine⟨?_,?_,e2⟩
  ·unfold gB eR
   have h6:Go.Proofs.YtfahhonmiimmdaaGreat.ownB k u l s t.valid t.noneB f.noneB (f.valid&&t.valid&&f.cons t)=true:=h4;unfold Go.Proofs.YtfahhonmiimmdaaGreat.ownB at h6
   by_cases hc:k=13∨k=14
   ·rcases hc with rfl | rfl<;>rfl
   ·have k13:(k==13)=false:=by simp;omega
    have k14:(k==14)=false:=by simp;omega
    simp only[k13,k14,Bool.or_false,Bool.false_eq_true,if_false] at h6 ⊢;simp only[Bool.and_eq_true] at h6;obtain⟨⟨-,h7⟩,h8,hl⟩:=h6;have hl':l=0:=by simpa using hl
    subst hl';rw[Ty.noneB_eq h8]
    by_cases k5:(k==5)=true
    ·simp only[k5,if_true]
    ·simp only[k5,if_false,Bool.false_eq_true] at h7 ⊢
     rw[Ty.noneB_eq h7]
  ·intro hk
   simp only[Tm.kind,Tm.kids] at hk ⊢;rw[ul hk] at h3;intro e;have:(Tm.bares ts).length=ts.length:=by rw[Tm.bares_eq];simp
   rw[e] at this
   simp at this
   omega
theorem Tm.maps_bare (nt:Int) : ∀(ts:List Tm) (d:Int),Tm.shapes ts nt d=true→Tm.mapTs gB ts=Tm.bares ts∧Tm.mapOks gB PB ts
 | [],_,_=>by unfold Tm.mapTs Tm.bares Tm.mapOks;exact⟨rfl,trivial⟩
 | t :: ts,d,h=>by
  unfold Tm.shapes at h;simp only[Bool.and_eq_true] at h;obtain⟨e1,e2⟩:=Tm.map_bare nt t d h.1;obtain⟨e3,e4⟩:=Tm.maps_bare nt ts d h.2;unfold Tm.mapTs Tm.bares Tm.mapOks;rw[e1,e3]
  exact⟨rfl,e2,e4⟩
end
theorem b7.keep {B:Nat}{w w':World}{t:Tm}{y:Value}(h:b7 B w t y)(k:Below w.heap.size w w'):b7 B w' t y:=h.below k
theorem bo.leaf {B:Nat}{w:World}{k:Int}{y:Value}(h:bo B w (.mk k []) y) : ∃a q,y = .agg #[.int .i64 k,.slice a 0 q]∧q≤maxLen:=by
 obtain⟨fp,⟨s,rfl,h⟩,-⟩:=h;simp only[Ty.kids,Ty.rows] at h;unfold aJ at h;obtain⟨a,q,rfl,-,hq,-⟩:=h
 exact⟨a,q,rfl,hq⟩
theorem b7.retype {B:Nat}{w:World}{k u l:Int}{nm:ByteArray}{tt ff:Ty}{ts:List Tm}{tk fk:Int}{s1 s2 s3:Value}(h:b7 B w (.mk k nm u tt ff l ts) (.agg #[.int .i64 k,.string nm,.int .i64 u,.int .i64 tk,s1,.int .i64 fk,s2,.int .i64 l,s3]))(n:Int){a:Option Addr}{q:Nat}(hq:q≤maxLen) :
  b7 B w (.mk k nm u (.mk n []) ff l ts) (.agg #[.int .i64 k,.string nm,.int .i64 u,.int .i64 n,.slice a 0 q,.int .i64 fk,s2,.int .i64 l,s3]):=by
 obtain⟨fp,⟨s1',s2',s',f1,f2,f3,he,rfl,hn,h1,h2,h3⟩,hd,hx⟩:=h;simp only[Tm.kind,Tm.name,Tm.num,Tm.type,Tm.src,Tm.label,Tm.kids,Value.agg.injEq,Array.mk.injEq,List.cons.injEq,Value.int.injEq,Value.string.injEq,true_and,and_true] at he hn h1 h2 h3;obtain⟨rfl,rfl,rfl,rfl,rfl⟩:=he;obtain⟨-,hd2,-⟩:=List.nodup_append.1 hd
 exact b7.of (f1:= []) hn rfl rfl (by simp only[Ty.kids,Ty.rows];exact aJ.sl_nil hq) h2 h3 (by simpa using hd2) (fun x hx'=>hx x (List.mem_append_right _ (by simpa using hx')))
theorem b7.kid0 {B:Nat}{w:World}{k u l:Int}{nm:ByteArray}{tt ff:Ty}{x:Tm}{ts:List Tm}{v0 v1 v2 v3 v4 v5 v6 v7:Value}{c:Option Addr}{m q:Nat}(h:b7 B w (.mk k nm u tt ff l (x :: ts)) (.agg #[v0,v1,v2,v3,v4,v5,v6,v7,.slice c m q])) : ∃b,c=some ⟨b,0,none⟩∧0<m∧m≤q∧q≤maxLen ∧
  ∃k0 nm0 u0 tk0 s1 fk0 s2 l0 s3,w.cell? ⟨b,0,none⟩=some (.int .i64 k0)∧w.cell? ⟨b,1,none⟩=some (.string nm0)∧w.cell? ⟨b,2,none⟩=some (.int .i64 u0)∧w.cell? ⟨b,3,none⟩=some (.int .i64 tk0)∧w.cell? ⟨b,4,none⟩=some s1∧w.cell? ⟨b,5,none⟩=some (.int .i64 fk0)∧w.cell? ⟨b,6,none⟩=some s2∧w.cell? ⟨b,7,none⟩=some (.int .i64 l0)∧w.cell? ⟨b,8,none⟩=some s3 ∧
   b7 B w x (.agg #[.int .i64 k0,.string nm0,.int .i64 u0,.int .i64 tk0,s1,.int .i64 fk0,s2,.int .i64 l0,s3]):=by
 obtain⟨fp,⟨s1',s2',s',f1,f2,f3,he,rfl,hn,h1,h2,h3⟩,hd,hx⟩:=h;simp only[Tm.kids,Value.agg.injEq,Array.mk.injEq,List.cons.injEq,and_true] at h3 he;obtain⟨-,-,-,-,-,-,-,-,rfl⟩:=he;unfold aJ at h3;obtain⟨a,cap,he,hc1,hc2,⟨h,-⟩ | ⟨b,fps,cs,T,rfl,rfl,hb,hrows⟩⟩:=h3
 ·unfold Tm.rows at h;cases h
 ·simp only[Value.slice.injEq] at he
  obtain⟨rfl,rfl,rfl⟩:=he;unfold Tm.rows aK at hrows;obtain⟨g1,g2,rfl,hco,-⟩:=hrows;obtain⟨p1,p2,p3,q1,q2,q3,rfl,c0,c1,c2,c3,c4,c5,c6,c7,c8,o1,o2,o3⟩:=TmCells hco;simp only[Nat.zero_add] at c1 c2 c3 c4 c5 c6 c7 c8;have hnm:x.name.size≤maxLen:=by
   cases x with | mk xk xn xu xt xf xl xs=>
   unfold Tm.row aV at hco;obtain⟨y0,f0,r0,-,-,-,hco⟩:=hco;unfold aV at hco;obtain⟨y1,f1',r1,-,-,o1',-⟩:=hco;unfold aJ at o1'
   exact o1'.2.1
  refine⟨b,rfl,by rw[Tm.rows_length];simp,hc1,hc2,_,_,_,_,_,_,_,_,_,c0,c1,c2,c3,c4,c5,c6,c7,c8,?_⟩;obtain⟨-,hd2,-⟩:=List.nodup_append.1 hd;obtain⟨-,hd3,-⟩:=List.nodup_append.1 hd2;have hd4:=(List.nodup_cons.1 hd3).2;obtain⟨hd5,-,-⟩:=List.nodup_append.1 hd4
  cases x with | mk xk xn xu xt xf xl xs=>
  exact b7.of hnm rfl rfl o1 o2 o3 hd5 (fun z hz=>hx z (List.mem_append_right _ (List.mem_append_right _ (List.mem_cons_of_mem _ (List.mem_append_left _ hz)))))
theorem cloBare:MapC 61 gB PB:=by
 intro B t y w hy hP hB
 cases t with | mk kk nn uu tt ff ll ts=>
 obtain⟨k,nm,u,tk,ta,tn,tq,fk,fa,fn,fq,l,c,m,q,rfl⟩:=hy.shape;obtain⟨r1,r2,r3,r4,r5,r6,r7,r8,r9,rn,rm,rq,hty,hsr,hks⟩:=hy.rep.parts;simp only[Tm.kind,Tm.name,Tm.num,Tm.type,Tm.src,Tm.label,Tm.kids] at *;subst r1 r2 r3 r8;unfold maxLen at rq;clear r4 r5 r6 r7 rn hty hsr hks
 by_cases hc:k=13∨k=14
 ·have hne:ts ≠ []:=hP hc
  obtain⟨x,xs,rfl⟩ : ∃a b,ts=a :: b:=by cases ts with | nil=>exact absurd rfl hne | cons a b=>exact⟨a,b,rfl⟩
  have hg:gB (.mk k nm u tt ff l (x :: xs))=x:=by unfold gB;rcases hc with rfl | rfl<;>rfl
  rw[hg];obtain⟨b,rfl,hm0,hmq,hqm,k0,nm0,u0,tk0,s1,fk0,s2,l0,s3,e0,e1,e2,e3,e4,e5,e6,e7,e8,hx⟩:=hy.kid0;obtain⟨ta0,tn0,tq0,fa0,fn0,fq0,c0,n0,q0,rfl,rfl,rfl⟩ : ∃ta0 tn0 tq0 fa0 fn0 fq0 c0 n0 q0,s1 = .slice ta0 tn0 tq0∧s2 = .slice fa0 fn0 fq0∧s3 = .slice c0 n0 q0:=by
   obtain⟨k,nm,u,tk,ta,tn,tq,fk,fa,fn,fq,l,c,m,q,e⟩:=hx.shape;simp only[Value.agg.injEq,Array.mk.injEq,List.cons.injEq,and_true,true_and] at e
   exact⟨ta,tn,tq,fa,fn,fq,c,m,q,e.2.2.2.2.1,e.2.2.2.2.2.2.1,e.2.2.2.2.2.2.2.2⟩
  have HX:=zq hx;clear hx hy hne hP hg r9;have g0:=af (aH (w:=w) (o:=.cells #[.int .i64 k,.string nm,.int .i64 u,.int .i64 tk,.slice ta tn tq,.int .i64 fk,.slice fa fn fq,.int .i64 l,.slice (some ⟨b,0,none⟩) m q] 28) (o':=.cells #[.int .i64 0,.string {data:=#[]},.int .i64 0,.int .i64 0,.slice none 0 0,.int .i64 0,.slice none 0 0,.int .i64 0,.slice none 0 0] 28)) e0;have g1:=af (aH (w:=w) (o:=.cells #[.int .i64 k,.string nm,.int .i64 u,.int .i64 tk,.slice ta tn tq,.int .i64 fk,.slice fa fn fq,.int .i64 l,.slice (some ⟨b,0,none⟩) m q] 28) (o':=.cells #[.int .i64 0,.string {data:=#[]},.int .i64 0,.int .i64 0,.slice none 0 0,.int .i64 0,.slice none 0 0,.int .i64 0,.slice none 0 0] 28)) e1;have g2:=af (aH (w:=w) (o:=.cells #[.int .i64 k,.string nm,.int .i64 u,.int .i64 tk,.slice ta tn tq,.int .i64 fk,.slice fa fn fq,.int .i64 l,.slice (some ⟨b,0,none⟩) m q] 28) (o':=.cells #[.int .i64 0,.string {data:=#[]},.int .i64 0,.int .i64 0,.slice none 0 0,.int .i64 0,.slice none 0 0,.int .i64 0,.slice none 0 0] 28)) e2;have g3:=af (aH (w:=w) (o:=.cells #[.int .i64 k,.string nm,.int .i64 u,.int .i64 tk,.slice ta tn tq,.int .i64 fk,.slice fa fn fq,.int .i64 l,.slice (some ⟨b,0,none⟩) m q] 28) (o':=.cells #[.int .i64 0,.string {data:=#[]},.int .i64 0,.int .i64 0,.slice none 0 0,.int .i64 0,.slice none 0 0,.int .i64 0,.slice none 0 0] 28)) e3;have g4:=af (aH (w:=w) (o:=.cells #[.int .i64 k,.string nm,.int .i64 u,.int .i64 tk,.slice ta tn tq,.int .i64 fk,.slice fa fn fq,.int .i64 l,.slice (some ⟨b,0,none⟩) m q] 28) (o':=.cells #[.int .i64 0,.string {data:=#[]},.int .i64 0,.int .i64 0,.slice none 0 0,.int .i64 0,.slice none 0 0,.int .i64 0,.slice none 0 0] 28)) e4;have g5:=af (aH (w:=w) (o:=.cells #[.int .i64 k,.string nm,.int .i64 u,.int .i64 tk,.slice ta tn tq,.int .i64 fk,.slice fa fn fq,.int .i64 l,.slice (some ⟨b,0,none⟩) m q] 28) (o':=.cells #[.int .i64 0,.string {data:=#[]},.int .i64 0,.int .i64 0,.slice none 0 0,.int .i64 0,.slice none 0 0,.int .i64 0,.slice none 0 0] 28)) e5;have g6:=af (aH (w:=w) (o:=.cells #[.int .i64 k,.string nm,.int .i64 u,.int .i64 tk,.slice ta tn tq,.int .i64 fk,.slice fa fn fq,.int .i64 l,.slice (some ⟨b,0,none⟩) m q] 28) (o':=.cells #[.int .i64 0,.string {data:=#[]},.int .i64 0,.int .i64 0,.slice none 0 0,.int .i64 0,.slice none 0 0,.int .i64 0,.slice none 0 0] 28)) e6;have g7:=af (aH (w:=w) (o:=.cells #[.int .i64 k,.string nm,.int .i64 u,.int .i64 tk,.slice ta tn tq,.int .i64 fk,.slice fa fn fq,.int .i64 l,.slice (some ⟨b,0,none⟩) m q] 28) (o':=.cells #[.int .i64 0,.string {data:=#[]},.int .i64 0,.int .i64 0,.slice none 0 0,.int .i64 0,.slice none 0 0,.int .i64 0,.slice none 0 0] 28)) e7;have g8:=af (aH (w:=w) (o:=.cells #[.int .i64 k,.string nm,.int .i64 u,.int .i64 tk,.slice ta tn tq,.int .i64 fk,.slice fa fn fq,.int .i64 l,.slice (some ⟨b,0,none⟩) m q] 28) (o':=.cells #[.int .i64 0,.string {data:=#[]},.int .i64 0,.int .i64 0,.slice none 0 0,.int .i64 0,.slice none 0 0,.int .i64 0,.slice none 0 0] 28)) e8
  clear e0 e1 e2 e3 e4 e5 e6 e7 e8
  rcases hc with rfl | rfl
  ·skip
   go_enter Tryz.func61,Tryz.ntmps61
   go_wp2_with fail
   have HB0:=zq (show Below w.heap.size w ((w.alloc (.cells #[.int .i64 13,.string nm,.int .i64 u,.int .i64 tk,.slice ta tn tq,.int .i64 fk,.slice fa fn fq,.int .i64 l,.slice (some ⟨b,0,none⟩) m q] 28)).alloc (.cells #[.int .i64 0,.string {data:=#[]},.int .i64 0,.int .i64 0,.slice none 0 0,.int .i64 0,.slice none 0 0,.int .i64 0,.slice none 0 0] 28)) from aH);have z0:((w.alloc (.cells #[.int .i64 13,.string nm,.int .i64 u,.int .i64 tk,.slice ta tn tq,.int .i64 fk,.slice fa fn fq,.int .i64 l,.slice (some ⟨b,0,none⟩) m q] 28)).alloc (.cells #[.int .i64 0,.string {data:=#[]},.int .i64 0,.int .i64 0,.slice none 0 0,.int .i64 0,.slice none 0 0,.int .i64 0,.slice none 0 0] 28)).cell? ⟨w.heap.size+1,0,none⟩=some (.int .i64 0):=av 0;have z1:((w.alloc (.cells #[.int .i64 13,.string nm,.int .i64 u,.int .i64 tk,.slice ta tn tq,.int .i64 fk,.slice fa fn fq,.int .i64 l,.slice (some ⟨b,0,none⟩) m q] 28)).alloc (.cells #[.int .i64 0,.string {data:=#[]},.int .i64 0,.int .i64 0,.slice none 0 0,.int .i64 0,.slice none 0 0,.int .i64 0,.slice none 0 0] 28)).cell? ⟨w.heap.size+1,1,none⟩=some (.string {data:=#[]}):=av 1;have z2:((w.alloc (.cells #[.int .i64 13,.string nm,.int .i64 u,.int .i64 tk,.slice ta tn tq,.int .i64 fk,.slice fa fn fq,.int .i64 l,.slice (some ⟨b,0,none⟩) m q] 28)).alloc (.cells #[.int .i64 0,.string {data:=#[]},.int .i64 0,.int .i64 0,.slice none 0 0,.int .i64 0,.slice none 0 0,.int .i64 0,.slice none 0 0] 28)).cell? ⟨w.heap.size+1,2,none⟩=some (.int .i64 0):=av 2;have z3:((w.alloc (.cells #[.int .i64 13,.string nm,.int .i64 u,.int .i64 tk,.slice ta tn tq,.int .i64 fk,.slice fa fn fq,.int .i64 l,.slice (some ⟨b,0,none⟩) m q] 28)).alloc (.cells #[.int .i64 0,.string {data:=#[]},.int .i64 0,.int .i64 0,.slice none 0 0,.int .i64 0,.slice none 0 0,.int .i64 0,.slice none 0 0] 28)).cell? ⟨w.heap.size+1,3,none⟩=some (.int .i64 0):=av 3;have z4:((w.alloc (.cells #[.int .i64 13,.string nm,.int .i64 u,.int .i64 tk,.slice ta tn tq,.int .i64 fk,.slice fa fn fq,.int .i64 l,.slice (some ⟨b,0,none⟩) m q] 28)).alloc (.cells #[.int .i64 0,.string {data:=#[]},.int .i64 0,.int .i64 0,.slice none 0 0,.int .i64 0,.slice none 0 0,.int .i64 0,.slice none 0 0] 28)).cell? ⟨w.heap.size+1,4,none⟩=some (.slice none 0 0):=av 4;have z5:((w.alloc (.cells #[.int .i64 13,.string nm,.int .i64 u,.int .i64 tk,.slice ta tn tq,.int .i64 fk,.slice fa fn fq,.int .i64 l,.slice (some ⟨b,0,none⟩) m q] 28)).alloc (.cells #[.int .i64 0,.string {data:=#[]},.int .i64 0,.int .i64 0,.slice none 0 0,.int .i64 0,.slice none 0 0,.int .i64 0,.slice none 0 0] 28)).cell? ⟨w.heap.size+1,5,none⟩=some (.int .i64 0):=av 5;have z6:((w.alloc (.cells #[.int .i64 13,.string nm,.int .i64 u,.int .i64 tk,.slice ta tn tq,.int .i64 fk,.slice fa fn fq,.int .i64 l,.slice (some ⟨b,0,none⟩) m q] 28)).alloc (.cells #[.int .i64 0,.string {data:=#[]},.int .i64 0,.int .i64 0,.slice none 0 0,.int .i64 0,.slice none 0 0,.int .i64 0,.slice none 0 0] 28)).cell? ⟨w.heap.size+1,6,none⟩=some (.slice none 0 0):=av 6
   have z7:((w.alloc (.cells #[.int .i64 13,.string nm,.int .i64 u,.int .i64 tk,.slice ta tn tq,.int .i64 fk,.slice fa fn fq,.int .i64 l,.slice (some ⟨b,0,none⟩) m q] 28)).alloc (.cells #[.int .i64 0,.string {data:=#[]},.int .i64 0,.int .i64 0,.slice none 0 0,.int .i64 0,.slice none 0 0,.int .i64 0,.slice none 0 0] 28)).cell? ⟨w.heap.size+1,7,none⟩=some (.int .i64 0):=av 7;have z8:((w.alloc (.cells #[.int .i64 13,.string nm,.int .i64 u,.int .i64 tk,.slice ta tn tq,.int .i64 fk,.slice fa fn fq,.int .i64 l,.slice (some ⟨b,0,none⟩) m q] 28)).alloc (.cells #[.int .i64 0,.string {data:=#[]},.int .i64 0,.int .i64 0,.slice none 0 0,.int .i64 0,.slice none 0 0,.int .i64 0,.slice none 0 0] 28)).cell? ⟨w.heap.size+1,8,none⟩=some (.slice none 0 0):=av 8;refine bodyPost_ret (v:=.agg #[.int .i64 k0,.string nm0,.int .i64 u0,.int .i64 tk0,.slice ta0 tn0 tq0,.int .i64 fk0,.slice fa0 fn0 fq0,.int .i64 l0,.slice c0 n0 q0]) (by simp[results,Tryz.results61,go_sem,z0,z1,z2,z3,z4,z5,z6,z7,z8]) rfl ?_;refine⟨_,rfl,HX.out.below ?_,?_⟩<;>exact aH
  ·skip
   go_enter Tryz.func61,Tryz.ntmps61
   go_wp2_with fail
   have HB0:=zq (show Below w.heap.size w ((w.alloc (.cells #[.int .i64 14,.string nm,.int .i64 u,.int .i64 tk,.slice ta tn tq,.int .i64 fk,.slice fa fn fq,.int .i64 l,.slice (some ⟨b,0,none⟩) m q] 28)).alloc (.cells #[.int .i64 0,.string {data:=#[]},.int .i64 0,.int .i64 0,.slice none 0 0,.int .i64 0,.slice none 0 0,.int .i64 0,.slice none 0 0] 28)) from aH);have z0:((w.alloc (.cells #[.int .i64 14,.string nm,.int .i64 u,.int .i64 tk,.slice ta tn tq,.int .i64 fk,.slice fa fn fq,.int .i64 l,.slice (some ⟨b,0,none⟩) m q] 28)).alloc (.cells #[.int .i64 0,.string {data:=#[]},.int .i64 0,.int .i64 0,.slice none 0 0,.int .i64 0,.slice none 0 0,.int .i64 0,.slice none 0 0] 28)).cell? ⟨w.heap.size+1,0,none⟩=some (.int .i64 0):=av 0;have z1:((w.alloc (.cells #[.int .i64 14,.string nm,.int .i64 u,.int .i64 tk,.slice ta tn tq,.int .i64 fk,.slice fa fn fq,.int .i64 l,.slice (some ⟨b,0,none⟩) m q] 28)).alloc (.cells #[.int .i64 0,.string {data:=#[]},.int .i64 0,.int .i64 0,.slice none 0 0,.int .i64 0,.slice none 0 0,.int .i64 0,.slice none 0 0] 28)).cell? ⟨w.heap.size+1,1,none⟩=some (.string {data:=#[]}):=av 1;have z2:((w.alloc (.cells #[.int .i64 14,.string nm,.int .i64 u,.int .i64 tk,.slice ta tn tq,.int .i64 fk,.slice fa fn fq,.int .i64 l,.slice (some ⟨b,0,none⟩) m q] 28)).alloc (.cells #[.int .i64 0,.string {data:=#[]},.int .i64 0,.int .i64 0,.slice none 0 0,.int .i64 0,.slice none 0 0,.int .i64 0,.slice none 0 0] 28)).cell? ⟨w.heap.size+1,2,none⟩=some (.int .i64 0):=av 2;have z3:((w.alloc (.cells #[.int .i64 14,.string nm,.int .i64 u,.int .i64 tk,.slice ta tn tq,.int .i64 fk,.slice fa fn fq,.int .i64 l,.slice (some ⟨b,0,none⟩) m q] 28)).alloc (.cells #[.int .i64 0,.string {data:=#[]},.int .i64 0,.int .i64 0,.slice none 0 0,.int .i64 0,.slice none 0 0,.int .i64 0,.slice none 0 0] 28)).cell? ⟨w.heap.size+1,3,none⟩=some (.int .i64 0):=av 3;have z4:((w.alloc (.cells #[.int .i64 14,.string nm,.int .i64 u,.int .i64 tk,.slice ta tn tq,.int .i64 fk,.slice fa fn fq,.int .i64 l,.slice (some ⟨b,0,none⟩) m q] 28)).alloc (.cells #[.int .i64 0,.string {data:=#[]},.int .i64 0,.int .i64 0,.slice none 0 0,.int .i64 0,.slice none 0 0,.int .i64 0,.slice none 0 0] 28)).cell? ⟨w.heap.size+1,4,none⟩=some (.slice none 0 0):=av 4;have z5:((w.alloc (.cells #[.int .i64 14,.string nm,.int .i64 u,.int .i64 tk,.slice ta tn tq,.int .i64 fk,.slice fa fn fq,.int .i64 l,.slice (some ⟨b,0,none⟩) m q] 28)).alloc (.cells #[.int .i64 0,.string {data:=#[]},.int .i64 0,.int .i64 0,.slice none 0 0,.int .i64 0,.slice none 0 0,.int .i64 0,.slice none 0 0] 28)).cell? ⟨w.heap.size+1,5,none⟩=some (.int .i64 0):=av 5;have z6:((w.alloc (.cells #[.int .i64 14,.string nm,.int .i64 u,.int .i64 tk,.slice ta tn tq,.int .i64 fk,.slice fa fn fq,.int .i64 l,.slice (some ⟨b,0,none⟩) m q] 28)).alloc (.cells #[.int .i64 0,.string {data:=#[]},.int .i64 0,.int .i64 0,.slice none 0 0,.int .i64 0,.slice none 0 0,.int .i64 0,.slice none 0 0] 28)).cell? ⟨w.heap.size+1,6,none⟩=some (.slice none 0 0):=av 6
   have z7:((w.alloc (.cells #[.int .i64 14,.string nm,.int .i64 u,.int .i64 tk,.slice ta tn tq,.int .i64 fk,.slice fa fn fq,.int .i64 l,.slice (some ⟨b,0,none⟩) m q] 28)).alloc (.cells #[.int .i64 0,.string {data:=#[]},.int .i64 0,.int .i64 0,.slice none 0 0,.int .i64 0,.slice none 0 0,.int .i64 0,.slice none 0 0] 28)).cell? ⟨w.heap.size+1,7,none⟩=some (.int .i64 0):=av 7;have z8:((w.alloc (.cells #[.int .i64 14,.string nm,.int .i64 u,.int .i64 tk,.slice ta tn tq,.int .i64 fk,.slice fa fn fq,.int .i64 l,.slice (some ⟨b,0,none⟩) m q] 28)).alloc (.cells #[.int .i64 0,.string {data:=#[]},.int .i64 0,.int .i64 0,.slice none 0 0,.int .i64 0,.slice none 0 0,.int .i64 0,.slice none 0 0] 28)).cell? ⟨w.heap.size+1,8,none⟩=some (.slice none 0 0):=av 8;refine bodyPost_ret (v:=.agg #[.int .i64 k0,.string nm0,.int .i64 u0,.int .i64 tk0,.slice ta0 tn0 tq0,.int .i64 fk0,.slice fa0 fn0 fq0,.int .i64 l0,.slice c0 n0 q0]) (by simp[results,Tryz.results61,go_sem,z0,z1,z2,z3,z4,z5,z6,z7,z8]) rfl ?_;refine⟨_,rfl,HX.out.below ?_,?_⟩<;>exact aH
 ·have k13:(k==13)=false:=by simp;omega
  have k14:(k==14)=false:=by simp;omega
  clear r9 hP
  by_cases k5:k=5
  ·subst k5
   have hg:gB (.mk 5 nm u tt ff l ts) = .mk 5 nm u (.mk 1 []) ff l ts:=rfl;rw[hg];have HY:=zq hy;clear hy hg k13 k14 hc
   go_enter Tryz.func61,Tryz.ntmps61
   go_wp2_with fail
   refine(tT 1 _).mono ?_;rintro e w1 ⟨v1,rfl,hv1,hb1⟩;obtain⟨a1,q1,rfl,hq1⟩:=hv1.leaf;have g0:w1.cell? ⟨w.heap.size,0,none⟩=some (.int .i64 5):=af hb1 (af aj (aw 0));have z0:w1.cell? ⟨w.heap.size+1,0,none⟩=some (.int .i64 0):=af hb1 (av 0);have y0:w1.frozen? ⟨w.heap.size+1,0,none⟩=false:=az hb1 (av 0) (aI 0);have g1:w1.cell? ⟨w.heap.size,1,none⟩=some (.string nm):=af hb1 (af aj (aw 1));have z1:w1.cell? ⟨w.heap.size+1,1,none⟩=some (.string {data:=#[]}):=af hb1 (av 1);have y1:w1.frozen? ⟨w.heap.size+1,1,none⟩=false:=az hb1 (av 1) (aI 1);have g2:w1.cell? ⟨w.heap.size,2,none⟩=some (.int .i64 u):=af hb1 (af aj (aw 2));have z2:w1.cell? ⟨w.heap.size+1,2,none⟩=some (.int .i64 0):=af hb1 (av 2);have y2:w1.frozen? ⟨w.heap.size+1,2,none⟩=false:=az hb1 (av 2) (aI 2);have g3:w1.cell? ⟨w.heap.size,3,none⟩=some (.int .i64 tk):=af hb1 (af aj (aw 3));have z3:w1.cell? ⟨w.heap.size+1,3,none⟩=some (.int .i64 0):=af hb1 (av 3);have y3:w1.frozen? ⟨w.heap.size+1,3,none⟩=false:=az hb1 (av 3) (aI 3);have g4:w1.cell? ⟨w.heap.size,4,none⟩=some (.slice ta tn tq):=af hb1 (af aj (aw 4));have z4:w1.cell? ⟨w.heap.size+1,4,none⟩=some (.slice none 0 0):=af hb1 (av 4);have y4:w1.frozen? ⟨w.heap.size+1,4,none⟩=false:=az hb1 (av 4) (aI 4);have g5:w1.cell? ⟨w.heap.size,5,none⟩=some (.int .i64 fk):=af hb1 (af aj (aw 5));have z5:w1.cell? ⟨w.heap.size+1,5,none⟩=some (.int .i64 0):=af hb1 (av 5);have y5:w1.frozen? ⟨w.heap.size+1,5,none⟩=false:=az hb1 (av 5) (aI 5);have g6:w1.cell? ⟨w.heap.size,6,none⟩=some (.slice fa fn fq):=af hb1 (af aj (aw 6));have z6:w1.cell? ⟨w.heap.size+1,6,none⟩=some (.slice none 0 0):=af hb1 (av 6);have y6:w1.frozen? ⟨w.heap.size+1,6,none⟩=false:=az hb1 (av 6) (aI 6);have g7:w1.cell? ⟨w.heap.size,7,none⟩=some (.int .i64 l):=af hb1 (af aj (aw 7));have z7:w1.cell? ⟨w.heap.size+1,7,none⟩=some (.int .i64 0):=af hb1 (av 7);have y7:w1.frozen? ⟨w.heap.size+1,7,none⟩=false:=az hb1 (av 7) (aI 7);have g8:w1.cell? ⟨w.heap.size,8,none⟩=some (.slice c m q):=af hb1 (af aj (aw 8));have z8:w1.cell? ⟨w.heap.size+1,8,none⟩=some (.slice none 0 0):=af hb1 (av 8);have y8:w1.frozen? ⟨w.heap.size+1,8,none⟩=false:=az hb1 (av 8) (aI 8);have p3:w1.frozen? ⟨w.heap.size,3,none⟩=false:=az hb1 (af aj (aw 3)) (cb aj (by simp) (b5 3));have p4:w1.frozen? ⟨w.heap.size,4,none⟩=false:=az hb1 (af aj (aw 4)) (cb aj (by simp) (b5 4));have lw1:=World.block_lt_of_cell? _ _ g0;have HB1:=zq (al aH hb1);have HQ1:=zq hq1;clear hv1 hb1 hq1
   go_wp2_with fail
   refine bodyPost_ret (v:=.agg #[.int .i64 5,.string nm,.int .i64 u,.int .i64 1,.slice a1 0 q1,.int .i64 fk,.slice fa fn fq,.int .i64 l,.slice c m q]) (by simp[results,Tryz.results61,go_sem,z0,z1,z2,z3,z4,z5,z6,z7,z8]) rfl ?_;refine⟨_,rfl,(HY.out.retype 1 HQ1.out).below ?_,?_⟩<;>exact(((((((((((HB1.out).setCell (by show w.heap.size≤w.heap.size;omega) _).setCell (by show w.heap.size≤w.heap.size;omega) _).setCell (by show w.heap.size≤w.heap.size+1;omega) _).setCell (by show w.heap.size≤w.heap.size+1;omega) _).setCell (by show w.heap.size≤w.heap.size+1;omega) _).setCell (by show w.heap.size≤w.heap.size+1;omega) _).setCell (by show w.heap.size≤w.heap.size+1;omega) _).setCell (by show w.heap.size≤w.heap.size+1;omega) _).setCell (by show w.heap.size≤w.heap.size+1;omega) _).setCell (by show w.heap.size≤w.heap.size+1;omega) _).setCell (by show w.heap.size≤w.heap.size+1;omega) _
  ·have k5':(k==5)=false:=by simpa using k5
   have hg:gB (.mk k nm u tt ff l ts) = .mk k nm u tt ff l ts:=by unfold gB;simp only[k13,k14,k5'];rfl
   rw[hg];have HY:=zq hy;clear hy hg hc k5
   go_enter Tryz.func61,Tryz.ntmps61
   go_wp2_with fail
   have HB0:=zq (show Below w.heap.size w ((w.alloc (.cells #[.int .i64 k,.string nm,.int .i64 u,.int .i64 tk,.slice ta tn tq,.int .i64 fk,.slice fa fn fq,.int .i64 l,.slice c m q] 28)).alloc (.cells #[.int .i64 0,.string {data:=#[]},.int .i64 0,.int .i64 0,.slice none 0 0,.int .i64 0,.slice none 0 0,.int .i64 0,.slice none 0 0] 28)) from aH);have z0:((w.alloc (.cells #[.int .i64 k,.string nm,.int .i64 u,.int .i64 tk,.slice ta tn tq,.int .i64 fk,.slice fa fn fq,.int .i64 l,.slice c m q] 28)).alloc (.cells #[.int .i64 0,.string {data:=#[]},.int .i64 0,.int .i64 0,.slice none 0 0,.int .i64 0,.slice none 0 0,.int .i64 0,.slice none 0 0] 28)).cell? ⟨w.heap.size+1,0,none⟩=some (.int .i64 0):=av 0;have z1:((w.alloc (.cells #[.int .i64 k,.string nm,.int .i64 u,.int .i64 tk,.slice ta tn tq,.int .i64 fk,.slice fa fn fq,.int .i64 l,.slice c m q] 28)).alloc (.cells #[.int .i64 0,.string {data:=#[]},.int .i64 0,.int .i64 0,.slice none 0 0,.int .i64 0,.slice none 0 0,.int .i64 0,.slice none 0 0] 28)).cell? ⟨w.heap.size+1,1,none⟩=some (.string {data:=#[]}):=av 1;have z2:((w.alloc (.cells #[.int .i64 k,.string nm,.int .i64 u,.int .i64 tk,.slice ta tn tq,.int .i64 fk,.slice fa fn fq,.int .i64 l,.slice c m q] 28)).alloc (.cells #[.int .i64 0,.string {data:=#[]},.int .i64 0,.int .i64 0,.slice none 0 0,.int .i64 0,.slice none 0 0,.int .i64 0,.slice none 0 0] 28)).cell? ⟨w.heap.size+1,2,none⟩=some (.int .i64 0):=av 2;have z3:((w.alloc (.cells #[.int .i64 k,.string nm,.int .i64 u,.int .i64 tk,.slice ta tn tq,.int .i64 fk,.slice fa fn fq,.int .i64 l,.slice c m q] 28)).alloc (.cells #[.int .i64 0,.string {data:=#[]},.int .i64 0,.int .i64 0,.slice none 0 0,.int .i64 0,.slice none 0 0,.int .i64 0,.slice none 0 0] 28)).cell? ⟨w.heap.size+1,3,none⟩=some (.int .i64 0):=av 3;have z4:((w.alloc (.cells #[.int .i64 k,.string nm,.int .i64 u,.int .i64 tk,.slice ta tn tq,.int .i64 fk,.slice fa fn fq,.int .i64 l,.slice c m q] 28)).alloc (.cells #[.int .i64 0,.string {data:=#[]},.int .i64 0,.int .i64 0,.slice none 0 0,.int .i64 0,.slice none 0 0,.int .i64 0,.slice none 0 0] 28)).cell? ⟨w.heap.size+1,4,none⟩=some (.slice none 0 0):=av 4;have z5:((w.alloc (.cells #[.int .i64 k,.string nm,.int .i64 u,.int .i64 tk,.slice ta tn tq,.int .i64 fk,.slice fa fn fq,.int .i64 l,.slice c m q] 28)).alloc (.cells #[.int .i64 0,.string {data:=#[]},.int .i64 0,.int .i64 0,.slice none 0 0,.int .i64 0,.slice none 0 0,.int .i64 0,.slice none 0 0] 28)).cell? ⟨w.heap.size+1,5,none⟩=some (.int .i64 0):=av 5;have z6:((w.alloc (.cells #[.int .i64 k,.string nm,.int .i64 u,.int .i64 tk,.slice ta tn tq,.int .i64 fk,.slice fa fn fq,.int .i64 l,.slice c m q] 28)).alloc (.cells #[.int .i64 0,.string {data:=#[]},.int .i64 0,.int .i64 0,.slice none 0 0,.int .i64 0,.slice none 0 0,.int .i64 0,.slice none 0 0] 28)).cell? ⟨w.heap.size+1,6,none⟩=some (.slice none 0 0):=av 6
   have z7:((w.alloc (.cells #[.int .i64 k,.string nm,.int .i64 u,.int .i64 tk,.slice ta tn tq,.int .i64 fk,.slice fa fn fq,.int .i64 l,.slice c m q] 28)).alloc (.cells #[.int .i64 0,.string {data:=#[]},.int .i64 0,.int .i64 0,.slice none 0 0,.int .i64 0,.slice none 0 0,.int .i64 0,.slice none 0 0] 28)).cell? ⟨w.heap.size+1,7,none⟩=some (.int .i64 0):=av 7;have z8:((w.alloc (.cells #[.int .i64 k,.string nm,.int .i64 u,.int .i64 tk,.slice ta tn tq,.int .i64 fk,.slice fa fn fq,.int .i64 l,.slice c m q] 28)).alloc (.cells #[.int .i64 0,.string {data:=#[]},.int .i64 0,.int .i64 0,.slice none 0 0,.int .i64 0,.slice none 0 0,.int .i64 0,.slice none 0 0] 28)).cell? ⟨w.heap.size+1,8,none⟩=some (.slice none 0 0):=av 8;refine bodyPost_ret (v:=.agg #[.int .i64 k,.string nm,.int .i64 u,.int .i64 tk,.slice ta tn tq,.int .i64 fk,.slice fa fn fq,.int .i64 l,.slice c m q]) (by simp[results,Tryz.results61,go_sem,z0,z1,z2,z3,z4,z5,z6,z7,z8]) rfl ?_;refine⟨_,rfl,HY.out.below ?_,?_⟩<;>exact aH
theorem aW.setTm {F:Nat→Prop}{w:World}{t:Tm}{a0 a1 a2 a3 a4 a5 a6 a7 a8:Value}(ht:bE F w t.row [a0,a1,a2,a3,a4,a5,a6,a7,a8]) : ∀(L:List Tm) (xs:List Value) (j:Nat),j<L.length→aW F w (Tm.rows L) xs→aW F w (Tm.rows (L.set j t)) (((((((((xs.set (j*9) a0).set (j*9+1) a1).set (j*9+2) a2).set (j*9+3) a3).set (j*9+4) a4).set (j*9+5) a5).set (j*9+6) a6).set (j*9+7) a7).set (j*9+8) a8)
 | [],_,_,hj,_=>absurd hj (Nat.not_lt_zero _)
 | u :: L,_,j,hj,h=>by
  unfold Tm.rows at h;obtain⟨ys,rest,rfl,h2,h3⟩:=h;have hl:=h2.len;rw[u.row_length] at hl;obtain⟨y0,y1,y2,y3,y4,y5,y6,y7,y8,rfl⟩ : ∃y0 y1 y2 y3 y4 y5 y6 y7 y8,ys = [y0,y1,y2,y3,y4,y5,y6,y7,y8]:=by
   match ys,hl with
   | [y0,y1,y2,y3,y4,y5,y6,y7,y8],_=>exact⟨y0,y1,y2,y3,y4,y5,y6,y7,y8,rfl⟩
  cases j with
  | zero=>
   show aW F w (Tm.rows (t :: L)) _
   unfold Tm.rows
   exact⟨[a0,a1,a2,a3,a4,a5,a6,a7,a8],rest,rfl,ht,h3⟩
  | succ j=>
   have ih:=aW.setTm ht L rest j (by simpa using hj) h3
   show aW F w (Tm.rows (u :: L.set j t)) _
   unfold Tm.rows;refine⟨[y0,y1,y2,y3,y4,y5,y6,y7,y8],_,?_,h2,ih⟩;rw[show(j+1)*9=j*9+1+1+1+1+1+1+1+1+1 from by omega]
   rfl
theorem bL.setTm {B g n q j:Nat}{e:TypeId}{w:World}{L:List Tm}{t:Tm}{k u tk fk l:Int}{nm:ByteArray}{s1 s2 s:Value}(h:bL B e 9 w (.slice (some ⟨g,0,none⟩) n q) n (Tm.rows L))(hj:j<n)(ht:aA (fun b=>B≤b∧b≠g) w t (.agg #[.int .i64 k,.string nm,.int .i64 u,.int .i64 tk,s1,.int .i64 fk,s2,.int .i64 l,s])) :
  bL B e 9 (((((((((w.setCell ⟨g,j*9,none⟩ (.int .i64 k)).setCell ⟨g,j*9+1,none⟩ (.string nm)).setCell ⟨g,j*9+2,none⟩ (.int .i64 u)).setCell ⟨g,j*9+3,none⟩ (.int .i64 tk)).setCell ⟨g,j*9+4,none⟩ s1).setCell ⟨g,j*9+5,none⟩ (.int .i64 fk)).setCell ⟨g,j*9+6,none⟩ s2).setCell ⟨g,j*9+7,none⟩ (.int .i64 l)).setCell ⟨g,j*9+8,none⟩ s) (.slice (some ⟨g,0,none⟩) n q) n (Tm.rows (L.set j t)):=by
 obtain⟨hl,xs,h1,h2⟩:=h;rw[Tm.rows_length] at hl;have o0:=ck (i:=j*9) (u:=.int .i64 k) h1 (by omega);have o1:=ck (i:=j*9+1) (u:=.string nm) o0 (by omega);have o2:=ck (i:=j*9+2) (u:=.int .i64 u) o1 (by omega);have o3:=ck (i:=j*9+3) (u:=.int .i64 tk) o2 (by omega);have o4:=ck (i:=j*9+4) (u:=s1) o3 (by omega);have o5:=ck (i:=j*9+5) (u:=.int .i64 fk) o4 (by omega);have o6:=ck (i:=j*9+6) (u:=s2) o5 (by omega);have o7:=ck (i:=j*9+7) (u:=.int .i64 l) o6 (by omega);have o8:=ck (i:=j*9+8) (u:=s) o7 (by omega);have K1 : ∀(W:World) (o:Nat) (v:Value),bx (fun b=>B≤b∧b≠g) (fun b=>B≤b∧b≠g) W (W.setCell ⟨g,o,none⟩ v):=fun W o v=>
  ⟨by simp[World.setCell],fun b hb _=>hb,fun b hb _=>Below.heap_setCell W ⟨g,o,none⟩ v b hb.2⟩
 have h2':aW (fun b=>B≤b∧b≠g) w (Tm.rows L) xs:=h2.move (.weaken fun b hb _=>⟨hb.1,fun e=>hb.2 (by rw[e];rfl)⟩) _ _;have h3:=aW.setTm ht.srep L xs j (by omega) h2';have h4:=((((((((h3.move (K1 _ (j*9) (.int .i64 k)) _ _).move (K1 _ (j*9+1) (.string nm)) _ _).move (K1 _ (j*9+2) (.int .i64 u)) _ _).move (K1 _ (j*9+3) (.int .i64 tk)) _ _).move (K1 _ (j*9+4) s1) _ _).move (K1 _ (j*9+5) (.int .i64 fk)) _ _).move (K1 _ (j*9+6) s2) _ _).move (K1 _ (j*9+7) (.int .i64 l)) _ _).move (K1 _ (j*9+8) s) _ _
 exact⟨by rw[Tm.rows_length,List.length_set];exact hl,_,o8,h4.move (.weaken fun b hb _=>⟨hb.1,fun e=>hb.2 (by simpa [Value.ownBlock] using e.symm)⟩) _ _⟩
theorem aE.blkT' {F:Nat→Prop}{w:World}{ts:List Ty}{a:Option Addr}{n q:Nat}(h:aE F w ts (.slice a n q)) : ∀(b off:Nat),a=some ⟨b,off,none⟩→0<n→F b:=by
 unfold aE aM at h;obtain⟨a',cap,he,-,-,h4⟩:=h;simp only[Value.slice.injEq] at he;intro b off hab hn
 rcases h4 with h4 | ⟨b',off',ha,hF,-⟩
 ·rw[h4] at he;have:=he.2.1;simp at this;omega
 ·rw[←he.1,hab] at ha
  simp only[Option.some.injEq,Addr.mk.injEq] at ha;rw[ha.1];exact hF
theorem bL.atTm {B g n q j:Nat}{e:TypeId}{w:World}{L:List Tm}(h:bL B e 9 w (.slice (some ⟨g,0,none⟩) n q) n (Tm.rows L))(hj:j<L.length) :
  ∃k nm u tk ta tn tq fk fa fn fq l c m q',w.cell? ⟨g,j*9,none⟩=some (.int .i64 k)∧w.cell? ⟨g,j*9+1,none⟩=some (.string nm)∧w.cell? ⟨g,j*9+2,none⟩=some (.int .i64 u)∧w.cell? ⟨g,j*9+3,none⟩=some (.int .i64 tk)∧w.cell? ⟨g,j*9+4,none⟩=some (.slice ta tn tq)∧w.cell? ⟨g,j*9+5,none⟩=some (.int .i64 fk)∧w.cell? ⟨g,j*9+6,none⟩=some (.slice fa fn fq)∧w.cell? ⟨g,j*9+7,none⟩=some (.int .i64 l)∧w.cell? ⟨g,j*9+8,none⟩=some (.slice c m q') ∧
   aA (fun b=>B≤b∧b≠g) w L[j] (.agg #[.int .i64 k,.string nm,.int .i64 u,.int .i64 tk,.slice ta tn tq,.int .i64 fk,.slice fa fn fq,.int .i64 l,.slice c m q']):=by
 obtain⟨hl,xs,⟨hx,h3 | ⟨g',cap,cur,h3,hB,hg,hn,hc,hs,ht⟩⟩,h2⟩:=h
 ·simp at h3
 simp only[Value.slice.injEq,Option.some.injEq,Addr.mk.injEq,and_true] at h3;obtain⟨rfl,-,rfl⟩:=h3;have hcl : ∀j u,xs[j]?=some u→w.cell? ⟨g,0+j,none⟩=some u:=by
  intro j u hj;rw[Nat.zero_add];subst ht;simp only[World.cell?,hg];rw[List.getElem?_take] at hj
  split at hj
  ·simpa using hj
  ·cases hj
 have hR:=aW.rows _ xs 0 (h2.move (G:=fun b=>B≤b∧b≠g) (.weaken fun b hb _=>⟨hb.1,fun e=>hb.2 (by rw[e];rfl)⟩) _ _) hcl;have hS:aS (fun b=>(B≤b∧b≠g)∨b=g) w L (.slice (some ⟨g,0,none⟩) n q):=by
  unfold aS aM;refine⟨_,q,by rw[hl],by rw[hl];exact hn,hc,.inr ⟨g,0,rfl,.inr rfl,(Array.getElem?_eq_some_iff.1 hg).1,aW.rows _ xs 0 (h2.move (.weaken fun b hb _=>.inl ⟨hb.1,fun e=>hb.2 (by rw[e];rfl)⟩) _ _) hcl⟩⟩
 have hC:=hR.get (fun r hr=>by rw[Tm.rows_eq] at hr;obtain⟨t,-,rfl⟩:=List.mem_map.1 hr;exact t.row_length) j (by rw[Tm.rows_length];exact hj);obtain⟨b1,off1,k,nm,u,tk,ta,tn,tq,fk,fa,fn,fq,l,c,m,q',he,-,e0,e1,e2,e3,e4,e5,e6,e7,e8,htm⟩:=hS.at (Below.refl _ _) hj;simp only[Option.some.injEq,Addr.mk.injEq,and_true] at he;obtain⟨rfl,rfl⟩:=he;simp only[Nat.zero_add] at e0 e1 e2 e3 e4 e5 e6 e7 e8;refine⟨k,nm,u,tk,ta,tn,tq,fk,fa,fn,fq,l,c,m,q',e0,e1,e2,e3,e4,e5,e6,e7,e8,?_⟩;obtain⟨z1,z2,z3,he,hnm,-,-,-⟩:=htm;simp only[Tm.rows_eq,List.getElem_map,Nat.zero_add] at hC;simp only[Value.agg.injEq,Array.mk.injEq,List.cons.injEq,Value.int.injEq,Value.string.injEq,true_and,and_true] at he;obtain⟨rfl,rfl,rfl,rfl,rfl,rfl,rfl,rfl,rfl⟩:=he;generalize L[j]=T at hC hnm e0 e1 e2 e3 e4 e5 e6 e7 e8 ⊢
 cases T with | mk kk nn uu tt ff ll ts=>
 simp only[Tm.kind,Tm.name,Tm.num,Tm.type,Tm.src,Tm.label,Tm.kids] at *;unfold Tm.row at hC;simp only[aR] at hC;obtain⟨-,-,-,-,⟨x4,c4,r4⟩,-,⟨x6,c6,r6⟩,-,⟨x8,c8,r8⟩,-⟩:=hC;have f4:x4 = .slice ta tn tq:=Option.some.inj (c4.symm.trans e4);have f6:x6 = .slice fa fn fq:=Option.some.inj (c6.symm.trans e6);have f8:x8 = .slice c m q':=Option.some.inj (c8.symm.trans e8);subst f4 f6 f8
 exact⟨_,_,_,rfl,hnm,r4,r6,r8⟩
theorem aA.old {F:Nat→Prop}{w:World}{t:Tm}{y:Value}(r:aA F w t y):aA (· < w.heap.size) w t y:=r.move (.weaken fun _ _ h=>h)
theorem dL.lt {w:World}{t:Tm}{y:Value}{fp:List Nat}(h:dL w t y fp) : ∀b∈fp,b<w.heap.size:=by
 obtain⟨s1,s2,s,f1,f2,f3,rfl,rfl,hn,h1,h2,h3⟩:=h;intro b hb
 rcases List.mem_append.1 hb with hb | hb
 ·exact aJ.lt _ _ _ h1 b hb
 ·rcases List.mem_append.1 hb with hb | hb
  ·exact aJ.lt _ _ _ h2 b hb
  ·exact aJ.lt _ _ _ h3 b hb
theorem dL.ks {w:World}{t:Tm}{y:Value}{fp:List Nat}(h:dL w t y fp) : ∃k nm u tk ta tn tq fk fa fn fq l c m q,y = .agg #[.int .i64 k,.string nm,.int .i64 u,.int .i64 tk,.slice ta tn tq,.int .i64 fk,.slice fa fn fq,.int .i64 l,.slice c m q]:=h.rep.shape
theorem dL.chg {fp fp':List Nat}{w w':World}{t:Tm}{y:Value}(h:Chg fp w w')(hn : ∀b∈fp',b∉fp)(r:dL w t y fp'):dL w' t y fp':=by
 have hl:=r.lt;obtain⟨s1,s2,s,f1,f2,f3,rfl,rfl,hm,h1,h2,h3⟩:=r
 exact⟨s1,s2,s,f1,f2,f3,rfl,rfl,hm,aJ.move _ _ _ (fun b hb=>h.block b (aJ.lt _ _ _ h1 b hb) (hn b (by simp[hb]))) h1,aJ.move _ _ _ (fun b hb=>h.block b (aJ.lt _ _ _ h2 b hb) (hn b (by simp[hb]))) h2,aJ.move _ _ _ (fun b hb=>h.block b (aJ.lt _ _ _ h3 b hb) (hn b (by simp[hb]))) h3⟩
theorem cp.lt {w:World}{ts:List Ty}{y:Value}{fp:List Nat}(h:cp w ts y fp) : ∀b∈fp,b<w.heap.size:=aJ.lt _ _ _ h
theorem cp.ks {w:World}{ts:List Ty}{y:Value}{fp:List Nat}(h:cp w ts y fp) : ∃a n q,y = .slice a n q:=by
 unfold cp aJ at h;obtain⟨a,q,rfl,_⟩:=h
 exact⟨a,_,q,rfl⟩
theorem cp.below {w w':World}{ts:List Ty}{y:Value}{fp:List Nat}(h:cp w ts y fp)(k:Below w.heap.size w w'):cp w' ts y fp:=aJ.move _ _ _ (fun b hb=>k.block b (aJ.lt _ _ _ h b hb)) h
theorem cp.rep {w:World}{ts:List Ty}{y:Value}{fp:List Nat}(h:cp w ts y fp):aE (· ∈ fp) w ts y:=aJ.rep _ _ _ (fun _ hb=>hb) h
theorem cp.chg {fp fp':List Nat}{w w':World}{ts:List Ty}{y:Value}(h:Chg fp w w')(hn : ∀b∈fp',b∉fp)(r:cp w ts y fp'):cp w' ts y fp':=aJ.move _ _ _ (fun b hb=>h.block b (aJ.lt _ _ _ r b hb) (hn b hb)) r
end Go.Proofs.YtfahhonmiimmdaaGreat

/- Arguments read as data: slices of rows. And what else its parts name. -/
import Derived.ProofKit
import Derived.OpenShut
import Derived.ShutString
import Derived.ChangeOld
import Derived.Test.YtfahhonmiimmdaaGreatRd
import Derived.Test.YtfahhonmiimmdaaGreatB8
set_option linter.unusedSimpArgs false
set_option linter.unusedVariables false
set_option maxRecDepth 100000
set_option maxHeartbeats 16000000
namespace Go.Proofs.YtfahhonmiimmdaaGreat
open Go.RowKit Go.ChangeShapes Go.WideShapes
theorem nV {a:Addr}(n:Nat)(h:a.spot=none):a.add n=⟨a.block,a.off+n,none⟩:=by
 unfold Addr.add
 split
 ·rename_i h0;subst h0;cases a;simp at h;subst h;rfl
 ·rfl
theorem rQ {w:World}{a:Addr}{v:Value}(h:w.cell? a=some v):a.spot=none:=by
 unfold World.cell? at h
 split at h
 ·split at h
  ·cases h
  ·rename_i hs;simpa using hs
 ·cases h
theorem bE.cells {F:Nat→Prop}{w:World}{b:Nat} : ∀(r:List C) (ys:List Value) (off:Nat),bE F w r ys→(∀i,i<ys.length→w.cell? ⟨b,off+i,none⟩=ys[i]?)→aR F w b off r
 | [],_,_,_,_=>by unfold aR;trivial
 | c :: cs,_,off,⟨z,zs,e,h1,h2⟩,k=>by
  subst e;unfold aR;refine⟨⟨z,by simpa using k 0 (by simp),h1⟩,bE.cells cs zs _ h2 fun i hi=>?_⟩;have:=k (i+1) (by simpa using hi);rw[show off+1+i=off+(i+1) from by omega]
  simpa using this
section
variable {H:Type} {enc:TypeId × Value→H} {w:World} {base:Nat} {held:Bool} {spare:Nat→Bool}
end
section
variable {H:Type} {enc:TypeId × Value→H} {P:Program}
theorem sW {t:TypeId}(hl:laidOutB P=true)(hr:P.readableRec t=true)(hrow:t<P.types.size){W W':World}{v:Value}{d:DataW H}{ps:List MemPlace}
  (h:DataW.Trod enc P W 0 (fun _=>true) true t v d ps) (hb:Below W.heap.size W W') :
  DataW.Trod enc P W' 0 (fun b=>decide (b<W.heap.size)) true t v d ps:=
 Below.trod hl hr hrow h hb (by obtain⟨m,hm⟩:=h;exact DataW.trod_lt m _ _ _ hm)
end
end Go.Proofs.YtfahhonmiimmdaaGreat
namespace Go.Proofs.YtfahhonmiimmdaaGreat
open Go.RowKit
inductive Tm where
 | mk (kind:Int) (name:ByteArray) (num:Int) (type src:Ty) (label:Int) (kids:List Tm)
def Tm.kind:Tm→Int | .mk k _ _ _ _ _ _=>k
def Tm.name:Tm→ByteArray | .mk _ s _ _ _ _ _=>s
def Tm.num:Tm→Int | .mk _ _ u _ _ _ _=>u
def Tm.type:Tm→Ty | .mk _ _ _ t _ _ _=>t
def Tm.src:Tm→Ty | .mk _ _ _ _ t _ _=>t
def Tm.label:Tm→Int | .mk _ _ _ _ _ l _=>l
def Tm.kids:Tm→List Tm | .mk _ _ _ _ _ _ ts=>ts
mutual
def Tm.row:Tm→List C
 | .mk k s u t f l ts=> [.int k,.str s,.int u,.int t.kind,.sl (Ty.rows t.kids),.int f.kind,.sl (Ty.rows f.kids),.int l,.sl (Tm.rows ts)]
def Tm.rows:List Tm→List (List C)
 | []=> []
 | t :: ts=>t.row :: Tm.rows ts
end
theorem Tm.rows_eq (ts:List Tm):Tm.rows ts=ts.map Tm.row:=by
 induction ts with
 | nil=>rfl
 | cons t ts ih=>unfold Tm.rows;rw[ih];rfl
theorem Tm.rows_length (ts:List Tm):(Tm.rows ts).length=ts.length:=by rw[Tm.rows_eq];simp
theorem Tm.row_length : ∀t:Tm,t.row.length=9 | .mk _ _ _ _ _ _ _=>by unfold Tm.row;rfl
def aS (F:Nat→Prop)(w:World)(ts:List Tm)(y:Value):Prop:=aM F w (.sl (Tm.rows ts)) y
def aA (F:Nat→Prop)(w:World)(t:Tm)(y:Value):Prop:=∃s1 s2 s,y = .agg #[.int .i64 t.kind,.string t.name,.int .i64 t.num,.int .i64 t.type.kind,s1,.int .i64 t.src.kind,s2,.int .i64 t.label,s]∧t.name.size≤maxLen∧aE F w t.type.kids s1∧aE F w t.src.kids s2∧aS F w t.kids s
theorem aS.move {F G:Nat→Prop}{w w':World}{ts:List Tm}{y:Value}(h:aS F w ts y)(k:bx F G w w'):aS G w' ts y:=aM.move k _ _ h
theorem aA.move {F G:Nat→Prop}{w w':World}{t:Tm}{y:Value}(h:aA F w t y)(k:bx F G w w'):aA G w' t y:=
 let ⟨s1,s2,s,h1,h2,h3,h4,h5⟩:=h;⟨s1,s2,s,h1,h2,h3.move k,h4.move k,h5.move k⟩
theorem aA.below {F:Nat→Prop}{w w':World}{t:Tm}{y:Value}(h:aA F w t y)(k:Below w.heap.size w w'):aA F w' t y:=h.move (.below k)
theorem aS.below {F:Nat→Prop}{w w':World}{t:List Tm}{y:Value}(h:aS F w t y)(k:Below w.heap.size w w'):aS F w' t y:=h.move (.below k)
theorem aA.open {F:Nat→Prop}{w:World}{t:Tm}{y:Value}(h:aA F w t y) :
  ∃ta tq fa fq c q,y = .agg #[.int .i64 t.kind,.string t.name,.int .i64 t.num,.int .i64 t.type.kind,.slice ta t.type.kids.length tq,.int .i64 t.src.kind,.slice fa t.src.kids.length fq,.int .i64 t.label,.slice c t.kids.length q]∧t.name.size≤maxLen ∧
   t.kids.length≤q∧q≤maxLen∧ap F w t.type (.agg #[.int .i64 t.type.kind,.slice ta t.type.kids.length tq])∧ap F w t.src (.agg #[.int .i64 t.src.kind,.slice fa t.src.kids.length fq])∧aS F w t.kids (.slice c t.kids.length q):=by
 obtain⟨s1,s2,s,rfl,hn,h1,h2,h3⟩:=h;obtain⟨ta,tq,rfl,-,-,-⟩:=h1.open;obtain⟨fa,fq,rfl,-,-,-⟩:=h2.open;obtain⟨c,q,rfl,h4,h5,-⟩:=aM.rows h3;rw[Tm.rows_length] at h4 h3 ⊢
 exact⟨ta,tq,fa,fq,c,q,rfl,hn,h4,h5,⟨_,rfl,h1⟩,⟨_,rfl,h2⟩,h3⟩
theorem aA.shape {F:Nat→Prop}{w:World}{t:Tm}{y:Value}(h:aA F w t y) : ∃k nm u tk ta tn tq fk fa fn fq l c m q,y = .agg #[.int .i64 k,.string nm,.int .i64 u,.int .i64 tk,.slice ta tn tq,.int .i64 fk,.slice fa fn fq,.int .i64 l,.slice c m q]:=by
 obtain⟨ta,tq,fa,fq,c,q,rfl,_⟩:=h.open
 exact⟨_,_,_,_,ta,_,tq,_,fa,_,fq,_,c,_,q,rfl⟩
theorem aS.shape {F:Nat→Prop}{w:World}{t:List Tm}{y:Value}(h:aS F w t y) : ∃a n q,y = .slice a n q:=by
 obtain⟨a,q,rfl,_⟩:=aM.rows h
 exact⟨a,_,q,rfl⟩
theorem aS.open {F:Nat→Prop}{w:World}{ts:List Tm}{y:Value}(h:aS F w ts y) :
  ∃(a:Option Addr) (cap:Nat),y = .slice a ts.length cap∧ts.length≤cap∧cap≤maxLen ∧
   ∀i (h:i<ts.length),∃b off k nm u tk ta tn tq fk fa fn fq l c m q,a=some ⟨b,off,none⟩∧w.cell? ⟨b,off+i*9,none⟩=some (.int .i64 k)∧w.cell? ⟨b,off+i*9+1,none⟩=some (.string nm)∧w.cell? ⟨b,off+i*9+2,none⟩=some (.int .i64 u)∧w.cell? ⟨b,off+i*9+3,none⟩=some (.int .i64 tk)∧w.cell? ⟨b,off+i*9+4,none⟩=some (.slice ta tn tq)∧w.cell? ⟨b,off+i*9+5,none⟩=some (.int .i64 fk)∧w.cell? ⟨b,off+i*9+6,none⟩=some (.slice fa fn fq)∧w.cell? ⟨b,off+i*9+7,none⟩=some (.int .i64 l)∧w.cell? ⟨b,off+i*9+8,none⟩=some (.slice c m q)∧aA F w ts[i] (.agg #[.int .i64 k,.string nm,.int .i64 u,.int .i64 tk,.slice ta tn tq,.int .i64 fk,.slice fa fn fq,.int .i64 l,.slice c m q]):=by
 obtain⟨a,cap,h1,h2,h3,h4⟩:=aM.rows h;rw[Tm.rows_length] at h1 h2;refine⟨a,cap,h1,h2,h3,fun i hi=>?_⟩
 rcases h4 with h4 | ⟨b,off,ha,hF,hl,hr⟩
 ·rw[←Tm.rows_length,h4] at hi;exact absurd hi (Nat.not_lt_zero _)
 ·have hc:=hr.get (m:=9) (fun r hr=>by rw[Tm.rows_eq] at hr;obtain⟨t,_,rfl⟩:=List.mem_map.1 hr;exact t.row_length) i (by rw[Tm.rows_length];exact hi)
  have he:(Tm.rows ts)[i]'(by rw[Tm.rows_length];exact hi)=ts[i].row:=by simp[Tm.rows_eq]
  rw[he] at hc;obtain⟨k,s,u,t,f,l,ks,ht⟩ : ∃k s u t f l ks,ts[i]=Tm.mk k s u t f l ks:=by cases ts[i];exact⟨_,_,_,_,_,_,_,rfl⟩
  rw[ht] at hc ⊢;unfold Tm.row at hc;unfold aR at hc;obtain⟨⟨y0,hy0,hc0⟩,hc⟩:=hc;unfold aR at hc;obtain⟨⟨y1,hy1,hc1⟩,hc⟩:=hc;unfold aR at hc;obtain⟨⟨y2,hy2,hc2⟩,hc⟩:=hc;unfold aR at hc;obtain⟨⟨y3,hy3,hc3⟩,hc⟩:=hc;unfold aR at hc;obtain⟨⟨y4,hy4,hc4⟩,hc⟩:=hc;unfold aR at hc;obtain⟨⟨y5,hy5,hc5⟩,hc⟩:=hc;unfold aR at hc;obtain⟨⟨y6,hy6,hc6⟩,hc⟩:=hc;unfold aR at hc;obtain⟨⟨y7,hy7,hc7⟩,hc⟩:=hc;unfold aR at hc;obtain⟨⟨y8,hy8,hc8⟩,-⟩:=hc;rw[aM.int_eq hc0] at hy0;obtain⟨rfl,hsz⟩:=aM.str_eq hc1;rw[aM.int_eq hc2] at hy2;rw[aM.int_eq hc3] at hy3;obtain⟨ta,tq,rfl,-⟩:=aM.rows hc4;rw[aM.int_eq hc5] at hy5;obtain⟨fa,fq,rfl,-⟩:=aM.rows hc6;rw[aM.int_eq hc7] at hy7;obtain⟨c,q,rfl,-⟩:=aM.rows hc8
  exact⟨b,off,k,s,u,t.kind,ta,_,tq,f.kind,fa,_,fq,l,c,_,q,ha,hy0,hy1,hy2,hy3,hy4,hy5,hy6,hy7,hy8,_,_,_,rfl,hsz,hc4,hc6,hc8⟩
theorem aS.at {F:Nat→Prop}{w wr:World}{ts:List Tm}{a:Option Addr}{n cap:Nat}(h:aS F w ts (.slice a n cap))(hb:Below w.heap.size w wr){i:Nat}(hi:i<ts.length) :
  ∃b off k nm u tk ta tn tq fk fa fn fq l c m q,a=some ⟨b,off,none⟩∧b<wr.heap.size∧wr.cell? ⟨b,off+i*9,none⟩=some (.int .i64 k)∧wr.cell? ⟨b,off+i*9+1,none⟩=some (.string nm)∧wr.cell? ⟨b,off+i*9+2,none⟩=some (.int .i64 u)∧wr.cell? ⟨b,off+i*9+3,none⟩=some (.int .i64 tk)∧wr.cell? ⟨b,off+i*9+4,none⟩=some (.slice ta tn tq)∧wr.cell? ⟨b,off+i*9+5,none⟩=some (.int .i64 fk)∧wr.cell? ⟨b,off+i*9+6,none⟩=some (.slice fa fn fq)∧wr.cell? ⟨b,off+i*9+7,none⟩=some (.int .i64 l)∧wr.cell? ⟨b,off+i*9+8,none⟩=some (.slice c m q)∧aA F wr ts[i] (.agg #[.int .i64 k,.string nm,.int .i64 u,.int .i64 tk,.slice ta tn tq,.int .i64 fk,.slice fa fn fq,.int .i64 l,.slice c m q]):=by
 obtain⟨a',cap',he,_,_,hg⟩:=h.open;simp only[Value.slice.injEq] at he;obtain⟨rfl,_,rfl⟩:=he;obtain⟨b,off,k,nm,u,tk,ta,tn,tq,fk,fa,fn,fq,l,c,m,q,ha,h0,h1,h2,h3,h4,h5,h6,h7,h8,ht⟩:=hg i hi;have e0:=af hb h0
 exact⟨b,off,k,nm,u,tk,ta,tn,tq,fk,fa,fn,fq,l,c,m,q,ha,World.block_lt_of_cell? wr _ e0,e0,af hb h1,af hb h2,af hb h3,af hb h4,af hb h5,af hb h6,af hb h7,af hb h8,ht.below hb⟩
theorem aA.parts {F:Nat→Prop}{w:World}{t:Tm}{k u tk fk l:Int}{nm:ByteArray}{ta fa c:Option Addr}{tn tq fn fq m q:Nat}(h:aA F w t (.agg #[.int .i64 k,.string nm,.int .i64 u,.int .i64 tk,.slice ta tn tq,.int .i64 fk,.slice fa fn fq,.int .i64 l,.slice c m q])) :
  k=t.kind∧nm=t.name∧u=t.num∧tk=t.type.kind∧tn=t.type.kids.length∧fk=t.src.kind∧fn=t.src.kids.length∧l=t.label∧m=t.kids.length∧nm.size≤maxLen∧m≤q∧q≤maxLen ∧
   ap F w t.type (.agg #[.int .i64 tk,.slice ta tn tq])∧ap F w t.src (.agg #[.int .i64 fk,.slice fa fn fq])∧aS F w t.kids (.slice c m q):=by
 obtain⟨ta',tq',fa',fq',c',q',he,hn,h4,h5,h6,h7,h8⟩:=h.open;simp only[Value.agg.injEq,Array.mk.injEq,List.cons.injEq,Value.int.injEq,Value.string.injEq,Value.slice.injEq,true_and,and_true] at he;obtain⟨rfl,rfl,rfl,rfl,⟨rfl,rfl,rfl⟩,rfl,⟨rfl,rfl,rfl⟩,rfl,⟨rfl,rfl,rfl⟩⟩:=he
 exact⟨rfl,rfl,rfl,rfl,rfl,rfl,rfl,rfl,rfl,hn,h4,h5,h6,h7,h8⟩
theorem Tm.kid_lt {t:Tm}{x:Tm}(h:x∈t.kids):SizeOf.sizeOf x<SizeOf.sizeOf t:=by
 cases t with
 | mk k s u t f l ts=>have:=List.sizeOf_lt_of_mem h;simp only[Tm.kids] at h this;simp;omega
mutual
def Tm.cnt:Tm→Nat
 | .mk _ s _ t f _ ts=>s.size+t.cnt+f.cnt+(ts.length+Tm.cnts ts)
def Tm.cnts:List Tm→Nat
 | []=>0
 | t :: ts=>t.cnt+Tm.cnts ts
end
theorem Tm.cnts_take_succ : ∀(ts:List Tm) (j:Nat) (h:j<ts.length),Tm.cnts (ts.take (j+1))=Tm.cnts (ts.take j)+ts[j].cnt
 | [],_,h=>absurd h (Nat.not_lt_zero _)
 | t :: ts,0,_=>by simp[Tm.cnts]
 | t :: ts,j+1,h=>by
  have:=Tm.cnts_take_succ ts j (by simpa using h);simp only[List.take_succ_cons,Tm.cnts,List.getElem_cons_succ]
  omega
theorem Tm.cnts_take_le : ∀(ts:List Tm) (j:Nat),Tm.cnts (ts.take j)≤Tm.cnts ts
 | [],_=>by simp
 | t :: ts,0=>by simp[Tm.cnts]
 | t :: ts,j+1=>by
  have:=Tm.cnts_take_le ts j;simp only[List.take_succ_cons,Tm.cnts]
  omega
theorem Tm.cnt_mem : ∀ {ts:List Tm} {t:Tm},t∈ts→t.cnt≤Tm.cnts ts
 | u :: ts,t,h=>by
  rcases List.mem_cons.1 h with rfl | h
  ·simp only[Tm.cnts];omega
  ·have:=Tm.cnt_mem h;simp only[Tm.cnts];omega
theorem Tm.cnt_parts (t:Tm):t.cnt=t.name.size+t.type.cnt+t.src.cnt+(t.kids.length+Tm.cnts t.kids):=by
 cases t with | mk k s u t f l ts=>simp only[Tm.cnt,Tm.name,Tm.type,Tm.src,Tm.kids]
theorem Tm.cnt_kid {t x:Tm}(h:x∈t.kids):x.cnt+t.kids.length≤t.cnt:=by
 have h1:=Tm.cnt_mem h;have h2:=t.cnt_parts
 omega
theorem Chg.grown {r:Nat}{w w':World}(h:Chg [r] w w'):w.grownBy w' (some r):=⟨h.os,h.tape,h.output,h.size,fun k hk hn=>h.block k hk (fun hm=>hn (by simpa using hm))⟩
theorem cg {r B:Nat}{e:TypeId}{size n:Nat}{w w':World}{v:Value}{xs:List Value}(h:w.ownsRow B e size v n xs)(k:Chg [r] w w')(hr:r<B):w'.ownsRow B e size v n xs:=
 h.kept (row:=some r) k.grown (by
   cases hv:v.ownBlock with
   | none=>exact .inl rfl
   | some g=>exact .inr (fun e=>by have:=(h.lt g hv).1;simp at e;omega))
theorem dN {r B:Nat}{e:TypeId}{size n:Nat}{wr W w2:World}{v:Value}{xs:List Value}(hb:Chg [r] wr W)(ho:wr.ownsRow B e size v n xs)(hg:W.grownBy w2 v.ownBlock)(b:Nat)(hl:b<wr.heap.size)(hB:b<B)(hn:b≠r):w2.heap[b]?=wr.heap[b]?:=
 (hg.block b (Nat.lt_of_lt_of_le hl hb.size) (fun e=>by have:=(ho.lt b e.symm).1;omega)).trans (hb.block b hl (by simpa using hn))
theorem dz {r B:Nat}{e:TypeId}{size n:Nat}{w0 wr W w2:World}{v:Value}{xs:List Value}(h0:Chg [r] w0 wr)(hb:Chg [r] wr W)(ho:wr.ownsRow B e size v n xs)(hB:w0.heap.size≤B)(hg:W.grownBy w2 v.ownBlock):Chg [r] w0 w2:=by
 have h:=h0.trans hb
 exact⟨hg.os.trans h.os,hg.tape.trans h.tape,hg.output.trans h.output,Nat.le_trans h.size hg.size,fun k hk hn=>(hg.block k (Nat.lt_of_lt_of_le hk h.size) (fun e=>by have:=(ho.lt k e.symm).1;omega)).trans (h.block k hk hn)⟩
theorem aQ.pushC {r B g cap:Nat}{e:TypeId}{size n:Nat}{wr W0 W w2:World}{v:Value}{xs ys:List Value}{fps f:List Nat}{rows:List (List C)}{rw':List C}(hl:rows.length=n)(ho:wr.ownsRow B e size v n xs)(hs:bm wr rows xs fps)(hd:fps.Nodup)
  (hfp : ∀x∈fps,B≤x∧v.ownBlock≠some x) (hB:B≤wr.heap.size) (hrB:r<B) (hb:Chg [r] wr W) (h0:wr.heap.size≤W0.heap.size) (hr:bl W rw' ys f) (hdf:f.Nodup) (hxf : ∀x∈f,W0.heap.size≤x)
  (hown:w2.ownsRow B e size (.slice (some ⟨g,0,none⟩) (n+1) cap) (n+1) (xs++ys)) (hgrow:W.grownBy w2 v.ownBlock) (hat:v.ownBlock=some g∨g=W.heap.size):aQ B e size w2 (.slice (some ⟨g,0,none⟩) (n+1) cap) (n+1) (rows ++ [rw']):=by
 have hlt : ∀x∈fps,x<wr.heap.size:=fun x hx=>bm.lt _ _ _ hs x hx;refine aQ.append (w:=W) hl (hs.move _ _ _ fun b hx=>hb.block b (hlt b hx) (by have:=(hfp b hx).1;simp;omega)) hd hfp hr hdf (fun x hx=>?_) hown hgrow hat rfl;have h1:=hxf x hx;refine⟨by omega,fun e=>by have:=(ho.lt x e).2;omega,fun e=>by have:=hlt x e;omega⟩
theorem aT.grown {B r p:Nat}{e:TypeId}{size n:Nat}{wr W w2:World}{v:Value}{xs:List Value}(h:aT W r p)(ho:wr.ownsRow B e size v n xs)(hr:r<B)(hg:W.grownBy w2 v.ownBlock):aT w2 r p:=
 h.keep hg.size (fun b hb=>hg.block b (Nat.lt_of_le_of_lt hb h.1) (fun e=>by have:=(ho.lt b e.symm).1;omega))
def NumPost (r p:Nat)(Q:Int→Prop)(w:World)(e:Ending)(w':World):Prop:=∃k:Int,e = .returned (.int .i64 k)∧Q k∧aT w' r (p+1)∧Chg [r] w w'
theorem bO (Q:Int→Prop)(r p b n cap:Nat)(w:World)(h:aT w r p)(hp:p≤1125899906842623)(hn0:0<n)(hn:n≤1048576)(hcap:n≤cap)(hbr:r<b)
  (hc : ∀i,i<n→∃x,w.cell? ⟨b,i,none⟩=some (.int .i64 x)∧Q x) :
  Calls Tryz.prog 46 #[.pointer (some ⟨r,0,none⟩),.slice (some ⟨b,0,none⟩) n cap] w (NumPost r p Q w):=by
 have H:=zq (bw r p (n:Int) w h (by omega) (by omega));have HC:=zq hc;clear hc
 go_enter Tryz.func46,Tryz.ntmps46
 go_wp2_with fail
 refine H.out.mono ?_;rintro e w1 ⟨k,rfl,k0,hk,hrd,hch⟩;obtain⟨q,rfl⟩:=Int.eq_ofNat_of_zero_le k0;have hqn:q<n:=by omega
 obtain⟨x,hx,hq⟩:=HC.out q hqn;have hx1:=hch.cellne (by show b≠r;omega) hx;have hqi:(0:Int)≤(q:Int):=by omega
 have hqj:(q:Int)<(n:Int):=by omega
 clear hk k0 hx
 go_wp2_with fail
 go_ret
 exact⟨x,rfl,hq,hrd,hch⟩
def OfPost (r p:Nat)(Q:ByteArray→Prop)(w:World)(e:Ending)(w':World):Prop:=∃k:ByteArray,e = .returned (.string k)∧Q k∧aT w' r (p+1)∧Chg [r] w w'
theorem rP (Q:ByteArray→Prop)(r p b n cap:Nat)(w:World)(h:aT w r p)(hp:p≤1125899906842623)(hn0:0<n)(hn:n≤1048576)(hcap:n≤cap)(hbr:r<b)
  (hc : ∀i,i<n→∃x,w.cell? ⟨b,i,none⟩=some (.string x)∧Q x) :
  Calls Tryz.prog 47 #[.pointer (some ⟨r,0,none⟩),.slice (some ⟨b,0,none⟩) n cap] w (OfPost r p Q w):=by
 have H:=zq (bw r p (n:Int) w h (by omega) (by omega));have HC:=zq hc;clear hc
 go_enter Tryz.func47,Tryz.ntmps47
 go_wp2_with fail
 refine H.out.mono ?_;rintro e w1 ⟨k,rfl,k0,hk,hrd,hch⟩;obtain⟨q,rfl⟩:=Int.eq_ofNat_of_zero_le k0;have hqn:q<n:=by omega
 obtain⟨x,hx,hq⟩:=HC.out q hqn;have hx1:=hch.cellne (by show b≠r;omega) hx;have hqi:(0:Int)≤(q:Int):=by omega
 have hqj:(q:Int)<(n:Int):=by omega
 clear hk k0 hx
 go_wp2_with fail
 go_ret
 exact⟨x,rfl,hq,hrd,hch⟩
theorem ap.ne {B r:Nat}{w:World}{t:Ty}{y:Value}(h:ap (B ≤ ·) w t y)(hr:r<B):ap (· ≠ r) w t y:=h.move (.weaken fun b hb _=>by omega)
theorem ap.setCell {B:Nat}{w:World}{t:Ty}{y:Value}(h:ap (B ≤ ·) w t y){p:Addr}(hp:p.block<B)(v:Value):ap (B ≤ ·) (w.setCell p v) t y:=
 h.move ⟨by simp[World.setCell],fun _ h _=>h,fun b hb _=>Below.heap_setCell w p v b (by omega)⟩
theorem ap.lower {B B':Nat}{w:World}{t:Ty}{y:Value}(h:ap (B ≤ ·) w t y)(hB:B'≤B):ap (B' ≤ ·) w t y:=h.move (.weaken fun b hb _=>Nat.le_trans hB hb)
theorem cz.below {w w':World}{r:Nat}{v:Value}(h:cz w r v)(k:Below w.heap.size w w'):cz w' r v:=h.keep k.size fun b hb _=>k.block b hb
theorem cz.up {w:World}{r r':Nat}{v:Value}(h:cz w r v)(hr:r≤r'):cz w r' v:=by
 obtain⟨a,n,cap,h1,h2,h3,h4⟩:=h;refine⟨a,n,cap,h1,h2,h3,fun i hi=>?_⟩;obtain⟨b,off,c,e,hb,hr⟩:=h4 i hi
 exact⟨b,off,c,e,by omega,hr⟩
theorem cz.shape {w:World}{r:Nat}{v:Value}(h:cz w r v) : ∃a n cap,v = .slice a n cap:=let ⟨a,n,cap,h1,_⟩:=h;⟨a,n,cap,h1⟩
def kq (r p c m:Nat)(w:World)(e:Ending)(w':World):Prop:=∃(t:Ty) (v:Value) (q:Nat),e = .returned v∧t.cnt+2≤m∧bo w.heap.size w' t v∧q≤p+c∧aT w' r q∧Chg [r] w w'
theorem kq.mono {r p c c' m m':Nat}{w w':World}{e:Ending}(h:kq r p c m w e w')(hc:c≤c')(hm:m≤m'):kq r p c' m' w e w':=
 let ⟨s,v,q,h1,h2,h3,h4,h5,h6⟩:=h;⟨s,v,q,h1,by omega,h3,by omega,h5,h6⟩
def DT (r p m:Nat)(w:World)(e:Ending)(w':World):Prop:=∃(t:Ty) (v:Value) (q:Nat),e = .returned v∧t.cnt≤m∧ap (w.heap.size ≤ ·) w' t v∧q≤p+200∧aT w' r q∧Chg [r] w w'
def tO (w:World)(e:Ending)(w':World):Prop:=∃rb,e = .returned (.pointer (some ⟨rb,0,none⟩))∧w.heap.size≤rb∧aT w' rb 0∧Below w.heap.size w w'
theorem bA {X:World}{B:Nat}(xs:List Int){T:TypeId}(hB:X.heap.size=B)(Q:Int→Prop)(hQ : ∀x∈xs,Q x)(i:Nat)(hi:i<xs.length) :
  ∃x,(X.alloc (.cells (xs.map (Value.int .i64)).toArray T)).cell? ⟨B,i,none⟩=some (.int .i64 x)∧Q x:=by
 refine⟨xs[i],?_,hQ _ (List.getElem_mem hi)⟩;rw[au hB]
 simp[hi]
theorem Ty.cnts_append : ∀(ts us:List Ty),Ty.cnts (ts++us)=Ty.cnts ts+Ty.cnts us
 | [],us=>by simp[Ty.cnts]
 | t :: ts,us=>by simp[Ty.cnts,Ty.cnts_append ts us];omega
def aW (F:Nat→Prop)(w:World):List (List C)→List Value→Prop
 | [],xs=>xs = []
 | r :: rs,xs=>∃ys rest,xs=ys++rest∧bE F w r ys∧aW F w rs rest
theorem aW.move {F G:Nat→Prop}{w w':World}(k:bx F G w w') : ∀(rs:List (List C)) (xs:List Value),aW F w rs xs→aW G w' rs xs
 | [],_,h=>h
 | r :: rs,_,⟨ys,rest,h1,h2,h3⟩=>⟨ys,rest,h1,h2.move k,aW.move k rs rest h3⟩
theorem aW.append {F:Nat→Prop}{w:World} : ∀(rs us:List (List C)) (xs ys:List Value),aW F w rs xs→aW F w us ys→aW F w (rs++us) (xs++ys)
 | [],us,xs,ys,h,h'=>by
  have h0:xs = []:=h;subst h0;simpa using h'
 | r :: rs,us,_,zs,⟨ys,rest,h1,h2,h3⟩,h'=>by
  subst h1
  exact⟨ys,rest++zs,by simp,h2,aW.append rs us rest zs h3 h'⟩
theorem aW.one {F:Nat→Prop}{w:World}{r:List C}{ys:List Value}(h:bE F w r ys):aW F w [r] ys:=⟨ys,[],by simp,h,rfl⟩
theorem bE.len {F:Nat→Prop}{w:World} : ∀ {r:List C} {ys:List Value},bE F w r ys→ys.length=r.length
 | [],_,h=>by
  have h0:_ = []:=h;rw[h0];rfl
 | c :: cs,_,⟨z,zs,h1,h2,h3⟩=>by rw[h1,List.length_cons,List.length_cons,bE.len h3]
theorem bE.cellsAt {F:Nat→Prop}{w:World}{g:Nat} : ∀ {r:List C} {ys:List Value} {off:Nat},bE F w r ys→(∀j u,ys[j]?=some u→w.cell? ⟨g,off+j,none⟩=some u)→aR F w g off r
 | [],_,off,_,_=>by unfold aR;trivial
 | c :: cs,_,off,⟨z,zs,h1,h2,h3⟩,hc=>by
  subst h1;unfold aR;refine⟨⟨z,hc 0 z rfl,h2⟩,bE.cellsAt h3 fun j u hj=>?_⟩;have:=hc (j+1) u (by simpa using hj);rw[show off+1+j=off+(j+1) from by omega];exact this
theorem aW.rows {F:Nat→Prop}{w:World}{g:Nat} : ∀(rs:List (List C)) (xs:List Value) (off:Nat),aW F w rs xs→(∀j u,xs[j]?=some u→w.cell? ⟨g,off+j,none⟩=some u)→bg F w g off rs
 | [],_,off,_,_=>by unfold bg;trivial
 | r :: rs,_,off,⟨ys,rest,h1,h2,h3⟩,hc=>by
  subst h1;have hl:=h2.len;unfold bg;refine⟨bE.cellsAt h2 fun j u hj=>hc j u ?_,aW.rows rs rest _ h3 fun j u hj=>?_⟩
  ·have hlt:=(List.getElem?_eq_some_iff.1 hj).1
   rw[List.getElem?_append_left hlt];exact hj
  ·have:=hc (ys.length+j) u (by rw[List.getElem?_append_right (by omega)];simpa using hj)
   rw[←hl,show off+ys.length+j=off+(ys.length+j) from by omega];exact this
def bL (B:Nat)(e:TypeId)(sz:Nat)(w:World)(v:Value)(n:Nat)(rows:List (List C)):Prop:=
 rows.length=n∧∃xs,w.ownsRow B e sz v n xs∧aW (fun b=>B≤b∧v.ownBlock≠some b) w rows xs
theorem bL.nil {B:Nat}{e:TypeId}{sz:Nat}{w:World}:bL B e sz w (.slice none 0 0) 0 []:=⟨rfl,[],World.ownsRow_nil w B e sz,rfl⟩
theorem bL.chg {r B:Nat}{e:TypeId}{sz n:Nat}{w w':World}{v:Value}{rows:List (List C)}(h:bL B e sz w v n rows)(k:Chg [r] w w')(hr:r<B):bL B e sz w' v n rows:=by
 obtain⟨hl,xs,h1,h2⟩:=h
 exact⟨hl,xs,cg h1 k hr,h2.move (k.keeps fun b hb=>by have:=hb.1;simp;omega) _ _⟩
theorem bL.below {B:Nat}{e:TypeId}{sz n:Nat}{w w':World}{v:Value}{rows:List (List C)}(h:bL B e sz w v n rows)(k:Below w.heap.size w w'):bL B e sz w' v n rows:=by
 obtain⟨hl,xs,h1,h2⟩:=h
 exact⟨hl,xs,aY h1 k,h2.move (.below k) _ _⟩
theorem bL.setCell {B:Nat}{e:TypeId}{sz n:Nat}{w:World}{v:Value}{rows:List (List C)}(h:bL B e sz w v n rows){p:Addr}(hp:p.block<B)(u:Value):bL B e sz (w.setCell p u) v n rows:=by
 obtain⟨hl,xs,h1,h2⟩:=h
 exact⟨hl,xs,ownsRow_setCell_below h1 hp u,h2.move ⟨by simp[World.setCell],fun _ h _=>h,fun b hb _=>Below.heap_setCell w p u b (by have:=hb.1;omega)⟩ _ _⟩
theorem bL.shape {B:Nat}{e:TypeId}{sz n:Nat}{w:World}{v:Value}{rows:List (List C)}(h:bL B e sz w v n rows) : ∃a q,v = .slice a n q:=by
 obtain⟨hl,xs,⟨h1,h2 | ⟨g,cap,cur,h2,hB,hg,hn,hc,hs,ht⟩⟩,-⟩:=h
 ·exact⟨none,0,by rw[h2.1,h2.2]⟩
 ·exact⟨_,cap,h2⟩
theorem bL.push {r B g cap n sz:Nat}{e:TypeId}{wr W w2:World}{v:Value}{rows:List (List C)}{xs ys:List Value}{rw':List C}(hl:rows.length=n)(ho:wr.ownsRow B e sz v n xs)(hv:aW (fun b=>B≤b∧v.ownBlock≠some b) wr rows xs)
  (hrB:r<B) (hb:Chg [r] wr W) (hr:bE (fun b=>wr.heap.size≤b) W rw' ys) (hB:B≤wr.heap.size)
  (hown:w2.ownsRow B e sz (.slice (some ⟨g,0,none⟩) (n+1) cap) (n+1) (xs++ys)) (hgrow:W.grownBy w2 v.ownBlock) (hat:v.ownBlock=some g∨g=W.heap.size) :
  bL B e sz w2 (.slice (some ⟨g,0,none⟩) (n+1) cap) (n+1) (rows ++ [rw']):=by
 have hlt : ∀b,v.ownBlock=some b→b<wr.heap.size:=fun b hb=>(ho.lt b hb).2;have kk:bx (fun b=>B≤b∧v.ownBlock≠some b) (fun b=>B≤b∧(Value.slice (some ⟨g,0,none⟩) (n+1) cap).ownBlock≠some b) W w2:=by
  refine⟨hgrow.size,fun b hb hl=>⟨hb.1,fun e=>?_⟩,fun b hb hl=>hgrow.block b hl (fun e=>hb.2 e.symm)⟩;simp only[Value.ownBlock,Option.some.injEq] at e;subst e
  rcases hat with h | h
  ·exact hb.2 h
  ·omega
 have k0:bx (fun b=>B≤b∧v.ownBlock≠some b) (fun b=>B≤b∧v.ownBlock≠some b) wr W:=hb.keeps fun b hb=>by have:=hb.1;simp;omega
 have k1:bx (fun b=>wr.heap.size≤b) (fun b=>B≤b∧v.ownBlock≠some b) W W:=.weaken fun b hb _=>⟨by omega,fun e=>by have:=hlt b e;omega⟩
 exact⟨by simp[hl],xs++ys,hown,aW.append rows [rw'] xs ys ((hv.move k0 _ _).move kk _ _) (aW.one ((hr.move k1).move kk))⟩
theorem bL.rep {B:Nat}{e:TypeId}{sz n:Nat}{w:World}{v:Value}{rows:List (List C)}(h:bL B e sz w v n rows):aM (B ≤ ·) w (.sl rows) v:=by
 obtain⟨hl,xs,h1,h2⟩:=h;subst hl;have h1':=h1;obtain⟨hx,h3 | ⟨g,cap,cur,h3,hB,hg,hn,hc,hs,ht⟩⟩:=h1
 ·obtain⟨rfl,h4⟩:=h3
  have:rows = []:=List.length_eq_zero_iff.1 h4;subst this;unfold aM
  exact⟨none,0,rfl,Nat.le_refl _,by unfold maxLen;omega,.inl rfl⟩
 ·subst h3
  have hcl : ∀j u,xs[j]?=some u→w.cell? ⟨g,j,none⟩=some u:=by
   intro j u hj;subst ht;simp only[World.cell?,hg];rw[List.getElem?_take] at hj
   split at hj
   ·simpa using hj
   ·cases hj
  unfold aM
  exact⟨_,cap,rfl,hn,hc,.inr ⟨g,0,rfl,hB,(Array.getElem?_eq_some_iff.1 hg).1,aW.rows rows xs 0 (h2.move (.weaken fun _ hb _=>hb.1) _ _) (fun j u hj=>by simpa using hcl j u hj)⟩⟩
def aO (s:ByteArray):Bool:=if h:s.size=1 then decide ((97:Int)≤((s[0]'(by omega)).toNat:Int))&&decide (((s[0]'(by omega)).toNat:Int)≤122) else false
theorem jX {s:ByteArray}(h : ¬s.size=1):aO s=false:=by unfold aO;rw[dif_neg h]
theorem ng {s:ByteArray}(h:s.size=1)(hp:0<s.size):aO s=(decide ((97:Int)≤((s[0]'hp).toNat:Int))&&decide (((s[0]'hp).toNat:Int)≤122)):=by unfold aO;rw[dif_pos h]
theorem t8 (s:ByteArray)(w:World):Calls Tryz.prog 94 #[.string s] w fun e w'=>e = .returned (.bool (aO s))∧w=w':=by
 by_cases h1:s.size=1
 ·have hp:0<s.size:=by omega
  have HN:=zq (ng h1 hp);have hi:((s.size:Int)==1)=true:=by simp[h1]
  have hp':(0:Int)<(s.size:Int):=by omega
  by_cases hA:(97:Int)≤((s[0]'hp).toNat:Int)
  ·have hA':decide ((97:Int)≤((s[0]'hp).toNat:Int))=true:=decide_eq_true hA
   go_enter Tryz.func94,Tryz.ntmps94
   go_wp2_with fail
   go_ret
   exact⟨ax (by rw[HN.out,hA'];rfl),rfl⟩
  ·have hA':decide ((97:Int)≤((s[0]'hp).toNat:Int))=false:=decide_eq_false hA
   go_enter Tryz.func94,Tryz.ntmps94
   go_wp2_with fail
   go_ret
   exact⟨ax (by rw[HN.out,hA'];rfl),rfl⟩
 ·have HN:=zq (jX h1)
  have hi:((s.size:Int)==1)=false:=by simp;omega
  clear h1
  go_enter Tryz.func94,Tryz.ntmps94
  go_wp2_with fail
  go_ret
  exact⟨ax HN.out.symm,rfl⟩
theorem l6 (s:ByteArray)(w:World):Calls Tryz.prog 105 #[.string s] w fun e w'=>e = .returned (.bool (aO s))∧w=w':=by
 by_cases h1:s.size=1
 ·have hp:0<s.size:=by omega
  have HN:=zq (ng h1 hp);have hi:((s.size:Int)==1)=true:=by simp[h1]
  have hp':(0:Int)<(s.size:Int):=by omega
  by_cases hA:(97:Int)≤((s[0]'hp).toNat:Int)
  ·have hA':decide ((97:Int)≤((s[0]'hp).toNat:Int))=true:=decide_eq_true hA
   go_enter Tryz.func105,Tryz.ntmps105
   go_wp2_with fail
   go_ret
   exact⟨ax (by rw[HN.out,hA'];rfl),rfl⟩
  ·have hA':decide ((97:Int)≤((s[0]'hp).toNat:Int))=false:=decide_eq_false hA
   go_enter Tryz.func105,Tryz.ntmps105
   go_wp2_with fail
   go_ret
   exact⟨ax (by rw[HN.out,hA'];rfl),rfl⟩
 ·have HN:=zq (jX h1)
  have hi:((s.size:Int)==1)=false:=by simp;omega
  clear h1
  go_enter Tryz.func105,Tryz.ntmps105
  go_wp2_with fail
  go_ret
  exact⟨ax HN.out.symm,rfl⟩
inductive S where
 | zero | any | int | bool
 | fn (a b:S)
 | pr (a b:S)
deriving DecidableEq
def S.ty:S→Ty
 | .zero=>.mk 0 []
 | .any=>.mk 1 []
 | .int=>.mk 2 []
 | .bool=>.mk 3 []
 | .fn a b=>.mk 4 [a.ty,b.ty]
 | .pr a b=>.mk 5 [a.ty,b.ty]
def S.ok:S→Bool
 | .zero=>false
 | .any=>true
 | .int=>true
 | .bool=>true
 | .fn a b=>a.ok&&b.ok
 | .pr a b=>a.ok&&b.ok
def S.dep:S→Nat
 | .fn a b=>max a.dep b.dep+1
 | .pr a b=>max a.dep b.dep+1
 | _=>1
def S.vd (s:S):Bool:=s.ok&&decide (s.dep≤4)
def S.cnt:S→Nat
 | .fn a b=>a.cnt+b.cnt+2
 | .pr a b=>a.cnt+b.cnt+2
 | _=>0
theorem S.ty_cnt : ∀s:S,s.ty.cnt=s.cnt
 | .zero=>rfl
 | .any=>rfl
 | .int=>rfl
 | .bool=>rfl
 | .fn a b=>by simp[S.ty,Ty.cnt,Ty.cnts,S.cnt,a.ty_cnt,b.ty_cnt];omega
 | .pr a b=>by simp[S.ty,Ty.cnt,Ty.cnts,S.cnt,a.ty_cnt,b.ty_cnt];omega
theorem S.dep_pos : ∀s:S,1≤s.dep
 | .zero=>Nat.le_refl _
 | .any=>Nat.le_refl _
 | .int=>Nat.le_refl _
 | .bool=>Nat.le_refl _
 | .fn a b=>by unfold S.dep;omega
 | .pr a b=>by unfold S.dep;omega
theorem sT (a b:Nat)(d:Int)(h:1≤a):((max a b+1:Nat):Int)≤d↔(a:Int)≤d-1∧(b:Int)≤d-1:=by
 rcases Nat.le_total a b with h1 | h1
 ·rw[Nat.max_eq_right h1];omega
 ·rw[Nat.max_eq_left h1];omega
theorem S.shape : ∀(s:S) (d:Int),s.ty.shape d=(s.ok&&decide ((s.dep:Int)≤d))
 | .zero,d=>by simp[S.ty,Ty.shape,S.ok,bD]
 | .any,d=>by simp[S.ty,Ty.shape,Ty.shapes,S.ok,S.dep,bD];rfl
 | .int,d=>by simp[S.ty,Ty.shape,Ty.shapes,S.ok,S.dep,bD];rfl
 | .bool,d=>by simp[S.ty,Ty.shape,Ty.shapes,S.ok,S.dep,bD];rfl
 | .fn a b,d=>by
  simp only[S.ty,Ty.shape,Ty.shapes,S.ok,S.dep,a.shape,b.shape];have ha:=a.dep_pos;rw[Bool.eq_iff_iff];simp only[Bool.and_eq_true,decide_eq_true_eq,sT _ _ _ ha]
  simp[bD]
  constructor
  ·rintro ⟨h1,⟨h2,h3⟩,h4,h5⟩;exact⟨⟨h2,h4⟩,h3,h5⟩
  ·rintro ⟨⟨h2,h4⟩,h3,h5⟩;exact⟨by omega,⟨h2,h3⟩,h4,h5⟩
 | .pr a b,d=>by
  simp only[S.ty,Ty.shape,Ty.shapes,S.ok,S.dep,a.shape,b.shape];have ha:=a.dep_pos;rw[Bool.eq_iff_iff];simp only[Bool.and_eq_true,decide_eq_true_eq,sT _ _ _ ha]
  simp[bD]
  constructor
  ·rintro ⟨h1,⟨h2,h3⟩,h4,h5⟩;exact⟨⟨h2,h4⟩,h3,h5⟩
  ·rintro ⟨⟨h2,h4⟩,h3,h5⟩;exact⟨by omega,⟨h2,h3⟩,h4,h5⟩
theorem S.valid (s:S):s.ty.valid=s.vd:=by
 unfold Ty.valid S.vd;rw[S.shape]
 congr 1
 rw[Bool.eq_iff_iff];simp;omega
theorem Ty.shape_S : ∀(t:Ty) (d:Int),t.shape d=true→∃s:S,t=s.ty
 | .mk k ts,d,h=>by
  obtain⟨h1,h2,h3⟩:=Ty.shape_mk h;unfold bD at h2
  split at h2
  ·rename_i hk
   obtain rfl:ts = []:=List.eq_nil_of_length_eq_zero (by omega)
   rcases hk with rfl | rfl | rfl
   ·exact⟨.any,rfl⟩
   ·exact⟨.int,rfl⟩
   ·exact⟨.bool,rfl⟩
  ·split at h2
   ·rename_i hk
    match ts,h2,h3 with
    | [a,b],_,h3=>
     obtain⟨x,hx⟩:=Ty.shape_S a (d-1) (Ty.shapes_mem h3 (by simp));obtain⟨y,hy⟩:=Ty.shape_S b (d-1) (Ty.shapes_mem h3 (by simp));subst hx hy
     rcases hk with rfl | rfl
     ·exact⟨.fn x y,rfl⟩
     ·exact⟨.pr x y,rfl⟩
   ·omega
theorem Ty.valid_S {t:Ty}(h:t.valid=true) : ∃s:S,t=s.ty∧s.vd=true:=by
 obtain⟨s,rfl⟩:=Ty.shape_S t 4 h
 exact⟨s,rfl,by rw[←S.valid];exact h⟩
theorem S.vd_ok {s:S}(h:s.vd=true):s.ok=true:=by unfold S.vd at h;simp at h;exact h.1
theorem S.vd_dep {s:S}(h:s.vd=true):s.dep≤4:=by unfold S.vd at h;simp at h;exact h.2
theorem S.vd_mk {s:S}(h:s.ok=true)(h2:s.dep≤4):s.vd=true:=by unfold S.vd;simp[h,h2]
theorem S.ty_inj : ∀ {s u:S},s.ty=u.ty→s=u
 | .zero,u,h=>by cases u<;>simp[S.ty] at h ⊢
 | .any,u,h=>by cases u<;>simp[S.ty] at h ⊢
 | .int,u,h=>by cases u<;>simp[S.ty] at h ⊢
 | .bool,u,h=>by cases u<;>simp[S.ty] at h ⊢
 | .fn a b,u,h=>by
  cases u<;>simp[S.ty] at h ⊢
  exact⟨S.ty_inj h.1,S.ty_inj h.2⟩
 | .pr a b,u,h=>by
  cases u<;>simp[S.ty] at h ⊢
  exact⟨S.ty_inj h.1,S.ty_inj h.2⟩
mutual
theorem Ty.same_eq : ∀ {t u:Ty},t.same u=true→t=u
 | .mk k ts,.mk l us,h=>by
  unfold Ty.same at h
  simp at h
  rw[h.1,Ty.sames_eq h.2]
theorem Ty.sames_eq : ∀ {ts us:List Ty},Ty.sames ts us=true→ts=us
 | [],[],_=>rfl
 | [],_ :: _,h=>by unfold Ty.sames at h;cases h
 | _ :: _,[],h=>by unfold Ty.sames at h;cases h
 | t :: ts,u :: us,h=>by
  unfold Ty.sames at h
  simp at h
  rw[Ty.same_eq h.1,Ty.sames_eq h.2]
end
theorem Ty.same_iff {t u:Ty}:t.same u=true↔t=u:=⟨Ty.same_eq,fun h=>h▸Ty.same_refl t⟩
theorem S.same (s u:S):s.ty.same u.ty=decide (s=u):=by
 rw[Bool.eq_iff_iff,Ty.same_iff]
 simp
 exact⟨S.ty_inj,fun h=>h▸rfl⟩
def S.kind:S→Int
 | .zero=>0 | .any=>1 | .int=>2 | .bool=>3 | .fn _ _=>4 | .pr _ _=>5
def S.cons:S→S→Bool
 | .any,_=>true
 | _,.any=>true
 | .zero,.zero=>true
 | .int,.int=>true
 | .bool,.bool=>true
 | .fn a b,.fn c d=>a.cons c&&b.cons d
 | .pr a b,.pr c d=>a.cons c&&b.cons d
 | _,_=>false
def S.meet:S→S→S
 | .any,u=>u
 | .fn a b,.fn c d=>.fn (a.meet c) (b.meet d)
 | .pr a b,.pr c d=>.pr (a.meet c) (b.meet d)
 | s,_=>s
def S.join:S→S→S
 | .zero,.zero=>.zero
 | .int,.int=>.int
 | .bool,.bool=>.bool
 | .fn a b,.fn c d=>.fn (a.join c) (b.join d)
 | .pr a b,.pr c d=>.pr (a.join c) (b.join d)
 | _,_=>.any
theorem S.ty_cons : ∀(s u:S),s.ty.cons u.ty=s.cons u
 | .fn a b,.fn c d=>by have h1:=S.ty_cons a c;have h2:=S.ty_cons b d;simp[S.ty,Ty.cons,Ty.conss,S.cons,h1,h2]
 | .pr a b,.pr c d=>by have h1:=S.ty_cons a c;have h2:=S.ty_cons b d;simp[S.ty,Ty.cons,Ty.conss,S.cons,h1,h2]
 | .fn a b,.pr c d=>by simp[S.ty,Ty.cons,S.cons]
 | .pr a b,.fn c d=>by simp[S.ty,Ty.cons,S.cons]
 | .zero,u=>by cases u<;>simp[S.ty,Ty.cons,Ty.conss,S.cons]
 | .any,u=>by cases u<;>simp[S.ty,Ty.cons,Ty.conss,S.cons]
 | .int,u=>by cases u<;>simp[S.ty,Ty.cons,Ty.conss,S.cons]
 | .bool,u=>by cases u<;>simp[S.ty,Ty.cons,Ty.conss,S.cons]
 | .fn a b,.zero=>by simp[S.ty,Ty.cons,S.cons]
 | .fn a b,.any=>by simp[S.ty,Ty.cons,S.cons]
 | .fn a b,.int=>by simp[S.ty,Ty.cons,S.cons]
 | .fn a b,.bool=>by simp[S.ty,Ty.cons,S.cons]
 | .pr a b,.zero=>by simp[S.ty,Ty.cons,S.cons]
 | .pr a b,.any=>by simp[S.ty,Ty.cons,S.cons]
 | .pr a b,.int=>by simp[S.ty,Ty.cons,S.cons]
 | .pr a b,.bool=>by simp[S.ty,Ty.cons,S.cons]
theorem S.any_cons (s:S):S.any.cons s=true:=by cases s<;>rfl
end Go.Proofs.YtfahhonmiimmdaaGreat

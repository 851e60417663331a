/-
  Terms as trees.
  Draws out of lists, and slices that grow while numbers are drawn.
  Consistency and precision of types: implConsistent.
  What makes a node of a term.
-/
import Derived.Test.YtnaoghknnenfoaaB0
import Derived.Test.YtnaoghknnenfoaaRd
import Derived.Test.YtnaoghknnenfoaaB2
import Derived.Test.YtnaoghknnenfoaaTmOps
set_option linter.unusedSimpArgs false
set_option linter.unusedVariables false
set_option maxRecDepth 100000
namespace Go.Proofs.Ytnaoghknnenfoaa
open Go.RowKit
inductive Tm where
 | mk (kind:Int) (name:ByteArray) (num:Int) (type src:Ty) (label:Int) (kids:List Tm)
def Tm.kind:Tm→Int | .mk k _ _ _ _ _ _=>k
def Tm.name:Tm→ByteArray | .mk _ s _ _ _ _ _=>s
def Tm.num:Tm→Int | .mk _ _ u _ _ _ _=>u
def Tm.type:Tm→Ty | .mk _ _ _ t _ _ _=>t
def Tm.src:Tm→Ty | .mk _ _ _ _ t _ _=>t
def Tm.label:Tm→Int | .mk _ _ _ _ _ l _=>l
def Tm.kids:Tm→List Tm | .mk _ _ _ _ _ _ ts=>ts
mutual
def Tm.row:Tm→List C
 | .mk k s u t f l ts=> [.int k,.str s,.int u,.int t.kind,.sl (Ty.rows t.kids),.int f.kind,.sl (Ty.rows f.kids),.int l,.sl (Tm.rows ts)]
def Tm.rows:List Tm→List (List C)
 | []=> []
 | t :: ts=>t.row :: Tm.rows ts
end
theorem Tm.rows_eq (ts:List Tm):Tm.rows ts=ts.map Tm.row:=by
 induction ts with
 | nil=>rfl
 | cons t ts ih=>unfold Tm.rows;rw [ih];rfl
theorem Tm.rows_length (ts:List Tm):(Tm.rows ts).length=ts.length:=by rw [Tm.rows_eq];simp
theorem Tm.row_length : ∀t:Tm,t.row.length=9 | .mk _ _ _ _ _ _ _=>by unfold Tm.row;rfl
def aV (F:Nat→Prop)(w:World)(ts:List Tm)(y:Value):Prop:=aS F w (.sl (Tm.rows ts)) y
def az (F:Nat→Prop)(w:World)(t:Tm)(y:Value):Prop:=∃s1 s2 s,y = .agg #[.int .i64 t.kind,.string t.name,.int .i64 t.num,.int .i64 t.type.kind,s1,.int .i64 t.src.kind,s2,.int .i64 t.label,s]∧t.name.size≤maxLen∧aF F w t.type.kids s1∧aF F w t.src.kids s2∧aV F w t.kids s
theorem aV.move {F G:Nat→Prop}{w w':World}{ts:List Tm}{y:Value}(h:aV F w ts y)(k:bB F G w w'):aV G w' ts y:=aS.move k _ _ h
theorem az.move {F G:Nat→Prop}{w w':World}{t:Tm}{y:Value}(h:az F w t y)(k:bB F G w w'):az G w' t y:=
 let ⟨s1,s2,s,h1,h2,h3,h4,h5⟩:=h;⟨s1,s2,s,h1,h2,h3.move k,h4.move k,h5.move k⟩
theorem az.below {F:Nat→Prop}{w w':World}{t:Tm}{y:Value}(h:az F w t y)(k:Below w.heap.size w w'):az F w' t y:=h.move (.below k)
theorem aV.below {F:Nat→Prop}{w w':World}{t:List Tm}{y:Value}(h:aV F w t y)(k:Below w.heap.size w w'):aV F w' t y:=h.move (.below k)
theorem az.open {F:Nat→Prop}{w:World}{t:Tm}{y:Value}(h:az F w t y) :
  ∃ta tq fa fq c q,y = .agg #[.int .i64 t.kind,.string t.name,.int .i64 t.num,.int .i64 t.type.kind,.slice ta t.type.kids.length tq,.int .i64 t.src.kind,.slice fa t.src.kids.length fq,.int .i64 t.label,.slice c t.kids.length q]∧t.name.size≤maxLen ∧
   t.kids.length≤q∧q≤maxLen∧ap F w t.type (.agg #[.int .i64 t.type.kind,.slice ta t.type.kids.length tq])∧ap F w t.src (.agg #[.int .i64 t.src.kind,.slice fa t.src.kids.length fq])∧aV F w t.kids (.slice c t.kids.length q):=by
 obtain⟨s1,s2,s,rfl,hn,h1,h2,h3⟩:=h
 obtain⟨ta,tq,rfl,-,-,-⟩:=h1.open
 obtain⟨fa,fq,rfl,-,-,-⟩:=h2.open
 obtain⟨c,q,rfl,h4,h5,-⟩:=aS.rows h3
 rw [Tm.rows_length] at h4 h3 ⊢
 exact⟨ta,tq,fa,fq,c,q,rfl,hn,h4,h5,⟨_,rfl,h1⟩,⟨_,rfl,h2⟩,h3⟩
theorem az.shape {F:Nat→Prop}{w:World}{t:Tm}{y:Value}(h:az F w t y) : ∃k nm u tk ta tn tq fk fa fn fq l c m q,y = .agg #[.int .i64 k,.string nm,.int .i64 u,.int .i64 tk,.slice ta tn tq,.int .i64 fk,.slice fa fn fq,.int .i64 l,.slice c m q]:=by
 obtain⟨ta,tq,fa,fq,c,q,rfl,_⟩:=h.open
 exact⟨_,_,_,_,ta,_,tq,_,fa,_,fq,_,c,_,q,rfl⟩
theorem aV.shape {F:Nat→Prop}{w:World}{t:List Tm}{y:Value}(h:aV F w t y) : ∃a n q,y = .slice a n q:=by
 obtain⟨a,q,rfl,_⟩:=aS.rows h
 exact⟨a,_,q,rfl⟩
theorem aV.open {F:Nat→Prop}{w:World}{ts:List Tm}{y:Value}(h:aV F w ts y) :
  ∃(a:Option Addr) (cap:Nat),y = .slice a ts.length cap∧ts.length≤cap∧cap≤maxLen ∧
   ∀i (h:i<ts.length),∃b off k nm u tk ta tn tq fk fa fn fq l c m q,a=some ⟨b,off,none⟩∧w.cell? ⟨b,off+i*9,none⟩=some (.int .i64 k)∧w.cell? ⟨b,off+i*9+1,none⟩=some (.string nm)∧w.cell? ⟨b,off+i*9+2,none⟩=some (.int .i64 u)∧w.cell? ⟨b,off+i*9+3,none⟩=some (.int .i64 tk)∧w.cell? ⟨b,off+i*9+4,none⟩=some (.slice ta tn tq)∧w.cell? ⟨b,off+i*9+5,none⟩=some (.int .i64 fk)∧w.cell? ⟨b,off+i*9+6,none⟩=some (.slice fa fn fq)∧w.cell? ⟨b,off+i*9+7,none⟩=some (.int .i64 l)∧w.cell? ⟨b,off+i*9+8,none⟩=some (.slice c m q)∧az F w ts[i] (.agg #[.int .i64 k,.string nm,.int .i64 u,.int .i64 tk,.slice ta tn tq,.int .i64 fk,.slice fa fn fq,.int .i64 l,.slice c m q]):=by
 obtain⟨a,cap,h1,h2,h3,h4⟩:=aS.rows h
 rw [Tm.rows_length] at h1 h2
 refine⟨a,cap,h1,h2,h3,fun i hi=>?_⟩
 rcases h4 with h4 | ⟨b,off,ha,hF,hl,hr⟩
 ·rw [←Tm.rows_length,h4] at hi;exact absurd hi (Nat.not_lt_zero _)
 ·have hc:=hr.get (m:=9) (fun r hr=>by rw [Tm.rows_eq] at hr;obtain⟨t,_,rfl⟩:=List.mem_map.1 hr;exact t.row_length) i (by rw [Tm.rows_length];exact hi)
  have he:(Tm.rows ts)[i]'(by rw [Tm.rows_length];exact hi)=ts[i].row:=by simp [Tm.rows_eq]
  rw [he] at hc
  obtain⟨k,s,u,t,f,l,ks,ht⟩ : ∃k s u t f l ks,ts[i]=Tm.mk k s u t f l ks:=by cases ts[i];exact⟨_,_,_,_,_,_,_,rfl⟩
  rw [ht] at hc ⊢
  unfold Tm.row at hc
  unfold aU at hc
  obtain⟨⟨y0,hy0,hc0⟩,hc⟩:=hc
  unfold aU at hc
  obtain⟨⟨y1,hy1,hc1⟩,hc⟩:=hc
  unfold aU at hc
  obtain⟨⟨y2,hy2,hc2⟩,hc⟩:=hc
  unfold aU at hc
  obtain⟨⟨y3,hy3,hc3⟩,hc⟩:=hc
  unfold aU at hc
  obtain⟨⟨y4,hy4,hc4⟩,hc⟩:=hc
  unfold aU at hc
  obtain⟨⟨y5,hy5,hc5⟩,hc⟩:=hc
  unfold aU at hc
  obtain⟨⟨y6,hy6,hc6⟩,hc⟩:=hc
  unfold aU at hc
  obtain⟨⟨y7,hy7,hc7⟩,hc⟩:=hc
  unfold aU at hc
  obtain⟨⟨y8,hy8,hc8⟩,-⟩:=hc
  rw [aS.int_eq hc0] at hy0
  obtain⟨rfl,hsz⟩:=aS.str_eq hc1
  rw [aS.int_eq hc2] at hy2
  rw [aS.int_eq hc3] at hy3
  obtain⟨ta,tq,rfl,-⟩:=aS.rows hc4
  rw [aS.int_eq hc5] at hy5
  obtain⟨fa,fq,rfl,-⟩:=aS.rows hc6
  rw [aS.int_eq hc7] at hy7
  obtain⟨c,q,rfl,-⟩:=aS.rows hc8
  exact⟨b,off,k,s,u,t.kind,ta,_,tq,f.kind,fa,_,fq,l,c,_,q,ha,hy0,hy1,hy2,hy3,hy4,hy5,hy6,hy7,hy8,_,_,_,rfl,hsz,hc4,hc6,hc8⟩
theorem aV.at {F:Nat→Prop}{w wr:World}{ts:List Tm}{a:Option Addr}{n cap:Nat}(h:aV F w ts (.slice a n cap))(hb:Below w.heap.size w wr){i:Nat}(hi:i<ts.length) :
  ∃b off k nm u tk ta tn tq fk fa fn fq l c m q,a=some ⟨b,off,none⟩∧b<wr.heap.size∧wr.cell? ⟨b,off+i*9,none⟩=some (.int .i64 k)∧wr.cell? ⟨b,off+i*9+1,none⟩=some (.string nm)∧wr.cell? ⟨b,off+i*9+2,none⟩=some (.int .i64 u)∧wr.cell? ⟨b,off+i*9+3,none⟩=some (.int .i64 tk)∧wr.cell? ⟨b,off+i*9+4,none⟩=some (.slice ta tn tq)∧wr.cell? ⟨b,off+i*9+5,none⟩=some (.int .i64 fk)∧wr.cell? ⟨b,off+i*9+6,none⟩=some (.slice fa fn fq)∧wr.cell? ⟨b,off+i*9+7,none⟩=some (.int .i64 l)∧wr.cell? ⟨b,off+i*9+8,none⟩=some (.slice c m q)∧az F wr ts[i] (.agg #[.int .i64 k,.string nm,.int .i64 u,.int .i64 tk,.slice ta tn tq,.int .i64 fk,.slice fa fn fq,.int .i64 l,.slice c m q]):=by
 obtain⟨a',cap',he,_,_,hg⟩:=h.open
 simp only [Value.slice.injEq] at he
 obtain⟨rfl,_,rfl⟩:=he
 obtain⟨b,off,k,nm,u,tk,ta,tn,tq,fk,fa,fn,fq,l,c,m,q,ha,h0,h1,h2,h3,h4,h5,h6,h7,h8,ht⟩:=hg i hi
 have e0:=a9 hb h0
 exact⟨b,off,k,nm,u,tk,ta,tn,tq,fk,fa,fn,fq,l,c,m,q,ha,World.block_lt_of_cell? wr _ e0,e0,a9 hb h1,a9 hb h2,a9 hb h3,a9 hb h4,a9 hb h5,a9 hb h6,a9 hb h7,a9 hb h8,ht.below hb⟩
theorem az.parts {F:Nat→Prop}{w:World}{t:Tm}{k u tk fk l:Int}{nm:ByteArray}{ta fa c:Option Addr}{tn tq fn fq m q:Nat}(h:az F w t (.agg #[.int .i64 k,.string nm,.int .i64 u,.int .i64 tk,.slice ta tn tq,.int .i64 fk,.slice fa fn fq,.int .i64 l,.slice c m q])) :
  k=t.kind∧nm=t.name∧u=t.num∧tk=t.type.kind∧tn=t.type.kids.length∧fk=t.src.kind∧fn=t.src.kids.length∧l=t.label∧m=t.kids.length∧nm.size≤maxLen∧m≤q∧q≤maxLen ∧
   ap F w t.type (.agg #[.int .i64 tk,.slice ta tn tq])∧ap F w t.src (.agg #[.int .i64 fk,.slice fa fn fq])∧aV F w t.kids (.slice c m q):=by
 obtain⟨ta',tq',fa',fq',c',q',he,hn,h4,h5,h6,h7,h8⟩:=h.open
 simp only [Value.agg.injEq,Array.mk.injEq,List.cons.injEq,Value.int.injEq,Value.string.injEq,Value.slice.injEq,true_and,and_true] at he
 obtain⟨rfl,rfl,rfl,rfl,⟨rfl,rfl,rfl⟩,rfl,⟨rfl,rfl,rfl⟩,rfl,⟨rfl,rfl,rfl⟩⟩:=he
 exact⟨rfl,rfl,rfl,rfl,rfl,rfl,rfl,rfl,rfl,hn,h4,h5,h6,h7,h8⟩
theorem Tm.kid_lt {t:Tm}{x:Tm}(h:x∈t.kids):SizeOf.sizeOf x<SizeOf.sizeOf t:=by
 cases t with
 | mk k s u t f l ts=>have:=List.sizeOf_lt_of_mem h;simp only [Tm.kids] at h this;simp;omega
mutual
def Tm.cnt:Tm→Nat
 | .mk _ s _ t f _ ts=>s.size+t.cnt+f.cnt+(ts.length+Tm.cnts ts)
def Tm.cnts:List Tm→Nat
 | []=>0
 | t :: ts=>t.cnt+Tm.cnts ts
end
theorem Tm.cnts_take_succ : ∀(ts:List Tm) (j:Nat) (h:j<ts.length),Tm.cnts (ts.take (j+1))=Tm.cnts (ts.take j)+ts[j].cnt
 | [],_,h=>absurd h (Nat.not_lt_zero _)
 | t :: ts,0,_=>by simp [Tm.cnts]
 | t :: ts,j+1,h=>by
  have:=Tm.cnts_take_succ ts j (by simpa using h)
  simp only [List.take_succ_cons,Tm.cnts,List.getElem_cons_succ]
  omega
theorem Tm.cnts_take_le : ∀(ts:List Tm) (j:Nat),Tm.cnts (ts.take j)≤Tm.cnts ts
 | [],_=>by simp
 | t :: ts,0=>by simp [Tm.cnts]
 | t :: ts,j+1=>by
  have:=Tm.cnts_take_le ts j
  simp only [List.take_succ_cons,Tm.cnts]
  omega
theorem Tm.cnt_mem : ∀ {ts:List Tm} {t:Tm},t∈ts→t.cnt≤Tm.cnts ts
 | u :: ts,t,h=>by
  rcases List.mem_cons.1 h with rfl | h
  ·simp only [Tm.cnts];omega
  ·have:=Tm.cnt_mem h;simp only [Tm.cnts];omega
theorem Tm.cnt_parts (t:Tm):t.cnt=t.name.size+t.type.cnt+t.src.cnt+(t.kids.length+Tm.cnts t.kids):=by
 cases t with | mk k s u t f l ts=>simp only [Tm.cnt,Tm.name,Tm.type,Tm.src,Tm.kids]
theorem Tm.cnt_kid {t x:Tm}(h:x∈t.kids):x.cnt+t.kids.length≤t.cnt:=by
 have h1:=Tm.cnt_mem h
 have h2:=t.cnt_parts
 omega
end Go.Proofs.Ytnaoghknnenfoaa
namespace Go.Proofs.Ytnaoghknnenfoaa
open Go.RowKit
theorem Chg.grown {r:Nat}{w w':World}(h:Chg [r] w w'):w.grownBy w' (some r):=⟨h.os,h.tape,h.output,h.size,fun k hk hn=>h.block k hk (fun hm=>hn (by simpa using hm))⟩
theorem cl {r B:Nat}{e:TypeId}{size n:Nat}{w w':World}{v:Value}{xs:List Value}(h:w.ownsRow B e size v n xs)(k:Chg [r] w w')(hr:r<B):w'.ownsRow B e size v n xs:=
 h.kept (row:=some r) k.grown (by
   cases hv:v.ownBlock with
   | none=>exact .inl rfl
   | some g=>exact .inr (fun e=>by have:=(h.lt g hv).1;simp at e;omega))
theorem cH {r B:Nat}{e:TypeId}{size n:Nat}{wr W w2:World}{v:Value}{xs:List Value}(hb:Chg [r] wr W)(ho:wr.ownsRow B e size v n xs)(hg:W.grownBy w2 v.ownBlock)(b:Nat)(hl:b<wr.heap.size)(hB:b<B)(hn:b≠r):w2.heap[b]?=wr.heap[b]?:=
 (hg.block b (Nat.lt_of_lt_of_le hl hb.size) (fun e=>by have:=(ho.lt b e.symm).1;omega)).trans (hb.block b hl (by simpa using hn))
theorem cZ {r B:Nat}{e:TypeId}{size n:Nat}{w0 wr W w2:World}{v:Value}{xs:List Value}(h0:Chg [r] w0 wr)(hb:Chg [r] wr W)(ho:wr.ownsRow B e size v n xs)(hB:w0.heap.size≤B)(hg:W.grownBy w2 v.ownBlock):Chg [r] w0 w2:=by
 have h:=h0.trans hb
 exact⟨hg.os.trans h.os,hg.tape.trans h.tape,hg.output.trans h.output,Nat.le_trans h.size hg.size,fun k hk hn=>(hg.block k (Nat.lt_of_lt_of_le hk h.size) (fun e=>by have:=(ho.lt k e.symm).1;omega)).trans (h.block k hk hn)⟩
theorem aH.pushC {r B g cap:Nat}{e:TypeId}{size n:Nat}{wr W0 W w2:World}{v:Value}{xs ys:List Value}{fps f:List Nat}{rows:List (List C)}{rw':List C}(hl:rows.length=n)(ho:wr.ownsRow B e size v n xs)(hs:be wr rows xs fps)(hd:fps.Nodup)
  (hfp : ∀x∈fps,B≤x∧v.ownBlock≠some x) (hB:B≤wr.heap.size) (hrB:r<B) (hb:Chg [r] wr W) (h0:wr.heap.size≤W0.heap.size) (hr:bg W rw' ys f) (hdf:f.Nodup) (hxf : ∀x∈f,W0.heap.size≤x)
  (hown:w2.ownsRow B e size (.slice (some ⟨g,0,none⟩) (n+1) cap) (n+1) (xs++ys)) (hgrow:W.grownBy w2 v.ownBlock) (hat:v.ownBlock=some g∨g=W.heap.size):aH B e size w2 (.slice (some ⟨g,0,none⟩) (n+1) cap) (n+1) (rows ++ [rw']):=by
 have hlt : ∀x∈fps,x<wr.heap.size:=fun x hx=>be.lt _ _ _ hs x hx
 refine aH.append (w:=W) hl (hs.move _ _ _ fun b hx=>hb.block b (hlt b hx) (by have:=(hfp b hx).1;simp;omega)) hd hfp hr hdf (fun x hx=>?_) hown hgrow hat rfl
 have h1:=hxf x hx
 refine⟨by omega,fun e=>by have:=(ho.lt x e).2;omega,fun e=>by have:=hlt x e;omega⟩
theorem aW.grown {B r p:Nat}{e:TypeId}{size n:Nat}{wr W w2:World}{v:Value}{xs:List Value}(h:aW W r p)(ho:wr.ownsRow B e size v n xs)(hr:r<B)(hg:W.grownBy w2 v.ownBlock):aW w2 r p:=
 h.keep hg.size (fun b hb=>hg.block b (Nat.lt_of_le_of_lt hb h.1) (fun e=>by have:=(ho.lt b e.symm).1;omega))
def NumPost (r p:Nat)(Q:Int→Prop)(w:World)(e:Ending)(w':World):Prop:=∃k:Int,e = .returned (.int .i64 k)∧Q k∧aW w' r (p+1)∧Chg [r] w w'
set_option maxHeartbeats 1000000 in
theorem cn (Q:Int→Prop)(r p b n cap:Nat)(w:World)(h:aW w r p)(hp:p≤1125899906842623)(hn0:0<n)(hn:n≤1048576)(hcap:n≤cap)(hbr:r<b)
  (hc : ∀i,i<n→∃x,w.cell? ⟨b,i,none⟩=some (.int .i64 x)∧Q x) :
  Calls Try.prog 26 #[.pointer (some ⟨r,0,none⟩),.slice (some ⟨b,0,none⟩) n cap] w (NumPost r p Q w):=by
 have H:=Lib.hid (bE r p (n:Int) w h (by omega) (by omega))
 have HC:=Lib.hid hc
 clear hc
 go_enter Try.func26,Try.ntmps26
 go_wp2_with fail
 refine H.out.mono ?_
 rintro e w1 ⟨k,rfl,k0,hk,hrd,hch⟩
 obtain⟨q,rfl⟩:=Int.eq_ofNat_of_zero_le k0
 have hqn:q<n:=by omega
 obtain⟨x,hx,hq⟩:=HC.out q hqn
 have hx1:=hch.cellne (by show b≠r;omega) hx
 have hqi:(0:Int)≤(q:Int):=by omega
 have hqj:(q:Int)<(n:Int):=by omega
 clear hk k0 hx
 go_wp2_with fail
 go_ret
 exact⟨x,rfl,hq,hrd,hch⟩
def OfPost (r p:Nat)(Q:ByteArray→Prop)(w:World)(e:Ending)(w':World):Prop:=∃k:ByteArray,e = .returned (.string k)∧Q k∧aW w' r (p+1)∧Chg [r] w w'
set_option maxHeartbeats 1000000 in
theorem specOf (Q:ByteArray→Prop)(r p b n cap:Nat)(w:World)(h:aW w r p)(hp:p≤1125899906842623)(hn0:0<n)(hn:n≤1048576)(hcap:n≤cap)(hbr:r<b)
  (hc : ∀i,i<n→∃x,w.cell? ⟨b,i,none⟩=some (.string x)∧Q x) :
  Calls Try.prog 65 #[.pointer (some ⟨r,0,none⟩),.slice (some ⟨b,0,none⟩) n cap] w (OfPost r p Q w):=by
 have H:=Lib.hid (bE r p (n:Int) w h (by omega) (by omega))
 have HC:=Lib.hid hc
 clear hc
 go_enter Try.func65,Try.ntmps65
 go_wp2_with fail
 refine H.out.mono ?_
 rintro e w1 ⟨k,rfl,k0,hk,hrd,hch⟩
 obtain⟨q,rfl⟩:=Int.eq_ofNat_of_zero_le k0
 have hqn:q<n:=by omega
 obtain⟨x,hx,hq⟩:=HC.out q hqn
 have hx1:=hch.cellne (by show b≠r;omega) hx
 have hqi:(0:Int)≤(q:Int):=by omega
 have hqj:(q:Int)<(n:Int):=by omega
 clear hk k0 hx
 go_wp2_with fail
 go_ret
 exact⟨x,rfl,hq,hrd,hch⟩
end Go.Proofs.Ytnaoghknnenfoaa
namespace Go.Proofs.Ytnaoghknnenfoaa
open Go.RowKit
set_option maxHeartbeats 1000000 in
theorem jA (F G:Nat→Prop)(t u:Ty)(y z:Value)(w:World)(hy:ap F w t y)(hz:ap G w u z) :
  Calls Try.prog 62 #[y,z] w fun e w'=>e = .returned (.bool (t.valid&&u.valid&&t.cons u))∧Below w.heap.size w w':=by
 obtain⟨k,a,n,q,rfl⟩:=hy.shape
 obtain⟨k',a',n',q',rfl⟩:=hz.shape
 have HV:=fun W (h:Below w.heap.size w W)=>dj F t _ W (hy.below h)
 have HU:=fun W (h:Below w.heap.size w W)=>dj G u _ W (hz.below h)
 have HI:=fun(hv:t.valid=true) (hu:u.valid=true) W (h:Below w.heap.size w W)=>dz F G t u _ _ W (hy.below h) (hz.below h)
 clear hy hz
 cases hv:t.valid
 ·rw [hv] at HV
  have HH:=Lib.hid HV
  clear HV HU HI hv
  go_enter Try.func62,Try.ntmps62
  go_wp2_with fail
  refine(HH.out _ aI).mono ?_
  rintro e w1 ⟨rfl,hb1⟩
  go_wp2_with fail
  go_ret
  exact⟨au (by simp),ai aI hb1⟩
 ·rw [hv] at HV
  cases hu:u.valid
  ·rw [hu] at HU
   have HH:=Lib.hid HV
   have HK:=Lib.hid HU
   clear HV HU HI hv hu
   go_enter Try.func62,Try.ntmps62
   go_wp2_with fail
   refine(HH.out _ aI).mono ?_
   rintro e w1 ⟨rfl,hb1⟩
   obtain⟨hc,hf⟩:=m4 hb1
   go_wp2_with fail
   refine(HK.out _ (ai aI hb1)).mono ?_
   rintro e w2 ⟨rfl,hb2⟩
   go_wp2_with fail
   go_ret
   exact⟨au (by simp),ai (ai aI hb1) hb2⟩
  ·rw [hu] at HU
   have HI:=HI hv hu
   generalize t.cons u=r at *
   have HH:=Lib.hid HV
   have HK:=Lib.hid HU
   have HJ:=Lib.hid HI
   clear HV HU HI hv hu
   go_enter Try.func62,Try.ntmps62
   go_wp2_with fail
   refine(HH.out _ aI).mono ?_
   rintro e w1 ⟨rfl,hb1⟩
   obtain⟨hc,hf⟩:=m4 hb1
   go_wp2_with fail
   refine(HK.out _ (ai aI hb1)).mono ?_
   rintro e w2 ⟨rfl,hb2⟩
   clear hc hf
   obtain⟨hc,hf⟩:=m4 (ai hb1 hb2)
   go_wp2_with fail
   refine(HJ.out _ (ai (ai aI hb1) hb2)).mono ?_
   rintro e w3 ⟨rfl,hb3⟩
   go_wp2_with fail
   go_ret
   exact⟨au (by simp),ai (ai (ai aI hb1) hb2) hb3⟩
end Go.Proofs.Ytnaoghknnenfoaa
namespace Go.Proofs.Ytnaoghknnenfoaa
open Go.RowKit
def ownB (k u l:Int)(nm:ByteArray)(tv n1 n2 cv:Bool):Bool:=
 (if k==1||k==5 then aN nm else nm.toList == [])&&aA u 0 (if k==2 then 999 else 0)&&(if k==5||k==13||k==14 then tv else n1)&&(if k==14 then cv&&cN l else n2&&l==0)
def nodeB (k u l:Int)(nm:ByteArray)(m:Nat)(tv n1 n2 cv:Bool):Bool:=(aJ k==(m:Int))&&ownB k u l nm tv n1 n2 cv
def Tm.ownB (t:Tm):Bool:=Go.Proofs.Ytnaoghknnenfoaa.ownB t.kind t.num t.label t.name t.type.valid t.type.noneB t.src.noneB (t.src.valid&&t.type.valid&&t.src.cons t.type)
def Tm.nodeB (t:Tm):Bool:=(aJ t.kind==(t.kids.length:Int))&&t.ownB
theorem kinds6 (k:Int):k=1∨k=2∨k=5∨k=13∨k=14∨((k==1)=false∧(k==5)=false∧(k==13)=false∧(k==14)=false∧(k==2)=false):=by
 simp only [beq_eq_false_iff_ne]
 omega
theorem bU (u:Int):(u==0)=aA u 0 0:=by unfold aA;rw [Bool.eq_iff_iff];simp;omega
end Go.Proofs.Ytnaoghknnenfoaa

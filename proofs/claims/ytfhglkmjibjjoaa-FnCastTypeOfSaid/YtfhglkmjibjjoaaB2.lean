/- Data of the language, whatever the type: a cell holds a number, a string or a slice of rows of cells; what it means that a value of the model reads as such data in a world; that this is kept while the blocks concerned are kept. And what else its parts name. -/
import Derived.WalkKit
import Derived.WalkSpells
import Derived.WalkLawsBesides
import Derived.Lib.Hide
import Derived.Deep.Draws
import Derived.Deep.AppendLies
import Derived.Deep.RegionLaw
import Derived.Test.YtfhglkmjibjjoaaRows
import Derived.IntWalk
set_option linter.unusedSimpArgs false
set_option linter.unusedVariables false
set_option maxRecDepth 100000
set_option maxHeartbeats 16000000
namespace Go.Proofs.Ytfhglkmjibjjoaa
open Go.RowKit
inductive C where
 | int (n:Int)
 | str (s:ByteArray)
 | sl (rows:List (List C))
mutual
def aL (F:Nat->Prop)(w:World):C->Value->Prop
 | .int n,y=>y = .int .i64 n
 | .str s,y=>y = .string s∧s.size<=maxLen
 | .sl rows,y=>∃(a:Option Addr) (cap:Nat),y = .slice a rows.length cap∧rows.length<=cap∧cap<=maxLen ∧
   (rows = []∨∃b off,a=some ⟨b,off,none⟩∧F b∧b<w.heap.size∧bC F w b off rows)
def bC (F:Nat->Prop)(w:World)(b:Nat):Nat->List (List C)->Prop
 | _,[]=>True
 | off,r::rs=>aP F w b off r∧bC F w b (off+r.length) rs
def aP (F:Nat->Prop)(w:World)(b:Nat):Nat->List C->Prop
 | _,[]=>True
 | off,c::cs=>(∃y,w.cell? ⟨b,off,none⟩=some y∧aL F w c y)∧aP F w b (off+1) cs
end
structure bU (F G:Nat->Prop) (w w':World):Prop where
 size:w.heap.size<=w'.heap.size
 sub : ∀b,F b->b<w.heap.size->G b
 same : ∀b,F b->b<w.heap.size->w'.heap[b]?=w.heap[b]?
mutual
theorem aL.move {F G:Nat->Prop}{w w':World}(k:bU F G w w') : ∀(c:C) (y:Value),aL F w c y->aL G w' c y
 | .int n,y,h=>by unfold aL at h ⊢;exact h
 | .str s,y,h=>by unfold aL at h ⊢;exact h
 | .sl rows,y,h=>by
  unfold aL at h ⊢;obtain⟨a,cap,h1,h2,h3,h4⟩:=h;refine⟨a,cap,h1,h2,h3,?_⟩
  rcases h4 with h4 | ⟨b,off,ha,hb,hl,hr⟩
  ·exact .inl h4
  ·exact .inr ⟨b,off,ha,k.sub b hb hl,Nat.lt_of_lt_of_le hl k.size,bC.move k b hb hl off rows hr⟩
theorem bC.move {F G:Nat->Prop}{w w':World}(k:bU F G w w')(b:Nat)(hb:F b)(hl:b<w.heap.size) :
  ∀(off:Nat) (rows:List (List C)),bC F w b off rows->bC G w' b off rows
 | _,[],_=>by unfold bC;trivial
 | off,r::rs,h=>by
  unfold bC at h ⊢
  exact⟨aP.move k b hb hl off r h.1,bC.move k b hb hl _ rs h.2⟩
theorem aP.move {F G:Nat->Prop}{w w':World}(k:bU F G w w')(b:Nat)(hb:F b)(hl:b<w.heap.size) :
  ∀(off:Nat) (r:List C),aP F w b off r->aP G w' b off r
 | _,[],_=>by unfold aP;trivial
 | off,c::cs,h=>by
  unfold aP at h ⊢;obtain⟨⟨y,hy,hc⟩,h2⟩:=h
  exact⟨⟨y,(World.cell?_of_block (a:=⟨b,off,none⟩) (k.same b hb hl)).trans hy,aL.move k c y hc⟩,aP.move k b hb hl _ cs h2⟩
end
theorem bU.below {F:Nat->Prop}{w w':World}(h:Below w.heap.size w w'):bU F F w w':=⟨h.size,fun _ h _=>h,fun b _ hl=>h.block b hl⟩
theorem bU.weaken {F G:Nat->Prop}{w:World}(h : ∀b,F b->b<w.heap.size->G b):bU F G w w:=⟨Nat.le_refl _,h,fun _ _ _=>rfl⟩
def cn (F:Nat->Prop)(w:World):List C->List Value->Prop
 | [],ys=>ys = []
 | c::cs,ys=>∃z zs,ys=z::zs∧aL F w c z∧cn F w cs zs
theorem cn.move {F G:Nat->Prop}{w w':World}(k:bU F G w w') : ∀(r:List C) (ys:List Value),cn F w r ys->cn G w' r ys
 | [],_,h=>h
 | _::cs,_,⟨z,zs,h,hc,hs⟩=>⟨z,zs,h,hc.move k _ _,hs.move k cs zs⟩
theorem aP.get {F:Nat->Prop}{w:World}{b:Nat} : ∀ {off:Nat} {r:List C},aP F w b off r->∃ys,cn F w r ys∧ys.length=r.length∧∀j (h:j<ys.length),w.cell? ⟨b,off+j,none⟩=some ys[j]
 | _,[],_=>⟨[],rfl,rfl,fun _ h=>absurd h (Nat.not_lt_zero _)⟩
 | off,c::cs,h=>by
  unfold aP at h;obtain⟨⟨y,hy,hc⟩,h2⟩:=h;obtain⟨ys,hs,hlen,hg⟩:=aP.get h2;refine⟨y::ys,⟨y,ys,rfl,hc,hs⟩,by simp[hlen],fun j hj=>?_⟩
  cases j with
  | zero=>exact hy
  | succ j=>
   have:=hg j (by simpa using hj);rw[show off+(j+1)=off+1+j from by omega]
   simpa using this
theorem bC.get {F:Nat->Prop}{w:World}{b m:Nat} : ∀ {off:Nat} {rows:List (List C)},bC F w b off rows->(∀r∈rows,r.length=m)->∀i (h:i<rows.length),aP F w b (off+i*m) rows[i]
 | _,[],_,_,_,h=>absurd h (Nat.not_lt_zero _)
 | off,r::rs,h,hm,i,hi=>by
  unfold bC at h
  cases i with
  | zero=>simpa using h.1
  | succ i=>
   have:=bC.get h.2 (fun r hr=>hm r (List.mem_cons_of_mem _ hr)) i (by simpa using hi);rw[hm r (List.mem_cons_self ..)] at this;rw[show off+(i+1)*m=off+m+i*m from by rw[Nat.add_mul];omega]
   simpa using this
theorem aL.rows {F:Nat->Prop}{w:World}{rows:List (List C)}{y:Value}(h:aL F w (.sl rows) y) :
  ∃(a:Option Addr) (cap:Nat),y = .slice a rows.length cap∧rows.length<=cap∧cap<=maxLen∧(rows = []∨∃b off,a=some ⟨b,off,none⟩∧F b∧b<w.heap.size∧bC F w b off rows):=by
 unfold aL at h;exact h
theorem aL.int_eq {F:Nat->Prop}{w:World}{n:Int}{y:Value}(h:aL F w (.int n) y):y = .int .i64 n:=by unfold aL at h;exact h
theorem aL.str_eq {F:Nat->Prop}{w:World}{s:ByteArray}{y:Value}(h:aL F w (.str s) y):y = .string s∧s.size<=maxLen:=by unfold aL at h;exact h
theorem al {w W w1:World}(h:Below w.heap.size w W)(h1:Below W.heap.size W w1):Below w.heap.size w w1:=h.trans (h1.mono h.size)
theorem zq {p:Prop}(h:p):Hid p:=Lib.hid h
theorem ag {w:World}{o:Obj}:Below w.heap.size w (w.alloc o):=(Below.refl _ _).alloc (Nat.le_refl _) _
theorem aZ {w:World}{o o':Obj}:Below w.heap.size w ((w.alloc o).alloc o'):=al ag ag
theorem bG {w:World}{o o' o2:Obj}:Below w.heap.size w (((w.alloc o).alloc o').alloc o2):=al aZ ag
theorem af {w w1:World}{a:Addr}{v:Value}(h:Below w.heap.size w w1)(hc:w.cell? a=some v):w1.cell? a=some v:=
 (h.cell (World.block_lt_of_cell? w a hc)).trans hc
theorem la {W w1:World}(hb:Below W.heap.size W w1):(∀b o,b<W.heap.size->w1.cell? ⟨b,o,none⟩=W.cell? ⟨b,o,none⟩)∧(∀b o,b<W.heap.size->w1.frozen? ⟨b,o,none⟩=W.frozen? ⟨b,o,none⟩):=
 ⟨fun b o h=>hb.cell (p:=⟨b,o,none⟩) h,fun b o h=>hb.frozen (p:=⟨b,o,none⟩) h⟩
theorem cE {w w1:World}{a:Addr}{v:Value}(h:Below w.drew.heap.size w.drew w1)(hc:w.cell? a=some v):w1.cell? a=some v:=af (w:=w.drew) h hc
theorem ed {B:Nat}{a w:World}(h:Below B a w)(n:Nat):Below B a (w.drewN n):=⟨h.os,h.tape,h.output,h.size,h.block⟩
theorem bdr {w:World}:Below w.heap.size w w.drew:=(Below.refl _ _).drew
theorem l5 {w w1 W:World}(h:Below w.heap.size w W)(h1:Below W.drew.heap.size W.drew w1):Below w.heap.size w w1:=al h.drew h1
theorem aF {w:World}{cs:Array Value}{T:TypeId}(j:Nat):(w.alloc (.cells cs T)).cell? ⟨w.heap.size,j,none⟩=cs[j]?:=by
 unfold World.cell?;rw[heap_alloc_new w _];rfl
theorem cg {w:World}{o:Obj}{cs:Array Value}{T:TypeId}(j:Nat):((w.alloc o).alloc (.cells cs T)).cell? ⟨w.heap.size+1,j,none⟩=cs[j]?:=by
 have h:=aF (w:=w.alloc o) (cs:=cs) (T:=T) j;rw[show(w.alloc o).heap.size=w.heap.size+1 from by simp] at h
 exact h
theorem cK {w:World}{o o':Obj}{cs:Array Value}{T:TypeId}(j:Nat):(((w.alloc o).alloc o').alloc (.cells cs T)).cell? ⟨w.heap.size+1+1,j,none⟩=cs[j]?:=by
 have h:=cg (w:=w.alloc o) (o:=o') (cs:=cs) (T:=T) j;rw[show(w.alloc o).heap.size=w.heap.size+1 from by simp] at h
 exact h
theorem b9 {w:World}{cs:Array Value}{T:TypeId}(j:Nat):(w.alloc (.cells cs T)).frozen? ⟨w.heap.size,j,none⟩=false:=by
 unfold World.frozen?;rw[heap_alloc_new w _];simp
theorem dV {w:World}{o:Obj}{cs:Array Value}{T:TypeId}(j:Nat):((w.alloc o).alloc (.cells cs T)).frozen? ⟨w.heap.size+1,j,none⟩=false:=by
 have h:=b9 (w:=w.alloc o) (cs:=cs) (T:=T) j;rw[show(w.alloc o).heap.size=w.heap.size+1 from by simp] at h
 exact h
theorem dK {w:World}{o o':Obj}{cs:Array Value}{T:TypeId}(j:Nat):(((w.alloc o).alloc o').alloc (.cells cs T)).frozen? ⟨w.heap.size+1+1,j,none⟩=false:=by
 have h:=dV (w:=w.alloc o) (o:=o') (cs:=cs) (T:=T) j;rw[show(w.alloc o).heap.size=w.heap.size+1 from by simp] at h
 exact h
theorem cG {w w1:World}{b j:Nat}(h:Below w.heap.size w w1)(hb:b<w.heap.size)(hf:w.frozen? ⟨b,j,none⟩=false):w1.frozen? ⟨b,j,none⟩=false:=
 (h.frozen (p:=⟨b,j,none⟩) hb).trans hf
theorem au {a b:Bool}(h:a=b):Ending.returned (.bool a) = .returned (.bool b):=by rw[h]
theorem bg {k:IntKind}{a b:Int}(h:a=b):Ending.returned (.int k a) = .returned (.int k b):=by rw[h]
theorem jF {a b:ByteArray}(h:a=b):Ending.returned (.string a) = .returned (.string b):=by rw[h]
abbrev nv (k:Int) (nm:ByteArray) (u tk:Int) (ta:Option Addr) (tn tq:Nat) (fk:Int) (fa:Option Addr) (fn fq:Nat) (l:Int) (c:Option Addr) (m q:Nat):Array Value:=#[.int .i64 k,.string nm,.int .i64 u,.int .i64 tk,.slice ta tn tq,.int .i64 fk,.slice fa fn fq,.int .i64 l,.slice c m q]
abbrev nz (k:Int):Array Value:=#[.int .i64 k,.string {data:=#[]},.int .i64 0,.int .i64 0,.slice none 0 0,.int .i64 0,.slice none 0 0,.int .i64 0,.slice none 0 0]
theorem mh {W X:World}{P Q:Prop}(hb:Below W.heap.size W X)(h:P)(k:Below W.heap.size W X->P->Q:=by first | exact fun b h=>zq (h.out.below b) | exact fun b h=>zq (al h.out b)):Q:=k hb h
theorem bq {P:Program}{fn:Func}{R:Ending->World->Prop}{a:Act}{w:World}(v:Value)(hr:(results fn a.tmps).run P w = .ok v w)(hR:R (.returned v) w)(hd:a.defers = []:=by rfl):bodyPost P fn R .ret a w:=bodyPost_ret hr hd hR
inductive Ty where
 | mk (kind:Int) (kids:List Ty)
def Ty.kind:Ty->Int | .mk k _=>k
def Ty.kids:Ty->List Ty | .mk _ ts=>ts
mutual
def Ty.row:Ty->List C
 | .mk k ts=> [.int k,.sl (Ty.rows ts)]
def Ty.rows:List Ty->List (List C)
 | []=> []
 | t::ts=>t.row::Ty.rows ts
end
theorem Ty.rows_eq (ts:List Ty):Ty.rows ts=ts.map Ty.row:=by
 induction ts with
 | nil=>rfl
 | cons t ts ih=>unfold Ty.rows;rw[ih];rfl
theorem Ty.rows_length (ts:List Ty):(Ty.rows ts).length=ts.length:=by rw[Ty.rows_eq];simp
theorem Ty.row_length : ∀t:Ty,t.row.length=2 | .mk _ _=>by unfold Ty.row;rfl
def av (F:Nat->Prop)(w:World)(ts:List Ty)(y:Value):Prop:=aL F w (.sl (Ty.rows ts)) y
def ai (F:Nat->Prop)(w:World)(t:Ty)(y:Value):Prop:=∃s,y = .agg #[.int .i64 t.kind,s]∧av F w t.kids s
theorem av.move {F G:Nat->Prop}{w w':World}{ts:List Ty}{y:Value}(h:av F w ts y)(k:bU F G w w'):av G w' ts y:=aL.move k _ _ h
theorem ai.move {F G:Nat->Prop}{w w':World}{t:Ty}{y:Value}(h:ai F w t y)(k:bU F G w w'):ai G w' t y:=
 let ⟨s,h1,h2⟩:=h;⟨s,h1,h2.move k⟩
theorem ai.below {F:Nat->Prop}{w w':World}{t:Ty}{y:Value}(h:ai F w t y)(k:Below w.heap.size w w'):ai F w' t y:=h.move (.below k)
theorem av.below {F:Nat->Prop}{w w':World}{t:List Ty}{y:Value}(h:av F w t y)(k:Below w.heap.size w w'):av F w' t y:=h.move (.below k)
theorem av.open {F:Nat->Prop}{w:World}{ts:List Ty}{y:Value}(h:av F w ts y) :
  ∃(a:Option Addr) (cap:Nat),y = .slice a ts.length cap∧ts.length<=cap∧cap<=maxLen ∧
   ∀i (h:i<ts.length),∃b off k c m q,a=some ⟨b,off,none⟩∧w.cell? ⟨b,off+i*2,none⟩=some (.int .i64 k)∧w.cell? ⟨b,off+i*2+1,none⟩=some (.slice c m q)∧ai F w ts[i] (.agg #[.int .i64 k,.slice c m q]):=by
 obtain⟨a,cap,h1,h2,h3,h4⟩:=aL.rows h;rw[Ty.rows_length] at h1 h2;refine⟨a,cap,h1,h2,h3,fun i hi=>?_⟩
 rcases h4 with h4 | ⟨b,off,ha,hF,hl,hr⟩
 ·rw[<-Ty.rows_length,h4] at hi;exact absurd hi (Nat.not_lt_zero _)
 ·have hc:=hr.get (m:=2) (fun r hr=>by rw[Ty.rows_eq] at hr;obtain⟨t,_,rfl⟩:=List.mem_map.1 hr;exact t.row_length) i (by rw[Ty.rows_length];exact hi)
  have he:(Ty.rows ts)[i]'(by rw[Ty.rows_length];exact hi)=ts[i].row:=by simp[Ty.rows_eq]
  rw[he] at hc;obtain⟨k,ks,ht⟩ : ∃k ks,ts[i]=Ty.mk k ks:=⟨ts[i].kind,ts[i].kids,by cases ts[i];rfl⟩
  rw[ht] at hc ⊢;unfold Ty.row aP at hc;obtain⟨⟨y0,hy0,hc0⟩,hc⟩:=hc;unfold aP at hc;obtain⟨⟨y1,hy1,hc1⟩,_⟩:=hc;rw[aL.int_eq hc0] at hy0;obtain⟨c,q,rfl,_⟩:=aL.rows hc1
  exact⟨b,off,k,c,_,q,ha,hy0,hy1,_,rfl,hc1⟩
theorem ai.open {F:Nat->Prop}{w:World}{t:Ty}{y:Value}(h:ai F w t y) :
  ∃(a:Option Addr) (cap:Nat),y = .agg #[.int .i64 t.kind,.slice a t.kids.length cap]∧t.kids.length<=cap∧cap<=maxLen∧av F w t.kids (.slice a t.kids.length cap):=by
 obtain⟨s,rfl,hs⟩:=h;obtain⟨a,cap,rfl,h2,h3,_⟩:=hs.open
 exact⟨a,cap,rfl,h2,h3,hs⟩
theorem ai.shape {F:Nat->Prop}{w:World}{t:Ty}{y:Value}(h:ai F w t y) : ∃k a n q,y = .agg #[.int .i64 k,.slice a n q]:=by
 obtain⟨a,q,rfl,_⟩:=h.open
 exact⟨_,a,_,q,rfl⟩
theorem av.shape {F:Nat->Prop}{w:World}{t:List Ty}{y:Value}(h:av F w t y) : ∃a n q,y = .slice a n q:=by
 obtain⟨a,q,rfl,_⟩:=h.open
 exact⟨a,_,q,rfl⟩
theorem Ty.kid_lt {t:Ty}{x:Ty}(h:x∈t.kids):SizeOf.sizeOf x<SizeOf.sizeOf t:=by
 cases t with
 | mk k ts=>have:=List.sizeOf_lt_of_mem h;simp only[Ty.kids] at h this;simp;omega
mutual
def Ty.cnt:Ty->Nat
 | .mk _ ts=>ts.length+Ty.cnts ts
def Ty.cnts:List Ty->Nat
 | []=>0
 | t::ts=>t.cnt+Ty.cnts ts
end
theorem Ty.cnts_take_succ : ∀(ts:List Ty) (j:Nat) (h:j<ts.length),Ty.cnts (ts.take (j+1))=Ty.cnts (ts.take j)+ts[j].cnt
 | [],_,h=>absurd h (Nat.not_lt_zero _)
 | t::ts,0,_=>by simp[Ty.cnts]
 | t::ts,j+1,h=>by
  have:=Ty.cnts_take_succ ts j (by simpa using h);simp only[List.take_succ_cons,Ty.cnts,List.getElem_cons_succ]
  omega
theorem Ty.cnts_take_le : ∀(ts:List Ty) (j:Nat),Ty.cnts (ts.take j)<=Ty.cnts ts
 | [],_=>by simp
 | t::ts,0=>by simp[Ty.cnts]
 | t::ts,j+1=>by
  have:=Ty.cnts_take_le ts j;simp only[List.take_succ_cons,Ty.cnts]
  omega
theorem Ty.cnt_mem : ∀ {ts:List Ty} {t:Ty},t∈ts->t.cnt<=Ty.cnts ts
 | u::ts,t,h=>by
  rcases List.mem_cons.1 h with rfl | h
  ·simp only[Ty.cnts];omega
  ·have:=Ty.cnt_mem h;simp only[Ty.cnts];omega
theorem Ty.cnt_kid {t x:Ty}(h:x∈t.kids):x.cnt+t.kids.length<=t.cnt:=by
 cases t with
 | mk k ts=>have h2:x∈ts:=h;have:=Ty.cnt_mem h2;simp only[Ty.kids,Ty.cnt];omega
theorem av.at {F:Nat->Prop}{w wr:World}{ts:List Ty}{a:Option Addr}{n cap:Nat}(h:av F w ts (.slice a n cap))(hb:Below w.heap.size w wr){i:Nat}(hi:i<ts.length) :
  ∃b off k c m q,a=some ⟨b,off,none⟩∧b<wr.heap.size∧wr.cell? ⟨b,off+i*2,none⟩=some (.int .i64 k)∧wr.cell? ⟨b,off+i*2+1,none⟩=some (.slice c m q)∧ai F wr ts[i] (.agg #[.int .i64 k,.slice c m q]):=by
 obtain⟨a',cap',he,_,_,hg⟩:=h.open;simp only[Value.slice.injEq] at he;obtain⟨rfl,_,rfl⟩:=he;obtain⟨b,off,k,c,m,q,ha,h0,h1,ht⟩:=hg i hi;have e0:=(hb.cell (p:=⟨b,off+i*2,none⟩) (World.block_lt_of_cell? w _ h0)).trans h0
 exact⟨b,off,k,c,m,q,ha,World.block_lt_of_cell? wr _ e0,e0,(hb.cell (p:=⟨b,off+i*2+1,none⟩) (World.block_lt_of_cell? w _ h1)).trans h1,ht.below hb⟩
mutual
def aQ (w:World):C->Value->List Nat->Prop
 | .int n,y,fp=>y = .int .i64 n∧fp = []
 | .str s,y,fp=>y = .string s∧s.size<=maxLen∧fp = []
 | .sl rows,y,fp=>∃(a:Option Addr) (cap:Nat),y = .slice a rows.length cap∧rows.length<=cap∧cap<=maxLen ∧
   ((rows = []∧fp = [])∨∃b fps cs T,a=some ⟨b,0,none⟩∧fp=b::fps∧w.heap[b]?=some (.cells cs T (0,0))∧aK w b 0 rows fps)
def aK (w:World)(b:Nat):Nat->List (List C)->List Nat->Prop
 | _,[],fp=>fp = []
 | off,r::rs,fp=>∃f1 f2,fp=f1++f2∧bj w b off r f1∧aK w b (off+r.length) rs f2
def bj (w:World)(b:Nat):Nat->List C->List Nat->Prop
 | _,[],fp=>fp = []
 | off,c::cs,fp=>∃y f1 f2,fp=f1++f2∧w.cell? ⟨b,off,none⟩=some y∧aQ w c y f1∧bj w b (off+1) cs f2
end
mutual
theorem aQ.move {w w':World} : ∀(c:C) (y:Value) (fp:List Nat),(∀b∈fp,w'.heap[b]?=w.heap[b]?)->aQ w c y fp->aQ w' c y fp
 | .int n,y,fp,_,h=>by unfold aQ at h ⊢;exact h
 | .str s,y,fp,_,h=>by unfold aQ at h ⊢;exact h
 | .sl rows,y,fp,k,h=>by
  unfold aQ at h ⊢;obtain⟨a,cap,h1,h2,h3,h4⟩:=h;refine⟨a,cap,h1,h2,h3,?_⟩
  rcases h4 with h4 | ⟨b,fps,cs,T,ha,rfl,hb,hr⟩
  ·exact .inl h4
  ·refine .inr ⟨b,fps,cs,T,ha,rfl,(k b (List.mem_cons_self ..)).trans hb,aK.move 0 rows fps (fun x hx=>k x (List.mem_cons_of_mem _ hx)) (fun o=>?_) hr⟩
   intro _ _
   exact World.cell?_of_block (a:=⟨b,o,none⟩) (k b (List.mem_cons_self ..))
theorem aK.move {w w':World}{b:Nat} : ∀(off:Nat) (rows:List (List C)) (fp:List Nat),(∀x∈fp,w'.heap[x]?=w.heap[x]?) ->
  (∀o,off<=o->o<off+rows.flatten.length->w'.cell? ⟨b,o,none⟩=w.cell? ⟨b,o,none⟩)->aK w b off rows fp->aK w' b off rows fp
 | _,[],_,_,_,h=>by unfold aK at h ⊢;exact h
 | off,r::rs,fp,k,kc,h=>by
  unfold aK at h ⊢;obtain⟨f1,f2,rfl,h1,h2⟩:=h;simp only[List.flatten_cons,List.length_append] at kc
  exact⟨f1,f2,rfl,bj.move off r f1 (fun x hx=>k x (List.mem_append_left _ hx)) (fun o a c=>kc o a (by omega)) h1,
    aK.move _ rs f2 (fun x hx=>k x (List.mem_append_right _ hx)) (fun o a c=>kc o (by omega) (by omega)) h2⟩
theorem bj.move {w w':World}{b:Nat} : ∀(off:Nat) (r:List C) (fp:List Nat),(∀x∈fp,w'.heap[x]?=w.heap[x]?) ->
  (∀o,off<=o->o<off+r.length->w'.cell? ⟨b,o,none⟩=w.cell? ⟨b,o,none⟩)->bj w b off r fp->bj w' b off r fp
 | _,[],_,_,_,h=>by unfold bj at h ⊢;exact h
 | off,c::cs,fp,k,kc,h=>by
  unfold bj at h ⊢;obtain⟨y,f1,f2,rfl,hy,h1,h2⟩:=h;simp only[List.length_cons] at kc
  exact⟨y,f1,f2,rfl,(kc off (by omega) (by omega)).trans hy,aQ.move c y f1 (fun x hx=>k x (List.mem_append_left _ hx)) h1,
    bj.move _ cs f2 (fun x hx=>k x (List.mem_append_right _ hx)) (fun o a c=>kc o (by omega) (by omega)) h2⟩
end
mutual
theorem aQ.lt {w:World} : ∀(c:C) (y:Value) (fp:List Nat),aQ w c y fp->∀b∈fp,b<w.heap.size
 | .int n,y,fp,h=>by unfold aQ at h;obtain⟨_,rfl⟩:=h;simp
 | .str s,y,fp,h=>by unfold aQ at h;obtain⟨_,_,rfl⟩:=h;simp
 | .sl rows,y,fp,h=>by
  unfold aQ at h;obtain⟨a,cap,_,_,_,⟨_,rfl⟩ | ⟨b,fps,cs,T,_,rfl,hb,hr⟩⟩:=h
  ·simp
  ·intro x hx
   rcases List.mem_cons.1 hx with rfl | hx
   ·exact(Array.getElem?_eq_some_iff.1 hb).1
   ·exact aK.lt 0 rows fps hr x hx
theorem aK.lt {w:World}{b:Nat} : ∀(off:Nat) (rows:List (List C)) (fp:List Nat),aK w b off rows fp->∀x∈fp,x<w.heap.size
 | _,[],_,h=>by unfold aK at h;subst h;simp
 | off,r::rs,fp,h=>by
  unfold aK at h;obtain⟨f1,f2,rfl,h1,h2⟩:=h;intro x hx
  rcases List.mem_append.1 hx with hx | hx
  ·exact bj.lt off r f1 h1 x hx
  ·exact aK.lt _ rs f2 h2 x hx
theorem bj.lt {w:World}{b:Nat} : ∀(off:Nat) (r:List C) (fp:List Nat),bj w b off r fp->∀x∈fp,x<w.heap.size
 | _,[],_,h=>by unfold bj at h;subst h;simp
 | off,c::cs,fp,h=>by
  unfold bj at h;obtain⟨y,f1,f2,rfl,hy,h1,h2⟩:=h;intro x hx
  rcases List.mem_append.1 hx with hx | hx
  ·exact aQ.lt c y f1 h1 x hx
  ·exact bj.lt _ cs f2 h2 x hx
end
mutual
theorem aQ.rep {w:World}{F:Nat->Prop} : ∀(c:C) (y:Value) (fp:List Nat),(∀b∈fp,F b)->aQ w c y fp->aL F w c y
 | .int n,y,fp,_,h=>by unfold aQ at h;unfold aL;exact h.1
 | .str s,y,fp,_,h=>by unfold aQ at h;unfold aL;exact⟨h.1,h.2.1⟩
 | .sl rows,y,fp,k,h=>by
  unfold aQ at h;unfold aL;obtain⟨a,cap,h1,h2,h3,h4⟩:=h;refine⟨a,cap,h1,h2,h3,?_⟩
  rcases h4 with ⟨h4,_⟩ | ⟨b,fps,cs,T,ha,rfl,hb,hr⟩
  ·exact .inl h4
  ·exact .inr ⟨b,0,ha,k b (List.mem_cons_self ..),(Array.getElem?_eq_some_iff.1 hb).1,aK.rep 0 rows fps (fun x hx=>k x (List.mem_cons_of_mem _ hx)) hr⟩
theorem aK.rep {w:World}{F:Nat->Prop}{b:Nat} : ∀(off:Nat) (rows:List (List C)) (fp:List Nat),(∀x∈fp,F x)->aK w b off rows fp->bC F w b off rows
 | _,[],_,_,_=>by unfold bC;trivial
 | off,r::rs,fp,k,h=>by
  unfold aK at h;unfold bC;obtain⟨f1,f2,rfl,h1,h2⟩:=h
  exact⟨bj.rep off r f1 (fun x hx=>k x (List.mem_append_left _ hx)) h1,aK.rep _ rs f2 (fun x hx=>k x (List.mem_append_right _ hx)) h2⟩
theorem bj.rep {w:World}{F:Nat->Prop}{b:Nat} : ∀(off:Nat) (r:List C) (fp:List Nat),(∀x∈fp,F x)->bj w b off r fp->aP F w b off r
 | _,[],_,_,_=>by unfold aP;trivial
 | off,c::cs,fp,k,h=>by
  unfold bj at h;unfold aP;obtain⟨y,f1,f2,rfl,hy,h1,h2⟩:=h
  exact⟨⟨y,hy,aQ.rep c y f1 (fun x hx=>k x (List.mem_append_left _ hx)) h1⟩,bj.rep _ cs f2 (fun x hx=>k x (List.mem_append_right _ hx)) h2⟩
end
theorem aK.snoc {w:World}{b:Nat} : ∀ {off:Nat} {rows:List (List C)} {fp f:List Nat} {r:List C},aK w b off rows fp->bj w b (off+rows.flatten.length) r f->aK w b off (rows ++ [r]) (fp++f)
 | off,[],fp,f,r,h,hr=>by
  unfold aK at h;subst h;simp only[List.nil_append];unfold aK
  exact⟨f,[],by simp,by simpa using hr,by unfold aK;rfl⟩
 | off,r' :: rs,fp,f,r,h,hr=>by
  unfold aK at h;obtain⟨f1,f2,rfl,h1,h2⟩:=h;have:=aK.snoc (f:=f) (r:=r) h2 (by rw[List.flatten_cons,List.length_append] at hr;rw[Nat.add_assoc];exact hr);simp only[List.cons_append];unfold aK
  exact⟨f1,f2++f,by simp,h1,this⟩
theorem aQ.sl_mk {w:World}{b n cap:Nat}{rows:List (List C)}{fps:List Nat}{cs:Array Value}{T:TypeId}(hb:w.heap[b]?=some (.cells cs T (0,0)))(hn:rows.length=n)(hc:n<=cap)(hm:cap<=maxLen)
  (h:aK w b 0 rows fps) : ∃fp,aQ w (.sl rows) (.slice (some ⟨b,0,none⟩) n cap) fp∧(∀x∈fp,x=b∨x∈fps)∧(fps.Nodup->b∉fps->fp.Nodup):=by
 subst hn;refine⟨b::fps,?_,fun x hx=>List.mem_cons.1 hx,fun h1 h2=>List.nodup_cons.2 ⟨h2,h1⟩⟩;unfold aQ
 exact⟨_,cap,rfl,hc,hm,.inr ⟨b,fps,cs,T,rfl,rfl,hb,h⟩⟩
theorem aQ.sl_nil {w:World}{a:Option Addr}{cap:Nat}(hm:cap<=maxLen):aQ w (.sl []) (.slice a 0 cap) []:=by
 unfold aQ
 exact⟨a,cap,rfl,Nat.zero_le _,hm,.inl ⟨rfl,rfl⟩⟩
theorem cR {w:World}{b off:Nat}{v:Value}{cs:Array Value}{T:TypeId}{fr:Nat × Nat}(h:w.heap[b]?=some (.cells cs T fr)) :
  (w.setCell ⟨b,off,none⟩ v).heap[b]?=some (.cells (cs.setIfInBounds off v) T fr):=by
 simp[World.setCell,Array.getElem?_modify,h]
def bL (w:World):List C->List Value->List Nat->Prop
 | [],ys,fp=>ys = []∧fp = []
 | c::cs,ys,fp=>∃z zs f1 f2,ys=z::zs∧fp=f1++f2∧aQ w c z f1∧bL w cs zs f2
theorem bL.len {w:World} : ∀(r:List C) (ys:List Value) (fp:List Nat),bL w r ys fp->ys.length=r.length
 | [],_,_,⟨h,_⟩=>by rw[h];rfl
 | c::cs,_,_,⟨z,zs,f1,f2,h,_,_,h2⟩=>by rw[h,List.length_cons,List.length_cons,bL.len cs zs f2 h2]
theorem bL.lt {w:World} : ∀(r:List C) (ys:List Value) (fp:List Nat),bL w r ys fp->∀b∈fp,b<w.heap.size
 | [],_,_,⟨_,h⟩=>by subst h;simp
 | c::cs,_,_,⟨z,zs,f1,f2,_,h,h1,h2⟩=>by
  subst h;intro b hb
  rcases List.mem_append.1 hb with hb | hb
  ·exact aQ.lt _ _ _ h1 b hb
  ·exact bL.lt cs zs f2 h2 b hb
theorem bL.move {w w':World} : ∀(r:List C) (ys:List Value) (fp:List Nat),(∀b∈fp,w'.heap[b]?=w.heap[b]?)->bL w r ys fp->bL w' r ys fp
 | [],_,_,_,h=>h
 | c::cs,_,_,k,⟨z,zs,f1,f2,e,h,h1,h2⟩=>by
  subst h
  exact⟨z,zs,f1,f2,e,rfl,aQ.move _ _ _ (fun b hb=>k b (List.mem_append_left _ hb)) h1,bL.move cs zs f2 (fun b hb=>k b (List.mem_append_right _ hb)) h2⟩
theorem bL.cells {w:World}{b:Nat} : ∀(r:List C) (ys:List Value) (fp:List Nat) (off:Nat),bL w r ys fp->(∀i,i<ys.length->w.cell? ⟨b,off+i,none⟩=ys[i]?)->bj w b off r fp
 | [],_,_,_,⟨_,h⟩,_=>by subst h;unfold bj;rfl
 | c::cs,_,_,off,⟨z,zs,f1,f2,e,h,h1,h2⟩,k=>by
  subst h e;unfold bj;refine⟨z,f1,f2,rfl,by simpa using k 0 (by simp),h1,bL.cells cs zs f2 _ h2 fun i hi=>?_⟩;have:=k (i+1) (by simpa using hi);rw[show off+1+i=off+(i+1) from by omega]
  simpa using this
def dj (B g N:Nat)(T:TypeId)(w:World)(rows:List (List C)):Prop:=
 ∃fps cs,w.heap[g]?=some (.cells cs T (0,0))∧cs.size=N∧aK w g 0 rows fps∧fps.Nodup∧g∉fps∧B<=g∧∀x∈fps,B<=x
theorem dj.lt {B g N:Nat}{T:TypeId}{w:World}{rows:List (List C)}(h:dj B g N T w rows):g<w.heap.size:=by
 obtain⟨fps,cs,hg,_⟩:=h
 exact(Array.getElem?_eq_some_iff.1 hg).1
theorem dj.below {B g N:Nat}{T:TypeId}{w w':World}{rows:List (List C)}(h:dj B g N T w rows)(k:Below w.heap.size w w'):dj B g N T w' rows:=by
 obtain⟨fps,cs,hg,hN,hr,hd,hn,hB,hx⟩:=h
 exact⟨fps,cs,(k.block g (Array.getElem?_eq_some_iff.1 hg).1).trans hg,hN,
   hr.move _ _ _ (fun x hx=>k.block x (hr.lt _ _ _ x hx)) (fun o _ _=>World.cell?_of_block (a:=⟨g,o,none⟩) (k.block g (Array.getElem?_eq_some_iff.1 hg).1)),hd,hn,hB,hx⟩
theorem dj.cell {B g N:Nat}{T:TypeId}{w:World}{rows:List (List C)}(h:dj B g N T w rows)(o:Nat)(ho:o<N):(∃v,w.cell? ⟨g,o,none⟩=some v)∧w.frozen? ⟨g,o,none⟩=false:=by
 obtain⟨fps,cs,hg,hN,_⟩:=h;refine⟨⟨cs[o]'(by omega),by simp[World.cell?,hg,hN,ho]⟩,by simp[World.frozen?,hg]⟩
theorem dj.slice {B g N n cap:Nat}{T:TypeId}{w:World}{rows:List (List C)}(h:dj B g N T w rows)(hn:rows.length=n)(hc:n<=cap)(hm:cap<=maxLen) :
  ∃fp,aQ w (.sl rows) (.slice (some ⟨g,0,none⟩) n cap) fp∧fp.Nodup∧∀b∈fp,B<=b:=by
 obtain⟨fps,cs,hg,hN,hr,hd,hnn,hB,hx⟩:=h;obtain⟨fp,h1,h2,h3⟩:=aQ.sl_mk hg hn hc hm hr
 exact⟨fp,h1,h3 hd hnn,fun b hb=>by rcases h2 b hb with rfl | h;exact hB;exact hx b h⟩
def cb (w:World)(t:Ty)(y:Value)(fp:List Nat):Prop:=∃s,y = .agg #[.int .i64 t.kind,s]∧aQ w (.sl (Ty.rows t.kids)) s fp
def iP (w:World)(ts:List Ty)(y:Value)(fp:List Nat):Prop:=aQ w (.sl (Ty.rows ts)) y fp
def bp (B:Nat)(w:World)(t:Ty)(y:Value):Prop:=∃fp,cb w t y fp∧fp.Nodup∧∀b∈fp,B<=b
def bx (B:Nat)(w:World)(ts:List Ty)(y:Value):Prop:=∃fp,iP w ts y fp∧fp.Nodup∧∀b∈fp,B<=b
theorem cb.shape {w:World}{t:Ty}{y:Value}{fp:List Nat}(h:cb w t y fp) : ∃k a n q,y = .agg #[.int .i64 k,.slice a n q]∧k=t.kind∧iP w t.kids (.slice a n q) fp:=by
 obtain⟨s,rfl,h⟩:=h;have h':=h;unfold aQ at h';obtain⟨a,q,rfl,_⟩:=h'
 exact⟨_,a,_,q,rfl,rfl,h⟩
theorem cb.below {w w':World}{t:Ty}{y:Value}{fp:List Nat}(h:cb w t y fp)(k:Below w.heap.size w w'):cb w' t y fp:=
 let ⟨s,h1,h2⟩:=h;⟨s,h1,h2.move _ _ _ fun b hb=>k.block b (h2.lt _ _ _ b hb)⟩
theorem cb.rep {w:World}{t:Ty}{y:Value}{fp:List Nat}(h:cb w t y fp):ai (· ∈ fp) w t y:=
 let ⟨s,h1,h2⟩:=h;⟨s,h1,h2.rep _ _ _ fun _ hb=>hb⟩
theorem bp.below {B:Nat}{w w':World}{t:Ty}{y:Value}(h:bp B w t y)(k:Below w.heap.size w w'):bp B w' t y:=
 let ⟨fp,h1,h2,h3⟩:=h;⟨fp,h1.below k,h2,h3⟩
theorem bp.rep {B:Nat}{w:World}{t:Ty}{y:Value}(h:bp B w t y):ai (B <= ·) w t y:=
 let ⟨fp,h1,_,h3⟩:=h;h1.rep.move (.weaken fun b hb _=>h3 b hb)
theorem bx.rep {B:Nat}{w:World}{ts:List Ty}{y:Value}(h:bx B w ts y):av (B <= ·) w ts y:=
 let ⟨_,h1,_,h3⟩:=h;aQ.rep _ _ _ (fun b hb=>h3 b hb) h1
theorem bx.below {B:Nat}{w w':World}{ts:List Ty}{y:Value}(h:bx B w ts y)(k:Below w.heap.size w w'):bx B w' ts y:=
 let ⟨fp,h1,h2,h3⟩:=h;⟨fp,aQ.move _ _ _ (fun b hb=>k.block b (aQ.lt _ _ _ h1 b hb)) h1,h2,h3⟩
theorem bp.shape {B:Nat}{w:World}{t:Ty}{y:Value}(h:bp B w t y) : ∃k a n q,y = .agg #[.int .i64 k,.slice a n q]:=by
 obtain⟨fp,⟨s,rfl,h⟩,_⟩:=h;unfold aQ at h;obtain⟨a,q,rfl,_⟩:=h
 exact⟨_,a,_,q,rfl⟩
theorem bx.setCell {B:Nat}{w:World}{ts:List Ty}{y:Value}(h:bx B w ts y){p:Addr}(hp:p.block<B)(v:Value):bx B (w.setCell p v) ts y:=by
 obtain⟨fp,h1,h2,h3⟩:=h
 exact⟨fp,aQ.move _ _ _ (fun b hb=>Below.heap_setCell w p v b (by have:=h3 b hb;omega)) h1,h2,h3⟩
theorem bx.ty {B:Nat}{w:World}{k:Int}{ts:List Ty}{y:Value}(h:bx B w ts y):bp B w (.mk k ts) (.agg #[.int .i64 k,y]):=by
 obtain⟨fp,h1,h2,h3⟩:=h
 exact⟨fp,⟨y,rfl,h1⟩,h2,h3⟩
theorem bp.setCell {B:Nat}{w:World}{t:Ty}{y:Value}(h:bp B w t y){p:Addr}(hp:p.block<B)(v:Value):bp B (w.setCell p v) t y:=by
 obtain⟨fp,⟨s,hs,h1⟩,h2,h3⟩:=h
 exact⟨fp,⟨s,hs,aQ.move _ _ _ (fun b hb=>Below.heap_setCell w p v b (by have:=h3 b hb;omega)) h1⟩,h2,h3⟩
theorem bp.mono {B B':Nat}{w:World}{t:Ty}{y:Value}(h:bp B w t y)(hB:B'<=B):bp B' w t y:=
 let ⟨fp,h1,h2,h3⟩:=h;⟨fp,h1,h2,fun b hb=>Nat.le_trans hB (h3 b hb)⟩
theorem bx.mono {B B':Nat}{w:World}{t:List Ty}{y:Value}(h:bx B w t y)(hB:B'<=B):bx B' w t y:=
 let ⟨fp,h1,h2,h3⟩:=h;⟨fp,h1,h2,fun b hb=>Nat.le_trans hB (h3 b hb)⟩
theorem Ty.flatten_length (ts:List Ty):(Ty.rows ts).flatten.length=ts.length*2:=by
 induction ts with
 | nil=>unfold Ty.rows;rfl
 | cons t ts ih=>unfold Ty.rows;rw[List.flatten_cons,List.length_append,ih,t.row_length,List.length_cons];omega
theorem cb.cells {w:World}{t:Ty}{s:Value}{fp:List Nat}{k:Int}(h:cb w t (.agg #[.int .i64 k,s]) fp):bL w t.row [.int .i64 k,s] fp:=by
 obtain⟨s',he,h⟩:=h
 cases t with | mk k' ts=>
 simp only[Value.agg.injEq,Array.mk.injEq,List.cons.injEq,Value.int.injEq,true_and,and_true] at he;obtain⟨rfl,rfl⟩:=he;unfold Ty.row
 exact⟨_,_,[],fp,rfl,rfl,by unfold aQ;exact⟨rfl,rfl⟩,_,_,fp,[],rfl,by simp,h,rfl,rfl⟩
theorem bp.open {B:Nat}{w:World}{t:Ty}{y:Value}(h:bp B w t y) : ∃k c m q fp,y = .agg #[.int .i64 k,.slice c m q]∧k=t.kind∧m=t.kids.length∧bL w t.row [.int .i64 k,.slice c m q] fp∧fp.Nodup∧∀b∈fp,B<=b:=by
 obtain⟨fp,h1,h2,h3⟩:=h;obtain⟨s,rfl,h⟩:=h1;have h':=h;unfold aQ at h';obtain⟨a,cap,rfl,_⟩:=h'
 exact⟨_,a,_,cap,fp,rfl,rfl,Ty.rows_length _,cb.cells ⟨_,rfl,h⟩,h2,h3⟩
theorem cF {w:World}{p a:Addr}{v u:Value}(h:w.cell? a=some u)(hne:p≠a):(w.setCell p v).cell? a=some u:=(World.cell?_setCell_other w p a v hne).trans h
theorem bP {w:World}{b o:Nat}{v u:Value}(h:w.cell? ⟨b,o,none⟩=some u):(w.setCell ⟨b,o,none⟩ v).cell? ⟨b,o,none⟩=some v:=by
 simp only[World.cell?] at h
 split at h
 ·rename_i cs T fr hb
  simp at h
  have hlt:=(Array.getElem?_eq_some_iff.1 h).1;simp only[World.cell?,cR hb]
  simp
  rw[Array.getElem?_setIfInBounds_self]
  simp[hlt]
 ·cases h
theorem dh (w:World)(p:Addr)(v:Value)(a:Addr):(w.setCell p v).frozen? a=w.frozen? a:=by simp
def bE (w:World):List (List C)->List Value->List Nat->Prop
 | [],xs,fps=>xs = []∧fps = []
 | r::rs,xs,fps=>∃ys xs' f1 f2,xs=ys++xs'∧fps=f1++f2∧bL w r ys f1∧bE w rs xs' f2
theorem bE.move {w w':World} : ∀(rs:List (List C)) (xs:List Value) (fps:List Nat),(∀b∈fps,w'.heap[b]?=w.heap[b]?)->bE w rs xs fps->bE w' rs xs fps
 | [],_,_,_,h=>h
 | r::rs,_,_,k,⟨ys,xs',f1,f2,e,h,h1,h2⟩=>by
  subst h
  exact⟨ys,xs',f1,f2,e,rfl,h1.move _ _ _ (fun b hb=>k b (List.mem_append_left _ hb)),bE.move rs xs' f2 (fun b hb=>k b (List.mem_append_right _ hb)) h2⟩
theorem bE.lt {w:World} : ∀(rs:List (List C)) (xs:List Value) (fps:List Nat),bE w rs xs fps->∀b∈fps,b<w.heap.size
 | [],_,_,⟨_,h⟩=>by subst h;simp
 | r::rs,_,_,⟨ys,xs',f1,f2,_,h,h1,h2⟩=>by
  subst h;intro b hb
  rcases List.mem_append.1 hb with hb | hb
  ·exact bL.lt _ _ _ h1 b hb
  ·exact bE.lt rs xs' f2 h2 b hb
theorem bE.snoc {w:World} : ∀ {rs:List (List C)} {xs:List Value} {fps:List Nat} {r:List C} {ys:List Value} {f:List Nat},bE w rs xs fps->bL w r ys f->bE w (rs ++ [r]) (xs++ys) (fps++f)
 | [],_,_,r,ys,f,⟨hx,hf⟩,h=>by
  subst hx hf
  exact⟨ys,[],f,[],by simp,by simp,h,rfl,rfl⟩
 | r' :: rs,_,_,r,ys,f,⟨ys',xs',f1,f2,e,e2,h1,h2⟩,h=>by
  subst e e2
  exact⟨ys',xs'++ys,f1,f2++f,by simp,by simp,h1,bE.snoc h2 h⟩
theorem bE.rows {w:World}{b:Nat} : ∀(rs:List (List C)) (xs:List Value) (fps:List Nat) (off:Nat),bE w rs xs fps->(∀i,i<xs.length->w.cell? ⟨b,off+i,none⟩=xs[i]?)->aK w b off rs fps
 | [],_,_,_,⟨_,h⟩,_=>by subst h;unfold aK;rfl
 | r::rs,_,_,off,⟨ys,xs',f1,f2,e,h,h1,h2⟩,k=>by
  subst e h;have hl:=bL.len _ _ _ h1;unfold aK;refine⟨f1,f2,rfl,bL.cells r ys f1 off h1 (fun i hi=>?_),bE.rows rs xs' f2 _ h2 fun i hi=>?_⟩
  ·rw[k i (by rw[List.length_append];omega),List.getElem?_append_left hi]
  ·rw[<-hl,Nat.add_assoc,k (ys.length+i) (by rw[List.length_append];omega),List.getElem?_append_right (by omega)]
   congr 1
   omega
def aS (B:Nat)(e:TypeId)(size:Nat)(w:World)(v:Value)(n:Nat)(rows:List (List C)):Prop:=
 ∃xs fps,w.ownsRow B e size v n xs∧rows.length=n∧bE w rows xs fps∧fps.Nodup∧∀x∈fps,B<=x∧v.ownBlock≠some x
theorem aS.nil (B:Nat)(e:TypeId)(size:Nat)(w:World):aS B e size w (.slice none 0 0) 0 []:=
 ⟨[],[],World.ownsRow_nil w B e size,rfl,⟨rfl,rfl⟩,List.nodup_nil,by simp⟩
theorem aS.grown {B:Nat}{e:TypeId}{size n:Nat}{w w':World}{v:Value}{rows:List (List C)}(h:aS B e size w v n rows)(hb:Below w.heap.size w w'):aS B e size w' v n rows:=by
 obtain⟨xs,fps,h1,h2,h3,h4,h5⟩:=h;refine⟨xs,fps,h1.kept (row:=none) ⟨hb.os,hb.tape,hb.output,hb.size,fun k hk _=>hb.block k hk⟩ ?_,h2,h3.move _ _ _ (fun b hx=>hb.block b (h3.lt _ _ _ b hx)),h4,h5⟩
 cases v.ownBlock with
 | none=>exact .inl rfl
 | some g=>exact .inr (by simp)
theorem aS.setCell {B:Nat}{e:TypeId}{size n:Nat}{w:World}{v:Value}{rows:List (List C)}(h:aS B e size w v n rows){p:Addr}(hp:p.block<B)(u:Value):aS B e size (w.setCell p u) v n rows:=by
 obtain⟨xs,fps,h1,h2,h3,h4,h5⟩:=h;refine⟨xs,fps,?_,h2,h3.move _ _ _ (fun b hx=>Below.heap_setCell w p u b (by have:=(h5 b hx).1;omega)),h4,h5⟩
 exact ownsRow_setCell_below h1 hp u
theorem aS.shape {B:Nat}{e:TypeId}{size n:Nat}{w:World}{v:Value}{rows:List (List C)}(h:aS B e size w v n rows) : ∃c q,v = .slice c n q:=by
 obtain⟨xs,fps,⟨_,h1⟩,_⟩:=h
 rcases h1 with ⟨rfl,rfl⟩ | ⟨g,cap,cur,rfl,_⟩
 ·exact⟨none,0,rfl⟩
 ·exact⟨_,cap,rfl⟩
theorem aS.append {B H g cap:Nat}{e:TypeId}{size n:Nat}{w w1:World}{v:Value}{xs ys:List Value}{fps f:List Nat}{rows:List (List C)}{r:List C}
  (h2:rows.length=n) (h3:bE w rows xs fps) (h4:fps.Nodup) (h5 : ∀x∈fps,B<=x∧v.ownBlock≠some x)
  (hr:bL w r ys f) (hd:f.Nodup) (hf : ∀x∈f,B<=x∧v.ownBlock≠some x∧x∉fps)
  (hown:w1.ownsRow B e size (.slice (some ⟨g,0,none⟩) (n+1) cap) (n+1) (xs++ys)) (hgrow:w.grownBy w1 v.ownBlock) (hat:v.ownBlock=some g∨g=H) (hH:w.heap.size=H) :
  aS B e size w1 (.slice (some ⟨g,0,none⟩) (n+1) cap) (n+1) (rows ++ [r]):=by
 have l3 : ∀b∈fps,b<w.heap.size:=fun b hb=>bE.lt _ _ _ h3 b hb;have lr : ∀b∈f,b<w.heap.size:=fun b hb=>bL.lt _ _ _ hr b hb;have keep : ∀x,x<w.heap.size->v.ownBlock≠some x->w1.heap[x]?=w.heap[x]?:=fun x hx hn=>hgrow.block x hx (fun e=>hn e.symm);refine⟨xs++ys,fps++f,hown,by simp[h2],bE.snoc (h3.move _ _ _ fun b hb=>keep b (l3 b hb) (h5 b hb).2) (hr.move _ _ _ fun b hb=>keep b (lr b hb) (hf b hb).2.1),?_,?_⟩
 ·exact List.nodup_append.2 ⟨h4,hd,fun x hx y hy e=>(hf y hy).2.2 (e▸hx)⟩
 ·intro x hx
  have hlt:x<w.heap.size∧B<=x∧v.ownBlock≠some x:=by
   rcases List.mem_append.1 hx with hx | hx
   ·exact⟨l3 x hx,h5 x hx⟩
   ·exact⟨lr x hx,(hf x hx).1,(hf x hx).2.1⟩
  refine⟨hlt.2.1,fun e=>?_⟩;simp only[Value.ownBlock,Option.some.injEq] at e
  rcases hat with hat | hat
  ·exact hlt.2.2 (by rw[hat,e])
  ·omega
theorem bc {B:Nat}{e:TypeId}{size n:Nat}{w w':World}{v:Value}{xs:List Value}(h:w.ownsRow B e size v n xs)(hb:Below w.heap.size w w'):w'.ownsRow B e size v n xs:=
 h.kept (row:=none) ⟨hb.os,hb.tape,hb.output,hb.size,fun k hk _=>hb.block k hk⟩ (by cases v.ownBlock with | none=>exact .inl rfl | some g=>exact .inr (by simp))
theorem cI {wr W w2:World}{B:Nat}{e:TypeId}{size n:Nat}{v:Value}{xs:List Value}(hb:Below wr.heap.size wr W)(ho:wr.ownsRow B e size v n xs)(hg:W.grownBy w2 v.ownBlock)(b:Nat)(hl:b<wr.heap.size)(hB:b<B):w2.heap[b]?=wr.heap[b]?:=
 (hg.block b (Nat.lt_of_lt_of_le hl hb.size) (fun e=>by have:=(ho.lt b e.symm).1;omega)).trans (hb.block b hl)
theorem bW {w0 wr W w2:World}{B:Nat}{e:TypeId}{size n:Nat}{v:Value}{xs:List Value}(h0:Below w0.heap.size w0 wr)(hb:Below wr.heap.size wr W)(ho:wr.ownsRow B e size v n xs)(hB:w0.heap.size<=B)(hg:W.grownBy w2 v.ownBlock):Below w0.heap.size w0 w2:=
 (al h0 hb).grown hg (al h0 hb).size (fun k hk=>Nat.le_trans hB (ho.lt k hk).1)
theorem aS.push {B g cap:Nat}{e:TypeId}{size n:Nat}{wr W0 W w2:World}{v:Value}{xs ys:List Value}{fps f:List Nat}{rows:List (List C)}{r:List C}(hl:rows.length=n)(ho:wr.ownsRow B e size v n xs)(hs:bE wr rows xs fps)(hd:fps.Nodup)
  (hfp : ∀x∈fps,B<=x∧v.ownBlock≠some x) (hB:B<=wr.heap.size) (hb:Below wr.heap.size wr W) (h0:wr.heap.size<=W0.heap.size) (hr:bL W r ys f) (hdf:f.Nodup) (hxf : ∀x∈f,W0.heap.size<=x)
  (hown:w2.ownsRow B e size (.slice (some ⟨g,0,none⟩) (n+1) cap) (n+1) (xs++ys)) (hgrow:W.grownBy w2 v.ownBlock) (hat:v.ownBlock=some g∨g=W.heap.size):aS B e size w2 (.slice (some ⟨g,0,none⟩) (n+1) cap) (n+1) (rows ++ [r]):=by
 have hlt : ∀x∈fps,x<wr.heap.size:=fun x hx=>bE.lt _ _ _ hs x hx;refine aS.append (w:=W) hl (hs.move _ _ _ fun b hx=>hb.block b (hlt b hx)) hd hfp hr hdf (fun x hx=>?_) hown hgrow hat rfl;have h1:=hxf x hx;refine⟨by omega,fun e=>by have:=(ho.lt x e).2;omega,fun e=>by have:=hlt x e;omega⟩
theorem aS.own {B:Nat}{e:TypeId}{size n:Nat}{w:World}{v:Value}{rows:List (List C)}(h:aS B e size w v n rows) : ∃fp,aQ w (.sl rows) v fp∧fp.Nodup∧∀x∈fp,B<=x:=by
 obtain⟨xs,fps,⟨hl,h1⟩,h2,h3,h4,h5⟩:=h
 rcases h1 with ⟨rfl,rfl⟩ | ⟨g,cap,cur,rfl,hb,hg,hn,hc,hs,ht⟩
 ·obtain rfl:rows = []:=List.eq_nil_of_length_eq_zero h2
  exact⟨[],aQ.sl_nil (by unfold maxLen;omega),List.nodup_nil,by simp⟩
 ·have hr:aK w g 0 rows fps:=h3.rows _ _ _ 0 (fun i hi=>by
     rw[<-ht] at hi ⊢;simp only[World.cell?,hg];simp only[List.length_take] at hi
     simp
     rw[List.getElem?_take_of_lt (by omega),Array.getElem?_toList])
  obtain⟨fp,k1,k2,k3⟩:=aQ.sl_mk hg h2 hn hc hr
  exact⟨fp,k1,k3 h4 (fun hx=>(h5 g hx).2 rfl),fun x hx=>by rcases k2 x hx with rfl | hx;exact hb;exact(h5 x hx).1⟩
theorem aS.tys {B n:Nat}{e:TypeId}{w:World}{v:Value}{ts:List Ty}(h:aS B e 2 w v n (Ty.rows ts)):bx B w ts v:=h.own
theorem ao {X:World}{n:Nat}{cs:Array Value}{T:TypeId}(h:X.heap.size=n)(j:Nat):(X.alloc (.cells cs T)).cell? ⟨n,j,none⟩=cs[j]?:=by subst h;exact aF j
theorem bT {X:World}{n:Nat}{cs:Array Value}{T:TypeId}(h:X.heap.size=n)(j:Nat):(X.alloc (.cells cs T)).frozen? ⟨n,j,none⟩=false:=by subst h;exact b9 j
theorem aG {w w1:World}{a:Addr}{v:Value}(h:Below w.heap.size w w1)(hc:w.cell? a=some v)(hf:w.frozen? a=false):w1.frozen? a=false:=(h.frozen (World.block_lt_of_cell? w a hc)).trans hf
theorem ap {w:World}{a:Addr}{v:Value}(hc:w.cell? a=some v):w.drew.cell? a=some v:=hc
theorem ee {w:World}{a:Addr}(hc:w.frozen? a=false):w.drew.frozen? a=false:=hc
theorem dG {w:World}{a p:Addr}{v:Value}(hf:w.frozen? a=false):(w.setCell p v).frozen? a=false:=(dh w p v a).trans hf
theorem aT {w:World}{p a:Addr}{v u:Value}(h:w.cell? a=some u)(hne:a.block≠p.block):(w.setCell p v).cell? a=some u:=cF h (fun e=>by subst e;exact hne rfl)
inductive Tm where
 | mk (kind:Int) (name:ByteArray) (num:Int) (type src:Ty) (label:Int) (kids:List Tm)
def Tm.kind:Tm->Int | .mk k _ _ _ _ _ _=>k
def Tm.name:Tm->ByteArray | .mk _ s _ _ _ _ _=>s
def Tm.num:Tm->Int | .mk _ _ u _ _ _ _=>u
def Tm.type:Tm->Ty | .mk _ _ _ t _ _ _=>t
def Tm.src:Tm->Ty | .mk _ _ _ _ t _ _=>t
def Tm.label:Tm->Int | .mk _ _ _ _ _ l _=>l
def Tm.kids:Tm->List Tm | .mk _ _ _ _ _ _ ts=>ts
mutual
def Tm.row:Tm->List C
 | .mk k s u t f l ts=> [.int k,.str s,.int u,.int t.kind,.sl (Ty.rows t.kids),.int f.kind,.sl (Ty.rows f.kids),.int l,.sl (Tm.rows ts)]
def Tm.rows:List Tm->List (List C)
 | []=> []
 | t::ts=>t.row::Tm.rows ts
end
theorem Tm.rows_eq (ts:List Tm):Tm.rows ts=ts.map Tm.row:=by
 induction ts with
 | nil=>rfl
 | cons t ts ih=>unfold Tm.rows;rw[ih];rfl
theorem Tm.rows_length (ts:List Tm):(Tm.rows ts).length=ts.length:=by rw[Tm.rows_eq];simp
theorem Tm.row_length : ∀t:Tm,t.row.length=9 | .mk _ _ _ _ _ _ _=>by unfold Tm.row;rfl
def aN (F:Nat->Prop)(w:World)(ts:List Tm)(y:Value):Prop:=aL F w (.sl (Tm.rows ts)) y
def aB (F:Nat->Prop)(w:World)(t:Tm)(y:Value):Prop:=∃s1 s2 s,y = .agg #[.int .i64 t.kind,.string t.name,.int .i64 t.num,.int .i64 t.type.kind,s1,.int .i64 t.src.kind,s2,.int .i64 t.label,s]∧t.name.size<=maxLen∧av F w t.type.kids s1∧av F w t.src.kids s2∧aN F w t.kids s
theorem aN.move {F G:Nat->Prop}{w w':World}{ts:List Tm}{y:Value}(h:aN F w ts y)(k:bU F G w w'):aN G w' ts y:=aL.move k _ _ h
theorem aB.move {F G:Nat->Prop}{w w':World}{t:Tm}{y:Value}(h:aB F w t y)(k:bU F G w w'):aB G w' t y:=
 let ⟨s1,s2,s,h1,h2,h3,h4,h5⟩:=h;⟨s1,s2,s,h1,h2,h3.move k,h4.move k,h5.move k⟩
theorem aB.below {F:Nat->Prop}{w w':World}{t:Tm}{y:Value}(h:aB F w t y)(k:Below w.heap.size w w'):aB F w' t y:=h.move (.below k)
theorem aN.below {F:Nat->Prop}{w w':World}{t:List Tm}{y:Value}(h:aN F w t y)(k:Below w.heap.size w w'):aN F w' t y:=h.move (.below k)
theorem aB.open {F:Nat->Prop}{w:World}{t:Tm}{y:Value}(h:aB F w t y) :
  ∃ta tq fa fq c q,y = .agg #[.int .i64 t.kind,.string t.name,.int .i64 t.num,.int .i64 t.type.kind,.slice ta t.type.kids.length tq,.int .i64 t.src.kind,.slice fa t.src.kids.length fq,.int .i64 t.label,.slice c t.kids.length q]∧t.name.size<=maxLen ∧
   t.kids.length<=q∧q<=maxLen∧ai F w t.type (.agg #[.int .i64 t.type.kind,.slice ta t.type.kids.length tq])∧ai F w t.src (.agg #[.int .i64 t.src.kind,.slice fa t.src.kids.length fq])∧aN F w t.kids (.slice c t.kids.length q):=by
 obtain⟨s1,s2,s,rfl,hn,h1,h2,h3⟩:=h;obtain⟨ta,tq,rfl,-,-,-⟩:=h1.open;obtain⟨fa,fq,rfl,-,-,-⟩:=h2.open;obtain⟨c,q,rfl,h4,h5,-⟩:=aL.rows h3;rw[Tm.rows_length] at h4 h3 ⊢
 exact⟨ta,tq,fa,fq,c,q,rfl,hn,h4,h5,⟨_,rfl,h1⟩,⟨_,rfl,h2⟩,h3⟩
theorem aB.shape {F:Nat->Prop}{w:World}{t:Tm}{y:Value}(h:aB F w t y) : ∃k nm u tk ta tn tq fk fa fn fq l c m q,y = .agg (nv k nm u tk ta tn tq fk fa fn fq l c m q):=by
 obtain⟨ta,tq,fa,fq,c,q,rfl,_⟩:=h.open
 exact⟨_,_,_,_,ta,_,tq,_,fa,_,fq,_,c,_,q,rfl⟩
theorem aN.shape {F:Nat->Prop}{w:World}{t:List Tm}{y:Value}(h:aN F w t y) : ∃a n q,y = .slice a n q:=by
 obtain⟨a,q,rfl,_⟩:=aL.rows h
 exact⟨a,_,q,rfl⟩
theorem aN.open {F:Nat->Prop}{w:World}{ts:List Tm}{y:Value}(h:aN F w ts y) :
  ∃(a:Option Addr) (cap:Nat),y = .slice a ts.length cap∧ts.length<=cap∧cap<=maxLen ∧
   ∀i (h:i<ts.length),∃b off k nm u tk ta tn tq fk fa fn fq l c m q,a=some ⟨b,off,none⟩∧w.cell? ⟨b,off+i*9,none⟩=some (.int .i64 k)∧w.cell? ⟨b,off+i*9+1,none⟩=some (.string nm)∧w.cell? ⟨b,off+i*9+2,none⟩=some (.int .i64 u)∧w.cell? ⟨b,off+i*9+3,none⟩=some (.int .i64 tk)∧w.cell? ⟨b,off+i*9+4,none⟩=some (.slice ta tn tq)∧w.cell? ⟨b,off+i*9+5,none⟩=some (.int .i64 fk)∧w.cell? ⟨b,off+i*9+6,none⟩=some (.slice fa fn fq)∧w.cell? ⟨b,off+i*9+7,none⟩=some (.int .i64 l)∧w.cell? ⟨b,off+i*9+8,none⟩=some (.slice c m q)∧aB F w ts[i] (.agg (nv k nm u tk ta tn tq fk fa fn fq l c m q)):=by
 obtain⟨a,cap,h1,h2,h3,h4⟩:=aL.rows h;rw[Tm.rows_length] at h1 h2;refine⟨a,cap,h1,h2,h3,fun i hi=>?_⟩
 rcases h4 with h4 | ⟨b,off,ha,hF,hl,hr⟩
 ·rw[<-Tm.rows_length,h4] at hi;exact absurd hi (Nat.not_lt_zero _)
 ·have hc:=hr.get (m:=9) (fun r hr=>by rw[Tm.rows_eq] at hr;obtain⟨t,_,rfl⟩:=List.mem_map.1 hr;exact t.row_length) i (by rw[Tm.rows_length];exact hi)
  have he:(Tm.rows ts)[i]'(by rw[Tm.rows_length];exact hi)=ts[i].row:=by simp[Tm.rows_eq]
  rw[he] at hc;obtain⟨k,s,u,t,f,l,ks,ht⟩ : ∃k s u t f l ks,ts[i]=Tm.mk k s u t f l ks:=by cases ts[i];exact⟨_,_,_,_,_,_,_,rfl⟩
  rw[ht] at hc ⊢;unfold Tm.row at hc;unfold aP at hc;obtain⟨⟨y0,hy0,hc0⟩,hc⟩:=hc;unfold aP at hc;obtain⟨⟨y1,hy1,hc1⟩,hc⟩:=hc;unfold aP at hc;obtain⟨⟨y2,hy2,hc2⟩,hc⟩:=hc;unfold aP at hc;obtain⟨⟨y3,hy3,hc3⟩,hc⟩:=hc;unfold aP at hc;obtain⟨⟨y4,hy4,hc4⟩,hc⟩:=hc;unfold aP at hc;obtain⟨⟨y5,hy5,hc5⟩,hc⟩:=hc;unfold aP at hc;obtain⟨⟨y6,hy6,hc6⟩,hc⟩:=hc;unfold aP at hc;obtain⟨⟨y7,hy7,hc7⟩,hc⟩:=hc;unfold aP at hc;obtain⟨⟨y8,hy8,hc8⟩,-⟩:=hc;rw[aL.int_eq hc0] at hy0;obtain⟨rfl,hsz⟩:=aL.str_eq hc1;rw[aL.int_eq hc2] at hy2;rw[aL.int_eq hc3] at hy3;obtain⟨ta,tq,rfl,-⟩:=aL.rows hc4;rw[aL.int_eq hc5] at hy5;obtain⟨fa,fq,rfl,-⟩:=aL.rows hc6;rw[aL.int_eq hc7] at hy7;obtain⟨c,q,rfl,-⟩:=aL.rows hc8
  exact⟨b,off,k,s,u,t.kind,ta,_,tq,f.kind,fa,_,fq,l,c,_,q,ha,hy0,hy1,hy2,hy3,hy4,hy5,hy6,hy7,hy8,_,_,_,rfl,hsz,hc4,hc6,hc8⟩
theorem aN.at {F:Nat->Prop}{w wr:World}{ts:List Tm}{a:Option Addr}{n cap:Nat}(h:aN F w ts (.slice a n cap))(hb:Below w.heap.size w wr){i:Nat}(hi:i<ts.length) :
  ∃b off k nm u tk ta tn tq fk fa fn fq l c m q,a=some ⟨b,off,none⟩∧b<wr.heap.size∧wr.cell? ⟨b,off+i*9,none⟩=some (.int .i64 k)∧wr.cell? ⟨b,off+i*9+1,none⟩=some (.string nm)∧wr.cell? ⟨b,off+i*9+2,none⟩=some (.int .i64 u)∧wr.cell? ⟨b,off+i*9+3,none⟩=some (.int .i64 tk)∧wr.cell? ⟨b,off+i*9+4,none⟩=some (.slice ta tn tq)∧wr.cell? ⟨b,off+i*9+5,none⟩=some (.int .i64 fk)∧wr.cell? ⟨b,off+i*9+6,none⟩=some (.slice fa fn fq)∧wr.cell? ⟨b,off+i*9+7,none⟩=some (.int .i64 l)∧wr.cell? ⟨b,off+i*9+8,none⟩=some (.slice c m q)∧aB F wr ts[i] (.agg (nv k nm u tk ta tn tq fk fa fn fq l c m q)):=by
 obtain⟨a',cap',he,_,_,hg⟩:=h.open;simp only[Value.slice.injEq] at he;obtain⟨rfl,_,rfl⟩:=he;obtain⟨b,off,k,nm,u,tk,ta,tn,tq,fk,fa,fn,fq,l,c,m,q,ha,h0,h1,h2,h3,h4,h5,h6,h7,h8,ht⟩:=hg i hi;have e0:=af hb h0
 exact⟨b,off,k,nm,u,tk,ta,tn,tq,fk,fa,fn,fq,l,c,m,q,ha,World.block_lt_of_cell? wr _ e0,e0,af hb h1,af hb h2,af hb h3,af hb h4,af hb h5,af hb h6,af hb h7,af hb h8,ht.below hb⟩
theorem aB.parts {F:Nat->Prop}{w:World}{t:Tm}{k u tk fk l:Int}{nm:ByteArray}{ta fa c:Option Addr}{tn tq fn fq m q:Nat}(h:aB F w t (.agg (nv k nm u tk ta tn tq fk fa fn fq l c m q))) :
  k=t.kind∧nm=t.name∧u=t.num∧tk=t.type.kind∧tn=t.type.kids.length∧fk=t.src.kind∧fn=t.src.kids.length∧l=t.label∧m=t.kids.length∧nm.size<=maxLen∧m<=q∧q<=maxLen ∧
   ai F w t.type (.agg #[.int .i64 tk,.slice ta tn tq])∧ai F w t.src (.agg #[.int .i64 fk,.slice fa fn fq])∧aN F w t.kids (.slice c m q):=by
 obtain⟨ta',tq',fa',fq',c',q',he,hn,h4,h5,h6,h7,h8⟩:=h.open;simp only[Value.agg.injEq,Array.mk.injEq,List.cons.injEq,Value.int.injEq,Value.string.injEq,Value.slice.injEq,true_and,and_true] at he;obtain⟨rfl,rfl,rfl,rfl,⟨rfl,rfl,rfl⟩,rfl,⟨rfl,rfl,rfl⟩,rfl,⟨rfl,rfl,rfl⟩⟩:=he
 exact⟨rfl,rfl,rfl,rfl,rfl,rfl,rfl,rfl,rfl,hn,h4,h5,h6,h7,h8⟩
theorem Tm.kid_lt {t:Tm}{x:Tm}(h:x∈t.kids):SizeOf.sizeOf x<SizeOf.sizeOf t:=by
 cases t with
 | mk k s u t f l ts=>have:=List.sizeOf_lt_of_mem h;simp only[Tm.kids] at h this;simp;omega
mutual
def Tm.cnt:Tm->Nat
 | .mk _ s _ t f _ ts=>s.size+t.cnt+f.cnt+(ts.length+Tm.cnts ts)
def Tm.cnts:List Tm->Nat
 | []=>0
 | t::ts=>t.cnt+Tm.cnts ts
end
theorem Tm.cnts_take_succ : ∀(ts:List Tm) (j:Nat) (h:j<ts.length),Tm.cnts (ts.take (j+1))=Tm.cnts (ts.take j)+ts[j].cnt
 | [],_,h=>absurd h (Nat.not_lt_zero _)
 | t::ts,0,_=>by simp[Tm.cnts]
 | t::ts,j+1,h=>by
  have:=Tm.cnts_take_succ ts j (by simpa using h);simp only[List.take_succ_cons,Tm.cnts,List.getElem_cons_succ]
  omega
theorem Tm.cnts_take_le : ∀(ts:List Tm) (j:Nat),Tm.cnts (ts.take j)<=Tm.cnts ts
 | [],_=>by simp
 | t::ts,0=>by simp[Tm.cnts]
 | t::ts,j+1=>by
  have:=Tm.cnts_take_le ts j;simp only[List.take_succ_cons,Tm.cnts]
  omega
theorem Tm.cnt_mem : ∀ {ts:List Tm} {t:Tm},t∈ts->t.cnt<=Tm.cnts ts
 | u::ts,t,h=>by
  rcases List.mem_cons.1 h with rfl | h
  ·simp only[Tm.cnts];omega
  ·have:=Tm.cnt_mem h;simp only[Tm.cnts];omega
theorem Tm.cnt_parts (t:Tm):t.cnt=t.name.size+t.type.cnt+t.src.cnt+(t.kids.length+Tm.cnts t.kids):=by
 cases t with | mk k s u t f l ts=>simp only[Tm.cnt,Tm.name,Tm.type,Tm.src,Tm.kids]
theorem Tm.cnt_kid {t x:Tm}(h:x∈t.kids):x.cnt+t.kids.length<=t.cnt:=by
 have h1:=Tm.cnt_mem h;have h2:=t.cnt_parts
 omega
def aC (n a b:Int):Bool:=decide (a<=n)&&decide (n<=b)
def cp (n:Int):Bool:=aC n 1 99||aC n (-99) (-1)
theorem bo (n a b:Int)(w:World):Calls Try.prog 65 #[.int .i64 n,.int .i64 a,.int .i64 b] w fun e w'=>e = .returned (.bool (aC n a b))∧Below w.heap.size w w':=by
 unfold aC
 by_cases h1:a<=n
 ·by_cases h2:n<=b
  ·go_enter Try.func65,Try.ntmps65
   go_wp2_with fail
   go_ret
   exact⟨au (by simp[h1,h2]),Below.refl _ _⟩
  ·have h2':decide (n<=b)=false:=decide_eq_false h2
   go_enter Try.func65,Try.ntmps65
   go_wp2_with fail
   go_ret
   exact⟨au (by simp[h1,h2']),Below.refl _ _⟩
 ·have h1':decide (a<=n)=false:=decide_eq_false h1
  go_enter Try.func65,Try.ntmps65
  go_wp2_with fail
  go_ret
  exact⟨au (by simp[h1']),Below.refl _ _⟩
def bQ (n:Int):Int:=if n < -99∨99<n then 0 else if n<0 then -n else n
theorem ob (n:Int)(w:World):Calls Try.prog 77 #[.int .i64 n] w fun e w'=>e = .returned (.int .i64 (bQ n))∧w=w':=by
 by_cases h1:n < -99
 ·have ha:bQ n=0:=by unfold bQ;rw[if_pos (.inl h1)]
  have HA:=zq ha;clear ha
  go_enter Try.func77,Try.ntmps77
  go_wp2_with fail
  go_ret
  exact⟨bg HA.out.symm,rfl⟩
 ·have d1:decide (n < -99)=false:=decide_eq_false h1
  by_cases h2:n>99
  ·have ha:bQ n=0:=by unfold bQ;rw[if_pos (.inr h2)]
   have HA:=zq ha;clear ha
   go_enter Try.func77,Try.ntmps77
   go_wp2_with fail
   go_ret
   exact⟨bg HA.out.symm,rfl⟩
  ·have d2:decide (n>99)=false:=decide_eq_false h2
   by_cases h3:n<0
   ·have ha:bQ n = -n:=by unfold bQ;rw[if_neg (by omega),if_pos h3]
    have HA:=zq ha;have hw:IntKind.i64.wrap (-n) = -n:=IntWalk.i64_in _ (by omega);clear ha
    go_enter Try.func77,Try.ntmps77
    go_wp2_with fail
    go_ret
    exact⟨bg HA.out.symm,rfl⟩
   ·have ha:bQ n=n:=by unfold bQ;rw[if_neg (by omega),if_neg h3]
    have HA:=zq ha;clear ha
    go_enter Try.func77,Try.ntmps77
    go_wp2_with fail
    go_ret
    exact⟨bg HA.out.symm,rfl⟩
theorem cY (n:Int):decide (bQ n≥1)=cp n:=by
 unfold bQ cp aC;rw[Bool.eq_iff_iff]
 simp
 split
 ·omega
 ·split<;>omega
theorem jC (n:Int)(h0:(aC n 1 99)=true):(true:Bool)=(cp n):=by
 simp_all [cp]
theorem jD (n:Int)(h0:(aC n 1 99)=false):(aC n (-99) (-1):Bool)=(cp n):=by
 simp_all [cp]
theorem mK (n:Int)(w:World):Calls Try.prog 67 #[.int .i64 n] w fun e w'=>e = .returned (.bool (cp n))∧Below w.heap.size w w':=by
 obtain⟨rr,hrr⟩ : ∃rr0:Bool,(cp n)=rr0:=⟨_,rfl⟩
 rw[hrr];have HT:=zq hrr;clear hrr
 go_enter Try.func67,Try.ntmps67
 rcases Bool.eq_false_or_eq_true (aC n 1 99) with q1 | q1
 ·have Hq1:=zq q1
  clear q1
  go_wp2_with fail
  refine(bo n 1 99 _).mono ?_;rintro e w1 ⟨rfl,hb1⟩;rw[Hq1.out];have hB:=(al (Below.refl _ _) hb1)
  have zw1:=hB.size
  go_wp2_with fail
  refine bq (.bool (true)) (by simp[results,Try.results67,go_sem,bne]) ?_
  exact⟨au ((jC n Hq1.out).trans HT.out),hB⟩
 ·have Hq1:=zq q1
  clear q1
  go_wp2_with fail
  refine(bo n 1 99 _).mono ?_;rintro e w2 ⟨rfl,hb2⟩;rw[Hq1.out];have hB:=(al (Below.refl _ _) hb2)
  have zw2:=hB.size
  go_wp2_with fail
  refine(bo n (-99) (-1) _).mono ?_;rintro e w3 ⟨rfl,hb3⟩;replace hB:=(al hB hb3)
  have zw3:=hB.size
  go_wp2_with fail
  refine bq (.bool (aC n (-99) (-1))) (by simp[results,Try.results67,go_sem,bne]) ?_
  exact⟨au ((jD n Hq1.out).trans HT.out),hB⟩
end Go.Proofs.Ytfhglkmjibjjoaa

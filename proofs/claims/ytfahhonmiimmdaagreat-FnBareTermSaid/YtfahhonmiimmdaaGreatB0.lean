/- Data of the language, whatever the type: a cell holds a number, a string or a slice of rows of cells; what it means that a value of the model reads as such data in a world; that this is kept while the blocks concerned are kept. And what else its parts name. -/
import Derived.WalkKit
import Derived.WalkSpells
import Derived.WalkLawsBesides
import Derived.Lib.Hide
import Derived.Deep.Draws
set_option linter.unusedSimpArgs false
set_option linter.unusedVariables false
set_option maxHeartbeats 16000000
namespace Go.Proofs.YtfahhonmiimmdaaGreat
open Go.RowKit
inductive C where
 | int (n:Int)
 | str (s:ByteArray)
 | sl (rows:List (List C))
mutual
def aM (F:Nat→Prop)(w:World):C→Value→Prop
 | .int n,y=>y = .int .i64 n
 | .str s,y=>y = .string s∧s.size≤maxLen
 | .sl rows,y=>∃(a:Option Addr) (cap:Nat),y = .slice a rows.length cap∧rows.length≤cap∧cap≤maxLen ∧
   (rows = []∨∃b off,a=some ⟨b,off,none⟩∧F b∧b<w.heap.size∧bg F w b off rows)
def bg (F:Nat→Prop)(w:World)(b:Nat):Nat→List (List C)→Prop
 | _,[]=>True
 | off,r :: rs=>aR F w b off r∧bg F w b (off+r.length) rs
def aR (F:Nat→Prop)(w:World)(b:Nat):Nat→List C→Prop
 | _,[]=>True
 | off,c :: cs=>(∃y,w.cell? ⟨b,off,none⟩=some y∧aM F w c y)∧aR F w b (off+1) cs
end
structure bx (F G:Nat→Prop) (w w':World):Prop where
 size:w.heap.size≤w'.heap.size
 sub : ∀b,F b→b<w.heap.size→G b
 same : ∀b,F b→b<w.heap.size→w'.heap[b]?=w.heap[b]?
mutual
theorem aM.move {F G:Nat→Prop}{w w':World}(k:bx F G w w') : ∀(c:C) (y:Value),aM F w c y→aM G w' c y
 | .int n,y,h=>by unfold aM at h ⊢;exact h
 | .str s,y,h=>by unfold aM at h ⊢;exact h
 | .sl rows,y,h=>by
  unfold aM at h ⊢;obtain⟨a,cap,h1,h2,h3,h4⟩:=h;refine⟨a,cap,h1,h2,h3,?_⟩
  rcases h4 with h4 | ⟨b,off,ha,hb,hl,hr⟩
  ·exact .inl h4
  ·exact .inr ⟨b,off,ha,k.sub b hb hl,Nat.lt_of_lt_of_le hl k.size,bg.move k b hb hl off rows hr⟩
theorem bg.move {F G:Nat→Prop}{w w':World}(k:bx F G w w')(b:Nat)(hb:F b)(hl:b<w.heap.size) :
  ∀(off:Nat) (rows:List (List C)),bg F w b off rows→bg G w' b off rows
 | _,[],_=>by unfold bg;trivial
 | off,r :: rs,h=>by
  unfold bg at h ⊢
  exact⟨aR.move k b hb hl off r h.1,bg.move k b hb hl _ rs h.2⟩
theorem aR.move {F G:Nat→Prop}{w w':World}(k:bx F G w w')(b:Nat)(hb:F b)(hl:b<w.heap.size) :
  ∀(off:Nat) (r:List C),aR F w b off r→aR G w' b off r
 | _,[],_=>by unfold aR;trivial
 | off,c :: cs,h=>by
  unfold aR at h ⊢;obtain⟨⟨y,hy,hc⟩,h2⟩:=h
  exact⟨⟨y,(World.cell?_of_block (a:=⟨b,off,none⟩) (k.same b hb hl)).trans hy,aM.move k c y hc⟩,aR.move k b hb hl _ cs h2⟩
end
theorem bx.below {F:Nat→Prop}{w w':World}(h:Below w.heap.size w w'):bx F F w w':=⟨h.size,fun _ h _=>h,fun b _ hl=>h.block b hl⟩
theorem bx.weaken {F G:Nat→Prop}{w:World}(h : ∀b,F b→b<w.heap.size→G b):bx F G w w:=⟨Nat.le_refl _,h,fun _ _ _=>rfl⟩
def bE (F:Nat→Prop)(w:World):List C→List Value→Prop
 | [],ys=>ys = []
 | c :: cs,ys=>∃z zs,ys=z :: zs∧aM F w c z∧bE F w cs zs
theorem bE.move {F G:Nat→Prop}{w w':World}(k:bx F G w w') : ∀(r:List C) (ys:List Value),bE F w r ys→bE G w' r ys
 | [],_,h=>h
 | _ :: cs,_,⟨z,zs,h,hc,hs⟩=>⟨z,zs,h,hc.move k _ _,hs.move k cs zs⟩
theorem aR.get {F:Nat→Prop}{w:World}{b:Nat} : ∀ {off:Nat} {r:List C},aR F w b off r→∃ys,bE F w r ys∧ys.length=r.length∧∀j (h:j<ys.length),w.cell? ⟨b,off+j,none⟩=some ys[j]
 | _,[],_=>⟨[],rfl,rfl,fun _ h=>absurd h (Nat.not_lt_zero _)⟩
 | off,c :: cs,h=>by
  unfold aR at h;obtain⟨⟨y,hy,hc⟩,h2⟩:=h;obtain⟨ys,hs,hlen,hg⟩:=aR.get h2;refine⟨y :: ys,⟨y,ys,rfl,hc,hs⟩,by simp[hlen],fun j hj=>?_⟩
  cases j with
  | zero=>exact hy
  | succ j=>
   have:=hg j (by simpa using hj);rw[show off+(j+1)=off+1+j from by omega]
   simpa using this
theorem bg.get {F:Nat→Prop}{w:World}{b m:Nat} : ∀ {off:Nat} {rows:List (List C)},bg F w b off rows→(∀r∈rows,r.length=m)→∀i (h:i<rows.length),aR F w b (off+i*m) rows[i]
 | _,[],_,_,_,h=>absurd h (Nat.not_lt_zero _)
 | off,r :: rs,h,hm,i,hi=>by
  unfold bg at h
  cases i with
  | zero=>simpa using h.1
  | succ i=>
   have:=bg.get h.2 (fun r hr=>hm r (List.mem_cons_of_mem _ hr)) i (by simpa using hi);rw[hm r (List.mem_cons_self ..)] at this;rw[show off+(i+1)*m=off+m+i*m from by rw[Nat.add_mul];omega]
   simpa using this
theorem aM.rows {F:Nat→Prop}{w:World}{rows:List (List C)}{y:Value}(h:aM F w (.sl rows) y) :
  ∃(a:Option Addr) (cap:Nat),y = .slice a rows.length cap∧rows.length≤cap∧cap≤maxLen∧(rows = []∨∃b off,a=some ⟨b,off,none⟩∧F b∧b<w.heap.size∧bg F w b off rows):=by
 unfold aM at h;exact h
theorem aM.int_eq {F:Nat→Prop}{w:World}{n:Int}{y:Value}(h:aM F w (.int n) y):y = .int .i64 n:=by unfold aM at h;exact h
theorem aM.str_eq {F:Nat→Prop}{w:World}{s:ByteArray}{y:Value}(h:aM F w (.str s) y):y = .string s∧s.size≤maxLen:=by unfold aM at h;exact h
theorem al {w W w1:World}(h:Below w.heap.size w W)(h1:Below W.heap.size W w1):Below w.heap.size w w1:=h.trans (h1.mono h.size)
theorem zq {p:Prop}(h:p):Hid p:=Lib.hid h
theorem aj {w:World}{o:Obj}:Below w.heap.size w (w.alloc o):=(Below.refl _ _).alloc (Nat.le_refl _) _
theorem aH {w:World}{o o':Obj}:Below w.heap.size w ((w.alloc o).alloc o'):=al aj aj
theorem cA {w:World}{o o' o2:Obj}:Below w.heap.size w (((w.alloc o).alloc o').alloc o2):=al aH aj
theorem af {w w1:World}{a:Addr}{v:Value}(h:Below w.heap.size w w1)(hc:w.cell? a=some v):w1.cell? a=some v:=
 (h.cell (World.block_lt_of_cell? w a hc)).trans hc
theorem nY {W w1:World}(hb:Below W.heap.size W w1):(∀b o,b<W.heap.size→w1.cell? ⟨b,o,none⟩=W.cell? ⟨b,o,none⟩)∧(∀b o,b<W.heap.size→w1.frozen? ⟨b,o,none⟩=W.frozen? ⟨b,o,none⟩):=
 ⟨fun b o h=>hb.cell (p:=⟨b,o,none⟩) h,fun b o h=>hb.frozen (p:=⟨b,o,none⟩) h⟩
theorem cn {w w1:World}{a:Addr}{v:Value}(h:Below w.drew.heap.size w.drew w1)(hc:w.cell? a=some v):w1.cell? a=some v:=af (w:=w.drew) h hc
theorem eU {B:Nat}{a w:World}(h:Below B a w)(n:Nat):Below B a (w.drewN n):=⟨h.os,h.tape,h.output,h.size,h.block⟩
theorem bdr {w:World}:Below w.heap.size w w.drew:=(Below.refl _ _).drew
theorem nT {w w1 W:World}(h:Below w.heap.size w W)(h1:Below W.drew.heap.size W.drew w1):Below w.heap.size w w1:=al h.drew h1
theorem aw {w:World}{cs:Array Value}{T:TypeId}(j:Nat):(w.alloc (.cells cs T)).cell? ⟨w.heap.size,j,none⟩=cs[j]?:=by
 unfold World.cell?;rw[heap_alloc_new w _];rfl
theorem av {w:World}{o:Obj}{cs:Array Value}{T:TypeId}(j:Nat):((w.alloc o).alloc (.cells cs T)).cell? ⟨w.heap.size+1,j,none⟩=cs[j]?:=by
 have h:=aw (w:=w.alloc o) (cs:=cs) (T:=T) j;rw[show(w.alloc o).heap.size=w.heap.size+1 from by simp] at h
 exact h
theorem bh {w:World}{o o':Obj}{cs:Array Value}{T:TypeId}(j:Nat):(((w.alloc o).alloc o').alloc (.cells cs T)).cell? ⟨w.heap.size+1+1,j,none⟩=cs[j]?:=by
 have h:=av (w:=w.alloc o) (o:=o') (cs:=cs) (T:=T) j;rw[show(w.alloc o).heap.size=w.heap.size+1 from by simp] at h
 exact h
theorem b5 {w:World}{cs:Array Value}{T:TypeId}(j:Nat):(w.alloc (.cells cs T)).frozen? ⟨w.heap.size,j,none⟩=false:=by
 unfold World.frozen?;rw[heap_alloc_new w _];simp
theorem aI {w:World}{o:Obj}{cs:Array Value}{T:TypeId}(j:Nat):((w.alloc o).alloc (.cells cs T)).frozen? ⟨w.heap.size+1,j,none⟩=false:=by
 have h:=b5 (w:=w.alloc o) (cs:=cs) (T:=T) j;rw[show(w.alloc o).heap.size=w.heap.size+1 from by simp] at h
 exact h
theorem df {w:World}{o o':Obj}{cs:Array Value}{T:TypeId}(j:Nat):(((w.alloc o).alloc o').alloc (.cells cs T)).frozen? ⟨w.heap.size+1+1,j,none⟩=false:=by
 have h:=aI (w:=w.alloc o) (o:=o') (cs:=cs) (T:=T) j;rw[show(w.alloc o).heap.size=w.heap.size+1 from by simp] at h
 exact h
theorem cb {w w1:World}{b j:Nat}(h:Below w.heap.size w w1)(hb:b<w.heap.size)(hf:w.frozen? ⟨b,j,none⟩=false):w1.frozen? ⟨b,j,none⟩=false:=
 (h.frozen (p:=⟨b,j,none⟩) hb).trans hf
theorem ax {a b:Bool}(h:a=b):Ending.returned (.bool a) = .returned (.bool b):=by rw[h]
theorem bc {k:IntKind}{a b:Int}(h:a=b):Ending.returned (.int k a) = .returned (.int k b):=by rw[h]
theorem mR {a b:ByteArray}(h:a=b):Ending.returned (.string a) = .returned (.string b):=by rw[h]
inductive Ty where
 | mk (kind:Int) (kids:List Ty)
def Ty.kind:Ty→Int | .mk k _=>k
def Ty.kids:Ty→List Ty | .mk _ ts=>ts
mutual
def Ty.row:Ty→List C
 | .mk k ts=> [.int k,.sl (Ty.rows ts)]
def Ty.rows:List Ty→List (List C)
 | []=> []
 | t :: ts=>t.row :: Ty.rows ts
end
theorem Ty.rows_eq (ts:List Ty):Ty.rows ts=ts.map Ty.row:=by
 induction ts with
 | nil=>rfl
 | cons t ts ih=>unfold Ty.rows;rw[ih];rfl
theorem Ty.rows_length (ts:List Ty):(Ty.rows ts).length=ts.length:=by rw[Ty.rows_eq];simp
theorem Ty.row_length : ∀t:Ty,t.row.length=2 | .mk _ _=>by unfold Ty.row;rfl
def aE (F:Nat→Prop)(w:World)(ts:List Ty)(y:Value):Prop:=aM F w (.sl (Ty.rows ts)) y
def ap (F:Nat→Prop)(w:World)(t:Ty)(y:Value):Prop:=∃s,y = .agg #[.int .i64 t.kind,s]∧aE F w t.kids s
theorem aE.move {F G:Nat→Prop}{w w':World}{ts:List Ty}{y:Value}(h:aE F w ts y)(k:bx F G w w'):aE G w' ts y:=aM.move k _ _ h
theorem ap.move {F G:Nat→Prop}{w w':World}{t:Ty}{y:Value}(h:ap F w t y)(k:bx F G w w'):ap G w' t y:=
 let ⟨s,h1,h2⟩:=h;⟨s,h1,h2.move k⟩
theorem ap.below {F:Nat→Prop}{w w':World}{t:Ty}{y:Value}(h:ap F w t y)(k:Below w.heap.size w w'):ap F w' t y:=h.move (.below k)
theorem aE.below {F:Nat→Prop}{w w':World}{t:List Ty}{y:Value}(h:aE F w t y)(k:Below w.heap.size w w'):aE F w' t y:=h.move (.below k)
theorem aE.open {F:Nat→Prop}{w:World}{ts:List Ty}{y:Value}(h:aE F w ts y) :
  ∃(a:Option Addr) (cap:Nat),y = .slice a ts.length cap∧ts.length≤cap∧cap≤maxLen ∧
   ∀i (h:i<ts.length),∃b off k c m q,a=some ⟨b,off,none⟩∧w.cell? ⟨b,off+i*2,none⟩=some (.int .i64 k)∧w.cell? ⟨b,off+i*2+1,none⟩=some (.slice c m q)∧ap F w ts[i] (.agg #[.int .i64 k,.slice c m q]):=by
 obtain⟨a,cap,h1,h2,h3,h4⟩:=aM.rows h;rw[Ty.rows_length] at h1 h2;refine⟨a,cap,h1,h2,h3,fun i hi=>?_⟩
 rcases h4 with h4 | ⟨b,off,ha,hF,hl,hr⟩
 ·rw[←Ty.rows_length,h4] at hi;exact absurd hi (Nat.not_lt_zero _)
 ·have hc:=hr.get (m:=2) (fun r hr=>by rw[Ty.rows_eq] at hr;obtain⟨t,_,rfl⟩:=List.mem_map.1 hr;exact t.row_length) i (by rw[Ty.rows_length];exact hi)
  have he:(Ty.rows ts)[i]'(by rw[Ty.rows_length];exact hi)=ts[i].row:=by simp[Ty.rows_eq]
  rw[he] at hc;obtain⟨k,ks,ht⟩ : ∃k ks,ts[i]=Ty.mk k ks:=⟨ts[i].kind,ts[i].kids,by cases ts[i];rfl⟩
  rw[ht] at hc ⊢;unfold Ty.row aR at hc;obtain⟨⟨y0,hy0,hc0⟩,hc⟩:=hc;unfold aR at hc;obtain⟨⟨y1,hy1,hc1⟩,_⟩:=hc;rw[aM.int_eq hc0] at hy0;obtain⟨c,q,rfl,_⟩:=aM.rows hc1
  exact⟨b,off,k,c,_,q,ha,hy0,hy1,_,rfl,hc1⟩
theorem ap.open {F:Nat→Prop}{w:World}{t:Ty}{y:Value}(h:ap F w t y) :
  ∃(a:Option Addr) (cap:Nat),y = .agg #[.int .i64 t.kind,.slice a t.kids.length cap]∧t.kids.length≤cap∧cap≤maxLen∧aE F w t.kids (.slice a t.kids.length cap):=by
 obtain⟨s,rfl,hs⟩:=h;obtain⟨a,cap,rfl,h2,h3,_⟩:=hs.open
 exact⟨a,cap,rfl,h2,h3,hs⟩
theorem ap.shape {F:Nat→Prop}{w:World}{t:Ty}{y:Value}(h:ap F w t y) : ∃k a n q,y = .agg #[.int .i64 k,.slice a n q]:=by
 obtain⟨a,q,rfl,_⟩:=h.open
 exact⟨_,a,_,q,rfl⟩
theorem aE.shape {F:Nat→Prop}{w:World}{t:List Ty}{y:Value}(h:aE F w t y) : ∃a n q,y = .slice a n q:=by
 obtain⟨a,q,rfl,_⟩:=h.open
 exact⟨a,_,q,rfl⟩
theorem Ty.kid_lt {t:Ty}{x:Ty}(h:x∈t.kids):SizeOf.sizeOf x<SizeOf.sizeOf t:=by
 cases t with
 | mk k ts=>have:=List.sizeOf_lt_of_mem h;simp only[Ty.kids] at h this;simp;omega
mutual
def Ty.cnt:Ty→Nat
 | .mk _ ts=>ts.length+Ty.cnts ts
def Ty.cnts:List Ty→Nat
 | []=>0
 | t :: ts=>t.cnt+Ty.cnts ts
end
theorem Ty.cnts_take_succ : ∀(ts:List Ty) (j:Nat) (h:j<ts.length),Ty.cnts (ts.take (j+1))=Ty.cnts (ts.take j)+ts[j].cnt
 | [],_,h=>absurd h (Nat.not_lt_zero _)
 | t :: ts,0,_=>by simp[Ty.cnts]
 | t :: ts,j+1,h=>by
  have:=Ty.cnts_take_succ ts j (by simpa using h);simp only[List.take_succ_cons,Ty.cnts,List.getElem_cons_succ]
  omega
theorem Ty.cnts_take_le : ∀(ts:List Ty) (j:Nat),Ty.cnts (ts.take j)≤Ty.cnts ts
 | [],_=>by simp
 | t :: ts,0=>by simp[Ty.cnts]
 | t :: ts,j+1=>by
  have:=Ty.cnts_take_le ts j;simp only[List.take_succ_cons,Ty.cnts]
  omega
theorem Ty.cnt_mem : ∀ {ts:List Ty} {t:Ty},t∈ts→t.cnt≤Ty.cnts ts
 | u :: ts,t,h=>by
  rcases List.mem_cons.1 h with rfl | h
  ·simp only[Ty.cnts];omega
  ·have:=Ty.cnt_mem h;simp only[Ty.cnts];omega
theorem Ty.cnt_kid {t x:Ty}(h:x∈t.kids):x.cnt+t.kids.length≤t.cnt:=by
 cases t with
 | mk k ts=>have h2:x∈ts:=h;have:=Ty.cnt_mem h2;simp only[Ty.kids,Ty.cnt];omega
theorem aE.at {F:Nat→Prop}{w wr:World}{ts:List Ty}{a:Option Addr}{n cap:Nat}(h:aE F w ts (.slice a n cap))(hb:Below w.heap.size w wr){i:Nat}(hi:i<ts.length) :
  ∃b off k c m q,a=some ⟨b,off,none⟩∧b<wr.heap.size∧wr.cell? ⟨b,off+i*2,none⟩=some (.int .i64 k)∧wr.cell? ⟨b,off+i*2+1,none⟩=some (.slice c m q)∧ap F wr ts[i] (.agg #[.int .i64 k,.slice c m q]):=by
 obtain⟨a',cap',he,_,_,hg⟩:=h.open;simp only[Value.slice.injEq] at he;obtain⟨rfl,_,rfl⟩:=he;obtain⟨b,off,k,c,m,q,ha,h0,h1,ht⟩:=hg i hi;have e0:=(hb.cell (p:=⟨b,off+i*2,none⟩) (World.block_lt_of_cell? w _ h0)).trans h0
 exact⟨b,off,k,c,m,q,ha,World.block_lt_of_cell? wr _ e0,e0,(hb.cell (p:=⟨b,off+i*2+1,none⟩) (World.block_lt_of_cell? w _ h1)).trans h1,ht.below hb⟩
end Go.Proofs.YtfahhonmiimmdaaGreat

/- Data of the language, whatever the type: a cell holds a number, a string or a slice of rows of cells; what it means that a value of the model reads as such data in a world; that this is kept while the blocks concerned are kept. And what else its parts name. -/
import Derived.WalkKit
import Derived.WalkSpells
import Derived.WalkLawsBesides
import Derived.Lib.Hide
import Derived.Deep.Draws
import Derived.Deep.AppendLies
import Derived.Deep.RegionLaw
import Derived.Test.YtfahhonmiimmdaaGreatRows
import Derived.Deep.RegionHeld3
import Derived.Deep.QuietTactic
import Derived.BigQuiet
import Derived.IntWalk
set_option linter.unusedSimpArgs false
set_option linter.unusedVariables false
set_option maxRecDepth 100000
set_option maxHeartbeats 16000000
namespace Go.Proofs.YtfahhonmiimmdaaGreat
open Go.RowKit
inductive C where
 | int (n:Int)
 | str (s:ByteArray)
 | sl (rows:List (List C))
mutual
def aH (F:Nat→Prop)(w:World):C→Value→Prop
 | .int n,y=>y = .int .i64 n
 | .str s,y=>y = .string s∧s.size≤maxLen
 | .sl rows,y=>∃(a:Option Addr) (cap:Nat),y = .slice a rows.length cap∧rows.length≤cap∧cap≤maxLen ∧
   (rows = []∨∃b off,a=some ⟨b,off,none⟩∧F b∧b<w.heap.size∧b9 F w b off rows)
def b9 (F:Nat→Prop)(w:World)(b:Nat):Nat→List (List C)→Prop
 | _,[]=>True
 | off,r :: rs=>aM F w b off r∧b9 F w b (off+r.length) rs
def aM (F:Nat→Prop)(w:World)(b:Nat):Nat→List C→Prop
 | _,[]=>True
 | off,c :: cs=>(∃y,w.cell? ⟨b,off,none⟩=some y∧aH F w c y)∧aM F w b (off+1) cs
end
structure bl (F G:Nat→Prop) (w w':World):Prop where
 size:w.heap.size≤w'.heap.size
 sub : ∀b,F b→b<w.heap.size→G b
 same : ∀b,F b→b<w.heap.size→w'.heap[b]?=w.heap[b]?
mutual
theorem aH.move {F G:Nat→Prop}{w w':World}(k:bl F G w w') : ∀(c:C) (y:Value),aH F w c y→aH G w' c y
 | .int n,y,h=>by unfold aH at h ⊢;exact h
 | .str s,y,h=>by unfold aH at h ⊢;exact h
 | .sl rows,y,h=>by
  unfold aH at h ⊢;obtain⟨a,cap,h1,h2,h3,h4⟩:=h;refine⟨a,cap,h1,h2,h3,?_⟩
  rcases h4 with h4 | ⟨b,off,ha,hb,hl,hr⟩
  ·exact .inl h4
  ·exact .inr ⟨b,off,ha,k.sub b hb hl,Nat.lt_of_lt_of_le hl k.size,b9.move k b hb hl off rows hr⟩
theorem b9.move {F G:Nat→Prop}{w w':World}(k:bl F G w w')(b:Nat)(hb:F b)(hl:b<w.heap.size) :
  ∀(off:Nat) (rows:List (List C)),b9 F w b off rows→b9 G w' b off rows
 | _,[],_=>by unfold b9;trivial
 | off,r :: rs,h=>by
  unfold b9 at h ⊢
  exact⟨aM.move k b hb hl off r h.1,b9.move k b hb hl _ rs h.2⟩
theorem aM.move {F G:Nat→Prop}{w w':World}(k:bl F G w w')(b:Nat)(hb:F b)(hl:b<w.heap.size) :
  ∀(off:Nat) (r:List C),aM F w b off r→aM G w' b off r
 | _,[],_=>by unfold aM;trivial
 | off,c :: cs,h=>by
  unfold aM at h ⊢;obtain⟨⟨y,hy,hc⟩,h2⟩:=h
  exact⟨⟨y,(World.cell?_of_block (a:=⟨b,off,none⟩) (k.same b hb hl)).trans hy,aH.move k c y hc⟩,aM.move k b hb hl _ cs h2⟩
end
theorem bl.below {F:Nat→Prop}{w w':World}(h:Below w.heap.size w w'):bl F F w w':=⟨h.size,fun _ h _=>h,fun b _ hl=>h.block b hl⟩
theorem bl.weaken {F G:Nat→Prop}{w:World}(h : ∀b,F b→b<w.heap.size→G b):bl F G w w:=⟨Nat.le_refl _,h,fun _ _ _=>rfl⟩
def bz (F:Nat→Prop)(w:World):List C→List Value→Prop
 | [],ys=>ys = []
 | c :: cs,ys=>∃z zs,ys=z :: zs∧aH F w c z∧bz F w cs zs
theorem bz.move {F G:Nat→Prop}{w w':World}(k:bl F G w w') : ∀(r:List C) (ys:List Value),bz F w r ys→bz G w' r ys
 | [],_,h=>h
 | _ :: cs,_,⟨z,zs,h,hc,hs⟩=>⟨z,zs,h,hc.move k _ _,hs.move k cs zs⟩
theorem aM.get {F:Nat→Prop}{w:World}{b:Nat} : ∀ {off:Nat} {r:List C},aM F w b off r→∃ys,bz F w r ys∧ys.length=r.length∧∀j (h:j<ys.length),w.cell? ⟨b,off+j,none⟩=some ys[j]
 | _,[],_=>⟨[],rfl,rfl,fun _ h=>absurd h (Nat.not_lt_zero _)⟩
 | off,c :: cs,h=>by
  unfold aM at h;obtain⟨⟨y,hy,hc⟩,h2⟩:=h;obtain⟨ys,hs,hlen,hg⟩:=aM.get h2;refine⟨y :: ys,⟨y,ys,rfl,hc,hs⟩,by simp[hlen],fun j hj=>?_⟩
  cases j with
  | zero=>exact hy
  | succ j=>
   have:=hg j (by simpa using hj);rw[show off+(j+1)=off+1+j from by omega]
   simpa using this
theorem b9.get {F:Nat→Prop}{w:World}{b m:Nat} : ∀ {off:Nat} {rows:List (List C)},b9 F w b off rows→(∀r∈rows,r.length=m)→∀i (h:i<rows.length),aM F w b (off+i*m) rows[i]
 | _,[],_,_,_,h=>absurd h (Nat.not_lt_zero _)
 | off,r :: rs,h,hm,i,hi=>by
  unfold b9 at h
  cases i with
  | zero=>simpa using h.1
  | succ i=>
   have:=b9.get h.2 (fun r hr=>hm r (List.mem_cons_of_mem _ hr)) i (by simpa using hi);rw[hm r (List.mem_cons_self ..)] at this;rw[show off+(i+1)*m=off+m+i*m from by rw[Nat.add_mul];omega]
   simpa using this
theorem aH.rows {F:Nat→Prop}{w:World}{rows:List (List C)}{y:Value}(h:aH F w (.sl rows) y) :
  ∃(a:Option Addr) (cap:Nat),y = .slice a rows.length cap∧rows.length≤cap∧cap≤maxLen∧(rows = []∨∃b off,a=some ⟨b,off,none⟩∧F b∧b<w.heap.size∧b9 F w b off rows):=by
 unfold aH at h;exact h
theorem aH.int_eq {F:Nat→Prop}{w:World}{n:Int}{y:Value}(h:aH F w (.int n) y):y = .int .i64 n:=by unfold aH at h;exact h
theorem aH.str_eq {F:Nat→Prop}{w:World}{s:ByteArray}{y:Value}(h:aH F w (.str s) y):y = .string s∧s.size≤maxLen:=by unfold aH at h;exact h
theorem aj {w W w1:World}(h:Below w.heap.size w W)(h1:Below W.heap.size W w1):Below w.heap.size w w1:=h.trans (h1.mono h.size)
theorem zq {p:Prop}(h:p):Hid p:=Lib.hid h
theorem ai {w:World}{o:Obj}:Below w.heap.size w (w.alloc o):=(Below.refl _ _).alloc (Nat.le_refl _) _
theorem aT {w:World}{o o':Obj}:Below w.heap.size w ((w.alloc o).alloc o'):=aj ai ai
theorem cB {w:World}{o o' o2:Obj}:Below w.heap.size w (((w.alloc o).alloc o').alloc o2):=aj aT ai
theorem ah {w w1:World}{a:Addr}{v:Value}(h:Below w.heap.size w w1)(hc:w.cell? a=some v):w1.cell? a=some v:=
 (h.cell (World.block_lt_of_cell? w a hc)).trans hc
theorem oU {W w1:World}(hb:Below W.heap.size W w1):(∀b o,b<W.heap.size→w1.cell? ⟨b,o,none⟩=W.cell? ⟨b,o,none⟩)∧(∀b o,b<W.heap.size→w1.frozen? ⟨b,o,none⟩=W.frozen? ⟨b,o,none⟩):=
 ⟨fun b o h=>hb.cell (p:=⟨b,o,none⟩) h,fun b o h=>hb.frozen (p:=⟨b,o,none⟩) h⟩
theorem cl {w w1:World}{a:Addr}{v:Value}(h:Below w.drew.heap.size w.drew w1)(hc:w.cell? a=some v):w1.cell? a=some v:=ah (w:=w.drew) h hc
theorem fI {B:Nat}{a w:World}(h:Below B a w)(n:Nat):Below B a (w.drewN n):=⟨h.os,h.tape,h.output,h.size,h.block⟩
theorem bdr {w:World}:Below w.heap.size w w.drew:=(Below.refl _ _).drew
theorem oP {w w1 W:World}(h:Below w.heap.size w W)(h1:Below W.drew.heap.size W.drew w1):Below w.heap.size w w1:=aj h.drew h1
theorem az {w:World}{cs:Array Value}{T:TypeId}(j:Nat):(w.alloc (.cells cs T)).cell? ⟨w.heap.size,j,none⟩=cs[j]?:=by
 unfold World.cell?;rw[heap_alloc_new w _];rfl
theorem bX {w:World}{o:Obj}{cs:Array Value}{T:TypeId}(j:Nat):((w.alloc o).alloc (.cells cs T)).cell? ⟨w.heap.size+1,j,none⟩=cs[j]?:=by
 have h:=az (w:=w.alloc o) (cs:=cs) (T:=T) j;rw[show(w.alloc o).heap.size=w.heap.size+1 from by simp] at h
 exact h
theorem cN {w:World}{o o':Obj}{cs:Array Value}{T:TypeId}(j:Nat):(((w.alloc o).alloc o').alloc (.cells cs T)).cell? ⟨w.heap.size+1+1,j,none⟩=cs[j]?:=by
 have h:=bX (w:=w.alloc o) (o:=o') (cs:=cs) (T:=T) j;rw[show(w.alloc o).heap.size=w.heap.size+1 from by simp] at h
 exact h
theorem aV {w:World}{cs:Array Value}{T:TypeId}(j:Nat):(w.alloc (.cells cs T)).frozen? ⟨w.heap.size,j,none⟩=false:=by
 unfold World.frozen?;rw[heap_alloc_new w _];simp
theorem fo {w:World}{o:Obj}{cs:Array Value}{T:TypeId}(j:Nat):((w.alloc o).alloc (.cells cs T)).frozen? ⟨w.heap.size+1,j,none⟩=false:=by
 have h:=aV (w:=w.alloc o) (cs:=cs) (T:=T) j;rw[show(w.alloc o).heap.size=w.heap.size+1 from by simp] at h
 exact h
theorem eQ {w:World}{o o':Obj}{cs:Array Value}{T:TypeId}(j:Nat):(((w.alloc o).alloc o').alloc (.cells cs T)).frozen? ⟨w.heap.size+1+1,j,none⟩=false:=by
 have h:=fo (w:=w.alloc o) (o:=o') (cs:=cs) (T:=T) j;rw[show(w.alloc o).heap.size=w.heap.size+1 from by simp] at h
 exact h
theorem cC {w w1:World}{b j:Nat}(h:Below w.heap.size w w1)(hb:b<w.heap.size)(hf:w.frozen? ⟨b,j,none⟩=false):w1.frozen? ⟨b,j,none⟩=false:=
 (h.frozen (p:=⟨b,j,none⟩) hb).trans hf
theorem au {a b:Bool}(h:a=b):Ending.returned (.bool a) = .returned (.bool b):=by rw[h]
theorem aY {k:IntKind}{a b:Int}(h:a=b):Ending.returned (.int k a) = .returned (.int k b):=by rw[h]
theorem nL {a b:ByteArray}(h:a=b):Ending.returned (.string a) = .returned (.string b):=by rw[h]
inductive Ty where
 | mk (kind:Int) (kids:List Ty)
def Ty.kind:Ty→Int | .mk k _=>k
def Ty.kids:Ty→List Ty | .mk _ ts=>ts
mutual
def Ty.row:Ty→List C
 | .mk k ts=> [.int k,.sl (Ty.rows ts)]
def Ty.rows:List Ty→List (List C)
 | []=> []
 | t :: ts=>t.row :: Ty.rows ts
end
theorem Ty.rows_eq (ts:List Ty):Ty.rows ts=ts.map Ty.row:=by
 induction ts with
 | nil=>rfl
 | cons t ts ih=>unfold Ty.rows;rw[ih];rfl
theorem Ty.rows_length (ts:List Ty):(Ty.rows ts).length=ts.length:=by rw[Ty.rows_eq];simp
theorem Ty.row_length : ∀t:Ty,t.row.length=2 | .mk _ _=>by unfold Ty.row;rfl
def aA (F:Nat→Prop)(w:World)(ts:List Ty)(y:Value):Prop:=aH F w (.sl (Ty.rows ts)) y
def ao (F:Nat→Prop)(w:World)(t:Ty)(y:Value):Prop:=∃s,y = .agg #[.int .i64 t.kind,s]∧aA F w t.kids s
theorem aA.move {F G:Nat→Prop}{w w':World}{ts:List Ty}{y:Value}(h:aA F w ts y)(k:bl F G w w'):aA G w' ts y:=aH.move k _ _ h
theorem ao.move {F G:Nat→Prop}{w w':World}{t:Ty}{y:Value}(h:ao F w t y)(k:bl F G w w'):ao G w' t y:=
 let ⟨s,h1,h2⟩:=h;⟨s,h1,h2.move k⟩
theorem ao.below {F:Nat→Prop}{w w':World}{t:Ty}{y:Value}(h:ao F w t y)(k:Below w.heap.size w w'):ao F w' t y:=h.move (.below k)
theorem aA.below {F:Nat→Prop}{w w':World}{t:List Ty}{y:Value}(h:aA F w t y)(k:Below w.heap.size w w'):aA F w' t y:=h.move (.below k)
theorem aA.open {F:Nat→Prop}{w:World}{ts:List Ty}{y:Value}(h:aA F w ts y) :
  ∃(a:Option Addr) (cap:Nat),y = .slice a ts.length cap∧ts.length≤cap∧cap≤maxLen ∧
   ∀i (h:i<ts.length),∃b off k c m q,a=some ⟨b,off,none⟩∧w.cell? ⟨b,off+i*2,none⟩=some (.int .i64 k)∧w.cell? ⟨b,off+i*2+1,none⟩=some (.slice c m q)∧ao F w ts[i] (.agg #[.int .i64 k,.slice c m q]):=by
 obtain⟨a,cap,h1,h2,h3,h4⟩:=aH.rows h;rw[Ty.rows_length] at h1 h2;refine⟨a,cap,h1,h2,h3,fun i hi=>?_⟩
 rcases h4 with h4 | ⟨b,off,ha,hF,hl,hr⟩
 ·rw[←Ty.rows_length,h4] at hi;exact absurd hi (Nat.not_lt_zero _)
 ·have hc:=hr.get (m:=2) (fun r hr=>by rw[Ty.rows_eq] at hr;obtain⟨t,_,rfl⟩:=List.mem_map.1 hr;exact t.row_length) i (by rw[Ty.rows_length];exact hi)
  have he:(Ty.rows ts)[i]'(by rw[Ty.rows_length];exact hi)=ts[i].row:=by simp[Ty.rows_eq]
  rw[he] at hc;obtain⟨k,ks,ht⟩ : ∃k ks,ts[i]=Ty.mk k ks:=⟨ts[i].kind,ts[i].kids,by cases ts[i];rfl⟩
  rw[ht] at hc ⊢;unfold Ty.row aM at hc;obtain⟨⟨y0,hy0,hc0⟩,hc⟩:=hc;unfold aM at hc;obtain⟨⟨y1,hy1,hc1⟩,_⟩:=hc;rw[aH.int_eq hc0] at hy0;obtain⟨c,q,rfl,_⟩:=aH.rows hc1
  exact⟨b,off,k,c,_,q,ha,hy0,hy1,_,rfl,hc1⟩
theorem ao.open {F:Nat→Prop}{w:World}{t:Ty}{y:Value}(h:ao F w t y) :
  ∃(a:Option Addr) (cap:Nat),y = .agg #[.int .i64 t.kind,.slice a t.kids.length cap]∧t.kids.length≤cap∧cap≤maxLen∧aA F w t.kids (.slice a t.kids.length cap):=by
 obtain⟨s,rfl,hs⟩:=h;obtain⟨a,cap,rfl,h2,h3,_⟩:=hs.open
 exact⟨a,cap,rfl,h2,h3,hs⟩
theorem ao.shape {F:Nat→Prop}{w:World}{t:Ty}{y:Value}(h:ao F w t y) : ∃k a n q,y = .agg #[.int .i64 k,.slice a n q]:=by
 obtain⟨a,q,rfl,_⟩:=h.open
 exact⟨_,a,_,q,rfl⟩
theorem aA.shape {F:Nat→Prop}{w:World}{t:List Ty}{y:Value}(h:aA F w t y) : ∃a n q,y = .slice a n q:=by
 obtain⟨a,q,rfl,_⟩:=h.open
 exact⟨a,_,q,rfl⟩
theorem Ty.kid_lt {t:Ty}{x:Ty}(h:x∈t.kids):SizeOf.sizeOf x<SizeOf.sizeOf t:=by
 cases t with
 | mk k ts=>have:=List.sizeOf_lt_of_mem h;simp only[Ty.kids] at h this;simp;omega
mutual
def Ty.cnt:Ty→Nat
 | .mk _ ts=>ts.length+Ty.cnts ts
def Ty.cnts:List Ty→Nat
 | []=>0
 | t :: ts=>t.cnt+Ty.cnts ts
end
theorem Ty.cnts_take_succ : ∀(ts:List Ty) (j:Nat) (h:j<ts.length),Ty.cnts (ts.take (j+1))=Ty.cnts (ts.take j)+ts[j].cnt
 | [],_,h=>absurd h (Nat.not_lt_zero _)
 | t :: ts,0,_=>by simp[Ty.cnts]
 | t :: ts,j+1,h=>by
  have:=Ty.cnts_take_succ ts j (by simpa using h);simp only[List.take_succ_cons,Ty.cnts,List.getElem_cons_succ]
  omega
theorem Ty.cnts_take_le : ∀(ts:List Ty) (j:Nat),Ty.cnts (ts.take j)≤Ty.cnts ts
 | [],_=>by simp
 | t :: ts,0=>by simp[Ty.cnts]
 | t :: ts,j+1=>by
  have:=Ty.cnts_take_le ts j;simp only[List.take_succ_cons,Ty.cnts]
  omega
theorem Ty.cnt_mem : ∀ {ts:List Ty} {t:Ty},t∈ts→t.cnt≤Ty.cnts ts
 | u :: ts,t,h=>by
  rcases List.mem_cons.1 h with rfl | h
  ·simp only[Ty.cnts];omega
  ·have:=Ty.cnt_mem h;simp only[Ty.cnts];omega
theorem Ty.cnt_kid {t x:Ty}(h:x∈t.kids):x.cnt+t.kids.length≤t.cnt:=by
 cases t with
 | mk k ts=>have h2:x∈ts:=h;have:=Ty.cnt_mem h2;simp only[Ty.kids,Ty.cnt];omega
theorem aA.at {F:Nat→Prop}{w wr:World}{ts:List Ty}{a:Option Addr}{n cap:Nat}(h:aA F w ts (.slice a n cap))(hb:Below w.heap.size w wr){i:Nat}(hi:i<ts.length) :
  ∃b off k c m q,a=some ⟨b,off,none⟩∧b<wr.heap.size∧wr.cell? ⟨b,off+i*2,none⟩=some (.int .i64 k)∧wr.cell? ⟨b,off+i*2+1,none⟩=some (.slice c m q)∧ao F wr ts[i] (.agg #[.int .i64 k,.slice c m q]):=by
 obtain⟨a',cap',he,_,_,hg⟩:=h.open;simp only[Value.slice.injEq] at he;obtain⟨rfl,_,rfl⟩:=he;obtain⟨b,off,k,c,m,q,ha,h0,h1,ht⟩:=hg i hi;have e0:=(hb.cell (p:=⟨b,off+i*2,none⟩) (World.block_lt_of_cell? w _ h0)).trans h0
 exact⟨b,off,k,c,m,q,ha,World.block_lt_of_cell? wr _ e0,e0,(hb.cell (p:=⟨b,off+i*2+1,none⟩) (World.block_lt_of_cell? w _ h1)).trans h1,ht.below hb⟩
mutual
def aF (w:World):C→Value→List Nat→Prop
 | .int n,y,fp=>y = .int .i64 n∧fp = []
 | .str s,y,fp=>y = .string s∧s.size≤maxLen∧fp = []
 | .sl rows,y,fp=>∃(a:Option Addr) (cap:Nat),y = .slice a rows.length cap∧rows.length≤cap∧cap≤maxLen ∧
   ((rows = []∧fp = [])∨∃b fps cs T,a=some ⟨b,0,none⟩∧fp=b :: fps∧w.heap[b]?=some (.cells cs T (0,0))∧aG w b 0 rows fps)
def aG (w:World)(b:Nat):Nat→List (List C)→List Nat→Prop
 | _,[],fp=>fp = []
 | off,r :: rs,fp=>∃f1 f2,fp=f1++f2∧b3 w b off r f1∧aG w b (off+r.length) rs f2
def b3 (w:World)(b:Nat):Nat→List C→List Nat→Prop
 | _,[],fp=>fp = []
 | off,c :: cs,fp=>∃y f1 f2,fp=f1++f2∧w.cell? ⟨b,off,none⟩=some y∧aF w c y f1∧b3 w b (off+1) cs f2
end
mutual
theorem aF.move {w w':World} : ∀(c:C) (y:Value) (fp:List Nat),(∀b∈fp,w'.heap[b]?=w.heap[b]?)→aF w c y fp→aF w' c y fp
 | .int n,y,fp,_,h=>by unfold aF at h ⊢;exact h
 | .str s,y,fp,_,h=>by unfold aF at h ⊢;exact h
 | .sl rows,y,fp,k,h=>by
  unfold aF at h ⊢;obtain⟨a,cap,h1,h2,h3,h4⟩:=h;refine⟨a,cap,h1,h2,h3,?_⟩
  rcases h4 with h4 | ⟨b,fps,cs,T,ha,rfl,hb,hr⟩
  ·exact .inl h4
  ·refine .inr ⟨b,fps,cs,T,ha,rfl,(k b (List.mem_cons_self ..)).trans hb,aG.move 0 rows fps (fun x hx=>k x (List.mem_cons_of_mem _ hx)) (fun o=>?_) hr⟩
   intro _ _
   exact World.cell?_of_block (a:=⟨b,o,none⟩) (k b (List.mem_cons_self ..))
theorem aG.move {w w':World}{b:Nat} : ∀(off:Nat) (rows:List (List C)) (fp:List Nat),(∀x∈fp,w'.heap[x]?=w.heap[x]?) →
  (∀o,off≤o→o<off+rows.flatten.length→w'.cell? ⟨b,o,none⟩=w.cell? ⟨b,o,none⟩)→aG w b off rows fp→aG w' b off rows fp
 | _,[],_,_,_,h=>by unfold aG at h ⊢;exact h
 | off,r :: rs,fp,k,kc,h=>by
  unfold aG at h ⊢;obtain⟨f1,f2,rfl,h1,h2⟩:=h;simp only[List.flatten_cons,List.length_append] at kc
  exact⟨f1,f2,rfl,b3.move off r f1 (fun x hx=>k x (List.mem_append_left _ hx)) (fun o a c=>kc o a (by omega)) h1,
    aG.move _ rs f2 (fun x hx=>k x (List.mem_append_right _ hx)) (fun o a c=>kc o (by omega) (by omega)) h2⟩
theorem b3.move {w w':World}{b:Nat} : ∀(off:Nat) (r:List C) (fp:List Nat),(∀x∈fp,w'.heap[x]?=w.heap[x]?) →
  (∀o,off≤o→o<off+r.length→w'.cell? ⟨b,o,none⟩=w.cell? ⟨b,o,none⟩)→b3 w b off r fp→b3 w' b off r fp
 | _,[],_,_,_,h=>by unfold b3 at h ⊢;exact h
 | off,c :: cs,fp,k,kc,h=>by
  unfold b3 at h ⊢;obtain⟨y,f1,f2,rfl,hy,h1,h2⟩:=h;simp only[List.length_cons] at kc
  exact⟨y,f1,f2,rfl,(kc off (by omega) (by omega)).trans hy,aF.move c y f1 (fun x hx=>k x (List.mem_append_left _ hx)) h1,
    b3.move _ cs f2 (fun x hx=>k x (List.mem_append_right _ hx)) (fun o a c=>kc o (by omega) (by omega)) h2⟩
end
mutual
theorem aF.lt {w:World} : ∀(c:C) (y:Value) (fp:List Nat),aF w c y fp→∀b∈fp,b<w.heap.size
 | .int n,y,fp,h=>by unfold aF at h;obtain⟨_,rfl⟩:=h;simp
 | .str s,y,fp,h=>by unfold aF at h;obtain⟨_,_,rfl⟩:=h;simp
 | .sl rows,y,fp,h=>by
  unfold aF at h;obtain⟨a,cap,_,_,_,⟨_,rfl⟩ | ⟨b,fps,cs,T,_,rfl,hb,hr⟩⟩:=h
  ·simp
  ·intro x hx
   rcases List.mem_cons.1 hx with rfl | hx
   ·exact(Array.getElem?_eq_some_iff.1 hb).1
   ·exact aG.lt 0 rows fps hr x hx
theorem aG.lt {w:World}{b:Nat} : ∀(off:Nat) (rows:List (List C)) (fp:List Nat),aG w b off rows fp→∀x∈fp,x<w.heap.size
 | _,[],_,h=>by unfold aG at h;subst h;simp
 | off,r :: rs,fp,h=>by
  unfold aG at h;obtain⟨f1,f2,rfl,h1,h2⟩:=h;intro x hx
  rcases List.mem_append.1 hx with hx | hx
  ·exact b3.lt off r f1 h1 x hx
  ·exact aG.lt _ rs f2 h2 x hx
theorem b3.lt {w:World}{b:Nat} : ∀(off:Nat) (r:List C) (fp:List Nat),b3 w b off r fp→∀x∈fp,x<w.heap.size
 | _,[],_,h=>by unfold b3 at h;subst h;simp
 | off,c :: cs,fp,h=>by
  unfold b3 at h;obtain⟨y,f1,f2,rfl,hy,h1,h2⟩:=h;intro x hx
  rcases List.mem_append.1 hx with hx | hx
  ·exact aF.lt c y f1 h1 x hx
  ·exact b3.lt _ cs f2 h2 x hx
end
mutual
theorem aF.rep {w:World}{F:Nat→Prop} : ∀(c:C) (y:Value) (fp:List Nat),(∀b∈fp,F b)→aF w c y fp→aH F w c y
 | .int n,y,fp,_,h=>by unfold aF at h;unfold aH;exact h.1
 | .str s,y,fp,_,h=>by unfold aF at h;unfold aH;exact⟨h.1,h.2.1⟩
 | .sl rows,y,fp,k,h=>by
  unfold aF at h;unfold aH;obtain⟨a,cap,h1,h2,h3,h4⟩:=h;refine⟨a,cap,h1,h2,h3,?_⟩
  rcases h4 with ⟨h4,_⟩ | ⟨b,fps,cs,T,ha,rfl,hb,hr⟩
  ·exact .inl h4
  ·exact .inr ⟨b,0,ha,k b (List.mem_cons_self ..),(Array.getElem?_eq_some_iff.1 hb).1,aG.rep 0 rows fps (fun x hx=>k x (List.mem_cons_of_mem _ hx)) hr⟩
theorem aG.rep {w:World}{F:Nat→Prop}{b:Nat} : ∀(off:Nat) (rows:List (List C)) (fp:List Nat),(∀x∈fp,F x)→aG w b off rows fp→b9 F w b off rows
 | _,[],_,_,_=>by unfold b9;trivial
 | off,r :: rs,fp,k,h=>by
  unfold aG at h;unfold b9;obtain⟨f1,f2,rfl,h1,h2⟩:=h
  exact⟨b3.rep off r f1 (fun x hx=>k x (List.mem_append_left _ hx)) h1,aG.rep _ rs f2 (fun x hx=>k x (List.mem_append_right _ hx)) h2⟩
theorem b3.rep {w:World}{F:Nat→Prop}{b:Nat} : ∀(off:Nat) (r:List C) (fp:List Nat),(∀x∈fp,F x)→b3 w b off r fp→aM F w b off r
 | _,[],_,_,_=>by unfold aM;trivial
 | off,c :: cs,fp,k,h=>by
  unfold b3 at h;unfold aM;obtain⟨y,f1,f2,rfl,hy,h1,h2⟩:=h
  exact⟨⟨y,hy,aF.rep c y f1 (fun x hx=>k x (List.mem_append_left _ hx)) h1⟩,b3.rep _ cs f2 (fun x hx=>k x (List.mem_append_right _ hx)) h2⟩
end
theorem aG.snoc {w:World}{b:Nat} : ∀ {off:Nat} {rows:List (List C)} {fp f:List Nat} {r:List C},aG w b off rows fp→b3 w b (off+rows.flatten.length) r f→aG w b off (rows ++ [r]) (fp++f)
 | off,[],fp,f,r,h,hr=>by
  unfold aG at h;subst h;simp only[List.nil_append];unfold aG
  exact⟨f,[],by simp,by simpa using hr,by unfold aG;rfl⟩
 | off,r' :: rs,fp,f,r,h,hr=>by
  unfold aG at h;obtain⟨f1,f2,rfl,h1,h2⟩:=h;have:=aG.snoc (f:=f) (r:=r) h2 (by rw[List.flatten_cons,List.length_append] at hr;rw[Nat.add_assoc];exact hr);simp only[List.cons_append];unfold aG
  exact⟨f1,f2++f,by simp,h1,this⟩
theorem aF.sl_mk {w:World}{b n cap:Nat}{rows:List (List C)}{fps:List Nat}{cs:Array Value}{T:TypeId}(hb:w.heap[b]?=some (.cells cs T (0,0)))(hn:rows.length=n)(hc:n≤cap)(hm:cap≤maxLen)
  (h:aG w b 0 rows fps) : ∃fp,aF w (.sl rows) (.slice (some ⟨b,0,none⟩) n cap) fp∧(∀x∈fp,x=b∨x∈fps)∧(fps.Nodup→b∉fps→fp.Nodup):=by
 subst hn;refine⟨b :: fps,?_,fun x hx=>List.mem_cons.1 hx,fun h1 h2=>List.nodup_cons.2 ⟨h2,h1⟩⟩;unfold aF
 exact⟨_,cap,rfl,hc,hm,.inr ⟨b,fps,cs,T,rfl,rfl,hb,h⟩⟩
theorem aF.sl_nil {w:World}{a:Option Addr}{cap:Nat}(hm:cap≤maxLen):aF w (.sl []) (.slice a 0 cap) []:=by
 unfold aF
 exact⟨a,cap,rfl,Nat.zero_le _,hm,.inl ⟨rfl,rfl⟩⟩
def lK (w:World)(b:Nat):Nat→List Value→World
 | _,[]=>w
 | off,v :: vs=>lK (w.setCell ⟨b,off,none⟩ v) b (off+1) vs
theorem dU : ∀(vs:List Value) (w:World) (b off k:Nat),k≠b→(lK w b off vs).heap[k]?=w.heap[k]?
 | [],_,_,_,_,_=>rfl
 | v :: vs,w,b,off,k,h=>(dU vs _ b _ k h).trans (Below.heap_setCell w ⟨b,off,none⟩ v k h)
theorem cz {w:World}{b off:Nat}{v:Value}{cs:Array Value}{T:TypeId}{fr:Nat × Nat}(h:w.heap[b]?=some (.cells cs T fr)) :
  (w.setCell ⟨b,off,none⟩ v).heap[b]?=some (.cells (cs.setIfInBounds off v) T fr):=by
 simp[World.setCell,Array.getElem?_modify,h]
theorem jB : ∀(vs:List Value) (w:World) (b off:Nat) (cs:Array Value) (T:TypeId) (fr:Nat × Nat),w.heap[b]?=some (.cells cs T fr) →
  ∃cs',(lK w b off vs).heap[b]?=some (.cells cs' T fr)∧cs'.size=cs.size∧(∀o,o<off∨off+vs.length≤o→cs'[o]?=cs[o]?)∧(∀i,i<vs.length→off+i<cs.size→cs'[off+i]?=vs[i]?)
 | [],w,b,off,cs,T,fr,h=>⟨cs,h,rfl,fun _ _=>rfl,fun _ hi=>absurd hi (Nat.not_lt_zero _)⟩
 | v :: vs,w,b,off,cs,T,fr,h=>by
  obtain⟨cs',h1,h2,h3,h4⟩:=jB vs (w.setCell ⟨b,off,none⟩ v) b (off+1) _ T fr (cz h);rw[Array.size_setIfInBounds] at h2 h4;refine⟨cs',h1,h2,fun o ho=>?_,fun i hi hl=>?_⟩
  ·rw[h3 o (by rcases ho with ho | ho;exact .inl (by omega);exact .inr (by simp only[List.length_cons] at ho;omega))]
   rw[Array.getElem?_setIfInBounds_ne (by rcases ho with ho | ho;omega;simp only[List.length_cons] at ho;omega)]
  ·cases i with
   | zero=>
    rw[h3 _ (.inl (by omega))];simp only[Nat.add_zero,List.getElem?_cons_zero];rw[Array.getElem?_setIfInBounds_self]
    simp at hl
    simp[hl]
   | succ i=>
    have:=h4 i (by simpa using hi) (by omega);rw[show off+(i+1)=off+1+i from by omega,this]
    simp
def bf (w:World):List C→List Value→List Nat→Prop
 | [],ys,fp=>ys = []∧fp = []
 | c :: cs,ys,fp=>∃z zs f1 f2,ys=z :: zs∧fp=f1++f2∧aF w c z f1∧bf w cs zs f2
theorem bf.len {w:World} : ∀(r:List C) (ys:List Value) (fp:List Nat),bf w r ys fp→ys.length=r.length
 | [],_,_,⟨h,_⟩=>by rw[h];rfl
 | c :: cs,_,_,⟨z,zs,f1,f2,h,_,_,h2⟩=>by rw[h,List.length_cons,List.length_cons,bf.len cs zs f2 h2]
theorem bf.lt {w:World} : ∀(r:List C) (ys:List Value) (fp:List Nat),bf w r ys fp→∀b∈fp,b<w.heap.size
 | [],_,_,⟨_,h⟩=>by subst h;simp
 | c :: cs,_,_,⟨z,zs,f1,f2,_,h,h1,h2⟩=>by
  subst h;intro b hb
  rcases List.mem_append.1 hb with hb | hb
  ·exact aF.lt _ _ _ h1 b hb
  ·exact bf.lt cs zs f2 h2 b hb
theorem bf.move {w w':World} : ∀(r:List C) (ys:List Value) (fp:List Nat),(∀b∈fp,w'.heap[b]?=w.heap[b]?)→bf w r ys fp→bf w' r ys fp
 | [],_,_,_,h=>h
 | c :: cs,_,_,k,⟨z,zs,f1,f2,e,h,h1,h2⟩=>by
  subst h
  exact⟨z,zs,f1,f2,e,rfl,aF.move _ _ _ (fun b hb=>k b (List.mem_append_left _ hb)) h1,bf.move cs zs f2 (fun b hb=>k b (List.mem_append_right _ hb)) h2⟩
theorem bf.cells {w:World}{b:Nat} : ∀(r:List C) (ys:List Value) (fp:List Nat) (off:Nat),bf w r ys fp→(∀i,i<ys.length→w.cell? ⟨b,off+i,none⟩=ys[i]?)→b3 w b off r fp
 | [],_,_,_,⟨_,h⟩,_=>by subst h;unfold b3;rfl
 | c :: cs,_,_,off,⟨z,zs,f1,f2,e,h,h1,h2⟩,k=>by
  subst h e;unfold b3;refine⟨z,f1,f2,rfl,by simpa using k 0 (by simp),h1,bf.cells cs zs f2 _ h2 fun i hi=>?_⟩;have:=k (i+1) (by simpa using hi);rw[show off+1+i=off+(i+1) from by omega]
  simpa using this
def cw (B g N:Nat)(T:TypeId)(w:World)(rows:List (List C)):Prop:=
 ∃fps cs,w.heap[g]?=some (.cells cs T (0,0))∧cs.size=N∧aG w g 0 rows fps∧fps.Nodup∧g∉fps∧B≤g∧∀x∈fps,B≤x
theorem cw.lt {B g N:Nat}{T:TypeId}{w:World}{rows:List (List C)}(h:cw B g N T w rows):g<w.heap.size:=by
 obtain⟨fps,cs,hg,_⟩:=h
 exact(Array.getElem?_eq_some_iff.1 hg).1
theorem cw.below {B g N:Nat}{T:TypeId}{w w':World}{rows:List (List C)}(h:cw B g N T w rows)(k:Below w.heap.size w w'):cw B g N T w' rows:=by
 obtain⟨fps,cs,hg,hN,hr,hd,hn,hB,hx⟩:=h
 exact⟨fps,cs,(k.block g (Array.getElem?_eq_some_iff.1 hg).1).trans hg,hN,
   hr.move _ _ _ (fun x hx=>k.block x (hr.lt _ _ _ x hx)) (fun o _ _=>World.cell?_of_block (a:=⟨g,o,none⟩) (k.block g (Array.getElem?_eq_some_iff.1 hg).1)),hd,hn,hB,hx⟩
theorem cw.made {N:Nat}{T:TypeId}{w:World}{cs:Array Value}(h:cs.size=N):cw w.heap.size w.heap.size N T (w.alloc (.cells cs T)) []:=
 ⟨[],cs,heap_alloc_new w _,h,by unfold aG;rfl,List.nodup_nil,by simp,Nat.le_refl _,by simp⟩
theorem cw.cell {B g N:Nat}{T:TypeId}{w:World}{rows:List (List C)}(h:cw B g N T w rows)(o:Nat)(ho:o<N):(∃v,w.cell? ⟨g,o,none⟩=some v)∧w.frozen? ⟨g,o,none⟩=false:=by
 obtain⟨fps,cs,hg,hN,_⟩:=h;refine⟨⟨cs[o]'(by omega),by simp[World.cell?,hg,hN,ho]⟩,by simp[World.frozen?,hg]⟩
theorem cw.store {B g N o:Nat}{T:TypeId}{w w1:World}{rows:List (List C)}{r:List C}{vs:List Value}{fpv:List Nat}(h:cw B g N T w rows)(hb:Below w.heap.size w w1)
  (hv:bf w1 r vs fpv) (hd:fpv.Nodup) (hx : ∀x∈fpv,w.heap.size≤x) (hBw:B≤w.heap.size) (ho:rows.flatten.length=o) (room:o+r.length≤N):cw B g N T (lK w1 g o vs) (rows ++ [r]):=by
 have hlt:=h.lt;obtain⟨fps,cs,hg0,hN,hr0,hd1,hn,hB,hx1⟩:=h;have hg:=(hb.block g hlt).trans hg0;have hr:=hr0.move _ _ _ (fun x hx=>hb.block x (aG.lt _ _ _ hr0 x hx)) (fun o _ _=>World.cell?_of_block (a:=⟨g,o,none⟩) (hb.block g hlt));have hfl : ∀x∈fps,x<w.heap.size:=fun x hx=>aG.lt _ _ _ hr0 x hx;obtain⟨cs',h1,h2,h3,h4⟩:=jB vs w1 g o cs T (0,0) hg;have hlen:=bf.len _ _ _ hv;have hgn : ∀x∈fpv,x≠g:=fun x hx' e=>by have:=hx x hx';omega
 refine⟨fps++fpv,cs',h1,by omega,?_,?_,?_,hB,?_⟩
 ·refine aG.snoc (hr.move _ _ _ (fun x hx'=>dU vs w1 g o x (fun e=>hn (e▸hx'))) (fun o' _ ho'=>?_)) ?_
  ·rw[ho] at ho'
   simp only[World.cell?,h1,hg]
   simp
   exact h3 o' (.inl (by omega))
  ·rw[ho]
   refine bf.cells _ _ _ _ (hv.move _ _ _ fun x hx'=>dU vs w1 g o x (hgn x hx')) fun i hi=>?_;simp only[World.cell?,h1]
   simp
   exact h4 i hi (by omega)
 ·exact List.nodup_append.2 ⟨hd1,hd,fun x hx1 y hy e=>by have:=hfl x hx1;have:=hx y hy;omega⟩
 ·intro hm
  rcases List.mem_append.1 hm with hm | hm
  ·exact hn hm
  ·exact hgn g hm rfl
 ·intro x hm
  rcases List.mem_append.1 hm with hm | hm
  ·exact hx1 x hm
  ·exact Nat.le_trans hBw (hx x hm)
theorem cw.slice {B g N n cap:Nat}{T:TypeId}{w:World}{rows:List (List C)}(h:cw B g N T w rows)(hn:rows.length=n)(hc:n≤cap)(hm:cap≤maxLen) :
  ∃fp,aF w (.sl rows) (.slice (some ⟨g,0,none⟩) n cap) fp∧fp.Nodup∧∀b∈fp,B≤b:=by
 obtain⟨fps,cs,hg,hN,hr,hd,hnn,hB,hx⟩:=h;obtain⟨fp,h1,h2,h3⟩:=aF.sl_mk hg hn hc hm hr
 exact⟨fp,h1,h3 hd hnn,fun b hb=>by rcases h2 b hb with rfl | h;exact hB;exact hx b h⟩
def bT (w:World)(t:Ty)(y:Value)(fp:List Nat):Prop:=∃s,y = .agg #[.int .i64 t.kind,s]∧aF w (.sl (Ty.rows t.kids)) s fp
def cp (w:World)(ts:List Ty)(y:Value)(fp:List Nat):Prop:=aF w (.sl (Ty.rows ts)) y fp
def bh (B:Nat)(w:World)(t:Ty)(y:Value):Prop:=∃fp,bT w t y fp∧fp.Nodup∧∀b∈fp,B≤b
def bg (B:Nat)(w:World)(ts:List Ty)(y:Value):Prop:=∃fp,cp w ts y fp∧fp.Nodup∧∀b∈fp,B≤b
theorem bT.shape {w:World}{t:Ty}{y:Value}{fp:List Nat}(h:bT w t y fp) : ∃k a n q,y = .agg #[.int .i64 k,.slice a n q]∧k=t.kind∧cp w t.kids (.slice a n q) fp:=by
 obtain⟨s,rfl,h⟩:=h;have h':=h;unfold aF at h';obtain⟨a,q,rfl,_⟩:=h'
 exact⟨_,a,_,q,rfl,rfl,h⟩
theorem bT.below {w w':World}{t:Ty}{y:Value}{fp:List Nat}(h:bT w t y fp)(k:Below w.heap.size w w'):bT w' t y fp:=
 let ⟨s,h1,h2⟩:=h;⟨s,h1,h2.move _ _ _ fun b hb=>k.block b (h2.lt _ _ _ b hb)⟩
theorem bT.rep {w:World}{t:Ty}{y:Value}{fp:List Nat}(h:bT w t y fp):ao (· ∈ fp) w t y:=
 let ⟨s,h1,h2⟩:=h;⟨s,h1,h2.rep _ _ _ fun _ hb=>hb⟩
theorem bh.below {B:Nat}{w w':World}{t:Ty}{y:Value}(h:bh B w t y)(k:Below w.heap.size w w'):bh B w' t y:=
 let ⟨fp,h1,h2,h3⟩:=h;⟨fp,h1.below k,h2,h3⟩
theorem bh.rep {B:Nat}{w:World}{t:Ty}{y:Value}(h:bh B w t y):ao (B ≤ ·) w t y:=
 let ⟨fp,h1,_,h3⟩:=h;h1.rep.move (.weaken fun b hb _=>h3 b hb)
theorem bg.rep {B:Nat}{w:World}{ts:List Ty}{y:Value}(h:bg B w ts y):aA (B ≤ ·) w ts y:=
 let ⟨_,h1,_,h3⟩:=h;aF.rep _ _ _ (fun b hb=>h3 b hb) h1
theorem bg.below {B:Nat}{w w':World}{ts:List Ty}{y:Value}(h:bg B w ts y)(k:Below w.heap.size w w'):bg B w' ts y:=
 let ⟨fp,h1,h2,h3⟩:=h;⟨fp,aF.move _ _ _ (fun b hb=>k.block b (aF.lt _ _ _ h1 b hb)) h1,h2,h3⟩
theorem bh.shape {B:Nat}{w:World}{t:Ty}{y:Value}(h:bh B w t y) : ∃k a n q,y = .agg #[.int .i64 k,.slice a n q]:=by
 obtain⟨fp,⟨s,rfl,h⟩,_⟩:=h;unfold aF at h;obtain⟨a,q,rfl,_⟩:=h
 exact⟨_,a,_,q,rfl⟩
theorem bg.setCell {B:Nat}{w:World}{ts:List Ty}{y:Value}(h:bg B w ts y){p:Addr}(hp:p.block<B)(v:Value):bg B (w.setCell p v) ts y:=by
 obtain⟨fp,h1,h2,h3⟩:=h
 exact⟨fp,aF.move _ _ _ (fun b hb=>Below.heap_setCell w p v b (by have:=h3 b hb;omega)) h1,h2,h3⟩
theorem bg.ty {B:Nat}{w:World}{k:Int}{ts:List Ty}{y:Value}(h:bg B w ts y):bh B w (.mk k ts) (.agg #[.int .i64 k,y]):=by
 obtain⟨fp,h1,h2,h3⟩:=h
 exact⟨fp,⟨y,rfl,h1⟩,h2,h3⟩
theorem bh.setCell {B:Nat}{w:World}{t:Ty}{y:Value}(h:bh B w t y){p:Addr}(hp:p.block<B)(v:Value):bh B (w.setCell p v) t y:=by
 obtain⟨fp,⟨s,hs,h1⟩,h2,h3⟩:=h
 exact⟨fp,⟨s,hs,aF.move _ _ _ (fun b hb=>Below.heap_setCell w p v b (by have:=h3 b hb;omega)) h1⟩,h2,h3⟩
theorem bh.mono {B B':Nat}{w:World}{t:Ty}{y:Value}(h:bh B w t y)(hB:B'≤B):bh B' w t y:=
 let ⟨fp,h1,h2,h3⟩:=h;⟨fp,h1,h2,fun b hb=>Nat.le_trans hB (h3 b hb)⟩
theorem bg.mono {B B':Nat}{w:World}{t:List Ty}{y:Value}(h:bg B w t y)(hB:B'≤B):bg B' w t y:=
 let ⟨fp,h1,h2,h3⟩:=h;⟨fp,h1,h2,fun b hb=>Nat.le_trans hB (h3 b hb)⟩
theorem Ty.flatten_length (ts:List Ty):(Ty.rows ts).flatten.length=ts.length*2:=by
 induction ts with
 | nil=>unfold Ty.rows;rfl
 | cons t ts ih=>unfold Ty.rows;rw[List.flatten_cons,List.length_append,ih,t.row_length,List.length_cons];omega
theorem bT.cells {w:World}{t:Ty}{s:Value}{fp:List Nat}{k:Int}(h:bT w t (.agg #[.int .i64 k,s]) fp):bf w t.row [.int .i64 k,s] fp:=by
 obtain⟨s',he,h⟩:=h
 cases t with | mk k' ts=>
 simp only[Value.agg.injEq,Array.mk.injEq,List.cons.injEq,Value.int.injEq,true_and,and_true] at he;obtain⟨rfl,rfl⟩:=he;unfold Ty.row
 exact⟨_,_,[],fp,rfl,rfl,by unfold aF;exact⟨rfl,rfl⟩,_,_,fp,[],rfl,by simp,h,rfl,rfl⟩
theorem bh.open {B:Nat}{w:World}{t:Ty}{y:Value}(h:bh B w t y) : ∃k c m q fp,y = .agg #[.int .i64 k,.slice c m q]∧k=t.kind∧m=t.kids.length∧bf w t.row [.int .i64 k,.slice c m q] fp∧fp.Nodup∧∀b∈fp,B≤b:=by
 obtain⟨fp,h1,h2,h3⟩:=h;obtain⟨s,rfl,h⟩:=h1;have h':=h;unfold aF at h';obtain⟨a,cap,rfl,_⟩:=h'
 exact⟨_,a,_,cap,fp,rfl,rfl,Ty.rows_length _,bT.cells ⟨_,rfl,h⟩,h2,h3⟩
theorem cA {w:World}{p a:Addr}{v u:Value}(h:w.cell? a=some u)(hne:p≠a):(w.setCell p v).cell? a=some u:=(World.cell?_setCell_other w p a v hne).trans h
theorem bE {w:World}{b o:Nat}{v u:Value}(h:w.cell? ⟨b,o,none⟩=some u):(w.setCell ⟨b,o,none⟩ v).cell? ⟨b,o,none⟩=some v:=by
 simp only[World.cell?] at h
 split at h
 ·rename_i cs T fr hb
  simp at h
  have hlt:=(Array.getElem?_eq_some_iff.1 h).1;simp only[World.cell?,cz hb]
  simp
  rw[Array.getElem?_setIfInBounds_self]
  simp[hlt]
 ·cases h
theorem dK (w:World)(p:Addr)(v:Value)(a:Addr):(w.setCell p v).frozen? a=w.frozen? a:=by simp
def b5 (w:World):List (List C)→List Value→List Nat→Prop
 | [],xs,fps=>xs = []∧fps = []
 | r :: rs,xs,fps=>∃ys xs' f1 f2,xs=ys++xs'∧fps=f1++f2∧bf w r ys f1∧b5 w rs xs' f2
theorem b5.move {w w':World} : ∀(rs:List (List C)) (xs:List Value) (fps:List Nat),(∀b∈fps,w'.heap[b]?=w.heap[b]?)→b5 w rs xs fps→b5 w' rs xs fps
 | [],_,_,_,h=>h
 | r :: rs,_,_,k,⟨ys,xs',f1,f2,e,h,h1,h2⟩=>by
  subst h
  exact⟨ys,xs',f1,f2,e,rfl,h1.move _ _ _ (fun b hb=>k b (List.mem_append_left _ hb)),b5.move rs xs' f2 (fun b hb=>k b (List.mem_append_right _ hb)) h2⟩
theorem b5.lt {w:World} : ∀(rs:List (List C)) (xs:List Value) (fps:List Nat),b5 w rs xs fps→∀b∈fps,b<w.heap.size
 | [],_,_,⟨_,h⟩=>by subst h;simp
 | r :: rs,_,_,⟨ys,xs',f1,f2,_,h,h1,h2⟩=>by
  subst h;intro b hb
  rcases List.mem_append.1 hb with hb | hb
  ·exact bf.lt _ _ _ h1 b hb
  ·exact b5.lt rs xs' f2 h2 b hb
theorem b5.snoc {w:World} : ∀ {rs:List (List C)} {xs:List Value} {fps:List Nat} {r:List C} {ys:List Value} {f:List Nat},b5 w rs xs fps→bf w r ys f→b5 w (rs ++ [r]) (xs++ys) (fps++f)
 | [],_,_,r,ys,f,⟨hx,hf⟩,h=>by
  subst hx hf
  exact⟨ys,[],f,[],by simp,by simp,h,rfl,rfl⟩
 | r' :: rs,_,_,r,ys,f,⟨ys',xs',f1,f2,e,e2,h1,h2⟩,h=>by
  subst e e2
  exact⟨ys',xs'++ys,f1,f2++f,by simp,by simp,h1,b5.snoc h2 h⟩
theorem b5.rows {w:World}{b:Nat} : ∀(rs:List (List C)) (xs:List Value) (fps:List Nat) (off:Nat),b5 w rs xs fps→(∀i,i<xs.length→w.cell? ⟨b,off+i,none⟩=xs[i]?)→aG w b off rs fps
 | [],_,_,_,⟨_,h⟩,_=>by subst h;unfold aG;rfl
 | r :: rs,_,_,off,⟨ys,xs',f1,f2,e,h,h1,h2⟩,k=>by
  subst e h;have hl:=bf.len _ _ _ h1;unfold aG;refine⟨f1,f2,rfl,bf.cells r ys f1 off h1 (fun i hi=>?_),b5.rows rs xs' f2 _ h2 fun i hi=>?_⟩
  ·rw[k i (by rw[List.length_append];omega),List.getElem?_append_left hi]
  ·rw[←hl,Nat.add_assoc,k (ys.length+i) (by rw[List.length_append];omega),List.getElem?_append_right (by omega)]
   congr 1
   omega
def aL (B:Nat)(e:TypeId)(size:Nat)(w:World)(v:Value)(n:Nat)(rows:List (List C)):Prop:=
 ∃xs fps,w.ownsRow B e size v n xs∧rows.length=n∧b5 w rows xs fps∧fps.Nodup∧∀x∈fps,B≤x∧v.ownBlock≠some x
theorem aL.nil (B:Nat)(e:TypeId)(size:Nat)(w:World):aL B e size w (.slice none 0 0) 0 []:=
 ⟨[],[],World.ownsRow_nil w B e size,rfl,⟨rfl,rfl⟩,List.nodup_nil,by simp⟩
theorem aL.grown {B:Nat}{e:TypeId}{size n:Nat}{w w':World}{v:Value}{rows:List (List C)}(h:aL B e size w v n rows)(hb:Below w.heap.size w w'):aL B e size w' v n rows:=by
 obtain⟨xs,fps,h1,h2,h3,h4,h5⟩:=h;refine⟨xs,fps,h1.kept (row:=none) ⟨hb.os,hb.tape,hb.output,hb.size,fun k hk _=>hb.block k hk⟩ ?_,h2,h3.move _ _ _ (fun b hx=>hb.block b (h3.lt _ _ _ b hx)),h4,h5⟩
 cases v.ownBlock with
 | none=>exact .inl rfl
 | some g=>exact .inr (by simp)
theorem aL.setCell {B:Nat}{e:TypeId}{size n:Nat}{w:World}{v:Value}{rows:List (List C)}(h:aL B e size w v n rows){p:Addr}(hp:p.block<B)(u:Value):aL B e size (w.setCell p u) v n rows:=by
 obtain⟨xs,fps,h1,h2,h3,h4,h5⟩:=h;refine⟨xs,fps,?_,h2,h3.move _ _ _ (fun b hx=>Below.heap_setCell w p u b (by have:=(h5 b hx).1;omega)),h4,h5⟩
 exact ownsRow_setCell_below h1 hp u
theorem aL.shape {B:Nat}{e:TypeId}{size n:Nat}{w:World}{v:Value}{rows:List (List C)}(h:aL B e size w v n rows) : ∃c q,v = .slice c n q:=by
 obtain⟨xs,fps,⟨_,h1⟩,_⟩:=h
 rcases h1 with ⟨rfl,rfl⟩ | ⟨g,cap,cur,rfl,_⟩
 ·exact⟨none,0,rfl⟩
 ·exact⟨_,cap,rfl⟩
theorem aL.append {B H g cap:Nat}{e:TypeId}{size n:Nat}{w w1:World}{v:Value}{xs ys:List Value}{fps f:List Nat}{rows:List (List C)}{r:List C}
  (h2:rows.length=n) (h3:b5 w rows xs fps) (h4:fps.Nodup) (h5 : ∀x∈fps,B≤x∧v.ownBlock≠some x)
  (hr:bf w r ys f) (hd:f.Nodup) (hf : ∀x∈f,B≤x∧v.ownBlock≠some x∧x∉fps)
  (hown:w1.ownsRow B e size (.slice (some ⟨g,0,none⟩) (n+1) cap) (n+1) (xs++ys)) (hgrow:w.grownBy w1 v.ownBlock) (hat:v.ownBlock=some g∨g=H) (hH:w.heap.size=H) :
  aL B e size w1 (.slice (some ⟨g,0,none⟩) (n+1) cap) (n+1) (rows ++ [r]):=by
 have l3 : ∀b∈fps,b<w.heap.size:=fun b hb=>b5.lt _ _ _ h3 b hb;have lr : ∀b∈f,b<w.heap.size:=fun b hb=>bf.lt _ _ _ hr b hb;have keep : ∀x,x<w.heap.size→v.ownBlock≠some x→w1.heap[x]?=w.heap[x]?:=fun x hx hn=>hgrow.block x hx (fun e=>hn e.symm);refine⟨xs++ys,fps++f,hown,by simp[h2],b5.snoc (h3.move _ _ _ fun b hb=>keep b (l3 b hb) (h5 b hb).2) (hr.move _ _ _ fun b hb=>keep b (lr b hb) (hf b hb).2.1),?_,?_⟩
 ·exact List.nodup_append.2 ⟨h4,hd,fun x hx y hy e=>(hf y hy).2.2 (e▸hx)⟩
 ·intro x hx
  have hlt:x<w.heap.size∧B≤x∧v.ownBlock≠some x:=by
   rcases List.mem_append.1 hx with hx | hx
   ·exact⟨l3 x hx,h5 x hx⟩
   ·exact⟨lr x hx,(hf x hx).1,(hf x hx).2.1⟩
  refine⟨hlt.2.1,fun e=>?_⟩;simp only[Value.ownBlock,Option.some.injEq] at e
  rcases hat with hat | hat
  ·exact hlt.2.2 (by rw[hat,e])
  ·omega
theorem aP {B:Nat}{e:TypeId}{size n:Nat}{w w':World}{v:Value}{xs:List Value}(h:w.ownsRow B e size v n xs)(hb:Below w.heap.size w w'):w'.ownsRow B e size v n xs:=
 h.kept (row:=none) ⟨hb.os,hb.tape,hb.output,hb.size,fun k hk _=>hb.block k hk⟩ (by cases v.ownBlock with | none=>exact .inl rfl | some g=>exact .inr (by simp))
theorem cr {wr W w2:World}{B:Nat}{e:TypeId}{size n:Nat}{v:Value}{xs:List Value}(hb:Below wr.heap.size wr W)(ho:wr.ownsRow B e size v n xs)(hg:W.grownBy w2 v.ownBlock)(b:Nat)(hl:b<wr.heap.size)(hB:b<B):w2.heap[b]?=wr.heap[b]?:=
 (hg.block b (Nat.lt_of_lt_of_le hl hb.size) (fun e=>by have:=(ho.lt b e.symm).1;omega)).trans (hb.block b hl)
theorem bj {w0 wr W w2:World}{B:Nat}{e:TypeId}{size n:Nat}{v:Value}{xs:List Value}(h0:Below w0.heap.size w0 wr)(hb:Below wr.heap.size wr W)(ho:wr.ownsRow B e size v n xs)(hB:w0.heap.size≤B)(hg:W.grownBy w2 v.ownBlock):Below w0.heap.size w0 w2:=
 (aj h0 hb).grown hg (aj h0 hb).size (fun k hk=>Nat.le_trans hB (ho.lt k hk).1)
theorem aL.push {B g cap:Nat}{e:TypeId}{size n:Nat}{wr W0 W w2:World}{v:Value}{xs ys:List Value}{fps f:List Nat}{rows:List (List C)}{r:List C}(hl:rows.length=n)(ho:wr.ownsRow B e size v n xs)(hs:b5 wr rows xs fps)(hd:fps.Nodup)
  (hfp : ∀x∈fps,B≤x∧v.ownBlock≠some x) (hB:B≤wr.heap.size) (hb:Below wr.heap.size wr W) (h0:wr.heap.size≤W0.heap.size) (hr:bf W r ys f) (hdf:f.Nodup) (hxf : ∀x∈f,W0.heap.size≤x)
  (hown:w2.ownsRow B e size (.slice (some ⟨g,0,none⟩) (n+1) cap) (n+1) (xs++ys)) (hgrow:W.grownBy w2 v.ownBlock) (hat:v.ownBlock=some g∨g=W.heap.size):aL B e size w2 (.slice (some ⟨g,0,none⟩) (n+1) cap) (n+1) (rows ++ [r]):=by
 have hlt : ∀x∈fps,x<wr.heap.size:=fun x hx=>b5.lt _ _ _ hs x hx;refine aL.append (w:=W) hl (hs.move _ _ _ fun b hx=>hb.block b (hlt b hx)) hd hfp hr hdf (fun x hx=>?_) hown hgrow hat rfl;have h1:=hxf x hx;refine⟨by omega,fun e=>by have:=(ho.lt x e).2;omega,fun e=>by have:=hlt x e;omega⟩
theorem aL.own {B:Nat}{e:TypeId}{size n:Nat}{w:World}{v:Value}{rows:List (List C)}(h:aL B e size w v n rows) : ∃fp,aF w (.sl rows) v fp∧fp.Nodup∧∀x∈fp,B≤x:=by
 obtain⟨xs,fps,⟨hl,h1⟩,h2,h3,h4,h5⟩:=h
 rcases h1 with ⟨rfl,rfl⟩ | ⟨g,cap,cur,rfl,hb,hg,hn,hc,hs,ht⟩
 ·obtain rfl:rows = []:=List.eq_nil_of_length_eq_zero h2
  exact⟨[],aF.sl_nil (by unfold maxLen;omega),List.nodup_nil,by simp⟩
 ·have hr:aG w g 0 rows fps:=h3.rows _ _ _ 0 (fun i hi=>by
     rw[←ht] at hi ⊢;simp only[World.cell?,hg];simp only[List.length_take] at hi
     simp
     rw[List.getElem?_take_of_lt (by omega),Array.getElem?_toList])
  obtain⟨fp,k1,k2,k3⟩:=aF.sl_mk hg h2 hn hc hr
  exact⟨fp,k1,k3 h4 (fun hx=>(h5 g hx).2 rfl),fun x hx=>by rcases k2 x hx with rfl | hx;exact hb;exact(h5 x hx).1⟩
theorem aL.tys {B n:Nat}{e:TypeId}{w:World}{v:Value}{ts:List Ty}(h:aL B e 2 w v n (Ty.rows ts)):bg B w ts v:=h.own
theorem ap {X:World}{n:Nat}{cs:Array Value}{T:TypeId}(h:X.heap.size=n)(j:Nat):(X.alloc (.cells cs T)).cell? ⟨n,j,none⟩=cs[j]?:=by subst h;exact az j
theorem dP {X:World}{n:Nat}{cs:Array Value}{T:TypeId}(h:X.heap.size=n)(j:Nat):(X.alloc (.cells cs T)).frozen? ⟨n,j,none⟩=false:=by subst h;exact aV j
theorem aO {w w1:World}{a:Addr}{v:Value}(h:Below w.heap.size w w1)(hc:w.cell? a=some v)(hf:w.frozen? a=false):w1.frozen? a=false:=(h.frozen (World.block_lt_of_cell? w a hc)).trans hf
theorem av {w:World}{a:Addr}{v:Value}(hc:w.cell? a=some v):w.drew.cell? a=some v:=hc
theorem dfro {w:World}{a:Addr}(hc:w.frozen? a=false):w.drew.frozen? a=false:=hc
theorem eN {w:World}{a p:Addr}{v:Value}(hf:w.frozen? a=false):(w.setCell p v).frozen? a=false:=(dK w p v a).trans hf
theorem b8 {w:World}{p a:Addr}{v u:Value}(h:w.cell? a=some u)(hne:a.block≠p.block):(w.setCell p v).cell? a=some u:=cA h (fun e=>by subst e;exact hne rfl)
def bx (k:Int):Int:=if k=1∨k=2∨k=3 then 0 else if k=4∨k=5 then 2 else -1
mutual
def Ty.shape:Ty→Int→Bool
 | .mk k ts,d=>decide (1≤d)&&(decide (bx k=ts.length)&&Ty.shapes ts (d-1))
def Ty.shapes:List Ty→Int→Bool
 | [],_=>true
 | t :: ts,d=>t.shape d&&Ty.shapes ts d
end
def Ty.valid (t:Ty):Bool:=t.shape 4
def IdxPost (R:Ty→Bool)(ts:List Ty)(w:World)(e:Ending)(w':World):Prop:=∃i:Int,e = .returned (.int .i64 i)∧decide (0≤i)=ts.any R∧Below w.heap.size w w'
theorem uY (R:Ty→Bool)(ts:List Ty)(k:Nat)(h:k<ts.length):(ts.drop k).any R=(R ts[k]||(ts.drop (k+1)).any R):=by
 rw[List.drop_eq_getElem_cons h];rfl
theorem pb (g:FuncId)(p:Value)(R:Ty→Bool)(F:Nat→Prop)(ts:List Ty)(ys:Value)(w:World)(hy:aA F w ts ys)
  (hcf : ∀xs W,(callFunc g xs).run Tryz.prog W = .ok (.enter g xs) W)
  (hg : ∀t∈ts,∀(W:World) (y:Value),Below w.heap.size w W→ao F W t y→Calls Tryz.prog g #[y,p] W fun e W'=>e = .returned (.bool (R t))∧Below W.heap.size W W') :
  Calls Tryz.prog 107 #[ys,.func (.func g) #[] #[p]] w (IdxPost R ts w):=by
 have HG:=zq hg;clear hg;obtain⟨a,cap,rfl,h2,h3,-⟩:=hy.open;unfold maxLen at h3;obtain⟨n,hn⟩ : ∃n,ts.length=n:=⟨_,rfl⟩
 rw[hn] at h2 hy ⊢;have HN:=zq hn;clear hn
 go_enter Tryz.func107,Tryz.ntmps107
 go_wp2_with fail
 go_loopw [8] (fun i wr=>∃k:Nat,k≤n∧i = .int .i64 k∧Below w.heap.size w wr∧Hid (ts.any R=(ts.drop k).any R)) (fun i _=>n-(intOf i).toNat)
 case atStart=>exact⟨0,by omega,rfl,Below.refl _ _,rfl⟩
 case round=>
  obtain⟨k,hk,rfl,hbw,hR⟩:=hrel
  by_cases hlt:k<n
  ·have hkt:k<ts.length:=by rw[HN.out];exact hlt
   obtain⟨b,off,k0,a0,m0,q0,rfl,l0,e0,e1,ht⟩:=hy.at hbw hkt;have hcall:=HG.out ts[k] (List.getElem_mem hkt) wr _ hbw ht;have hstep:=hR.out.trans (uY R ts k hkt);generalize R ts[k]=r at hcall hstep;have HC:=zq hcall;have HS:=zq hstep;clear hcall hstep hR
   cases r
   all_goals
    go_wp2_with fail
    refine HC.out.mono ?_;rintro e w1 ⟨rfl,hb1⟩
    go_wp2_with fail
   ·go_roundw
    case rel=>exact⟨k+1,by omega,by go_num,aj hbw hb1,by rw[Hid,HS.out];rfl⟩
    case measure=>simp[intOf];omega
   ·go_ret
    exact⟨_,rfl,by rw[HS.out];simp,aj hbw hb1⟩
  ·go_wp2_with fail
   go_ret
   exact⟨_,rfl,by rw[hR.out,List.drop_eq_nil_of_le (by rw[HN.out];omega)];rfl,hbw⟩
theorem lo (g:FuncId)(p:Value)(R:Ty→Bool)(F:Nat→Prop)(ts:List Ty)(ys:Value)(w:World)(hy:aA F w ts ys)
  (hcf : ∀xs W,(callFunc g xs).run Tryz.prog W = .ok (.enter g xs) W)
  (hg : ∀t∈ts,∀(W:World) (y:Value),Below w.heap.size w W→ao F W t y→Calls Tryz.prog g #[y,p] W fun e W'=>e = .returned (.bool (R t))∧Below W.heap.size W W') :
  Calls Tryz.prog 79 #[ys,.func (.func g) #[] #[p]] w fun e w'=>e = .returned (.bool (ts.any R))∧Below w.heap.size w w':=by
 have H:=zq (pb g p R F ts ys w hy hcf hg);clear hg hcf hy
 go_enter Tryz.func79,Tryz.ntmps79
 go_wp2_with fail
 refine H.out.mono ?_;rintro e w1 ⟨i,rfl,hi,hb1⟩;have HI:=zq hi;clear hi
 go_wp2_with fail
 go_ret
 exact⟨au HI.out,hb1⟩
theorem Ty.shapes_any : ∀(ts:List Ty) (d:Int),ts.any (fun t=> !t.shape d) = !Ty.shapes ts d
 | [],_=>by unfold Ty.shapes;rfl
 | t :: ts,d=>by unfold Ty.shapes;rw[List.any_cons,Ty.shapes_any ts d];cases t.shape d<;>rfl
theorem int5 (k:Int):k=1∨k=2∨k=3∨k=4∨k=5∨((k==1)=false∧(k==2)=false∧(k==3)=false∧(k==4)=false∧(k==5)=false):=by
 simp only[beq_eq_false_iff_ne,ne_eq];omega
theorem tg (F:Nat→Prop)(t:Ty)(y:Value)(b:Nat)(d:Int)(w:World)(hy:ao F w t y)(hd0:1≤d)(hd:d≤4)(hc:w.cell? ⟨b,0,none⟩=some (.int .i64 d))
  (IH : ∀(W:World),Below w.heap.size w W→Calls Tryz.prog 43 #[y,.int .i64 (d+1)] W fun e W'=>e = .returned (.bool (t.shape (5-(d+1))))∧Below W.heap.size W W') :
  Calls Tryz.prog 80 #[y,.pointer (some ⟨b,0,none⟩)] w fun e w'=>e = .returned (.bool (!t.shape (5-(d+1))))∧Below w.heap.size w w':=by
 obtain⟨a,cap,rfl,h2,h3,hr⟩:=hy.open;have hb:=World.block_lt_of_cell? w _ hc;have H:=zq IH;clear IH hy hr h2 h3;generalize t.shape (5-(d+1))=r at *;generalize t.kind=k at *;generalize t.kids.length=n at *
 cases r
 all_goals
  go_enter Tryz.func80,Tryz.ntmps80
  go_wp2_with fail
  refine(H.out _ ai).mono ?_;rintro e w1 ⟨rfl,hb1⟩
  go_wp2_with fail
  go_ret
  exact⟨rfl,aj ai hb1⟩
theorem iV (F:Nat→Prop)(t:Ty) : ∀(d:Int) (y:Value) (w:World),ao F w t y→1≤d→d≤5 →
  Calls Tryz.prog 43 #[y,.int .i64 d] w fun e w'=>e = .returned (.bool (t.shape (5-d)))∧Below w.heap.size w w':=by
 intro d y w hy hd0 hd5;have IH : ∀t'∈t.kids,∀(d:Int) (y:Value) (W:World),ao F W t' y→1≤d→d≤5→Calls Tryz.prog 43 #[y,.int .i64 d] W fun e W'=>e = .returned (.bool (t'.shape (5-d)))∧Below W.heap.size W W':=
  fun t' ht d y W a b c=>iV F t' d y W a b c
 obtain⟨a,cap,rfl,h2,h3,hr⟩:=hy.open
 cases t with | mk k ts=>
 simp only[Ty.kind,Ty.kids] at *;unfold maxLen at h3;have H4:d≤4→∀(W:World) (b:Nat),Below w.heap.size w W→W.cell? ⟨b,0,none⟩=some (.int .i64 d) →
   Calls Tryz.prog 79 #[.slice a ts.length cap,.func (.func 80) #[] #[.pointer (some ⟨b,0,none⟩)]] W fun e w'=>e = .returned (.bool (!Ty.shapes ts (5-(d+1))))∧Below W.heap.size W w':=by
  intro hd W b hW hcell;have:=lo 80 (.pointer (some ⟨b,0,none⟩)) (fun t=> !t.shape (5-(d+1))) F ts _ W (hr.below hW) Tryz.call80
   (fun t ht W' y hW' hy=>tg F t y b d W' hy hd0 hd (ah hW' hcell) fun W2 hW2=>IH t ht (d+1) y W2 (hy.below hW2) (by omega) (by omega))
  rw[Ty.shapes_any] at this
  exact this
 have HH:=zq H4;clear H4 IH hy hr;generalize hn:ts.length=n at *;unfold Ty.shape;rw[hn];clear hn;have e5:5-(d+1)=5-d-1:=by omega
 rw[e5] at HH;clear e5;generalize Ty.shapes ts (5-d-1)=r at *
 by_cases hd:d≤4
 ·have hdec:decide (1≤5-d)=true:=by simp;omega
  rw[hdec];clear hdec;have HF:=zq (HH.out hd);clear HH
  rcases int5 k with rfl | rfl | rfl | rfl | rfl | ⟨g1,g2,g3,g4,g5⟩
  ·by_cases h:n=0
   ·subst h
    cases r
    all_goals
     go_enter Tryz.func43,Tryz.ntmps43
     go_wp2_with fail
     refine(HF.out _ _ aT (bX 0)).mono ?_;rintro e w1 ⟨rfl,hb1⟩
     go_wp2_with fail
     go_ret
     exact⟨au (by decide),aj aT hb1⟩
   ·have hne:((0:Int)==(n:Int))=false:=by simp;omega
    have HX:=zq h;clear h
    go_enter Tryz.func43,Tryz.ntmps43
    go_wp2_with fail
    go_ret
    exact⟨au (by have:=HX.out;rw[decide_eq_false (by unfold bx;simp;omega)];rfl),aT⟩
  ·by_cases h:n=0
   ·subst h
    cases r
    all_goals
     go_enter Tryz.func43,Tryz.ntmps43
     go_wp2_with fail
     refine(HF.out _ _ aT (bX 0)).mono ?_;rintro e w1 ⟨rfl,hb1⟩
     go_wp2_with fail
     go_ret
     exact⟨au (by decide),aj aT hb1⟩
   ·have hne:((0:Int)==(n:Int))=false:=by simp;omega
    have HX:=zq h;clear h
    go_enter Tryz.func43,Tryz.ntmps43
    go_wp2_with fail
    go_ret
    exact⟨au (by have:=HX.out;rw[decide_eq_false (by unfold bx;simp;omega)];rfl),aT⟩
  ·by_cases h:n=0
   ·subst h
    cases r
    all_goals
     go_enter Tryz.func43,Tryz.ntmps43
     go_wp2_with fail
     refine(HF.out _ _ aT (bX 0)).mono ?_;rintro e w1 ⟨rfl,hb1⟩
     go_wp2_with fail
     go_ret
     exact⟨au (by decide),aj aT hb1⟩
   ·have hne:((0:Int)==(n:Int))=false:=by simp;omega
    have HX:=zq h;clear h
    go_enter Tryz.func43,Tryz.ntmps43
    go_wp2_with fail
    go_ret
    exact⟨au (by have:=HX.out;rw[decide_eq_false (by unfold bx;simp;omega)];rfl),aT⟩
  ·by_cases h:n=2
   ·subst h
    cases r
    all_goals
     go_enter Tryz.func43,Tryz.ntmps43
     go_wp2_with fail
     refine(HF.out _ _ aT (bX 0)).mono ?_;rintro e w1 ⟨rfl,hb1⟩
     go_wp2_with fail
     go_ret
     exact⟨au (by decide),aj aT hb1⟩
   ·have hne:((2:Int)==(n:Int))=false:=by simp;omega
    have HX:=zq h;clear h
    go_enter Tryz.func43,Tryz.ntmps43
    go_wp2_with fail
    go_ret
    exact⟨au (by have:=HX.out;rw[decide_eq_false (by unfold bx;simp;omega)];rfl),aT⟩
  ·by_cases h:n=2
   ·subst h
    cases r
    all_goals
     go_enter Tryz.func43,Tryz.ntmps43
     go_wp2_with fail
     refine(HF.out _ _ aT (bX 0)).mono ?_;rintro e w1 ⟨rfl,hb1⟩
     go_wp2_with fail
     go_ret
     exact⟨au (by decide),aj aT hb1⟩
   ·have hne:((2:Int)==(n:Int))=false:=by simp;omega
    have HX:=zq h;clear h
    go_enter Tryz.func43,Tryz.ntmps43
    go_wp2_with fail
    go_ret
    exact⟨au (by have:=HX.out;rw[decide_eq_false (by unfold bx;simp;omega)];rfl),aT⟩
  ·have hk:bx k = -1:=by
    simp only[beq_eq_false_iff_ne,ne_eq] at g1 g2 g3 g4 g5;unfold bx;rw[if_neg (by omega),if_neg (by omega)]
   have HK:=zq hk;clear hk;have hne:((-1:Int)==(n:Int))=false:=by simp
   go_enter Tryz.func43,Tryz.ntmps43
   go_wp2_with fail
   go_ret
   exact⟨au (by rw[HK.out,decide_eq_false (by omega)];rfl),aT⟩
 ·obtain rfl:d=5:=by omega
  clear HH
  go_enter Tryz.func43,Tryz.ntmps43
  go_wp2_with fail
  all_goals (go_ret;exact⟨au (by simp),aT⟩)
termination_by SizeOf.sizeOf t
decreasing_by exact Ty.kid_lt ht
theorem eS (F:Nat→Prop)(t:Ty)(y:Value)(w:World)(hy:ao F w t y) :
  Calls Tryz.prog 23 #[y] w fun e w'=>e = .returned (.bool t.valid)∧Below w.heap.size w w':=by
 have H:=zq fun W (h:Below w.heap.size w W)=>iV F t 1 y W (hy.below h) (by omega) (by omega);obtain⟨k,a,n,q,rfl⟩:=hy.shape;clear hy
 go_enter Tryz.func23,Tryz.ntmps23
 go_wp2_with fail
 refine(H.out _ ai).mono ?_;rintro e w1 ⟨rfl,hb1⟩
 go_wp2_with fail
 go_ret
 exact⟨au rfl,aj ai hb1⟩
theorem bU (k:Int)(w:World):Calls Tryz.prog 88 #[.int .i64 k] w fun e w'=>e = .returned (.int .i64 (bx k))∧w=w':=by
 rcases int5 k with rfl | rfl | rfl | rfl | rfl | ⟨g1,g2,g3,g4,g5⟩
 case inr.inr.inr.inr.inr=>
  have hk:bx k = -1:=by
   simp only[beq_eq_false_iff_ne,ne_eq] at g1 g2 g3 g4 g5;unfold bx;rw[if_neg (by omega),if_neg (by omega)]
  have HK:=zq hk;clear hk
  go_enter Tryz.func88,Tryz.ntmps88
  go_wp2_with fail
  go_ret
  exact⟨aY HK.out.symm,rfl⟩
 all_goals
  go_enter Tryz.func88,Tryz.ntmps88
  go_wp2_with fail
  go_ret
  exact⟨aY (by decide),rfl⟩
theorem Ty.shapes_drop (ts:List Ty)(d:Int)(k:Nat)(h:k<ts.length):Ty.shapes (ts.drop k) d=(ts[k].shape d&&Ty.shapes (ts.drop (k+1)) d):=by
 rw[List.drop_eq_getElem_cons h];conv=>lhs;unfold Ty.shapes
theorem kQ (F:Nat→Prop)(t:Ty) : ∀(d:Int) (y:Value) (w:World),ao F w t y→0≤d→d≤100 →
  Calls Tryz.prog 108 #[y,.int .i64 d] w fun e w'=>e = .returned (.bool (t.shape d))∧Below w.heap.size w w':=by
 intro d y w hy hd0 hd5;have IH : ∀t'∈t.kids,∀(d:Int) (y:Value) (W:World),ao F W t' y→0≤d→d≤100→Calls Tryz.prog 108 #[y,.int .i64 d] W fun e W'=>e = .returned (.bool (t'.shape d))∧Below W.heap.size W W':=
  fun t' ht d y W a b c=>kQ F t' d y W a b c
 obtain⟨a,cap,rfl,h2,h3,hr⟩:=hy.open
 cases t with | mk k ts=>
 simp only[Ty.kind,Ty.kids] at *;unfold maxLen at h3;have IHH:=zq IH;clear IH hy;unfold Ty.shape;obtain⟨n,hn⟩ : ∃n,ts.length=n:=⟨_,rfl⟩
 rw[hn] at h2 hr ⊢;have HN:=zq hn;clear hn
 by_cases hd:d<1
 ·obtain rfl:d=0:=by omega
  go_enter Tryz.func108,Tryz.ntmps108
  go_wp2_with fail
  go_quiet (fail)
  go_wp2_with fail
  go_ret
  exact⟨au (by simp),fI ai _⟩
 ·have hd1:1≤d:=by omega
  have hdec:decide (1≤d)=true:=by simpa using hd1
  have hdlt:decide (d<1)=false:=by simpa using hd
  rw[hdec];clear hd hdec
  by_cases hk:bx k=n
  ·have hkk:(bx k != (n:Int))=false:=by simp[hk]
   rw[hk];have HK:=zq hk;clear hk
   go_enter Tryz.func108,Tryz.ntmps108
   go_wp2_with fail
   go_region_held3 (fun w'=>w'.cell? ⟨w.heap.size,0,none⟩=some (.int .i64 k)∧w'.cell? ⟨w.heap.size,1,none⟩=some (.slice a n cap)) (go_keep)
    (first | (go_at_call 88;refine(bU _ _).mono ?_;rintro e w1 ⟨rfl,rfl⟩))
   go_wp2_with fail
   go_loopw [5] (fun i wr=>∃j:Nat,j≤n∧i = .int .i64 j∧Below w.heap.size w wr∧wr.cell? ⟨w.heap.size,1,none⟩=some (.slice a n cap)∧Hid (Ty.shapes ts (d-1)=Ty.shapes (ts.drop j) (d-1))) (fun i _=>n-(intOf i).toNat)
   case atStart=>exact⟨0,by omega,rfl,ai.drew,by simp,rfl⟩
   case round=>
    obtain⟨j,hj,rfl,hbw,hc1,hR⟩:=hrel
    by_cases hlt:j<n
    ·have hjt:j<ts.length:=by rw[HN.out];exact hlt
     obtain⟨b,off,k0,a0,m0,q0,rfl,l0,e0,e1,ht⟩:=hr.at hbw hjt;have hcall:=IHH.out ts[j] (List.getElem_mem hjt) (d-1) _ wr ht (by omega) (by omega);have hstep:=hR.out.trans (Ty.shapes_drop ts (d-1) j hjt);generalize ts[j].shape (d-1)=r at hcall hstep;have HC:=zq hcall;have HS:=zq hstep;clear hcall hstep hR
     cases r
     all_goals
      go_wp2_with fail
      refine HC.out.mono ?_;rintro e w1 ⟨rfl,hb1⟩
      go_wp2_with fail
     ·go_ret
      exact⟨au (by rw[HS.out];simp),aj hbw hb1⟩
     ·go_roundw
      case rel=>exact⟨j+1,by omega,by go_num,aj hbw hb1,ah hb1 hc1,by rw[Hid,HS.out];rfl⟩
      case measure=>simp[intOf];omega
    ·go_wp2_with fail
     go_ret
     exact⟨au (by rw[hR.out,List.drop_eq_nil_of_le (by rw[HN.out];omega)];unfold Ty.shapes;simp),hbw⟩
  ·have hkk:(bx k != (n:Int))=true:=by simpa using hk
   have HK:=zq hk;clear hk
   go_enter Tryz.func108,Tryz.ntmps108
   go_wp2_with fail
   go_region_held3 (fun w'=>w'.cell? ⟨w.heap.size,0,none⟩=some (.int .i64 k)∧w'.cell? ⟨w.heap.size,1,none⟩=some (.slice a n cap)) (go_keep)
    (first | (go_at_call 88;refine(bU _ _).mono ?_;rintro e w1 ⟨rfl,rfl⟩))
   go_wp2_with fail
   go_ret
   exact⟨au (by rw[decide_eq_false HK.out];simp),ai.drew⟩
termination_by SizeOf.sizeOf t
decreasing_by exact Ty.kid_lt ht
theorem bV (F:Nat→Prop)(t:Ty)(y:Value)(w:World)(hy:ao F w t y) :
  Calls Tryz.prog 83 #[y] w fun e w'=>e = .returned (.bool t.valid)∧Below w.heap.size w w':=by
 have H:=zq fun W (h:Below w.heap.size w W)=>kQ F t 4 y W (hy.below h) (by omega) (by omega);obtain⟨k,a,n,q,rfl⟩:=hy.shape;clear hy
 go_enter Tryz.func83,Tryz.ntmps83
 go_wp2_with fail
 refine(H.out _ ai).mono ?_;rintro e w1 ⟨rfl,hb1⟩
 go_wp2_with fail
 go_ret
 exact⟨au rfl,aj ai hb1⟩
theorem Ty.shape_mk {k:Int}{ts:List Ty}{d:Int}(h:(Ty.mk k ts).shape d=true):1≤d∧bx k=ts.length∧Ty.shapes ts (d-1)=true:=by
 unfold Ty.shape at h
 simpa using h
def ay (n a b:Int):Bool:=decide (a≤n)&&decide (n≤b)
def ce (n:Int):Bool:=ay n 1 99||ay n (-99) (-1)
theorem b7 (n a b:Int)(w:World):Calls Tryz.prog 95 #[.int .i64 n,.int .i64 a,.int .i64 b] w fun e w'=>e = .returned (.bool (ay n a b))∧Below w.heap.size w w':=by
 unfold ay
 by_cases h1:a≤n
 ·by_cases h2:n≤b
  ·go_enter Tryz.func95,Tryz.ntmps95
   go_wp2_with fail
   go_ret
   exact⟨au (by simp[h1,h2]),Below.refl _ _⟩
  ·have h2':decide (n≤b)=false:=decide_eq_false h2
   go_enter Tryz.func95,Tryz.ntmps95
   go_wp2_with fail
   go_ret
   exact⟨au (by simp[h1,h2']),Below.refl _ _⟩
 ·have h1':decide (a≤n)=false:=decide_eq_false h1
  go_enter Tryz.func95,Tryz.ntmps95
  go_wp2_with fail
  go_ret
  exact⟨au (by simp[h1']),Below.refl _ _⟩
def bF (n:Int):Int:=if n < -99∨99<n then 0 else if n<0 then -n else n
theorem uQ (n:Int)(w:World):Calls Tryz.prog 104 #[.int .i64 n] w fun e w'=>e = .returned (.int .i64 (bF n))∧w=w':=by
 by_cases h1:n < -99
 ·have ha:bF n=0:=by unfold bF;rw[if_pos (.inl h1)]
  have HA:=zq ha;clear ha
  go_enter Tryz.func104,Tryz.ntmps104
  go_wp2_with fail
  go_ret
  exact⟨aY HA.out.symm,rfl⟩
 ·have d1:decide (n < -99)=false:=decide_eq_false h1
  by_cases h2:n>99
  ·have ha:bF n=0:=by unfold bF;rw[if_pos (.inr h2)]
   have HA:=zq ha;clear ha
   go_enter Tryz.func104,Tryz.ntmps104
   go_wp2_with fail
   go_ret
   exact⟨aY HA.out.symm,rfl⟩
  ·have d2:decide (n>99)=false:=decide_eq_false h2
   by_cases h3:n<0
   ·have ha:bF n = -n:=by unfold bF;rw[if_neg (by omega),if_pos h3]
    have HA:=zq ha;have hw:IntKind.i64.wrap (-n) = -n:=IntWalk.i64_in _ (by omega);clear ha
    go_enter Tryz.func104,Tryz.ntmps104
    go_wp2_with fail
    go_ret
    exact⟨aY HA.out.symm,rfl⟩
   ·have ha:bF n=n:=by unfold bF;rw[if_neg (by omega),if_neg h3]
    have HA:=zq ha;clear ha
    go_enter Tryz.func104,Tryz.ntmps104
    go_wp2_with fail
    go_ret
    exact⟨aY HA.out.symm,rfl⟩
theorem da (n:Int):decide (bF n≥1)=ce n:=by
 unfold bF ce ay;rw[Bool.eq_iff_iff]
 simp
 split
 ·omega
 ·split<;>omega
theorem me (n:Int)(h0:(ay n 1 99)=true):(true:Bool)=(ce n):=by
 simp_all [ce]
theorem mf (n:Int)(h0:(ay n 1 99)=false):(ay n (-99) (-1):Bool)=(ce n):=by
 simp_all [ce]
theorem tm (n:Int)(w:World):Calls Tryz.prog 97 #[.int .i64 n] w fun e w'=>e = .returned (.bool (ce n))∧Below w.heap.size w w':=by
 obtain⟨rr,hrr⟩ : ∃rr0:Bool,(ce n)=rr0:=⟨_,rfl⟩
 rw[hrr];have HT:=zq hrr;clear hrr
 go_enter Tryz.func97,Tryz.ntmps97
 rcases Bool.eq_false_or_eq_true (ay n 1 99) with q1 | q1
 ·have Hq1:=zq q1
  clear q1
  go_wp2_with fail
  refine(b7 n 1 99 _).mono ?_;rintro e w1 ⟨rfl,hb1⟩;rw[Hq1.out];have hB:=(aj (Below.refl _ _) hb1)
  have zw1:=hB.size
  go_wp2_with fail
  refine bodyPost_ret (v:=.bool (true)) (by simp[results,Tryz.results97,go_sem,bne]) rfl ?_
  exact⟨au ((me n Hq1.out).trans HT.out),hB⟩
 ·have Hq1:=zq q1
  clear q1
  go_wp2_with fail
  refine(b7 n 1 99 _).mono ?_;rintro e w2 ⟨rfl,hb2⟩;rw[Hq1.out];have hB:=(aj (Below.refl _ _) hb2)
  have zw2:=hB.size
  go_wp2_with fail
  refine(b7 n (-99) (-1) _).mono ?_;rintro e w3 ⟨rfl,hb3⟩;replace hB:=(aj hB hb3)
  have zw3:=hB.size
  go_wp2_with fail
  refine bodyPost_ret (v:=.bool (ay n (-99) (-1))) (by simp[results,Tryz.results97,go_sem,bne]) rfl ?_
  exact⟨au ((mf n Hq1.out).trans HT.out),hB⟩
end Go.Proofs.YtfahhonmiimmdaaGreat

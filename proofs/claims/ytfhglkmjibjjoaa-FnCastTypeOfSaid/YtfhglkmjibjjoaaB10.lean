/- What a law about a result that is a tree needs: what a mark leaves as it was. And what else its parts name. -/
import Derived.Test.YtfhglkmjibjjoaaB0
import Derived.Test.YtfhglkmjibjjoaaB3
set_option linter.unusedSimpArgs false
set_option linter.unusedVariables false
set_option maxRecDepth 100000
set_option maxHeartbeats 16000000
namespace Go.Proofs.Ytfhglkmjibjjoaa
open Go.RowKit
theorem cb.chg {fp fp':List Nat}{w w':World}{t:Ty}{y:Value}(h:Chg fp w w')(hn : ∀b∈fp',b∉fp)(r:cb w t y fp'):cb w' t y fp':=by
 obtain⟨s,rfl,ho⟩:=r
 exact⟨s,rfl,aQ.move _ _ _ (fun b hb=>h.block b (aQ.lt _ _ _ ho b hb) (hn b hb)) ho⟩
theorem cb.lt {w:World}{t:Ty}{y:Value}{fp:List Nat}(r:cb w t y fp) : ∀b∈fp,b<w.heap.size:=by
 obtain⟨s,rfl,ho⟩:=r
 exact aQ.lt _ _ _ ho
theorem ai.old {F:Nat->Prop}{w:World}{t:Ty}{y:Value}(r:ai F w t y):ai (· < w.heap.size) w t y:=r.move (.weaken fun _ _ h=>h)
theorem ah {w:World}{b o:Nat}{cs:Array Value}{T:TypeId}{fr:Nat × Nat}{v:Value}(h:w.heap[b]?=some (.cells cs T fr))(hv:cs[o]?=some v):w.cell? ⟨b,o,none⟩=some v:=by
 simp only[World.cell?,h]
 simpa using hv
theorem aj {w:World}{b:Nat}{cs:Array Value}{T:TypeId}(h:w.heap[b]?=some (.cells cs T (0,0)))(o:Nat):w.frozen? ⟨b,o,none⟩=false:=by
 simp[World.frozen?,h]
theorem aw {w:World}{b:Nat}{x:Obj}(h:w.heap[b]?=some x):b<w.heap.size:=(Array.getElem?_eq_some_iff.1 h).1
theorem aA {w:World}{b:Nat}{o:Obj}(hb:w.heap.size=b):(w.alloc o).heap[b]?=some o:=by subst hb;exact heap_alloc_new w o
theorem a9 {w w':World}{b:Nat}{x:Obj}(h:w.heap[b]?=some x)(k:Below w.heap.size w w'):w'.heap[b]?=some x:=(k.block b (aw h)).trans h
theorem ay {r:Nat}{w w':World}{b:Nat}{x:Obj}(h:w.heap[b]?=some x)(k:Chg [r] w w')(hn:b≠r:=by omega):w'.heap[b]?=some x:=(k.block b (aw h) (by simpa using hn)).trans h
theorem cf {w:World}{b:Nat}{x:Obj}{p:Addr}{v:Value}(h:w.heap[b]?=some x)(hn:b≠p.block):(w.setCell p v).heap[b]?=some x:=(Below.heap_setCell w p v b hn).trans h
theorem az {w:World}{b o:Nat}{cs cs':Array Value}{T:TypeId}{fr:Nat × Nat}{v:Value}(h:w.heap[b]?=some (.cells cs T fr))(e:cs.setIfInBounds o v=cs'):(w.setCell ⟨b,o,none⟩ v).heap[b]?=some (.cells cs' T fr):=by
 subst e;exact cR h
theorem blk9 {w:World}{b:Nat}{a0 a1 a2 a3 a4 a5 a6 a7 a8:Value}{T:TypeId}(h:w.heap[b]?=some (.cells #[a0,a1,a2,a3,a4,a5,a6,a7,a8] T (0,0))):w.cell? ⟨b,0,none⟩=some a0∧w.cell? ⟨b,1,none⟩=some a1∧w.cell? ⟨b,2,none⟩=some a2∧w.cell? ⟨b,3,none⟩=some a3∧w.cell? ⟨b,4,none⟩=some a4∧w.cell? ⟨b,5,none⟩=some a5∧w.cell? ⟨b,6,none⟩=some a6∧w.cell? ⟨b,7,none⟩=some a7∧w.cell? ⟨b,8,none⟩=some a8:=
 ⟨(ah h rfl),ah h rfl,ah h rfl,ah h rfl,ah h rfl,ah h rfl,ah h rfl,ah h rfl,ah h rfl⟩
theorem blk9r {w:World}{b:Nat}{a0 a1 a2 a3 a4 a5 a6 a7 a8:Value}{T:TypeId}{R:Prop}(h:w.heap[b]?=some (.cells #[a0,a1,a2,a3,a4,a5,a6,a7,a8] T (0,0)))(r:R):w.cell? ⟨b,0,none⟩=some a0∧w.cell? ⟨b,1,none⟩=some a1∧w.cell? ⟨b,2,none⟩=some a2∧w.cell? ⟨b,3,none⟩=some a3∧w.cell? ⟨b,4,none⟩=some a4∧w.cell? ⟨b,5,none⟩=some a5∧w.cell? ⟨b,6,none⟩=some a6∧w.cell? ⟨b,7,none⟩=some a7∧w.cell? ⟨b,8,none⟩=some a8∧R:=
 ⟨(ah h rfl),ah h rfl,ah h rfl,ah h rfl,ah h rfl,ah h rfl,ah h rfl,ah h rfl,ah h rfl,r⟩
theorem blk9f {w:World}{b:Nat}{a0 a1 a2 a3 a4 a5 a6 a7 a8:Value}{T:TypeId}(h:w.heap[b]?=some (.cells #[a0,a1,a2,a3,a4,a5,a6,a7,a8] T (0,0))):w.cell? ⟨b,0,none⟩=some a0∧w.frozen? ⟨b,0,none⟩=false∧w.cell? ⟨b,1,none⟩=some a1∧w.frozen? ⟨b,1,none⟩=false∧w.cell? ⟨b,2,none⟩=some a2∧w.frozen? ⟨b,2,none⟩=false∧w.cell? ⟨b,3,none⟩=some a3∧w.frozen? ⟨b,3,none⟩=false∧w.cell? ⟨b,4,none⟩=some a4∧w.frozen? ⟨b,4,none⟩=false∧w.cell? ⟨b,5,none⟩=some a5∧w.frozen? ⟨b,5,none⟩=false∧w.cell? ⟨b,6,none⟩=some a6∧w.frozen? ⟨b,6,none⟩=false∧w.cell? ⟨b,7,none⟩=some a7∧w.frozen? ⟨b,7,none⟩=false∧w.cell? ⟨b,8,none⟩=some a8∧w.frozen? ⟨b,8,none⟩=false:=
 ⟨ah h rfl,aj h 0,ah h rfl,aj h 1,ah h rfl,aj h 2,ah h rfl,aj h 3,ah h rfl,aj h 4,ah h rfl,aj h 5,ah h rfl,aj h 6,ah h rfl,aj h 7,ah h rfl,aj h 8⟩
theorem blk2 {w:World}{b:Nat}{a0 a1:Value}{T:TypeId}(h:w.heap[b]?=some (.cells #[a0,a1] T (0,0))):w.cell? ⟨b,0,none⟩=some a0∧w.cell? ⟨b,1,none⟩=some a1:=⟨ah h rfl,ah h rfl⟩
theorem zqb {fp:List Nat}{w W X:World}(h:Hid (Chg fp w W))(k:Below W.heap.size W X):Hid (Chg fp w X):=zq (Chg.trans h.out (Chg.of_below k))
theorem zqc {fp:List Nat}{w W X:World}(h:Hid (Chg fp w W))(k:Chg fp W X):Hid (Chg fp w X):=zq (Chg.trans h.out k)
structure Bd where
 name:ByteArray
 ty:Ty
def Bd.row (b:Bd):List C:= [.str b.name,.int b.ty.kind,.sl (Ty.rows b.ty.kids)]
def Bd.rows (l:List Bd):List (List C):=l.map Bd.row
theorem Bd.row_length (b:Bd):b.row.length=3:=rfl
theorem Bd.rows_length (l:List Bd):(Bd.rows l).length=l.length:=by simp[Bd.rows]
def aE (F:Nat->Prop)(w:World)(l:List Bd)(y:Value):Prop:=aL F w (.sl (Bd.rows l)) y
def iL (F:Nat->Prop)(w:World)(b:Bd)(y:Value):Prop:=∃k c m q,y = .agg #[.string b.name,.int .i64 k,.slice c m q]∧b.name.size<=maxLen∧ai F w b.ty (.agg #[.int .i64 k,.slice c m q])
theorem aE.move {F G:Nat->Prop}{w w':World}{l:List Bd}{y:Value}(h:aE F w l y)(k:bU F G w w'):aE G w' l y:=aL.move k _ _ h
theorem aE.below {F:Nat->Prop}{w w':World}{l:List Bd}{y:Value}(h:aE F w l y)(k:Below w.heap.size w w'):aE F w' l y:=h.move (.below k)
theorem iL.below {F:Nat->Prop}{w w':World}{b:Bd}{y:Value}(h:iL F w b y)(k:Below w.heap.size w w'):iL F w' b y:=
 let ⟨a,c,m,q,h1,h2,h3⟩:=h;⟨a,c,m,q,h1,h2,h3.below k⟩
theorem aE.open {F:Nat->Prop}{w:World}{l:List Bd}{y:Value}(h:aE F w l y) :
  ∃(a:Option Addr) (cap:Nat),y = .slice a l.length cap∧l.length<=cap∧cap<=maxLen ∧
   ∀i (h:i<l.length),∃b off k c m q,a=some ⟨b,off,none⟩∧w.cell? ⟨b,off+i*3,none⟩=some (.string l[i].name)∧l[i].name.size<=maxLen∧w.cell? ⟨b,off+i*3+1,none⟩=some (.int .i64 k)∧w.cell? ⟨b,off+i*3+2,none⟩=some (.slice c m q)∧ai F w l[i].ty (.agg #[.int .i64 k,.slice c m q]):=by
 obtain⟨a,cap,h1,h2,h3,h4⟩:=aL.rows h;rw[Bd.rows_length] at h1 h2;refine⟨a,cap,h1,h2,h3,fun i hi=>?_⟩
 rcases h4 with h4 | ⟨b,off,ha,hF,hl,hr⟩
 ·rw[<-Bd.rows_length,h4] at hi;exact absurd hi (Nat.not_lt_zero _)
 ·have hc:=hr.get (m:=3) (fun r hr=>by obtain⟨t,_,rfl⟩:=List.mem_map.1 hr;rfl) i (by rw[Bd.rows_length];exact hi)
  have he:(Bd.rows l)[i]'(by rw[Bd.rows_length];exact hi)=l[i].row:=by simp[Bd.rows]
  rw[he] at hc;unfold Bd.row aP at hc;obtain⟨⟨y0,hy0,hc0⟩,hc⟩:=hc;unfold aP at hc;obtain⟨⟨y1,hy1,hc1⟩,hc⟩:=hc;unfold aP at hc;obtain⟨⟨y2,hy2,hc2⟩,_⟩:=hc;obtain⟨e0,z0⟩:=aL.str_eq hc0;rw[e0] at hy0;rw[aL.int_eq hc1] at hy1;obtain⟨c,q,rfl,_⟩:=aL.rows hc2
  exact⟨b,off,_,c,_,q,ha,hy0,z0,hy1,hy2,_,rfl,hc2⟩
theorem aE.shape {F:Nat->Prop}{w:World}{l:List Bd}{y:Value}(h:aE F w l y) : ∃a n q,y = .slice a n q:=by
 obtain⟨a,q,rfl,_⟩:=h.open
 exact⟨a,_,q,rfl⟩
theorem iL.shape {F:Nat->Prop}{w:World}{b:Bd}{y:Value}(h:iL F w b y) : ∃s k a n q,y = .agg #[.string s,.int .i64 k,.slice a n q]:=by
 obtain⟨k,c,m,q,rfl,_⟩:=h
 exact⟨_,k,c,m,q,rfl⟩
theorem aE.at {F:Nat->Prop}{w wr:World}{l:List Bd}{a:Option Addr}{n cap:Nat}(h:aE F w l (.slice a n cap))(hb:Below w.heap.size w wr){i:Nat}(hi:i<l.length) :
  ∃b off k c m q,a=some ⟨b,off,none⟩∧b<wr.heap.size∧wr.cell? ⟨b,off+i*3,none⟩=some (.string l[i].name)∧l[i].name.size<=maxLen∧wr.cell? ⟨b,off+i*3+1,none⟩=some (.int .i64 k)∧wr.cell? ⟨b,off+i*3+2,none⟩=some (.slice c m q)∧ai F wr l[i].ty (.agg #[.int .i64 k,.slice c m q]):=by
 obtain⟨a',cap',he,_,_,hg⟩:=h.open;simp only[Value.slice.injEq] at he;obtain⟨rfl,_,rfl⟩:=he;obtain⟨b,off,k,c,m,q,ha,h0,hz,h1,h2,ht⟩:=hg i hi;have e0:=af hb h0
 exact⟨b,off,k,c,m,q,ha,World.block_lt_of_cell? wr _ e0,e0,hz,af hb h1,af hb h2,ht.below hb⟩
def Bd.cnt (b:Bd):Nat:=b.name.size+b.ty.cnt
def Bd.cs:List Bd->Nat
 | []=>0
 | b::l=>b.cnt+Bd.cs l
def Bd.cnts (l:List Bd):Nat:=l.length+Bd.cs l
theorem Bd.cnt_mem : ∀ {l:List Bd} {b:Bd},b∈l->b.cnt<=Bd.cs l
 | u::l,b,h=>by
  rcases List.mem_cons.1 h with rfl | h
  ·simp only[Bd.cs];omega
  ·have:=Bd.cnt_mem h;simp only[Bd.cs];omega
def gR (B:Nat)(w:World)(b:Bd)(y:Value):Prop:=∃k c m q fp,y = .agg #[.string b.name,.int .i64 k,.slice c m q]∧bL w b.row [.string b.name,.int .i64 k,.slice c m q] fp∧fp.Nodup∧∀x∈fp,B<=x
def dU (B:Nat)(w:World)(l:List Bd)(y:Value):Prop:=∃fp,aQ w (.sl (Bd.rows l)) y fp∧fp.Nodup∧∀b∈fp,B<=b
theorem dU.rep {B:Nat}{w:World}{l:List Bd}{y:Value}(h:dU B w l y):aE (B <= ·) w l y:=
 let ⟨_,h1,_,h3⟩:=h;aQ.rep _ _ _ (fun b hb=>h3 b hb) h1
theorem dU.below {B:Nat}{w w':World}{l:List Bd}{y:Value}(h:dU B w l y)(k:Below w.heap.size w w'):dU B w' l y:=
 let ⟨fp,h1,h2,h3⟩:=h;⟨fp,aQ.move _ _ _ (fun b hb=>k.block b (aQ.lt _ _ _ h1 b hb)) h1,h2,h3⟩
theorem dU.shape {B:Nat}{w:World}{l:List Bd}{y:Value}(h:dU B w l y) : ∃a n q,y = .slice a n q:=h.rep.shape
theorem Bd.flatten_length (l:List Bd):(Bd.rows l).flatten.length=l.length*3:=by
 induction l with
 | nil=>rfl
 | cons t ts ih=>unfold Bd.rows at ih ⊢;rw[List.map_cons,List.flatten_cons,List.length_append,ih,t.row_length,List.length_cons];omega
theorem gR.setCell {B:Nat}{w:World}{b:Bd}{y:Value}(h:gR B w b y){p:Addr}(hp:p.block<B)(v:Value):gR B (w.setCell p v) b y:=by
 obtain⟨k,c,m,q,fp,rfl,h1,h2,h3⟩:=h
 exact⟨k,c,m,q,fp,rfl,h1.move _ _ _ (fun b hb=>Below.heap_setCell w p v b (by have:=h3 b hb;omega)),h2,h3⟩
theorem gR.mono {B B':Nat}{w:World}{b:Bd}{y:Value}(h:gR B w b y)(hB:B'<=B):gR B' w b y:=by
 obtain⟨k,c,m,q,fp,rfl,h1,h2,h3⟩:=h
 exact⟨k,c,m,q,fp,rfl,h1,h2,fun b hb=>Nat.le_trans hB (h3 b hb)⟩
def Bd.same (a b:Bd):Bool:=(a.name.toList==b.name.toList)&&a.ty.same b.ty
def Bd.ok (b:Bd):Bool:=aI b.name&&b.ty.valid
def ctxB (l:List Bd):Bool:=decide (l.length<=12)&&l.all Bd.ok
def dz (l:List Bd)(y:Value):Prop:=(l = []∧y = .slice none 0 0)∨(1<=l.length∧∃a m q,y = .slice (some a) m q)
theorem dz.shape {l:List Bd}{y:Value}(h:dz l y) : ∃a n q,y = .slice a n q:=by
 rcases h with ⟨-,rfl⟩ | ⟨-,a,m,q,rfl⟩<;>exact⟨_,_,_,rfl⟩
mutual
theorem Ty.same_refl : ∀t:Ty,t.same t=true
 | .mk k ts=>by unfold Ty.same;rw[Ty.sames_refl ts];simp
theorem Ty.sames_refl : ∀ts:List Ty,Ty.sames ts ts=true
 | []=>by unfold Ty.sames;rfl
 | t::ts=>by unfold Ty.sames;rw[Ty.same_refl t,Ty.sames_refl ts];rfl
end
def gV (w:World)(t:Tm)(y:Value)(fp:List Nat):Prop:=∃s1 s2 s f1 f2 f3,y = .agg #[.int .i64 t.kind,.string t.name,.int .i64 t.num,.int .i64 t.type.kind,s1,.int .i64 t.src.kind,s2,.int .i64 t.label,s]∧fp=f1++(f2++f3)∧t.name.size<=maxLen ∧
 aQ w (.sl (Ty.rows t.type.kids)) s1 f1∧aQ w (.sl (Ty.rows t.src.kids)) s2 f2∧aQ w (.sl (Tm.rows t.kids)) s f3
def TmsOwn (w:World)(ts:List Tm)(y:Value)(fp:List Nat):Prop:=aQ w (.sl (Tm.rows ts)) y fp
def cC (B:Nat)(w:World)(t:Tm)(y:Value):Prop:=∃fp,gV w t y fp∧fp.Nodup∧∀b∈fp,B<=b
def dc (B:Nat)(w:World)(ts:List Tm)(y:Value):Prop:=∃fp,TmsOwn w ts y fp∧fp.Nodup∧∀b∈fp,B<=b
theorem gV.below {w w':World}{t:Tm}{y:Value}{fp:List Nat}(h:gV w t y fp)(k:Below w.heap.size w w'):gV w' t y fp:=by
 obtain⟨s1,s2,s,f1,f2,f3,rfl,rfl,hn,h1,h2,h3⟩:=h
 exact⟨s1,s2,s,f1,f2,f3,rfl,rfl,hn,h1.move _ _ _ fun b hb=>k.block b (h1.lt _ _ _ b hb),h2.move _ _ _ fun b hb=>k.block b (h2.lt _ _ _ b hb),h3.move _ _ _ fun b hb=>k.block b (h3.lt _ _ _ b hb)⟩
theorem gV.rep {w:World}{t:Tm}{y:Value}{fp:List Nat}(h:gV w t y fp):aB (· ∈ fp) w t y:=by
 obtain⟨s1,s2,s,f1,f2,f3,rfl,rfl,hn,h1,h2,h3⟩:=h
 exact⟨s1,s2,s,rfl,hn,h1.rep _ _ _ (fun b hb=>by simp[hb]),h2.rep _ _ _ (fun b hb=>by simp[hb]),h3.rep _ _ _ (fun b hb=>by simp[hb])⟩
theorem cC.below {B:Nat}{w w':World}{t:Tm}{y:Value}(h:cC B w t y)(k:Below w.heap.size w w'):cC B w' t y:=
 let ⟨fp,h1,h2,h3⟩:=h;⟨fp,h1.below k,h2,h3⟩
theorem cC.rep {B:Nat}{w:World}{t:Tm}{y:Value}(h:cC B w t y):aB (B <= ·) w t y:=
 let ⟨fp,h1,_,h3⟩:=h;h1.rep.move (.weaken fun b hb _=>h3 b hb)
theorem dc.rep {B:Nat}{w:World}{ts:List Tm}{y:Value}(h:dc B w ts y):aN (B <= ·) w ts y:=
 let ⟨_,h1,_,h3⟩:=h;aQ.rep _ _ _ (fun b hb=>h3 b hb) h1
theorem dc.below {B:Nat}{w w':World}{ts:List Tm}{y:Value}(h:dc B w ts y)(k:Below w.heap.size w w'):dc B w' ts y:=
 let ⟨fp,h1,h2,h3⟩:=h;⟨fp,aQ.move _ _ _ (fun b hb=>k.block b (aQ.lt _ _ _ h1 b hb)) h1,h2,h3⟩
theorem cC.shape {B:Nat}{w:World}{t:Tm}{y:Value}(h:cC B w t y) : ∃k nm u tk ta tn tq fk fa fn fq l c m q,y = .agg (nv k nm u tk ta tn tq fk fa fn fq l c m q):=h.rep.shape
theorem cC.mono {B B':Nat}{w:World}{t:Tm}{y:Value}(h:cC B w t y)(hB:B'<=B):cC B' w t y:=
 let ⟨fp,h1,h2,h3⟩:=h;⟨fp,h1,h2,fun b hb=>Nat.le_trans hB (h3 b hb)⟩
theorem dc.mono {B B':Nat}{w:World}{t:List Tm}{y:Value}(h:dc B w t y)(hB:B'<=B):dc B' w t y:=
 let ⟨fp,h1,h2,h3⟩:=h;⟨fp,h1,h2,fun b hb=>Nat.le_trans hB (h3 b hb)⟩
theorem dc.setCell {B:Nat}{w:World}{ts:List Tm}{y:Value}(h:dc B w ts y){p:Addr}(hp:p.block<B)(v:Value):dc B (w.setCell p v) ts y:=by
 obtain⟨fp,h1,h2,h3⟩:=h
 exact⟨fp,aQ.move _ _ _ (fun b hb=>Below.heap_setCell w p v b (by have:=h3 b hb;omega)) h1,h2,h3⟩
theorem cC.setCell {B:Nat}{w:World}{t:Tm}{y:Value}(h:cC B w t y){p:Addr}(hp:p.block<B)(v:Value):cC B (w.setCell p v) t y:=by
 obtain⟨fp,⟨s1,s2,s,f1,f2,f3,rfl,rfl,hn,h1,h2,h3⟩,hd,hx⟩:=h;have hk : ∀b∈f1++(f2++f3),(w.setCell p v).heap[b]?=w.heap[b]?:=fun b hb=>Below.heap_setCell w p v b (by have:=hx b hb;omega)
 exact⟨_,⟨s1,s2,s,f1,f2,f3,rfl,rfl,hn,aQ.move _ _ _ (fun b hb=>hk b (by simp[hb])) h1,aQ.move _ _ _ (fun b hb=>hk b (by simp[hb])) h2,aQ.move _ _ _ (fun b hb=>hk b (by simp[hb])) h3⟩,hd,hx⟩
theorem cC.nil {B:Nat}{w:World}{k u l:Int}{nm:ByteArray}(hn:nm.size<=maxLen):cC B w (.mk k nm u (.mk 0 []) (.mk 0 []) l []) (.agg (nv k nm u 0 none 0 0 0 none 0 0 l none 0 0)):=by
 have z:aQ w (.sl []) (.slice none 0 0) []:=by unfold aQ;exact⟨none,0,rfl,Nat.le_refl _,by unfold maxLen;omega,.inl ⟨rfl,rfl⟩⟩
 refine⟨[],⟨_,_,_,[],[],[],rfl,rfl,hn,?_,?_,?_⟩,by simp,by simp⟩
 ·simp only[Tm.type,Ty.kids,Ty.rows];exact z
 ·simp only[Tm.src,Ty.kids,Ty.rows];exact z
 ·simp only[Tm.kids,Tm.rows];exact z
theorem Tm.flatten_length (ts:List Tm):(Tm.rows ts).flatten.length=ts.length*9:=by
 induction ts with
 | nil=>unfold Tm.rows;rfl
 | cons t ts ih=>unfold Tm.rows;rw[List.flatten_cons,List.length_append,ih,t.row_length,List.length_cons];omega
theorem cC.open {B:Nat}{w:World}{t:Tm}{y:Value}(h:cC B w t y) : ∃k nm u tk ta tn tq fk fa fn fq l c m q fp,y = .agg (nv k nm u tk ta tn tq fk fa fn fq l c m q)∧bL w t.row [.int .i64 k,.string nm,.int .i64 u,.int .i64 tk,.slice ta tn tq,.int .i64 fk,.slice fa fn fq,.int .i64 l,.slice c m q] fp∧fp.Nodup∧∀b∈fp,B<=b:=by
 obtain⟨fp,⟨s1,s2,s,f1,f2,f3,rfl,rfl,hn,h1,h2,h3⟩,hd,hx⟩:=h;obtain⟨ta,tq,rfl,-⟩:=aL.rows (aQ.rep _ _ _ (F:=fun _=>True) (fun _ _=>trivial) h1);obtain⟨fa,fq,rfl,-⟩:=aL.rows (aQ.rep _ _ _ (F:=fun _=>True) (fun _ _=>trivial) h2);obtain⟨c,q,rfl,-⟩:=aL.rows (aQ.rep _ _ _ (F:=fun _=>True) (fun _ _=>trivial) h3);refine⟨_,_,_,_,ta,_,tq,_,fa,_,fq,_,c,_,q,_,rfl,?_,hd,hx⟩
 cases t with | mk k nm u t f l ts=>
 simp only[Tm.kind,Tm.name,Tm.num,Tm.type,Tm.src,Tm.label,Tm.kids] at *;unfold Tm.row;have i1 : ∀n:Int,aQ w (.int n) (.int .i64 n) []:=fun n=>by unfold aQ;exact⟨rfl,rfl⟩
 have i2:aQ w (.str nm) (.string nm) []:=by unfold aQ;exact⟨rfl,hn,rfl⟩
 exact⟨_,_,[],_,rfl,rfl,i1 _,_,_,[],_,rfl,rfl,i2,_,_,[],_,rfl,rfl,i1 _,_,_,[],_,rfl,rfl,i1 _,_,_,f1,_,rfl,rfl,h1,_,_,[],_,rfl,rfl,i1 _,_,_,f2,_,rfl,rfl,h2,_,_,[],_,rfl,rfl,i1 _,_,_,f3,[],rfl,by simp,h3,rfl,rfl⟩
end Go.Proofs.Ytfhglkmjibjjoaa

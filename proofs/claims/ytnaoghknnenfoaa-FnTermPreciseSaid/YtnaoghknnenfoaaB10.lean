/-
  A list of binds that grows by append: the rows lie in a block of one's own, the types are readings.
  Lists of binds that are appended to one another.
  slices.Clone of a context.
  spec.l3More: a context with another binding.
  Rows and contexts that grow by append, what they hold are readings in named blocks; slices.Clone of a context in these words.
  spec.l4Exact: the type of a node of a term with casts by its operands' types.
  spec.l4Exact: the type of a node of a term with casts by its operands' types.
-/
import Derived.Test.YtnaoghknnenfoaaB5
import Derived.Test.YtnaoghknnenfoaaB3
import Derived.Test.YtnaoghknnenfoaaB1
import Derived.Test.YtnaoghknnenfoaaB8
import Derived.Maps.AppendAt
import Derived.Lib.SliceRun
import Derived.Deep.RegionHeld3
import Derived.Deep.AppendLies
import Derived.Test.YtnaoghknnenfoaaB6
import Derived.Test.YtnaoghknnenfoaaB7
import Derived.Test.YtnaoghknnenfoaaCtTwo
import Derived.Test.YtnaoghknnenfoaaB2
set_option linter.unusedSimpArgs false
set_option linter.unusedVariables false
set_option maxRecDepth 100000
namespace Go.Proofs.Ytnaoghknnenfoaa
open Go.RowKit
def aX (F:Nat→Prop)(w:World):List Bd→List Value→Prop
 | [],xs=>xs = []
 | b :: bs,xs=>∃k sl rest,xs = .string b.name :: .int .i64 k :: sl :: rest∧b.name.size≤maxLen∧ap F w b.ty (.agg #[.int .i64 k,sl])∧aX F w bs rest
theorem aX.move {F G:Nat→Prop}{w w':World}(k:bB F G w w') : ∀(bs:List Bd) (xs:List Value),aX F w bs xs→aX G w' bs xs
 | [],_,h=>h
 | b :: bs,_,⟨kk,sl,rest,h1,h2,h3,h4⟩=>⟨kk,sl,rest,h1,h2,h3.move k,aX.move k bs rest h4⟩
theorem aX.append {F:Nat→Prop}{w:World} : ∀(bs cs:List Bd) (xs ys:List Value),aX F w bs xs→aX F w cs ys→aX F w (bs++cs) (xs++ys)
 | [],cs,xs,ys,h,h'=>by
  have h0:xs = []:=h
  subst h0;simpa using h'
 | b :: bs,cs,_,ys,⟨kk,sl,rest,h1,h2,h3,h4⟩,h'=>by
  subst h1
  exact⟨kk,sl,rest++ys,rfl,h2,h3,aX.append bs cs rest ys h4 h'⟩
theorem aX.len {F:Nat→Prop}{w:World} : ∀(bs:List Bd) (xs:List Value),aX F w bs xs→xs.length=bs.length*3
 | [],xs,h=>by
  have h0:xs = []:=h
  subst h0;rfl
 | b :: bs,_,⟨kk,sl,rest,h1,h2,h3,h4⟩=>by
  subst h1
  have:=aX.len bs rest h4
  simp only [List.length_cons];omega
theorem aX.rows {F:Nat→Prop}{w:World}{g:Nat} : ∀(bs:List Bd) (xs:List Value) (off:Nat),aX F w bs xs→(∀j u,xs[j]?=some u→w.cell? ⟨g,off+j,none⟩=some u)→bl F w g off (Bd.rows bs)
 | [],_,_,_,_=>by unfold Bd.rows bl;trivial
 | b :: bs,_,off,⟨kk,sl,rest,h1,h2,h3,h4⟩,hc=>by
  subst h1
  obtain⟨s,he,hs⟩:=h3
  simp only [Value.agg.injEq,Array.mk.injEq,List.cons.injEq,Value.int.injEq,true_and,and_true] at he
  obtain⟨rfl,rfl⟩:=he
  have e0:=hc 0 _ rfl
  have e1:=hc 1 _ rfl
  have e2:=hc 2 _ rfl
  show bl F w g off (b.row :: Bd.rows bs)
  unfold bl
  refine⟨?_,aX.rows bs rest _ h4 fun j u hj=>?_⟩
  ·unfold Bd.row aU
   refine⟨⟨_,e0,by unfold aS;exact⟨rfl,h2⟩⟩,?_⟩
   unfold aU
   refine⟨⟨_,e1,by unfold aS;rfl⟩,?_⟩
   unfold aU
   exact⟨⟨_,e2,hs⟩,by unfold aU;trivial⟩
  ·have:=hc (j+3) u (by simpa using hj)
   rw [Bd.row_length,Nat.add_assoc,Nat.add_comm 3 j];exact this
theorem de {w:World}{B:Nat}{e:TypeId}{size n q g:Nat}{xs:List Value}(h:w.ownsRow B e size (.slice (some ⟨g,0,none⟩) n q) n xs) : ∀j u,xs[j]?=some u→w.cell? ⟨g,j,none⟩=some u:=by
 obtain⟨h1,h2 | ⟨g',cap,cur,h2,hB,hg,hn,hc,hs,ht⟩⟩:=h
 ·exact absurd h2.1 (by simp)
 ·simp only [Value.slice.injEq,Option.some.injEq,Addr.mk.injEq,and_true] at h2
  obtain⟨rfl,-,rfl⟩:=h2
  intro j u hj
  subst ht
  simp only [World.cell?,hg]
  rw [List.getElem?_take] at hj
  split at hj
  ·simpa using hj
  ·cases hj
def BdL (r B:Nat)(w:World)(v:Value)(bs:List Bd):Prop:=r<B∧(∃g,v.ownBlock=some g)∧∃xs,w.ownsRow B 66 3 v bs.length xs∧aX (fun b=>b≠r∧v.ownBlock≠some b) w bs xs
theorem BdL.nil {r B:Nat}{w:World}{g:Nat}{cs:Array Value}(hr:r<B)(hB:B≤g)(h:w.heap[g]?=some (.cells cs 66 (0,0)))(h0:cs.size=0):BdL r B w (.slice (some ⟨g,0,none⟩) 0 0) []:=
 ⟨hr,⟨g,rfl⟩,[],⟨rfl,.inr ⟨g,0,cs,rfl,hB,h,Nat.le_refl _,by unfold maxLen;omega,by simpa using h0,by simp⟩⟩,rfl⟩
theorem BdL.chg {r B:Nat}{w w':World}{v:Value}{bs:List Bd}(h:BdL r B w v bs)(k:Chg [r] w w'):BdL r B w' v bs:=by
 obtain⟨hr,hso,xs,h1,h2⟩:=h
 exact⟨hr,hso,xs,cl h1 k hr,h2.move (k.keeps fun b hb=>by simpa using hb.1) _ _⟩
theorem BdL.below {r B:Nat}{w w':World}{v:Value}{bs:List Bd}(h:BdL r B w v bs)(k:Below w.heap.size w w'):BdL r B w' v bs:=by
 obtain⟨hr,hso,xs,h1,h2⟩:=h
 exact⟨hr,hso,xs,bi h1 k,h2.move (.below k) _ _⟩
theorem BdL.shape {r B:Nat}{w:World}{v:Value}{bs:List Bd}(h:BdL r B w v bs) : ∃a q,v = .slice a bs.length q:=by
 obtain⟨hr,hso,xs,⟨h1,h2 | ⟨g,cap,cur,h2,hB,hg,hn,hc,hs,ht⟩⟩,-⟩:=h
 ·exact⟨none,0,by rw [h2.1,h2.2]⟩
 ·exact⟨_,cap,h2⟩
theorem BdL.push {r B g cap:Nat}{W w2:World}{v:Value}{bs:List Bd}{xs:List Value}{nm:ByteArray}{k:Int}{sl:Value}{t:Ty}(hr:r<B)(hv:aX (fun b=>b≠r∧v.ownBlock≠some b) W bs xs)(hn:nm.size≤maxLen)
  (ht:ap (fun b=>b≠r∧v.ownBlock≠some b) W t (.agg #[.int .i64 k,sl])) (hown:w2.ownsRow B 66 3 (.slice (some ⟨g,0,none⟩) (bs.length+1) cap) (bs.length+1) (xs ++ [.string nm,.int .i64 k,sl])) (hgrow:W.grownBy w2 v.ownBlock) (hat:v.ownBlock=some g∨g=W.heap.size) :
  BdL r B w2 (.slice (some ⟨g,0,none⟩) (bs.length+1) cap) (bs ++ [⟨nm,t⟩]):=by
 have kk:bB (fun b=>b≠r∧v.ownBlock≠some b) (fun b=>b≠r∧(Value.slice (some ⟨g,0,none⟩) (bs.length+1) cap).ownBlock≠some b) W w2:=by
  refine⟨hgrow.size,fun b hb hl=>⟨hb.1,fun e=>?_⟩,fun b hb hl=>hgrow.block b hl (fun e=>hb.2 e.symm)⟩
  simp only [Value.ownBlock,Option.some.injEq] at e
  subst e
  rcases hat with h | h
  ·exact hb.2 h
  ·omega
 refine⟨hr,⟨g,rfl⟩,xs ++ [.string nm,.int .i64 k,sl],by simpa using hown,aX.append bs [⟨nm,t⟩] xs _ (hv.move kk _ _) ⟨k,sl,[],rfl,hn,ht.move kk,rfl⟩⟩
theorem BdL.rep {r B:Nat}{w:World}{v:Value}{bs:List Bd}(h:BdL r B w v bs):aL (fun _=>True) w bs v:=by
 obtain⟨a,q,rfl⟩:=h.shape
 obtain⟨hr,hso,xs,h1,h2⟩:=h
 have h1':=h1
 obtain⟨hx,h3 | ⟨g,cap,cur,h3,hB,hg,hn,hc,hs,ht⟩⟩:=h1
 ·obtain⟨h3,h4⟩:=h3
  simp only [Value.slice.injEq] at h3
  obtain⟨rfl,-,rfl⟩:=h3
  have:bs = []:=List.length_eq_zero_iff.1 h4
  subst this
  unfold aL aS
  exact⟨none,0,rfl,Nat.le_refl _,by unfold maxLen;omega,.inl rfl⟩
 ·simp only [Value.slice.injEq] at h3
  obtain⟨rfl,-,rfl⟩:=h3
  have hcl:=de h1'
  unfold aL aS
  refine⟨_,q,by rw [Bd.rows_length],by rw [Bd.rows_length];exact hn,hc,.inr ⟨g,0,rfl,trivial,(Array.getElem?_eq_some_iff.1 hg).1,?_⟩⟩
  exact aX.rows bs xs 0 (h2.move (.weaken fun _ _ _=>trivial) _ _) (fun j u hj=>by simpa using hcl j u hj)
end Go.Proofs.Ytnaoghknnenfoaa
namespace Go.Proofs.Ytnaoghknnenfoaa
open Go.RowKit
def BdM (B:Nat)(w:World)(v:Value)(bs:List Bd):Prop:=∃xs,w.ownsRow B 66 3 v bs.length xs∧aX (fun b=>v.ownBlock≠some b) w bs xs
theorem BdM.nil {B:Nat}{w:World}{g:Nat}{cs:Array Value}(hB:B≤g)(h:w.heap[g]?=some (.cells cs 66 (0,0)))(h0:cs.size=0):BdM B w (.slice (some ⟨g,0,none⟩) 0 0) []:=
 ⟨[],⟨rfl,.inr ⟨g,0,cs,rfl,hB,h,Nat.le_refl _,by unfold maxLen;omega,by simpa using h0,by simp⟩⟩,rfl⟩
theorem BdM.push {B:Nat}{W w2:World}{v v':Value}{bs cs:List Bd}{xs ys:List Value}(hv:aX (fun b=>v.ownBlock≠some b) W bs xs)(hc:aX (fun b=>v.ownBlock≠some b) W cs ys)
  (hown:w2.ownsRow B 66 3 v' (bs.length+cs.length) (xs++ys)) (hgrow:W.grownBy w2 v.ownBlock) (hat:v'.ownBlock=v.ownBlock∨v'.ownBlock=some W.heap.size) :
  BdM B w2 v' (bs++cs):=by
 have kk:bB (fun b=>v.ownBlock≠some b) (fun b=>v'.ownBlock≠some b) W w2:=by
  refine⟨hgrow.size,fun b hb hl e=>?_,fun b hb hl=>hgrow.block b hl (fun e=>hb e.symm)⟩
  rcases hat with h | h
  ·exact hb (h▸e)
  ·rw [h] at e
   simp only [Option.some.injEq] at e
   omega
 exact⟨xs++ys,by simpa using hown,aX.append bs cs xs ys (hv.move kk _ _) (hc.move kk _ _)⟩
theorem BdM.shape {B:Nat}{w:World}{v:Value}{bs:List Bd}(h:BdM B w v bs) : ∃a q,v = .slice a bs.length q:=by
 obtain⟨xs,⟨h1,h2 | ⟨g,cap,cur,h2,hB,hg,hn,hc,hs,ht⟩⟩,-⟩:=h
 ·exact⟨none,0,by rw [h2.1,h2.2]⟩
 ·exact⟨_,cap,h2⟩
theorem BdM.rep {B:Nat}{w:World}{v:Value}{bs:List Bd}(h:BdM B w v bs):aL (fun _=>True) w bs v:=by
 obtain⟨a,q,rfl⟩:=h.shape
 obtain⟨xs,h1,h2⟩:=h
 have h1':=h1
 obtain⟨hx,h3 | ⟨g,cap,cur,h3,hB,hg,hn,hc,hs,ht⟩⟩:=h1
 ·obtain⟨h3,h4⟩:=h3
  simp only [Value.slice.injEq] at h3
  obtain⟨rfl,-,rfl⟩:=h3
  have:bs = []:=List.length_eq_zero_iff.1 h4
  subst this
  unfold aL aS
  exact⟨none,0,rfl,Nat.le_refl _,by unfold maxLen;omega,.inl rfl⟩
 ·simp only [Value.slice.injEq] at h3
  obtain⟨rfl,-,rfl⟩:=h3
  have hcl:=de h1'
  unfold aL aS
  refine⟨_,q,by rw [Bd.rows_length],by rw [Bd.rows_length];exact hn,hc,.inr ⟨g,0,rfl,trivial,(Array.getElem?_eq_some_iff.1 hg).1,?_⟩⟩
  exact aX.rows bs xs 0 (h2.move (.weaken fun _ _ _=>trivial) _ _) (fun j u hj=>by simpa using hcl j u hj)
theorem aX.of_rows {F:Nat→Prop}{w:World}{b:Nat} : ∀(bs:List Bd) (off:Nat),bl F w b off (Bd.rows bs)→∃xs,aX F w bs xs∧(∀j u,xs[j]?=some u→w.cell? ⟨b,off+j,none⟩=some u)∧∀u∈xs,u.oneCell'=true
 | [],_,_=>⟨[],rfl,by simp,by simp⟩
 | d :: bs,off,h=>by
  have h':bl F w b off (d.row :: Bd.rows bs):=h
  unfold bl at h'
  obtain⟨h1,h2⟩:=h'
  obtain⟨rest,r1,r2,r3⟩:=aX.of_rows bs _ h2
  rw [Bd.row_length] at r2
  unfold Bd.row aU at h1
  obtain⟨⟨y0,e0,c0⟩,h1⟩:=h1
  unfold aU at h1
  obtain⟨⟨y1,e1,c1⟩,h1⟩:=h1
  unfold aU at h1
  obtain⟨⟨y2,e2,c2⟩,-⟩:=h1
  unfold aS at c0
  obtain⟨rfl,hz⟩:=c0
  obtain rfl:=aS.int_eq c1
  obtain⟨a,q,hs,-⟩:=aS.rows c2
  subst hs
  refine⟨_ :: _ :: _ :: rest,⟨_,_,rest,rfl,hz,⟨_,rfl,c2⟩,r1⟩,fun j u hj=>?_,fun u hu=>?_⟩
  ·match j with
   | 0=>simp at hj;subst hj;exact e0
   | 1=>simp at hj;subst hj;exact e1
   | 2=>simp at hj;subst hj;exact e2
   | j+3=>
    have:=r2 j u (by simpa using hj)
    rw [show off+(j+3)=off+3+j from by omega];exact this
  ·simp only [List.mem_cons] at hu
   rcases hu with rfl | rfl | rfl | hu
   ·rfl
   ·rfl
   ·rfl
   ·exact r3 u hu
theorem aL.cells {F:Nat→Prop}{w:World}{bs:List Bd}{a:Option Addr}{n q:Nat}(h:aL F w bs (.slice a n q))(hn:0<n) : ∃ad xs,a=some ad∧aX F w bs xs∧(∀j u,xs[j]?=some u→w.cell? (ad.add j)=some u)∧∀u∈xs,u.oneCell'=true:=by
 unfold aL aS at h
 obtain⟨a',q',he,h1,h2,h3⟩:=h
 simp only [Value.slice.injEq] at he
 obtain⟨rfl,rfl,rfl⟩:=he
 rcases h3 with h3 | ⟨b,off,rfl,-,-,h3⟩
 ·rw [h3] at hn;exact absurd hn (by simp)
 ·obtain⟨xs,r1,r2,r3⟩:=aX.of_rows bs off h3
  exact⟨_,xs,rfl,r1,fun j u hj=>by have:=r2 j u hj;cases j<;>simpa [Addr.add] using this,r3⟩
theorem aL.n_eq {F:Nat→Prop}{w:World}{bs:List Bd}{a:Option Addr}{n q:Nat}(h:aL F w bs (.slice a n q)):n=bs.length:=by
 unfold aL aS at h
 obtain⟨a',q',he,-⟩:=h
 simp only [Value.slice.injEq] at he
 rw [he.2.1,Bd.rows_length]
theorem aL.cellsAny {F:Nat→Prop}{w:World}{bs:List Bd}{ad:Addr}{n q:Nat}(h:aL F w bs (.slice (some ad) n q)) : ∃ad' xs,some ad=some ad'∧aX F w bs xs∧(∀j u,xs[j]?=some u→w.cell? (ad'.add j)=some u)∧∀u∈xs,u.oneCell'=true:=by
 by_cases hn:0<n
 ·exact h.cells hn
 ·have:=h.n_eq
  have:bs = []:=List.length_eq_zero_iff.1 (by omega)
  subst this
  exact⟨ad,[],rfl,rfl,by simp,by simp⟩
theorem aL.old {F:Nat→Prop}{w:World}{bs:List Bd}{y:Value}(r:aL F w bs y):aL (· < w.heap.size) w bs y:=r.move (.weaken fun _ _ h=>h)
end Go.Proofs.Ytnaoghknnenfoaa
namespace Go.Proofs.Ytnaoghknnenfoaa
open Go.RowKit
theorem Try.infoBdC:(Try.prog.info? 66).map (fun i=>(i.zero,i.size,i.bytes))=some (some (.agg #[.string ByteArray.empty,.int .i64 0,.slice none 0 0]),3,48):=by kernel_rfl
theorem BdM.none {B:Nat}{w:World}:BdM B w (.slice none 0 0) []:=⟨[],World.ownsRow_nil w B _ _,rfl⟩
end Go.Proofs.Ytnaoghknnenfoaa
namespace Go.Proofs.Ytnaoghknnenfoaa
open Go.RowKit
def oM0:Oper:=⟨some 7,Op.buildSlice 63 0 #[],63,"l3_typing.go:66",#[],none⟩
def oM1:Oper:=⟨some 8,Op.move (Operand.tmp 0),63,"l3_typing.go:66",#[],none⟩
def oM2:Oper:=⟨some 9,Op.call { callee:=Callee.builtin Builtin.append,args:=#[Operand.tmp 7,Operand.tmp 8],argTypes:=#[63,63] },63,"l3_typing.go:66",#[⟨0,.data⟩,⟨1,.data⟩],none⟩
def oM3:Oper:=⟨some 10,Op.move (Operand.tmp 1),9,"l3_typing.go:66",#[],none⟩
def oM4:Oper:=⟨some 11,Op.load 25 (Operand.tmp 5),25,"l3_typing.go:66",#[],none⟩
def oM5:Oper:=⟨some 12,Op.build 66 #[(0,Operand.tmp 10),(1,Operand.tmp 11)],66,"l3_typing.go:66",#[⟨3,.data⟩,⟨4,.data⟩],none⟩
def oM6:Oper:=⟨some 13,Op.buildSlice 63 1 #[(0,Operand.tmp 12)],63,"l3_typing.go:66",#[⟨5,.data⟩],none⟩
def oM7:Oper:=⟨some 14,Op.call { callee:=Callee.builtin Builtin.append,args:=#[Operand.tmp 9,Operand.tmp 13],argTypes:=#[63,63] },63,"l3_typing.go:66",#[⟨2,.data⟩,⟨6,.data⟩,⟨2,.chain⟩],none⟩
def oM8:Oper:=⟨some 6,Op.assign (Operand.tmp 14),63,"l3_typing.go:66",#[⟨7,.data⟩,⟨7,.chain⟩,⟨0,.phase⟩,⟨1,.phase⟩,⟨2,.phase⟩,⟨3,.phase⟩,⟨4,.phase⟩,⟨5,.phase⟩,⟨6,.phase⟩,⟨7,.phase⟩],none⟩
def RetC (l:List Bd)(w:World)(e:Ending)(w':World):Prop:=∃(a:Addr) (m q:Nat),e = .returned (.slice (some a) m q)∧aL (fun _=>True) w' l (.slice (some a) m q)∧Below w.heap.size w w'
theorem bP {F:Nat→Prop}{w:World}{nm:ByteArray}{ty:Ty}{k:Int}{a:Option Addr}{n q:Nat}(hn:nm.size≤maxLen)(h:ap F w ty (.agg #[.int .i64 k,.slice a n q])):aX F w [⟨nm,ty⟩] [.string nm,.int .i64 k,.slice a n q]:=⟨k,_,[],rfl,hn,h,rfl⟩
theorem BdM.below {B:Nat}{w w':World}{v:Value}{bs:List Bd}(h:BdM B w v bs)(k:Below w.heap.size w w'):BdM B w' v bs:=by
 obtain⟨xs,h1,h2⟩:=h
 exact⟨xs,bi h1 k,h2.move (.below k) _ _⟩
theorem bY {P:Program}{w:World}{ops:Array Oper}{o:Oper}{a:Act}{K:Act→World→Prop}{Q:Exit→Act→World→Prop}{E:Prop}(u:Unit)(hgd:o.guard=none)(s x:Operand)(t:TypeId)
  (ho:o.op = .call { callee:=.builtin .append,args:=#[s,x],argTypes:=#[t,t] }) (base:Nat) (e:TypeId) (i:TypeInfo) (size:Nat) (ht:P.underlying t=some (.slice e)) (hi:P.info? e=some i)
  (v:Value) (n:Nat) (xs:List Value) (hs:a.eval s=v) (hown:w.ownsRow base e size v n xs) (hx:a.eval x = .slice none 0 0) (h:K (a.put o.dst v) w):if Region.wanted o (yielded ops a.tmps)=true then Oper.wp P o a w K Q else E:=by
 have hw:Region.wanted o (yielded ops a.tmps)=true:=by simp [Region.wanted,hgd]
 rw [if_pos hw]
 have hrun:=run_append_owned_none (P:=P) (w:=w) base t o.type e i size ht hi v n xs hown
 unfold Oper.wp
 simp [execOp,ho,resolve,invoke,builtin,hs,hx,hrun,Result.andThen]
 exact h
set_option maxHeartbeats 4000000 in
theorem pg (F G:Nat→Prop)(l:List Bd)(ad:Addr)(n q:Nat)(nm:ByteArray)(ty:Ty)(tk:Int)(ta:Option Addr)(tn tq:Nat)(w:World)(hy:aL F w l (.slice (some ad) n q))(hl:l.length≤1000000)(hl1:1≤l.length)(hnm:nm.size≤maxLen)(ht:ap G w ty (.agg #[.int .i64 tk,.slice ta tn tq])) :
  Calls Try.prog 66 #[.slice (some ad) n q,.string nm,.agg #[.int .i64 tk,.slice ta tn tq]] w (RetC (l ++ [⟨nm,ty⟩]) w):=by
 obtain⟨i0,hi,hz0,hz1,hz2⟩:=info_parts Try.infoBdC
 have Z0:=Lib.hid hz0
 have Z1:=Lib.hid hz1
 have Z2:=Lib.hid hz2
 have HI:=Lib.hid hi
 have hn:=hy.n_eq
 have HN:=Lib.hid hn.symm
 have hn1:0<n:=by omega
 have hn2:n≤1000000:=by omega
 have HY:=Lib.hid hy.old
 have HT:=Lib.hid ht.old
 clear hi hz0 hz1 hz2 hn hy ht
 go_enter Try.func66,Try.ntmps66
 go_wp2_with fail
 have fB:(w.alloc (.cells #[.int .i64 tk,.slice ta tn tq] 25)).heap[w.heap.size]?=some (.cells #[.int .i64 tk,.slice ta tn tq] 25 (0,0)):=aD rfl
 have fC:=Lib.hid (show Below w.heap.size w (w.alloc (.cells #[.int .i64 tk,.slice ta tn tq] 25)) from ah)
 refine wp_region_noPanic ?_
 refine wp_region_held_drew (S:=fun w'=>w'.cell? ⟨w.heap.size,0,none⟩=some (.int .i64 tk)∧w'.cell? ⟨w.heap.size,1,none⟩=some (.slice ta tn tq)) (by kernel_rfl) ?_ (fun hHeld0=>?_)
 ·exact⟨ay (ag fB (o:=0) rfl),ay (ag fB (o:=1) rfl)⟩
 obtain⟨U,hU⟩ : ∃X:World,X=World.drew (w.alloc (.cells #[.int .i64 tk,.slice ta tn tq] 25)):=⟨_,rfl⟩
 have fB':U.heap[w.heap.size]?=some (.cells #[.int .i64 tk,.slice ta tn tq] 25 (0,0)):=by rw [hU];exact fB
 have fC':=Lib.hid (show Below w.heap.size w U from by rw [hU];exact fC.out.drew)
 have zU:U.heap.size=w.heap.size+1:=by rw [hU];simp
 rw [←hU] at hHeld0 ⊢
 have zUa:w.heap.size+1≤U.heap.size:=by omega
 have zUb:U.heap.size≤w.heap.size+1:=by omega
 clear zU
 clear hU fB fC
 have fB:=fB'
 have fC:=fC'
 clear fB' fC'
 refine hwt 1 oM1 (.slice (some ad) n q) hHeld0 ?_ ?_
 ·intro w' hSw;dsimp only [oM1];go_simp
 try simp only [oM1,hwA]
 refine hwt 3 oM3 (.string nm) hHeld0 ?_ ?_
 ·intro w' hSw;dsimp only [oM3];go_simp
 try simp only [oM3,hwA]
 refine hwt 4 oM4 (.agg #[.int .i64 tk,.slice ta tn tq]) hHeld0 ?_ ?_
 ·intro w' hSw;dsimp only [oM4];go_simp
 try simp only [oM4,hwA]
 refine hwt 5 oM5 (.agg #[.string nm,.int .i64 tk,.slice ta tn tq]) hHeld0 ?_ ?_
 ·intro w' hSw;dsimp only [oM5];go_simp
 try simp only [oM5,hwA]
 refine wpAnyH_ready (rs:= [0,6]) (by kernel_rfl) (by simp) ?_
 refine(AllReadyH.cons (o:=oM0) rfl (fun K hK=>?_) (AllReadyH.cons (o:=oM6) rfl (fun K hK=>?_) AllReadyH.nil))
 ·skip
  dsimp only [oM0]
  go_simp
  (try go_wp2_with fail)
  have fE2:(U.alloc (.cells #[] 66)).heap[U.heap.size]?=some (.cells #[] 66 (0,0)):=aD rfl
  have fB2:=af fB (ah (o:=.cells #[] 66))
  have fC2:=Lib.hid (ai fC.out (ah (o:=.cells #[] 66)))
  have hzW2:(U.alloc (.cells #[] 66)).heap.size=U.heap.size+1:=by simp
  refine hK.out _ _ ⟨ag fB2 (o:=0) rfl,ag fB2 (o:=1) rfl⟩ (fun hHeld1=>?_)
  clear hK K hHeld0 fB fC
  try simp only [oM0,hwA]
  obtain⟨X1,hWW⟩ : ∃X:World,X=(U.alloc (.cells #[] 66)):=⟨_,rfl⟩
  rw [←hWW] at fB2 fC2 fE2 hzW2 hHeld1 ⊢
  clear hWW
  have fB:=fB2
  have fC:=fC2
  have fE:=fE2
  clear fB2 fC2 fE2
  have zX1a:U.heap.size+1≤X1.heap.size:=by omega
  have zX1b:X1.heap.size≤U.heap.size+1:=by omega
  clear hzW2
  refine wpAnyH_ready (rs:= [2,6]) (by kernel_rfl) (by simp) ?_
  refine(AllReadyH.cons (o:=oM2) rfl (fun K hK=>?_) (AllReadyH.cons (o:=oM6) rfl (fun K hK=>?_) AllReadyH.nil))
  ·skip
   obtain⟨xs0,ho0,hv0⟩:BdM U.heap.size X1 (.slice (some ⟨U.heap.size,0,none⟩) 0 0) []:=BdM.nil (Nat.le_refl _) fE rfl
   obtain rfl:xs0 = []:=hv0
   have hlg:w.heap.size≤U.heap.size:=by have:=fC.out.size;omega
   obtain⟨ad1',xs,ha1,Y1,Y2,Y3⟩ : ∃ad' xs,some ad=some ad'∧aX (fun b=>(Value.slice (some ⟨U.heap.size,0,none⟩) 0 0).ownBlock≠some b) X1 l xs∧(∀j u,xs[j]?=some u→X1.cell? (ad'.add j)=some u)∧∀u∈xs,u.oneCell'=true:=by
    have h0:=(HY.out.below fC.out).move (.weaken (G:=fun b=>(Value.slice (some ⟨U.heap.size,0,none⟩) 0 0).ownBlock≠some b) fun b hb _ e=>by simp [Value.ownBlock] at e;omega)
    exact h0.cellsAny
   obtain rfl:ad=ad1':=by simpa using ha1
   have hxl:xs.length=n*3:=by rw [Y1.len,HN.out]
   refine step_append_lies _ (by rfl) (.tmp 7) (.tmp 8) 63 (by rfl) U.heap.size 66 i0 _ 3 48 Try.underlying63 HI.out Z0.out Z1.out Z2.out rfl (by omega) (.slice (some ⟨U.heap.size,0,none⟩) 0 0) 0 [] (by rfl) ho0 ad n q xs (by rfl) hxl Y2 Y3 hn1 (by unfold maxLen;omega) (by omega) (by omega) _ rfl ?_
   intro gg cap w5 hown hgrow hat hlt2
   simp only [Nat.zero_add] at hown ⊢
   have MM2:=Lib.hid (show BdM U.heap.size w5 (.slice (some ⟨gg,0,none⟩) n cap) ([]++l) from BdM.push (W:=X1) (v:=(.slice (some ⟨U.heap.size,0,none⟩) 0 0)) (bs:= []) (cs:=l) (xs:= []) (ys:=xs) rfl Y1 (by simpa [HN.out] using hown) hgrow (by rcases hat with h | h;exact .inl (h.symm▸rfl);exact .inr (by rw [h];rfl)))
   have hb45:Below U.heap.size X1 w5:=Below.grown (Below.refl _ _) hgrow (by omega) (fun k hk=>by simp [Value.ownBlock] at hk;omega)
   have fC2:=Lib.hid (fC.out.trans (hb45.mono hlg))
   have fB2:w5.heap[w.heap.size]?=some (.cells #[.int .i64 tk,.slice ta tn tq] 25 (0,0)):=(hb45.block _ (by omega)).trans fB
   have z5:X1.heap.size≤w5.heap.size:=hgrow.size
   refine hK.out _ _ ⟨ag fB2 (o:=0) rfl,ag fB2 (o:=1) rfl⟩ (fun hHeld2=>?_)
   clear hK K hHeld1 fB fC fE ho0 Y1 Y2 Y3 hown hgrow hat ha1 hxl hb45
   try simp only [oM2,hwA]
   have MM:=MM2
   have fC:=fC2
   have fB:=fB2
   clear MM2 fC2 fB2
   refine hwr 6 oM6 (fun K hK=>?_)
   ·skip
    dsimp only [oM6]
    go_simp
    (try go_wp2_with fail)
    have fN2:(w5.alloc (.cells #[.string nm,.int .i64 tk,.slice ta tn tq] 66)).heap[w5.heap.size]?=some (.cells #[.string nm,.int .i64 tk,.slice ta tn tq] 66 (0,0)):=aD rfl
    have MM2:=Lib.hid (MM.out.below (ah (o:=.cells #[.string nm,.int .i64 tk,.slice ta tn tq] 66)))
    have fB2:=af fB (ah (o:=.cells #[.string nm,.int .i64 tk,.slice ta tn tq] 66))
    have fC2:=Lib.hid (ai fC.out (ah (o:=.cells #[.string nm,.int .i64 tk,.slice ta tn tq] 66)))
    have hzW2:(w5.alloc (.cells #[.string nm,.int .i64 tk,.slice ta tn tq] 66)).heap.size=w5.heap.size+1:=by simp
    refine hK.out _ _ ⟨ag fB2 (o:=0) rfl,ag fB2 (o:=1) rfl⟩ (fun hHeld3=>?_)
    clear hK K hHeld2 fB fC MM
    try simp only [oM6,hwA]
    obtain⟨X3,hWW⟩ : ∃X:World,X=(w5.alloc (.cells #[.string nm,.int .i64 tk,.slice ta tn tq] 66)):=⟨_,rfl⟩
    rw [←hWW] at fB2 fC2 fN2 MM2 hzW2 hHeld3 ⊢
    clear hWW
    have fB:=fB2
    have fC:=fC2
    have fN:=fN2
    have MM:=MM2
    clear fB2 fC2 fN2 MM2
    have zX3a:w5.heap.size+1≤X3.heap.size:=by omega
    have zX3b:X3.heap.size≤w5.heap.size+1:=by omega
    clear hzW2
    refine hwr 7 oM7 (fun K hK=>?_)
    ·skip
     obtain⟨xs5,ho5,hv5⟩:=MM.out
     have hv1:aX (fun b=>(Value.slice (some ⟨gg,0,none⟩) n cap).ownBlock≠some b) X3 [⟨nm,ty⟩] [.string nm,.int .i64 tk,.slice ta tn tq]:=bP hnm ((HT.out.below fC.out).move (.weaken fun b hb _ e=>by have:=(ho5.lt b e).1;omega))
     refine step_append_lies _ (by rfl) (.tmp 9) (.tmp 13) 63 (by rfl) U.heap.size 66 i0 _ 3 48 Try.underlying63 HI.out Z0.out Z1.out Z2.out rfl (by omega) (.slice (some ⟨gg,0,none⟩) n cap) n xs5 (by rfl) (by simpa [HN.out] using ho5) ⟨w5.heap.size,0,none⟩ 1 1 [.string nm,.int .i64 tk,.slice ta tn tq] (by rfl) (by rfl) (World.news_of_block (cs:=#[.string nm,.int .i64 tk,.slice ta tn tq]) (t:=66) (fr:=(0,0)) fN) (by simp [Value.oneCell']) (by omega) (by unfold maxLen;omega) (by omega) (by omega) _ rfl ?_
     intro g6 cap6 w6 hown hgrow hat hlt3
     have M6:BdM U.heap.size w6 (.slice (some ⟨g6,0,none⟩) (n+1) cap6) (([]++l) ++ [⟨nm,ty⟩]):=BdM.push (W:=X3) (v:=(.slice (some ⟨gg,0,none⟩) n cap)) hv5 hv1 (by simpa [HN.out] using hown) hgrow (by rcases hat with h | h;exact .inl (h.symm▸rfl);exact .inr (by rw [h];rfl))
     have RF:=Lib.hid (show aL (fun _=>True) w6 (l ++ [⟨nm,ty⟩]) (.slice (some ⟨g6,0,none⟩) (n+1) cap6) from M6.rep)
     have hb56:Below U.heap.size X3 w6:=Below.grown (Below.refl _ _) hgrow (by omega) (fun k hk=>(ho5.lt k hk).1)
     have fC2:=Lib.hid (fC.out.trans (hb56.mono hlg))
     have fB2:w6.heap[w.heap.size]?=some (.cells #[.int .i64 tk,.slice ta tn tq] 25 (0,0)):=(hb56.block _ (by omega)).trans fB
     refine hK.out _ _ ⟨ag fB2 (o:=0) rfl,ag fB2 (o:=1) rfl⟩ (fun hHeld4=>?_)
     clear hK K hHeld3 fB fC fN ho5 hv5 hv1 hown hgrow hat M6 hb56 MM
     try simp only [oM7,hwA]
     have fC:=fC2
     have fB:=fB2
     clear fC2 fB2
     refine hwt 8 oM8 (.slice (some ⟨g6,0,none⟩) (n+1) cap6) hHeld4 ?_ ?_
     ·intro w' hSw;dsimp only [oM8];go_simp
     try simp only [oM8,hwA]
     refine wpAnyH_done (by kernel_rfl) ?_ _
     refine NoPanic.normal ?_
     clear hHeld4
     go_wp2_with fail
     go_ret
     exact⟨_,_,_,rfl,RF.out,fC.out⟩
  ·skip
   dsimp only [oM6]
   go_simp
   (try go_wp2_with fail)
   have fN2:(X1.alloc (.cells #[.string nm,.int .i64 tk,.slice ta tn tq] 66)).heap[X1.heap.size]?=some (.cells #[.string nm,.int .i64 tk,.slice ta tn tq] 66 (0,0)):=aD rfl
   have fE2:=af fE (ah (o:=.cells #[.string nm,.int .i64 tk,.slice ta tn tq] 66))
   have fB2:=af fB (ah (o:=.cells #[.string nm,.int .i64 tk,.slice ta tn tq] 66))
   have fC2:=Lib.hid (ai fC.out (ah (o:=.cells #[.string nm,.int .i64 tk,.slice ta tn tq] 66)))
   have hzW2:(X1.alloc (.cells #[.string nm,.int .i64 tk,.slice ta tn tq] 66)).heap.size=X1.heap.size+1:=by simp
   refine hK.out _ _ ⟨ag fB2 (o:=0) rfl,ag fB2 (o:=1) rfl⟩ (fun hHeld2=>?_)
   clear hK K hHeld1 fB fC fE
   try simp only [oM6,hwA]
   obtain⟨X2,hWW⟩ : ∃X:World,X=(X1.alloc (.cells #[.string nm,.int .i64 tk,.slice ta tn tq] 66)):=⟨_,rfl⟩
   rw [←hWW] at fB2 fC2 fE2 fN2 hzW2 hHeld2 ⊢
   clear hWW
   have fB:=fB2
   have fC:=fC2
   have fE:=fE2
   have fN:=fN2
   clear fB2 fC2 fE2 fN2
   have zX2a:X1.heap.size+1≤X2.heap.size:=by omega
   have zX2b:X2.heap.size≤X1.heap.size+1:=by omega
   clear hzW2
   refine hwr 2 oM2 (fun K hK=>?_)
   ·skip
    obtain⟨xs0,ho0,hv0⟩:BdM U.heap.size X2 (.slice (some ⟨U.heap.size,0,none⟩) 0 0) []:=BdM.nil (Nat.le_refl _) fE rfl
    obtain rfl:xs0 = []:=hv0
    have hlg:w.heap.size≤U.heap.size:=by have:=fC.out.size;omega
    obtain⟨ad1',xs,ha1,Y1,Y2,Y3⟩ : ∃ad' xs,some ad=some ad'∧aX (fun b=>(Value.slice (some ⟨U.heap.size,0,none⟩) 0 0).ownBlock≠some b) X2 l xs∧(∀j u,xs[j]?=some u→X2.cell? (ad'.add j)=some u)∧∀u∈xs,u.oneCell'=true:=by
     have h0:=(HY.out.below fC.out).move (.weaken (G:=fun b=>(Value.slice (some ⟨U.heap.size,0,none⟩) 0 0).ownBlock≠some b) fun b hb _ e=>by simp [Value.ownBlock] at e;omega)
     exact h0.cellsAny
    obtain rfl:ad=ad1':=by simpa using ha1
    have hxl:xs.length=n*3:=by rw [Y1.len,HN.out]
    refine step_append_lies _ (by rfl) (.tmp 7) (.tmp 8) 63 (by rfl) U.heap.size 66 i0 _ 3 48 Try.underlying63 HI.out Z0.out Z1.out Z2.out rfl (by omega) (.slice (some ⟨U.heap.size,0,none⟩) 0 0) 0 [] (by rfl) ho0 ad n q xs (by rfl) hxl Y2 Y3 hn1 (by unfold maxLen;omega) (by omega) (by omega) _ rfl ?_
    intro gg cap w5 hown hgrow hat hlt2
    simp only [Nat.zero_add] at hown ⊢
    have MM2:=Lib.hid (show BdM U.heap.size w5 (.slice (some ⟨gg,0,none⟩) n cap) ([]++l) from BdM.push (W:=X2) (v:=(.slice (some ⟨U.heap.size,0,none⟩) 0 0)) (bs:= []) (cs:=l) (xs:= []) (ys:=xs) rfl Y1 (by simpa [HN.out] using hown) hgrow (by rcases hat with h | h;exact .inl (h.symm▸rfl);exact .inr (by rw [h];rfl)))
    have hb45:Below U.heap.size X2 w5:=Below.grown (Below.refl _ _) hgrow (by omega) (fun k hk=>by simp [Value.ownBlock] at hk;omega)
    have fC2:=Lib.hid (fC.out.trans (hb45.mono hlg))
    have fB2:w5.heap[w.heap.size]?=some (.cells #[.int .i64 tk,.slice ta tn tq] 25 (0,0)):=(hb45.block _ (by omega)).trans fB
    have fN2:w5.heap[X1.heap.size]?=some (.cells #[.string nm,.int .i64 tk,.slice ta tn tq] 66 (0,0)):=(hgrow.block _ (al fN) (by simp [Value.ownBlock];omega)).trans fN
    have z5:X2.heap.size≤w5.heap.size:=hgrow.size
    refine hK.out _ _ ⟨ag fB2 (o:=0) rfl,ag fB2 (o:=1) rfl⟩ (fun hHeld5=>?_)
    clear hK K hHeld2 fB fC fE fN ho0 Y1 Y2 Y3 hown hgrow hat ha1 hxl hb45
    try simp only [oM2,hwA]
    have MM:=MM2
    have fC:=fC2
    have fB:=fB2
    have fN:=fN2
    clear MM2 fC2 fB2 fN2
    refine hwr 7 oM7 (fun K hK=>?_)
    ·skip
     obtain⟨xs5,ho5,hv5⟩:=MM.out
     have hv1:aX (fun b=>(Value.slice (some ⟨gg,0,none⟩) n cap).ownBlock≠some b) w5 [⟨nm,ty⟩] [.string nm,.int .i64 tk,.slice ta tn tq]:=bP hnm ((HT.out.below fC.out).move (.weaken fun b hb _ e=>by have:=(ho5.lt b e).1;omega))
     refine step_append_lies _ (by rfl) (.tmp 9) (.tmp 13) 63 (by rfl) U.heap.size 66 i0 _ 3 48 Try.underlying63 HI.out Z0.out Z1.out Z2.out rfl (by omega) (.slice (some ⟨gg,0,none⟩) n cap) n xs5 (by rfl) (by simpa [HN.out] using ho5) ⟨X1.heap.size,0,none⟩ 1 1 [.string nm,.int .i64 tk,.slice ta tn tq] (by rfl) (by rfl) (World.news_of_block (cs:=#[.string nm,.int .i64 tk,.slice ta tn tq]) (t:=66) (fr:=(0,0)) fN) (by simp [Value.oneCell']) (by omega) (by unfold maxLen;omega) (by omega) (by omega) _ rfl ?_
     intro g6 cap6 w6 hown hgrow hat hlt3
     have M6:BdM U.heap.size w6 (.slice (some ⟨g6,0,none⟩) (n+1) cap6) (([]++l) ++ [⟨nm,ty⟩]):=BdM.push (W:=w5) (v:=(.slice (some ⟨gg,0,none⟩) n cap)) hv5 hv1 (by simpa [HN.out] using hown) hgrow (by rcases hat with h | h;exact .inl (h.symm▸rfl);exact .inr (by rw [h];rfl))
     have RF:=Lib.hid (show aL (fun _=>True) w6 (l ++ [⟨nm,ty⟩]) (.slice (some ⟨g6,0,none⟩) (n+1) cap6) from M6.rep)
     have hb56:Below U.heap.size w5 w6:=Below.grown (Below.refl _ _) hgrow (by omega) (fun k hk=>(ho5.lt k hk).1)
     have fC2:=Lib.hid (fC.out.trans (hb56.mono hlg))
     have fB2:w6.heap[w.heap.size]?=some (.cells #[.int .i64 tk,.slice ta tn tq] 25 (0,0)):=(hb56.block _ (by omega)).trans fB
     refine hK.out _ _ ⟨ag fB2 (o:=0) rfl,ag fB2 (o:=1) rfl⟩ (fun hHeld6=>?_)
     clear hK K hHeld5 fB fC fN ho5 hv5 hv1 hown hgrow hat M6 hb56 MM
     try simp only [oM7,hwA]
     have fC:=fC2
     have fB:=fB2
     clear fC2 fB2
     refine hwt 8 oM8 (.slice (some ⟨g6,0,none⟩) (n+1) cap6) hHeld6 ?_ ?_
     ·intro w' hSw;dsimp only [oM8];go_simp
     try simp only [oM8,hwA]
     refine wpAnyH_done (by kernel_rfl) ?_ _
     refine NoPanic.normal ?_
     clear hHeld6
     go_wp2_with fail
     go_ret
     exact⟨_,_,_,rfl,RF.out,fC.out⟩
 ·skip
  dsimp only [oM6]
  go_simp
  (try go_wp2_with fail)
  have fN2:(U.alloc (.cells #[.string nm,.int .i64 tk,.slice ta tn tq] 66)).heap[U.heap.size]?=some (.cells #[.string nm,.int .i64 tk,.slice ta tn tq] 66 (0,0)):=aD rfl
  have fB2:=af fB (ah (o:=.cells #[.string nm,.int .i64 tk,.slice ta tn tq] 66))
  have fC2:=Lib.hid (ai fC.out (ah (o:=.cells #[.string nm,.int .i64 tk,.slice ta tn tq] 66)))
  have hzW2:(U.alloc (.cells #[.string nm,.int .i64 tk,.slice ta tn tq] 66)).heap.size=U.heap.size+1:=by simp
  refine hK.out _ _ ⟨ag fB2 (o:=0) rfl,ag fB2 (o:=1) rfl⟩ (fun hHeld1=>?_)
  clear hK K hHeld0 fB fC
  try simp only [oM6,hwA]
  obtain⟨X1,hWW⟩ : ∃X:World,X=(U.alloc (.cells #[.string nm,.int .i64 tk,.slice ta tn tq] 66)):=⟨_,rfl⟩
  rw [←hWW] at fB2 fC2 fN2 hzW2 hHeld1 ⊢
  clear hWW
  have fB:=fB2
  have fC:=fC2
  have fN:=fN2
  clear fB2 fC2 fN2
  have zX1a:U.heap.size+1≤X1.heap.size:=by omega
  have zX1b:X1.heap.size≤U.heap.size+1:=by omega
  clear hzW2
  refine hwr 0 oM0 (fun K hK=>?_)
  ·skip
   dsimp only [oM0]
   go_simp
   (try go_wp2_with fail)
   have fE2:(X1.alloc (.cells #[] 66)).heap[X1.heap.size]?=some (.cells #[] 66 (0,0)):=aD rfl
   have fN2:=af fN (ah (o:=.cells #[] 66))
   have fB2:=af fB (ah (o:=.cells #[] 66))
   have fC2:=Lib.hid (ai fC.out (ah (o:=.cells #[] 66)))
   have hzW2:(X1.alloc (.cells #[] 66)).heap.size=X1.heap.size+1:=by simp
   refine hK.out _ _ ⟨ag fB2 (o:=0) rfl,ag fB2 (o:=1) rfl⟩ (fun hHeld7=>?_)
   clear hK K hHeld1 fB fC fN
   try simp only [oM0,hwA]
   obtain⟨X7,hWW⟩ : ∃X:World,X=(X1.alloc (.cells #[] 66)):=⟨_,rfl⟩
   rw [←hWW] at fB2 fC2 fE2 fN2 hzW2 hHeld7 ⊢
   clear hWW
   have fB:=fB2
   have fC:=fC2
   have fE:=fE2
   have fN:=fN2
   clear fB2 fC2 fE2 fN2
   have zX7a:X1.heap.size+1≤X7.heap.size:=by omega
   have zX7b:X7.heap.size≤X1.heap.size+1:=by omega
   clear hzW2
   refine hwr 2 oM2 (fun K hK=>?_)
   ·skip
    obtain⟨xs0,ho0,hv0⟩:BdM X1.heap.size X7 (.slice (some ⟨X1.heap.size,0,none⟩) 0 0) []:=BdM.nil (Nat.le_refl _) fE rfl
    obtain rfl:xs0 = []:=hv0
    have hlg:w.heap.size≤X1.heap.size:=by have:=fC.out.size;omega
    obtain⟨ad1',xs,ha1,Y1,Y2,Y3⟩ : ∃ad' xs,some ad=some ad'∧aX (fun b=>(Value.slice (some ⟨X1.heap.size,0,none⟩) 0 0).ownBlock≠some b) X7 l xs∧(∀j u,xs[j]?=some u→X7.cell? (ad'.add j)=some u)∧∀u∈xs,u.oneCell'=true:=by
     have h0:=(HY.out.below fC.out).move (.weaken (G:=fun b=>(Value.slice (some ⟨X1.heap.size,0,none⟩) 0 0).ownBlock≠some b) fun b hb _ e=>by simp [Value.ownBlock] at e;omega)
     exact h0.cellsAny
    obtain rfl:ad=ad1':=by simpa using ha1
    have hxl:xs.length=n*3:=by rw [Y1.len,HN.out]
    refine step_append_lies _ (by rfl) (.tmp 7) (.tmp 8) 63 (by rfl) X1.heap.size 66 i0 _ 3 48 Try.underlying63 HI.out Z0.out Z1.out Z2.out rfl (by omega) (.slice (some ⟨X1.heap.size,0,none⟩) 0 0) 0 [] (by rfl) ho0 ad n q xs (by rfl) hxl Y2 Y3 hn1 (by unfold maxLen;omega) (by omega) (by omega) _ rfl ?_
    intro gg cap w5 hown hgrow hat hlt2
    simp only [Nat.zero_add] at hown ⊢
    have MM2:=Lib.hid (show BdM X1.heap.size w5 (.slice (some ⟨gg,0,none⟩) n cap) ([]++l) from BdM.push (W:=X7) (v:=(.slice (some ⟨X1.heap.size,0,none⟩) 0 0)) (bs:= []) (cs:=l) (xs:= []) (ys:=xs) rfl Y1 (by simpa [HN.out] using hown) hgrow (by rcases hat with h | h;exact .inl (h.symm▸rfl);exact .inr (by rw [h];rfl)))
    have hb45:Below X1.heap.size X7 w5:=Below.grown (Below.refl _ _) hgrow (by omega) (fun k hk=>by simp [Value.ownBlock] at hk;omega)
    have fC2:=Lib.hid (fC.out.trans (hb45.mono hlg))
    have fB2:w5.heap[w.heap.size]?=some (.cells #[.int .i64 tk,.slice ta tn tq] 25 (0,0)):=(hb45.block _ (by omega)).trans fB
    have fN2:w5.heap[U.heap.size]?=some (.cells #[.string nm,.int .i64 tk,.slice ta tn tq] 66 (0,0)):=(hgrow.block _ (al fN) (by simp [Value.ownBlock];omega)).trans fN
    have z5:X7.heap.size≤w5.heap.size:=hgrow.size
    refine hK.out _ _ ⟨ag fB2 (o:=0) rfl,ag fB2 (o:=1) rfl⟩ (fun hHeld8=>?_)
    clear hK K hHeld7 fB fC fE fN ho0 Y1 Y2 Y3 hown hgrow hat ha1 hxl hb45
    try simp only [oM2,hwA]
    have MM:=MM2
    have fC:=fC2
    have fB:=fB2
    have fN:=fN2
    clear MM2 fC2 fB2 fN2
    refine hwr 7 oM7 (fun K hK=>?_)
    ·skip
     obtain⟨xs5,ho5,hv5⟩:=MM.out
     have hv1:aX (fun b=>(Value.slice (some ⟨gg,0,none⟩) n cap).ownBlock≠some b) w5 [⟨nm,ty⟩] [.string nm,.int .i64 tk,.slice ta tn tq]:=bP hnm ((HT.out.below fC.out).move (.weaken fun b hb _ e=>by have:=(ho5.lt b e).1;omega))
     refine step_append_lies _ (by rfl) (.tmp 9) (.tmp 13) 63 (by rfl) X1.heap.size 66 i0 _ 3 48 Try.underlying63 HI.out Z0.out Z1.out Z2.out rfl (by omega) (.slice (some ⟨gg,0,none⟩) n cap) n xs5 (by rfl) (by simpa [HN.out] using ho5) ⟨U.heap.size,0,none⟩ 1 1 [.string nm,.int .i64 tk,.slice ta tn tq] (by rfl) (by rfl) (World.news_of_block (cs:=#[.string nm,.int .i64 tk,.slice ta tn tq]) (t:=66) (fr:=(0,0)) fN) (by simp [Value.oneCell']) (by omega) (by unfold maxLen;omega) (by omega) (by omega) _ rfl ?_
     intro g6 cap6 w6 hown hgrow hat hlt3
     have M6:BdM X1.heap.size w6 (.slice (some ⟨g6,0,none⟩) (n+1) cap6) (([]++l) ++ [⟨nm,ty⟩]):=BdM.push (W:=w5) (v:=(.slice (some ⟨gg,0,none⟩) n cap)) hv5 hv1 (by simpa [HN.out] using hown) hgrow (by rcases hat with h | h;exact .inl (h.symm▸rfl);exact .inr (by rw [h];rfl))
     have RF:=Lib.hid (show aL (fun _=>True) w6 (l ++ [⟨nm,ty⟩]) (.slice (some ⟨g6,0,none⟩) (n+1) cap6) from M6.rep)
     have hb56:Below X1.heap.size w5 w6:=Below.grown (Below.refl _ _) hgrow (by omega) (fun k hk=>(ho5.lt k hk).1)
     have fC2:=Lib.hid (fC.out.trans (hb56.mono hlg))
     have fB2:w6.heap[w.heap.size]?=some (.cells #[.int .i64 tk,.slice ta tn tq] 25 (0,0)):=(hb56.block _ (by omega)).trans fB
     refine hK.out _ _ ⟨ag fB2 (o:=0) rfl,ag fB2 (o:=1) rfl⟩ (fun hHeld9=>?_)
     clear hK K hHeld8 fB fC fN ho5 hv5 hv1 hown hgrow hat M6 hb56 MM
     try simp only [oM7,hwA]
     have fC:=fC2
     have fB:=fB2
     clear fC2 fB2
     refine hwt 8 oM8 (.slice (some ⟨g6,0,none⟩) (n+1) cap6) hHeld9 ?_ ?_
     ·intro w' hSw;dsimp only [oM8];go_simp
     try simp only [oM8,hwA]
     refine wpAnyH_done (by kernel_rfl) ?_ _
     refine NoPanic.normal ?_
     clear hHeld9
     go_wp2_with fail
     go_ret
     exact⟨_,_,_,rfl,RF.out,fC.out⟩
set_option maxHeartbeats 4000000 in
theorem kJ (F G:Nat→Prop)(nm:ByteArray)(ty:Ty)(tk:Int)(ta:Option Addr)(tn tq:Nat)(w:World)(hnm:nm.size≤maxLen)(ht:ap G w ty (.agg #[.int .i64 tk,.slice ta tn tq])) :
  Calls Try.prog 66 #[.slice none 0 0,.string nm,.agg #[.int .i64 tk,.slice ta tn tq]] w (RetC ([] ++ [⟨nm,ty⟩]) w):=by
 obtain⟨i0,hi,hz0,hz1,hz2⟩:=info_parts Try.infoBdC
 have Z0:=Lib.hid hz0
 have Z1:=Lib.hid hz1
 have Z2:=Lib.hid hz2
 have HI:=Lib.hid hi
 have HN:=Lib.hid (show([]:List Bd).length=0 from rfl)
 have HT:=Lib.hid ht.old
 clear hi hz0 hz1 hz2 ht
 go_enter Try.func66,Try.ntmps66
 go_wp2_with fail
 have fB:(w.alloc (.cells #[.int .i64 tk,.slice ta tn tq] 25)).heap[w.heap.size]?=some (.cells #[.int .i64 tk,.slice ta tn tq] 25 (0,0)):=aD rfl
 have fC:=Lib.hid (show Below w.heap.size w (w.alloc (.cells #[.int .i64 tk,.slice ta tn tq] 25)) from ah)
 refine wp_region_noPanic ?_
 refine wp_region_held_drew (S:=fun w'=>w'.cell? ⟨w.heap.size,0,none⟩=some (.int .i64 tk)∧w'.cell? ⟨w.heap.size,1,none⟩=some (.slice ta tn tq)) (by kernel_rfl) ?_ (fun hHeld0=>?_)
 ·exact⟨ay (ag fB (o:=0) rfl),ay (ag fB (o:=1) rfl)⟩
 obtain⟨U,hU⟩ : ∃X:World,X=World.drew (w.alloc (.cells #[.int .i64 tk,.slice ta tn tq] 25)):=⟨_,rfl⟩
 have fB':U.heap[w.heap.size]?=some (.cells #[.int .i64 tk,.slice ta tn tq] 25 (0,0)):=by rw [hU];exact fB
 have fC':=Lib.hid (show Below w.heap.size w U from by rw [hU];exact fC.out.drew)
 have zU:U.heap.size=w.heap.size+1:=by rw [hU];simp
 rw [←hU] at hHeld0 ⊢
 have zUa:w.heap.size+1≤U.heap.size:=by omega
 have zUb:U.heap.size≤w.heap.size+1:=by omega
 clear zU
 clear hU fB fC
 have fB:=fB'
 have fC:=fC'
 clear fB' fC'
 refine hwt 1 oM1 (.slice none 0 0) hHeld0 ?_ ?_
 ·intro w' hSw;dsimp only [oM1];go_simp
 try simp only [oM1,hwA]
 refine hwt 3 oM3 (.string nm) hHeld0 ?_ ?_
 ·intro w' hSw;dsimp only [oM3];go_simp
 try simp only [oM3,hwA]
 refine hwt 4 oM4 (.agg #[.int .i64 tk,.slice ta tn tq]) hHeld0 ?_ ?_
 ·intro w' hSw;dsimp only [oM4];go_simp
 try simp only [oM4,hwA]
 refine hwt 5 oM5 (.agg #[.string nm,.int .i64 tk,.slice ta tn tq]) hHeld0 ?_ ?_
 ·intro w' hSw;dsimp only [oM5];go_simp
 try simp only [oM5,hwA]
 refine wpAnyH_ready (rs:= [0,6]) (by kernel_rfl) (by simp) ?_
 refine(AllReadyH.cons (o:=oM0) rfl (fun K hK=>?_) (AllReadyH.cons (o:=oM6) rfl (fun K hK=>?_) AllReadyH.nil))
 ·skip
  dsimp only [oM0]
  go_simp
  (try go_wp2_with fail)
  have fE2:(U.alloc (.cells #[] 66)).heap[U.heap.size]?=some (.cells #[] 66 (0,0)):=aD rfl
  have fB2:=af fB (ah (o:=.cells #[] 66))
  have fC2:=Lib.hid (ai fC.out (ah (o:=.cells #[] 66)))
  have hzW2:(U.alloc (.cells #[] 66)).heap.size=U.heap.size+1:=by simp
  refine hK.out _ _ ⟨ag fB2 (o:=0) rfl,ag fB2 (o:=1) rfl⟩ (fun hHeld10=>?_)
  clear hK K hHeld0 fB fC
  try simp only [oM0,hwA]
  obtain⟨X10,hWW⟩ : ∃X:World,X=(U.alloc (.cells #[] 66)):=⟨_,rfl⟩
  rw [←hWW] at fB2 fC2 fE2 hzW2 hHeld10 ⊢
  clear hWW
  have fB:=fB2
  have fC:=fC2
  have fE:=fE2
  clear fB2 fC2 fE2
  have zX10a:U.heap.size+1≤X10.heap.size:=by omega
  have zX10b:X10.heap.size≤U.heap.size+1:=by omega
  clear hzW2
  refine wpAnyH_ready (rs:= [2,6]) (by kernel_rfl) (by simp) ?_
  refine(AllReadyH.cons (o:=oM2) rfl (fun K hK=>?_) (AllReadyH.cons (o:=oM6) rfl (fun K hK=>?_) AllReadyH.nil))
  ·skip
   obtain⟨xs0,ho0,hv0⟩:BdM U.heap.size X10 (.slice (some ⟨U.heap.size,0,none⟩) 0 0) []:=BdM.nil (Nat.le_refl _) fE rfl
   obtain rfl:xs0 = []:=hv0
   have hlg:w.heap.size≤U.heap.size:=by have:=fC.out.size;omega
   refine bY () (by rfl) (.tmp 7) (.tmp 8) 63 (by rfl) U.heap.size 66 i0 3 Try.underlying63 HI.out (.slice (some ⟨U.heap.size,0,none⟩) 0 0) 0 [] (by rfl) ho0 (by rfl) ?_
   have MM2:=Lib.hid (show BdM U.heap.size X10 (.slice (some ⟨U.heap.size,0,none⟩) 0 0) [] from⟨[],ho0,rfl⟩)
   refine hK.out _ _ ⟨ag fB (o:=0) rfl,ag fB (o:=1) rfl⟩ (fun hHeld11=>?_)
   clear hK K hHeld10 fE ho0
   try simp only [oM2,hwA]
   have MM:=MM2
   clear MM2
   refine hwr 6 oM6 (fun K hK=>?_)
   ·skip
    dsimp only [oM6]
    go_simp
    (try go_wp2_with fail)
    have fN2:(X10.alloc (.cells #[.string nm,.int .i64 tk,.slice ta tn tq] 66)).heap[X10.heap.size]?=some (.cells #[.string nm,.int .i64 tk,.slice ta tn tq] 66 (0,0)):=aD rfl
    have MM2:=Lib.hid (MM.out.below (ah (o:=.cells #[.string nm,.int .i64 tk,.slice ta tn tq] 66)))
    have fB2:=af fB (ah (o:=.cells #[.string nm,.int .i64 tk,.slice ta tn tq] 66))
    have fC2:=Lib.hid (ai fC.out (ah (o:=.cells #[.string nm,.int .i64 tk,.slice ta tn tq] 66)))
    have hzW2:(X10.alloc (.cells #[.string nm,.int .i64 tk,.slice ta tn tq] 66)).heap.size=X10.heap.size+1:=by simp
    refine hK.out _ _ ⟨ag fB2 (o:=0) rfl,ag fB2 (o:=1) rfl⟩ (fun hHeld12=>?_)
    clear hK K hHeld11 fB fC MM
    try simp only [oM6,hwA]
    obtain⟨X12,hWW⟩ : ∃X:World,X=(X10.alloc (.cells #[.string nm,.int .i64 tk,.slice ta tn tq] 66)):=⟨_,rfl⟩
    rw [←hWW] at fB2 fC2 fN2 MM2 hzW2 hHeld12 ⊢
    clear hWW
    have fB:=fB2
    have fC:=fC2
    have fN:=fN2
    have MM:=MM2
    clear fB2 fC2 fN2 MM2
    have zX12a:X10.heap.size+1≤X12.heap.size:=by omega
    have zX12b:X12.heap.size≤X10.heap.size+1:=by omega
    clear hzW2
    refine hwr 7 oM7 (fun K hK=>?_)
    ·skip
     obtain⟨xs5,ho5,hv5⟩:=MM.out
     have hv1:aX (fun b=>(Value.slice (some ⟨U.heap.size,0,none⟩) 0 0).ownBlock≠some b) X12 [⟨nm,ty⟩] [.string nm,.int .i64 tk,.slice ta tn tq]:=bP hnm ((HT.out.below fC.out).move (.weaken fun b hb _ e=>by have:=(ho5.lt b e).1;omega))
     refine step_append_lies _ (by rfl) (.tmp 9) (.tmp 13) 63 (by rfl) U.heap.size 66 i0 _ 3 48 Try.underlying63 HI.out Z0.out Z1.out Z2.out rfl (by omega) (.slice (some ⟨U.heap.size,0,none⟩) 0 0) 0 xs5 (by rfl) (by simpa [HN.out] using ho5) ⟨X10.heap.size,0,none⟩ 1 1 [.string nm,.int .i64 tk,.slice ta tn tq] (by rfl) (by rfl) (World.news_of_block (cs:=#[.string nm,.int .i64 tk,.slice ta tn tq]) (t:=66) (fr:=(0,0)) fN) (by simp [Value.oneCell']) (by omega) (by unfold maxLen;omega) (by omega) (by omega) _ rfl ?_
     intro g6 cap6 w6 hown hgrow hat hlt3
     have M6:BdM U.heap.size w6 (.slice (some ⟨g6,0,none⟩) (0+1) cap6) ([] ++ [⟨nm,ty⟩]):=BdM.push (W:=X12) (v:=(.slice (some ⟨U.heap.size,0,none⟩) 0 0)) hv5 hv1 (by simpa [HN.out] using hown) hgrow (by rcases hat with h | h;exact .inl (h.symm▸rfl);exact .inr (by rw [h];rfl))
     have RF:=Lib.hid (show aL (fun _=>True) w6 ([] ++ [⟨nm,ty⟩]) (.slice (some ⟨g6,0,none⟩) (0+1) cap6) from M6.rep)
     have hb56:Below U.heap.size X12 w6:=Below.grown (Below.refl _ _) hgrow (by omega) (fun k hk=>(ho5.lt k hk).1)
     have fC2:=Lib.hid (fC.out.trans (hb56.mono hlg))
     have fB2:w6.heap[w.heap.size]?=some (.cells #[.int .i64 tk,.slice ta tn tq] 25 (0,0)):=(hb56.block _ (by omega)).trans fB
     refine hK.out _ _ ⟨ag fB2 (o:=0) rfl,ag fB2 (o:=1) rfl⟩ (fun hHeld13=>?_)
     clear hK K hHeld12 fB fC fN ho5 hv5 hv1 hown hgrow hat M6 hb56 MM
     try simp only [oM7,hwA]
     have fC:=fC2
     have fB:=fB2
     clear fC2 fB2
     refine hwt 8 oM8 (.slice (some ⟨g6,0,none⟩) (0+1) cap6) hHeld13 ?_ ?_
     ·intro w' hSw;dsimp only [oM8];go_simp
     try simp only [oM8,hwA]
     refine wpAnyH_done (by kernel_rfl) ?_ _
     refine NoPanic.normal ?_
     clear hHeld13
     go_wp2_with fail
     go_ret
     exact⟨_,_,_,rfl,RF.out,fC.out⟩
  ·skip
   dsimp only [oM6]
   go_simp
   (try go_wp2_with fail)
   have fN2:(X10.alloc (.cells #[.string nm,.int .i64 tk,.slice ta tn tq] 66)).heap[X10.heap.size]?=some (.cells #[.string nm,.int .i64 tk,.slice ta tn tq] 66 (0,0)):=aD rfl
   have fE2:=af fE (ah (o:=.cells #[.string nm,.int .i64 tk,.slice ta tn tq] 66))
   have fB2:=af fB (ah (o:=.cells #[.string nm,.int .i64 tk,.slice ta tn tq] 66))
   have fC2:=Lib.hid (ai fC.out (ah (o:=.cells #[.string nm,.int .i64 tk,.slice ta tn tq] 66)))
   have hzW2:(X10.alloc (.cells #[.string nm,.int .i64 tk,.slice ta tn tq] 66)).heap.size=X10.heap.size+1:=by simp
   refine hK.out _ _ ⟨ag fB2 (o:=0) rfl,ag fB2 (o:=1) rfl⟩ (fun hHeld11=>?_)
   clear hK K hHeld10 fB fC fE
   try simp only [oM6,hwA]
   obtain⟨X11,hWW⟩ : ∃X:World,X=(X10.alloc (.cells #[.string nm,.int .i64 tk,.slice ta tn tq] 66)):=⟨_,rfl⟩
   rw [←hWW] at fB2 fC2 fE2 fN2 hzW2 hHeld11 ⊢
   clear hWW
   have fB:=fB2
   have fC:=fC2
   have fE:=fE2
   have fN:=fN2
   clear fB2 fC2 fE2 fN2
   have zX11a:X10.heap.size+1≤X11.heap.size:=by omega
   have zX11b:X11.heap.size≤X10.heap.size+1:=by omega
   clear hzW2
   refine hwr 2 oM2 (fun K hK=>?_)
   ·skip
    obtain⟨xs0,ho0,hv0⟩:BdM U.heap.size X11 (.slice (some ⟨U.heap.size,0,none⟩) 0 0) []:=BdM.nil (Nat.le_refl _) fE rfl
    obtain rfl:xs0 = []:=hv0
    have hlg:w.heap.size≤U.heap.size:=by have:=fC.out.size;omega
    refine bY () (by rfl) (.tmp 7) (.tmp 8) 63 (by rfl) U.heap.size 66 i0 3 Try.underlying63 HI.out (.slice (some ⟨U.heap.size,0,none⟩) 0 0) 0 [] (by rfl) ho0 (by rfl) ?_
    have MM2:=Lib.hid (show BdM U.heap.size X11 (.slice (some ⟨U.heap.size,0,none⟩) 0 0) [] from⟨[],ho0,rfl⟩)
    refine hK.out _ _ ⟨ag fB (o:=0) rfl,ag fB (o:=1) rfl⟩ (fun hHeld14=>?_)
    clear hK K hHeld11 fE ho0
    try simp only [oM2,hwA]
    have MM:=MM2
    clear MM2
    refine hwr 7 oM7 (fun K hK=>?_)
    ·skip
     obtain⟨xs5,ho5,hv5⟩:=MM.out
     have hv1:aX (fun b=>(Value.slice (some ⟨U.heap.size,0,none⟩) 0 0).ownBlock≠some b) X11 [⟨nm,ty⟩] [.string nm,.int .i64 tk,.slice ta tn tq]:=bP hnm ((HT.out.below fC.out).move (.weaken fun b hb _ e=>by have:=(ho5.lt b e).1;omega))
     refine step_append_lies _ (by rfl) (.tmp 9) (.tmp 13) 63 (by rfl) U.heap.size 66 i0 _ 3 48 Try.underlying63 HI.out Z0.out Z1.out Z2.out rfl (by omega) (.slice (some ⟨U.heap.size,0,none⟩) 0 0) 0 xs5 (by rfl) (by simpa [HN.out] using ho5) ⟨X10.heap.size,0,none⟩ 1 1 [.string nm,.int .i64 tk,.slice ta tn tq] (by rfl) (by rfl) (World.news_of_block (cs:=#[.string nm,.int .i64 tk,.slice ta tn tq]) (t:=66) (fr:=(0,0)) fN) (by simp [Value.oneCell']) (by omega) (by unfold maxLen;omega) (by omega) (by omega) _ rfl ?_
     intro g6 cap6 w6 hown hgrow hat hlt3
     have M6:BdM U.heap.size w6 (.slice (some ⟨g6,0,none⟩) (0+1) cap6) ([] ++ [⟨nm,ty⟩]):=BdM.push (W:=X11) (v:=(.slice (some ⟨U.heap.size,0,none⟩) 0 0)) hv5 hv1 (by simpa [HN.out] using hown) hgrow (by rcases hat with h | h;exact .inl (h.symm▸rfl);exact .inr (by rw [h];rfl))
     have RF:=Lib.hid (show aL (fun _=>True) w6 ([] ++ [⟨nm,ty⟩]) (.slice (some ⟨g6,0,none⟩) (0+1) cap6) from M6.rep)
     have hb56:Below U.heap.size X11 w6:=Below.grown (Below.refl _ _) hgrow (by omega) (fun k hk=>(ho5.lt k hk).1)
     have fC2:=Lib.hid (fC.out.trans (hb56.mono hlg))
     have fB2:w6.heap[w.heap.size]?=some (.cells #[.int .i64 tk,.slice ta tn tq] 25 (0,0)):=(hb56.block _ (by omega)).trans fB
     refine hK.out _ _ ⟨ag fB2 (o:=0) rfl,ag fB2 (o:=1) rfl⟩ (fun hHeld15=>?_)
     clear hK K hHeld14 fB fC fN ho5 hv5 hv1 hown hgrow hat M6 hb56 MM
     try simp only [oM7,hwA]
     have fC:=fC2
     have fB:=fB2
     clear fC2 fB2
     refine hwt 8 oM8 (.slice (some ⟨g6,0,none⟩) (0+1) cap6) hHeld15 ?_ ?_
     ·intro w' hSw;dsimp only [oM8];go_simp
     try simp only [oM8,hwA]
     refine wpAnyH_done (by kernel_rfl) ?_ _
     refine NoPanic.normal ?_
     clear hHeld15
     go_wp2_with fail
     go_ret
     exact⟨_,_,_,rfl,RF.out,fC.out⟩
 ·skip
  dsimp only [oM6]
  go_simp
  (try go_wp2_with fail)
  have fN2:(U.alloc (.cells #[.string nm,.int .i64 tk,.slice ta tn tq] 66)).heap[U.heap.size]?=some (.cells #[.string nm,.int .i64 tk,.slice ta tn tq] 66 (0,0)):=aD rfl
  have fB2:=af fB (ah (o:=.cells #[.string nm,.int .i64 tk,.slice ta tn tq] 66))
  have fC2:=Lib.hid (ai fC.out (ah (o:=.cells #[.string nm,.int .i64 tk,.slice ta tn tq] 66)))
  have hzW2:(U.alloc (.cells #[.string nm,.int .i64 tk,.slice ta tn tq] 66)).heap.size=U.heap.size+1:=by simp
  refine hK.out _ _ ⟨ag fB2 (o:=0) rfl,ag fB2 (o:=1) rfl⟩ (fun hHeld10=>?_)
  clear hK K hHeld0 fB fC
  try simp only [oM6,hwA]
  obtain⟨X10,hWW⟩ : ∃X:World,X=(U.alloc (.cells #[.string nm,.int .i64 tk,.slice ta tn tq] 66)):=⟨_,rfl⟩
  rw [←hWW] at fB2 fC2 fN2 hzW2 hHeld10 ⊢
  clear hWW
  have fB:=fB2
  have fC:=fC2
  have fN:=fN2
  clear fB2 fC2 fN2
  have zX10a:U.heap.size+1≤X10.heap.size:=by omega
  have zX10b:X10.heap.size≤U.heap.size+1:=by omega
  clear hzW2
  refine hwr 0 oM0 (fun K hK=>?_)
  ·skip
   dsimp only [oM0]
   go_simp
   (try go_wp2_with fail)
   have fE2:(X10.alloc (.cells #[] 66)).heap[X10.heap.size]?=some (.cells #[] 66 (0,0)):=aD rfl
   have fN2:=af fN (ah (o:=.cells #[] 66))
   have fB2:=af fB (ah (o:=.cells #[] 66))
   have fC2:=Lib.hid (ai fC.out (ah (o:=.cells #[] 66)))
   have hzW2:(X10.alloc (.cells #[] 66)).heap.size=X10.heap.size+1:=by simp
   refine hK.out _ _ ⟨ag fB2 (o:=0) rfl,ag fB2 (o:=1) rfl⟩ (fun hHeld16=>?_)
   clear hK K hHeld10 fB fC fN
   try simp only [oM0,hwA]
   obtain⟨X16,hWW⟩ : ∃X:World,X=(X10.alloc (.cells #[] 66)):=⟨_,rfl⟩
   rw [←hWW] at fB2 fC2 fE2 fN2 hzW2 hHeld16 ⊢
   clear hWW
   have fB:=fB2
   have fC:=fC2
   have fE:=fE2
   have fN:=fN2
   clear fB2 fC2 fE2 fN2
   have zX16a:X10.heap.size+1≤X16.heap.size:=by omega
   have zX16b:X16.heap.size≤X10.heap.size+1:=by omega
   clear hzW2
   refine hwr 2 oM2 (fun K hK=>?_)
   ·skip
    obtain⟨xs0,ho0,hv0⟩:BdM X10.heap.size X16 (.slice (some ⟨X10.heap.size,0,none⟩) 0 0) []:=BdM.nil (Nat.le_refl _) fE rfl
    obtain rfl:xs0 = []:=hv0
    have hlg:w.heap.size≤X10.heap.size:=by have:=fC.out.size;omega
    refine bY () (by rfl) (.tmp 7) (.tmp 8) 63 (by rfl) X10.heap.size 66 i0 3 Try.underlying63 HI.out (.slice (some ⟨X10.heap.size,0,none⟩) 0 0) 0 [] (by rfl) ho0 (by rfl) ?_
    have MM2:=Lib.hid (show BdM X10.heap.size X16 (.slice (some ⟨X10.heap.size,0,none⟩) 0 0) [] from⟨[],ho0,rfl⟩)
    refine hK.out _ _ ⟨ag fB (o:=0) rfl,ag fB (o:=1) rfl⟩ (fun hHeld17=>?_)
    clear hK K hHeld16 fE ho0
    try simp only [oM2,hwA]
    have MM:=MM2
    clear MM2
    refine hwr 7 oM7 (fun K hK=>?_)
    ·skip
     obtain⟨xs5,ho5,hv5⟩:=MM.out
     have hv1:aX (fun b=>(Value.slice (some ⟨X10.heap.size,0,none⟩) 0 0).ownBlock≠some b) X16 [⟨nm,ty⟩] [.string nm,.int .i64 tk,.slice ta tn tq]:=bP hnm ((HT.out.below fC.out).move (.weaken fun b hb _ e=>by have:=(ho5.lt b e).1;omega))
     refine step_append_lies _ (by rfl) (.tmp 9) (.tmp 13) 63 (by rfl) X10.heap.size 66 i0 _ 3 48 Try.underlying63 HI.out Z0.out Z1.out Z2.out rfl (by omega) (.slice (some ⟨X10.heap.size,0,none⟩) 0 0) 0 xs5 (by rfl) (by simpa [HN.out] using ho5) ⟨U.heap.size,0,none⟩ 1 1 [.string nm,.int .i64 tk,.slice ta tn tq] (by rfl) (by rfl) (World.news_of_block (cs:=#[.string nm,.int .i64 tk,.slice ta tn tq]) (t:=66) (fr:=(0,0)) fN) (by simp [Value.oneCell']) (by omega) (by unfold maxLen;omega) (by omega) (by omega) _ rfl ?_
     intro g6 cap6 w6 hown hgrow hat hlt3
     have M6:BdM X10.heap.size w6 (.slice (some ⟨g6,0,none⟩) (0+1) cap6) ([] ++ [⟨nm,ty⟩]):=BdM.push (W:=X16) (v:=(.slice (some ⟨X10.heap.size,0,none⟩) 0 0)) hv5 hv1 (by simpa [HN.out] using hown) hgrow (by rcases hat with h | h;exact .inl (h.symm▸rfl);exact .inr (by rw [h];rfl))
     have RF:=Lib.hid (show aL (fun _=>True) w6 ([] ++ [⟨nm,ty⟩]) (.slice (some ⟨g6,0,none⟩) (0+1) cap6) from M6.rep)
     have hb56:Below X10.heap.size X16 w6:=Below.grown (Below.refl _ _) hgrow (by omega) (fun k hk=>(ho5.lt k hk).1)
     have fC2:=Lib.hid (fC.out.trans (hb56.mono hlg))
     have fB2:w6.heap[w.heap.size]?=some (.cells #[.int .i64 tk,.slice ta tn tq] 25 (0,0)):=(hb56.block _ (by omega)).trans fB
     refine hK.out _ _ ⟨ag fB2 (o:=0) rfl,ag fB2 (o:=1) rfl⟩ (fun hHeld18=>?_)
     clear hK K hHeld17 fB fC fN ho5 hv5 hv1 hown hgrow hat M6 hb56 MM
     try simp only [oM7,hwA]
     have fC:=fC2
     have fB:=fB2
     clear fC2 fB2
     refine hwt 8 oM8 (.slice (some ⟨g6,0,none⟩) (0+1) cap6) hHeld18 ?_ ?_
     ·intro w' hSw;dsimp only [oM8];go_simp
     try simp only [oM8,hwA]
     refine wpAnyH_done (by kernel_rfl) ?_ _
     refine NoPanic.normal ?_
     clear hHeld18
     go_wp2_with fail
     go_ret
     exact⟨_,_,_,rfl,RF.out,fC.out⟩
end Go.Proofs.Ytnaoghknnenfoaa
namespace Go.Proofs.Ytnaoghknnenfoaa
open Go.RowKit
def dv (F:Nat→Prop)(B:Nat)(e:TypeId)(sz:Nat)(w:World)(v:Value)(n:Nat)(rows:List (List C)):Prop:=
 rows.length=n∧∃xs,w.ownsRow B e sz v n xs∧b4 (fun b=>F b∧v.ownBlock≠some b) w rows xs
theorem dv.nil {F:Nat→Prop}{B:Nat}{e:TypeId}{sz:Nat}{w:World}:dv F B e sz w (.slice none 0 0) 0 []:=⟨rfl,[],World.ownsRow_nil w B e sz,rfl⟩
theorem dv.below {F:Nat→Prop}{B:Nat}{e:TypeId}{sz n:Nat}{w w':World}{v:Value}{rows:List (List C)}(h:dv F B e sz w v n rows)(k:Below w.heap.size w w'):dv F B e sz w' v n rows:=by
 obtain⟨hl,xs,h1,h2⟩:=h
 exact⟨hl,xs,bi h1 k,h2.move (.below k) _ _⟩
theorem dv.shape {F:Nat→Prop}{B:Nat}{e:TypeId}{sz n:Nat}{w:World}{v:Value}{rows:List (List C)}(h:dv F B e sz w v n rows) : ∃a q,v = .slice a n q:=by
 obtain⟨hl,xs,⟨h1,h2 | ⟨g,cap,cur,h2,hB,hg,hn,hc,hs,ht⟩⟩,-⟩:=h
 ·exact⟨none,0,by rw [h2.1,h2.2]⟩
 ·exact⟨_,cap,h2⟩
theorem dv.push {F:Nat→Prop}{B g cap n sz:Nat}{e:TypeId}{wr W w2:World}{v:Value}{rows:List (List C)}{xs ys:List Value}{rw':List C}(hl:rows.length=n)(hv:b4 (fun b=>F b∧v.ownBlock≠some b) wr rows xs)
  (hb:Below wr.heap.size wr W) (hr:bT (fun b=>F b∧v.ownBlock≠some b) W rw' ys)
  (hown:w2.ownsRow B e sz (.slice (some ⟨g,0,none⟩) (n+1) cap) (n+1) (xs++ys)) (hgrow:W.grownBy w2 v.ownBlock) (hat:v.ownBlock=some g∨g=W.heap.size) :
  dv F B e sz w2 (.slice (some ⟨g,0,none⟩) (n+1) cap) (n+1) (rows ++ [rw']):=by
 have kk:bB (fun b=>F b∧v.ownBlock≠some b) (fun b=>F b∧(Value.slice (some ⟨g,0,none⟩) (n+1) cap).ownBlock≠some b) W w2:=by
  refine⟨hgrow.size,fun b hb hl=>⟨hb.1,fun e=>?_⟩,fun b hb hl=>hgrow.block b hl (fun e=>hb.2 e.symm)⟩
  simp only [Value.ownBlock,Option.some.injEq] at e
  subst e
  rcases hat with h | h
  ·exact hb.2 h
  ·omega
 exact⟨by simp [hl],xs++ys,hown,b4.append rows [rw'] xs ys ((hv.move (.below hb) _ _).move kk _ _) (b4.one (hr.move kk))⟩
theorem dv.rep {F:Nat→Prop}{B:Nat}{e:TypeId}{sz n:Nat}{w:World}{v:Value}{rows:List (List C)}(h:dv F B e sz w v n rows)(hF : ∀b,B≤b→F b):aS F w (.sl rows) v:=by
 obtain⟨hl,xs,h1,h2⟩:=h
 subst hl
 obtain⟨hx,h3 | ⟨g,cap,cur,h3,hB,hg,hn,hc,hs,ht⟩⟩:=h1
 ·obtain⟨rfl,h4⟩:=h3
  have:rows = []:=List.length_eq_zero_iff.1 h4
  subst this
  unfold aS
  exact⟨none,0,rfl,Nat.le_refl _,by unfold maxLen;omega,.inl rfl⟩
 ·subst h3
  have hcl : ∀j u,xs[j]?=some u→w.cell? ⟨g,j,none⟩=some u:=by
   intro j u hj
   subst ht
   simp only [World.cell?,hg]
   rw [List.getElem?_take] at hj
   split at hj
   ·simpa using hj
   ·cases hj
  unfold aS
  exact⟨_,cap,rfl,hn,hc,.inr ⟨g,0,rfl,hF g hB,(Array.getElem?_eq_some_iff.1 hg).1,b4.rows rows xs 0 (h2.move (.weaken fun _ hb _=>hb.1) _ _) (fun j u hj=>by simpa using hcl j u hj)⟩⟩
def BdG (F:Nat→Prop)(B:Nat)(w:World)(v:Value)(bs:List Bd):Prop:=∃xs,w.ownsRow B 66 3 v bs.length xs∧aX (fun b=>F b∧v.ownBlock≠some b) w bs xs
theorem BdG.none {F:Nat→Prop}{B:Nat}{w:World}:BdG F B w (.slice none 0 0) []:=⟨[],World.ownsRow_nil w B _ _,rfl⟩
theorem BdG.below {F:Nat→Prop}{B:Nat}{w w':World}{v:Value}{bs:List Bd}(h:BdG F B w v bs)(k:Below w.heap.size w w'):BdG F B w' v bs:=by
 obtain⟨xs,h1,h2⟩:=h
 exact⟨xs,bi h1 k,h2.move (.below k) _ _⟩
theorem BdG.push {F:Nat→Prop}{B:Nat}{W w2:World}{v v':Value}{bs cs:List Bd}{xs ys:List Value}(hv:aX (fun b=>F b∧v.ownBlock≠some b) W bs xs)(hc:aX (fun b=>F b∧v.ownBlock≠some b) W cs ys)
  (hown:w2.ownsRow B 66 3 v' (bs.length+cs.length) (xs++ys)) (hgrow:W.grownBy w2 v.ownBlock) (hat:v'.ownBlock=v.ownBlock∨v'.ownBlock=some W.heap.size) :
  BdG F B w2 v' (bs++cs):=by
 have kk:bB (fun b=>F b∧v.ownBlock≠some b) (fun b=>F b∧v'.ownBlock≠some b) W w2:=by
  refine⟨hgrow.size,fun b hb hl=>⟨hb.1,fun e=>?_⟩,fun b hb hl=>hgrow.block b hl (fun e=>hb.2 e.symm)⟩
  rcases hat with h | h
  ·exact hb.2 (h▸e)
  ·rw [h] at e
   simp only [Option.some.injEq] at e
   omega
 exact⟨xs++ys,by simpa using hown,aX.append bs cs xs ys (hv.move kk _ _) (hc.move kk _ _)⟩
theorem BdG.shape {F:Nat→Prop}{B:Nat}{w:World}{v:Value}{bs:List Bd}(h:BdG F B w v bs) : ∃a q,v = .slice a bs.length q:=by
 obtain⟨xs,⟨h1,h2 | ⟨g,cap,cur,h2,hB,hg,hn,hc,hs,ht⟩⟩,-⟩:=h
 ·exact⟨Option.none,0,by rw [h2.1,h2.2]⟩
 ·exact⟨_,cap,h2⟩
theorem BdG.rep {F:Nat→Prop}{B:Nat}{w:World}{v:Value}{bs:List Bd}(h:BdG F B w v bs):aL (fun b=>F b∨B≤b) w bs v:=by
 obtain⟨a,q,rfl⟩:=h.shape
 obtain⟨xs,h1,h2⟩:=h
 have h1':=h1
 obtain⟨hx,h3 | ⟨g,cap,cur,h3,hB,hg,hn,hc,hs,ht⟩⟩:=h1
 ·obtain⟨h3,h4⟩:=h3
  simp only [Value.slice.injEq] at h3
  obtain⟨rfl,-,rfl⟩:=h3
  have:bs = []:=List.length_eq_zero_iff.1 h4
  subst this
  unfold aL aS
  exact⟨Option.none,0,rfl,Nat.le_refl _,by unfold maxLen;omega,.inl rfl⟩
 ·simp only [Value.slice.injEq] at h3
  obtain⟨rfl,-,rfl⟩:=h3
  have hcl:=de h1'
  unfold aL aS
  refine⟨_,q,by rw [Bd.rows_length],by rw [Bd.rows_length];exact hn,hc,.inr ⟨g,0,rfl,.inr hB,(Array.getElem?_eq_some_iff.1 hg).1,?_⟩⟩
  exact aX.rows bs xs 0 (h2.move (.weaken fun _ hb _=>.inl hb.1) _ _) (fun j u hj=>by simpa using hcl j u hj)
end Go.Proofs.Ytnaoghknnenfoaa
namespace Go.Proofs.Ytnaoghknnenfoaa
open Go.RowKit
theorem Ty.toS_ty {t:Ty}(h:t.valid=true):t.toS.ty=t:=by
 obtain⟨s,rfl,hs⟩:=Ty.valid_S h
 rw [S.ty_toS s (S.vd_ok hs)]
end Go.Proofs.Ytnaoghknnenfoaa
namespace Go.Proofs.Ytnaoghknnenfoaa
open Go.RowKit
theorem aF.three {F:Nat→Prop}{w:World}{t u s:Ty}{y:Value}(h:aF F w [t,u,s] y) :
  ∃b off cap k1 c1 m1 q1 k2 c2 m2 q2 k3 c3 m3 q3,y = .slice (some ⟨b,off,none⟩) 3 cap∧b<w.heap.size ∧
   w.cell? ⟨b,off,none⟩=some (.int .i64 k1)∧w.cell? ⟨b,off+1,none⟩=some (.slice c1 m1 q1)∧w.cell? ⟨b,off+2,none⟩=some (.int .i64 k2)∧w.cell? ⟨b,off+3,none⟩=some (.slice c2 m2 q2)∧w.cell? ⟨b,off+4,none⟩=some (.int .i64 k3)∧w.cell? ⟨b,off+5,none⟩=some (.slice c3 m3 q3) ∧
   ap F w t (.agg #[.int .i64 k1,.slice c1 m1 q1])∧ap F w u (.agg #[.int .i64 k2,.slice c2 m2 q2])∧ap F w s (.agg #[.int .i64 k3,.slice c3 m3 q3]):=by
 obtain⟨a,cap,rfl,h2,h3,hg⟩:=h.open
 obtain⟨b,off,k1,c1,m1,q1,rfl,e0,e1,ht⟩:=hg 0 (by simp)
 obtain⟨b',off',k2,c2,m2,q2,he,e2,e3,ht2⟩:=hg 1 (by simp)
 simp only [Option.some.injEq,Addr.mk.injEq,and_true] at he
 obtain⟨rfl,rfl⟩:=he
 obtain⟨b',off',k3,c3,m3,q3,he,e4,e5,ht3⟩:=hg 2 (by simp)
 simp only [Option.some.injEq,Addr.mk.injEq,and_true] at he
 obtain⟨rfl,rfl⟩:=he
 exact⟨b,off,cap,k1,c1,m1,q1,k2,c2,m2,q2,k3,c3,m3,q3,rfl,World.block_lt_of_cell? _ _ e0,by simpa using e0,by simpa using e1,by simpa using e2,by simpa using e3,by simpa using e4,by simpa using e5,ht,ht2,ht3⟩
theorem ap.pairK {F:Nat→Prop}{w:World}{k k1:Int}{t u:Ty}{a:Option Addr}{n q:Nat}(h:ap F w (.mk k [t,u]) (.agg #[.int .i64 k1,.slice a n q])):k1=k∧aF F w [t,u] (.slice a n q):=by
 obtain⟨s,he,hs⟩:=h
 simp only [Value.agg.injEq,Array.mk.injEq,List.cons.injEq,Value.int.injEq,true_and,and_true] at he
 obtain⟨rfl,rfl⟩:=he
 exact⟨rfl,hs⟩
end Go.Proofs.Ytnaoghknnenfoaa

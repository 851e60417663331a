/-
  Worlds that differ in few blocks.
  Data in memory of one's own: every slice starts at the head of a block that nothing else uses. 'fp': the blocks, in the order in which they are met.
  What is left of a law's purse.
  Equality of the program and of the reference: equality of trees.
  What a function that makes a type leaves.
  The laws' helpers that write into a type of their own and look whether it is as written.
  A slice that grows by append, row by row, in memory of one's own.
  Small laws for walks that a program prints: what is known of a cell behind an alloc, a draw, a store, a call.
  What a law about a result that is a tree needs: what a mark leaves as it was.
  Names: one small letter.
  Bounds of numbers, labels.
  TypeSame of the program and of the reference: equality of trees.
  The laws' equality of types.
  The laws' helpers at types: size, copy.
-/
import Derived.Test.YtnaoghknnenfoaaB0
import Derived.Test.YtnaoghknnenfoaaRows
import Derived.Handy
import Derived.Deep.RegionHeld3
import Derived.Deep.AppendLies
import Derived.Deep.RegionLaw
import Derived.IntWalk
set_option linter.unusedSimpArgs false
set_option linter.unusedVariables false
set_option maxRecDepth 100000
namespace Go.Proofs.Ytnaoghknnenfoaa
open Go.RowKit
structure Chg (fp:List Nat) (w w':World):Prop where
 os:w'.os=w.os
 tape:w'.tape=w.tape
 output:w'.output=w.output
 size:w.heap.size≤w'.heap.size
 block : ∀k,k<w.heap.size→k∉fp→w'.heap[k]?=w.heap[k]?
theorem Chg.of_below {fp:List Nat}{w w':World}(h:Below w.heap.size w w'):Chg fp w w':=⟨h.os,h.tape,h.output,h.size,fun k hk _=>h.block k hk⟩
theorem Chg.refl (fp:List Nat)(w:World):Chg fp w w:=.of_below (Below.refl _ _)
theorem Chg.trans {fp:List Nat}{w w1 w2:World}(h:Chg fp w w1)(k:Chg fp w1 w2):Chg fp w w2:=
 ⟨k.os.trans h.os,k.tape.trans h.tape,k.output.trans h.output,Nat.le_trans h.size k.size,fun b hb hn=>(k.block b (Nat.lt_of_lt_of_le hb h.size) hn).trans (h.block b hb hn)⟩
theorem Chg.mono {fp fp':List Nat}{w w':World}(h:Chg fp w w')(hs : ∀x∈fp,x∈fp'):Chg fp' w w':=
 ⟨h.os,h.tape,h.output,h.size,fun b hb hn=>h.block b hb (fun hx=>hn (hs b hx))⟩
theorem Chg.setCell {fp:List Nat}{w w':World}(h:Chg fp w w'){p:Addr}(hp:p.block∈fp)(v:Value):Chg fp w (w'.setCell p v):=
 ⟨h.os,h.tape,h.output,by simpa [World.setCell] using h.size,fun b hb hn=>(Below.heap_setCell w' p v b (fun e=>hn (e▸hp))).trans (h.block b hb hn)⟩
theorem Chg.below {fp:List Nat}{w w':World}{B:Nat}(h:Chg fp w w')(hB : ∀x∈fp,B≤x)(hs:B≤w.heap.size):Below B w w':=
 ⟨h.os,h.tape,h.output,h.size,fun k hk=>h.block k (by omega) (fun hx=>by have:=hB k hx;omega)⟩
theorem Chg.cell {fp:List Nat}{w w':World}{a:Addr}{v:Value}(h:Chg fp w w')(hn:a.block∉fp)(hc:w.cell? a=some v):w'.cell? a=some v:=
 (World.cell?_of_block (h.block a.block (World.block_lt_of_cell? _ _ hc) hn)).trans hc
theorem Chg.keeps {fp:List Nat}{w w':World}{F:Nat→Prop}(h:Chg fp w w')(hn : ∀b,F b→b∉fp):bB F F w w':=
 ⟨h.size,fun _ h _=>h,fun b hF hl=>h.block b hl (hn b hF)⟩
theorem ap.chg {fp:List Nat}{w w':World}{F:Nat→Prop}{t:Ty}{y:Value}(h:Chg fp w w')(hn : ∀b,F b→b∉fp)(r:ap F w t y):ap F w' t y:=r.move (h.keeps hn)
theorem Chg.cellne {r:Nat}{w w':World}{a:Addr}{v:Value}(h:Chg [r] w w')(hn:a.block≠r)(hc:w.cell? a=some v):w'.cell? a=some v:=h.cell (by simpa using hn) hc
theorem Chg.frone {r b o:Nat}{w w':World}(h:Chg [r] w w')(hn:b≠r)(hl:b<w.heap.size):w'.frozen? ⟨b,o,none⟩=w.frozen? ⟨b,o,none⟩:=World.frozen?_of_block (a:=⟨b,o,none⟩) (h.block b hl (by simpa using hn))
theorem aR {r b o:Nat}{w w1:World}{v:Value}(h:Chg [r] w w1)(hn:b≠r)(hc:w.cell? ⟨b,o,none⟩=some v):w1.cell? ⟨b,o,none⟩=some v:=h.cellne hn hc
theorem aZ {r b o:Nat}{w w1:World}{v:Value}(h:Chg [r] w w1)(hn:b≠r)(hc:w.cell? ⟨b,o,none⟩=some v)(hf:w.frozen? ⟨b,o,none⟩=false):w1.frozen? ⟨b,o,none⟩=false:=
 (h.frone hn (World.block_lt_of_cell? _ _ hc)).trans hf
theorem bchg {B r:Nat}{w w1 w2:World}(h:Below B w w1)(k:Chg [r] w1 w2)(hr:B≤r)(hw:B≤w.heap.size):Below B w w2:=
 ⟨k.os.trans h.os,k.tape.trans h.tape,k.output.trans h.output,Nat.le_trans h.size k.size,fun b hb=>(k.block b (Nat.lt_of_lt_of_le (Nat.lt_of_lt_of_le hb hw) h.size) (by simp;omega)).trans (h.block b hb)⟩
theorem Chg.trans' {r:Nat}{w w':World}(h:Chg [r] w w'){p:Addr}(hp:w.heap.size≤p.block)(v:Value):Chg [r] w (w'.setCell p v):=
 ⟨h.os,h.tape,h.output,by simpa [World.setCell] using h.size,fun b hb hn=>(Below.heap_setCell w' p v b (by omega)).trans (h.block b hb hn)⟩
theorem ap.chgA {r:Nat}{w w':World}{t:Ty}{y:Value}(h:ap (· ≠ r) w t y)(k:Chg [r] w w'):ap (· ≠ r) w' t y:=ap.chg k (fun b hb=>by simpa using hb) h
theorem aF.chgA {r:Nat}{w w':World}{t:List Ty}{y:Value}(h:aF (· ≠ r) w t y)(k:Chg [r] w w'):aF (· ≠ r) w' t y:=h.move (k.keeps (fun b hb=>by simpa using hb))
end Go.Proofs.Ytnaoghknnenfoaa
namespace Go.Proofs.Ytnaoghknnenfoaa
open Go.RowKit
mutual
def aG (w:World):C→Value→List Nat→Prop
 | .int n,y,fp=>y = .int .i64 n∧fp = []
 | .str s,y,fp=>y = .string s∧s.size≤maxLen∧fp = []
 | .sl rows,y,fp=>∃(a:Option Addr) (cap:Nat),y = .slice a rows.length cap∧rows.length≤cap∧cap≤maxLen ∧
   ((rows = []∧fp = [])∨∃b fps cs T,a=some ⟨b,0,none⟩∧fp=b :: fps∧w.heap[b]?=some (.cells cs T (0,0))∧aM w b 0 rows fps)
def aM (w:World)(b:Nat):Nat→List (List C)→List Nat→Prop
 | _,[],fp=>fp = []
 | off,r :: rs,fp=>∃f1 f2,fp=f1++f2∧b6 w b off r f1∧aM w b (off+r.length) rs f2
def b6 (w:World)(b:Nat):Nat→List C→List Nat→Prop
 | _,[],fp=>fp = []
 | off,c :: cs,fp=>∃y f1 f2,fp=f1++f2∧w.cell? ⟨b,off,none⟩=some y∧aG w c y f1∧b6 w b (off+1) cs f2
end
mutual
theorem aG.move {w w':World} : ∀(c:C) (y:Value) (fp:List Nat),(∀b∈fp,w'.heap[b]?=w.heap[b]?)→aG w c y fp→aG w' c y fp
 | .int n,y,fp,_,h=>by unfold aG at h ⊢;exact h
 | .str s,y,fp,_,h=>by unfold aG at h ⊢;exact h
 | .sl rows,y,fp,k,h=>by
  unfold aG at h ⊢
  obtain⟨a,cap,h1,h2,h3,h4⟩:=h
  refine⟨a,cap,h1,h2,h3,?_⟩
  rcases h4 with h4 | ⟨b,fps,cs,T,ha,rfl,hb,hr⟩
  ·exact .inl h4
  ·refine .inr ⟨b,fps,cs,T,ha,rfl,(k b (List.mem_cons_self ..)).trans hb,aM.move 0 rows fps (fun x hx=>k x (List.mem_cons_of_mem _ hx)) (fun o=>?_) hr⟩
   intro _ _
   exact World.cell?_of_block (a:=⟨b,o,none⟩) (k b (List.mem_cons_self ..))
theorem aM.move {w w':World}{b:Nat} : ∀(off:Nat) (rows:List (List C)) (fp:List Nat),(∀x∈fp,w'.heap[x]?=w.heap[x]?) →
  (∀o,off≤o→o<off+rows.flatten.length→w'.cell? ⟨b,o,none⟩=w.cell? ⟨b,o,none⟩)→aM w b off rows fp→aM w' b off rows fp
 | _,[],_,_,_,h=>by unfold aM at h ⊢;exact h
 | off,r :: rs,fp,k,kc,h=>by
  unfold aM at h ⊢
  obtain⟨f1,f2,rfl,h1,h2⟩:=h
  simp only [List.flatten_cons,List.length_append] at kc
  exact⟨f1,f2,rfl,b6.move off r f1 (fun x hx=>k x (List.mem_append_left _ hx)) (fun o a c=>kc o a (by omega)) h1,
    aM.move _ rs f2 (fun x hx=>k x (List.mem_append_right _ hx)) (fun o a c=>kc o (by omega) (by omega)) h2⟩
theorem b6.move {w w':World}{b:Nat} : ∀(off:Nat) (r:List C) (fp:List Nat),(∀x∈fp,w'.heap[x]?=w.heap[x]?) →
  (∀o,off≤o→o<off+r.length→w'.cell? ⟨b,o,none⟩=w.cell? ⟨b,o,none⟩)→b6 w b off r fp→b6 w' b off r fp
 | _,[],_,_,_,h=>by unfold b6 at h ⊢;exact h
 | off,c :: cs,fp,k,kc,h=>by
  unfold b6 at h ⊢
  obtain⟨y,f1,f2,rfl,hy,h1,h2⟩:=h
  simp only [List.length_cons] at kc
  exact⟨y,f1,f2,rfl,(kc off (by omega) (by omega)).trans hy,aG.move c y f1 (fun x hx=>k x (List.mem_append_left _ hx)) h1,
    b6.move _ cs f2 (fun x hx=>k x (List.mem_append_right _ hx)) (fun o a c=>kc o (by omega) (by omega)) h2⟩
end
mutual
theorem aG.lt {w:World} : ∀(c:C) (y:Value) (fp:List Nat),aG w c y fp→∀b∈fp,b<w.heap.size
 | .int n,y,fp,h=>by unfold aG at h;obtain⟨_,rfl⟩:=h;simp
 | .str s,y,fp,h=>by unfold aG at h;obtain⟨_,_,rfl⟩:=h;simp
 | .sl rows,y,fp,h=>by
  unfold aG at h
  obtain⟨a,cap,_,_,_,⟨_,rfl⟩ | ⟨b,fps,cs,T,_,rfl,hb,hr⟩⟩:=h
  ·simp
  ·intro x hx
   rcases List.mem_cons.1 hx with rfl | hx
   ·exact(Array.getElem?_eq_some_iff.1 hb).1
   ·exact aM.lt 0 rows fps hr x hx
theorem aM.lt {w:World}{b:Nat} : ∀(off:Nat) (rows:List (List C)) (fp:List Nat),aM w b off rows fp→∀x∈fp,x<w.heap.size
 | _,[],_,h=>by unfold aM at h;subst h;simp
 | off,r :: rs,fp,h=>by
  unfold aM at h
  obtain⟨f1,f2,rfl,h1,h2⟩:=h
  intro x hx
  rcases List.mem_append.1 hx with hx | hx
  ·exact b6.lt off r f1 h1 x hx
  ·exact aM.lt _ rs f2 h2 x hx
theorem b6.lt {w:World}{b:Nat} : ∀(off:Nat) (r:List C) (fp:List Nat),b6 w b off r fp→∀x∈fp,x<w.heap.size
 | _,[],_,h=>by unfold b6 at h;subst h;simp
 | off,c :: cs,fp,h=>by
  unfold b6 at h
  obtain⟨y,f1,f2,rfl,hy,h1,h2⟩:=h
  intro x hx
  rcases List.mem_append.1 hx with hx | hx
  ·exact aG.lt c y f1 h1 x hx
  ·exact b6.lt _ cs f2 h2 x hx
end
mutual
theorem aG.rep {w:World}{F:Nat→Prop} : ∀(c:C) (y:Value) (fp:List Nat),(∀b∈fp,F b)→aG w c y fp→aS F w c y
 | .int n,y,fp,_,h=>by unfold aG at h;unfold aS;exact h.1
 | .str s,y,fp,_,h=>by unfold aG at h;unfold aS;exact⟨h.1,h.2.1⟩
 | .sl rows,y,fp,k,h=>by
  unfold aG at h;unfold aS
  obtain⟨a,cap,h1,h2,h3,h4⟩:=h
  refine⟨a,cap,h1,h2,h3,?_⟩
  rcases h4 with ⟨h4,_⟩ | ⟨b,fps,cs,T,ha,rfl,hb,hr⟩
  ·exact .inl h4
  ·exact .inr ⟨b,0,ha,k b (List.mem_cons_self ..),(Array.getElem?_eq_some_iff.1 hb).1,aM.rep 0 rows fps (fun x hx=>k x (List.mem_cons_of_mem _ hx)) hr⟩
theorem aM.rep {w:World}{F:Nat→Prop}{b:Nat} : ∀(off:Nat) (rows:List (List C)) (fp:List Nat),(∀x∈fp,F x)→aM w b off rows fp→bl F w b off rows
 | _,[],_,_,_=>by unfold bl;trivial
 | off,r :: rs,fp,k,h=>by
  unfold aM at h;unfold bl
  obtain⟨f1,f2,rfl,h1,h2⟩:=h
  exact⟨b6.rep off r f1 (fun x hx=>k x (List.mem_append_left _ hx)) h1,aM.rep _ rs f2 (fun x hx=>k x (List.mem_append_right _ hx)) h2⟩
theorem b6.rep {w:World}{F:Nat→Prop}{b:Nat} : ∀(off:Nat) (r:List C) (fp:List Nat),(∀x∈fp,F x)→b6 w b off r fp→aU F w b off r
 | _,[],_,_,_=>by unfold aU;trivial
 | off,c :: cs,fp,k,h=>by
  unfold b6 at h;unfold aU
  obtain⟨y,f1,f2,rfl,hy,h1,h2⟩:=h
  exact⟨⟨y,hy,aG.rep c y f1 (fun x hx=>k x (List.mem_append_left _ hx)) h1⟩,b6.rep _ cs f2 (fun x hx=>k x (List.mem_append_right _ hx)) h2⟩
end
theorem aM.snoc {w:World}{b:Nat} : ∀ {off:Nat} {rows:List (List C)} {fp f:List Nat} {r:List C},aM w b off rows fp→b6 w b (off+rows.flatten.length) r f→aM w b off (rows ++ [r]) (fp++f)
 | off,[],fp,f,r,h,hr=>by
  unfold aM at h;subst h
  simp only [List.nil_append]
  unfold aM
  exact⟨f,[],by simp,by simpa using hr,by unfold aM;rfl⟩
 | off,r' :: rs,fp,f,r,h,hr=>by
  unfold aM at h
  obtain⟨f1,f2,rfl,h1,h2⟩:=h
  have:=aM.snoc (f:=f) (r:=r) h2 (by rw [List.flatten_cons,List.length_append] at hr;rw [Nat.add_assoc];exact hr)
  simp only [List.cons_append]
  unfold aM
  exact⟨f1,f2++f,by simp,h1,this⟩
theorem aG.sl_mk {w:World}{b n cap:Nat}{rows:List (List C)}{fps:List Nat}{cs:Array Value}{T:TypeId}(hb:w.heap[b]?=some (.cells cs T (0,0)))(hn:rows.length=n)(hc:n≤cap)(hm:cap≤maxLen)
  (h:aM w b 0 rows fps) : ∃fp,aG w (.sl rows) (.slice (some ⟨b,0,none⟩) n cap) fp∧(∀x∈fp,x=b∨x∈fps)∧(fps.Nodup→b∉fps→fp.Nodup):=by
 subst hn
 refine⟨b :: fps,?_,fun x hx=>List.mem_cons.1 hx,fun h1 h2=>List.nodup_cons.2 ⟨h2,h1⟩⟩
 unfold aG
 exact⟨_,cap,rfl,hc,hm,.inr ⟨b,fps,cs,T,rfl,rfl,hb,h⟩⟩
theorem aG.sl_nil {w:World}{a:Option Addr}{cap:Nat}(hm:cap≤maxLen):aG w (.sl []) (.slice a 0 cap) []:=by
 unfold aG
 exact⟨a,cap,rfl,Nat.zero_le _,hm,.inl ⟨rfl,rfl⟩⟩
def iH (w:World)(b:Nat):Nat→List Value→World
 | _,[]=>w
 | off,v :: vs=>iH (w.setCell ⟨b,off,none⟩ v) b (off+1) vs
theorem cK : ∀(vs:List Value) (w:World) (b off k:Nat),k≠b→(iH w b off vs).heap[k]?=w.heap[k]?
 | [],_,_,_,_,_=>rfl
 | v :: vs,w,b,off,k,h=>(cK vs _ b _ k h).trans (Below.heap_setCell w ⟨b,off,none⟩ v k h)
theorem cf {w:World}{b off:Nat}{v:Value}{cs:Array Value}{T:TypeId}{fr:Nat × Nat}(h:w.heap[b]?=some (.cells cs T fr)) :
  (w.setCell ⟨b,off,none⟩ v).heap[b]?=some (.cells (cs.setIfInBounds off v) T fr):=by
 simp [World.setCell,Array.getElem?_modify,h]
theorem fO : ∀(vs:List Value) (w:World) (b off:Nat) (cs:Array Value) (T:TypeId) (fr:Nat × Nat),w.heap[b]?=some (.cells cs T fr) →
  ∃cs',(iH w b off vs).heap[b]?=some (.cells cs' T fr)∧cs'.size=cs.size∧(∀o,o<off∨off+vs.length≤o→cs'[o]?=cs[o]?)∧(∀i,i<vs.length→off+i<cs.size→cs'[off+i]?=vs[i]?)
 | [],w,b,off,cs,T,fr,h=>⟨cs,h,rfl,fun _ _=>rfl,fun _ hi=>absurd hi (Nat.not_lt_zero _)⟩
 | v :: vs,w,b,off,cs,T,fr,h=>by
  obtain⟨cs',h1,h2,h3,h4⟩:=fO vs (w.setCell ⟨b,off,none⟩ v) b (off+1) _ T fr (cf h)
  rw [Array.size_setIfInBounds] at h2 h4
  refine⟨cs',h1,h2,fun o ho=>?_,fun i hi hl=>?_⟩
  ·rw [h3 o (by rcases ho with ho | ho;exact .inl (by omega);exact .inr (by simp only [List.length_cons] at ho;omega))]
   rw [Array.getElem?_setIfInBounds_ne (by rcases ho with ho | ho;omega;simp only [List.length_cons] at ho;omega)]
  ·cases i with
   | zero=>
    rw [h3 _ (.inl (by omega))]
    simp only [Nat.add_zero,List.getElem?_cons_zero]
    rw [Array.getElem?_setIfInBounds_self]
    simp at hl
    simp [hl]
   | succ i=>
    have:=h4 i (by simpa using hi) (by omega)
    rw [show off+(i+1)=off+1+i from by omega,this]
    simp
def bg (w:World):List C→List Value→List Nat→Prop
 | [],ys,fp=>ys = []∧fp = []
 | c :: cs,ys,fp=>∃z zs f1 f2,ys=z :: zs∧fp=f1++f2∧aG w c z f1∧bg w cs zs f2
theorem bg.len {w:World} : ∀(r:List C) (ys:List Value) (fp:List Nat),bg w r ys fp→ys.length=r.length
 | [],_,_,⟨h,_⟩=>by rw [h];rfl
 | c :: cs,_,_,⟨z,zs,f1,f2,h,_,_,h2⟩=>by rw [h,List.length_cons,List.length_cons,bg.len cs zs f2 h2]
theorem bg.lt {w:World} : ∀(r:List C) (ys:List Value) (fp:List Nat),bg w r ys fp→∀b∈fp,b<w.heap.size
 | [],_,_,⟨_,h⟩=>by subst h;simp
 | c :: cs,_,_,⟨z,zs,f1,f2,_,h,h1,h2⟩=>by
  subst h
  intro b hb
  rcases List.mem_append.1 hb with hb | hb
  ·exact aG.lt _ _ _ h1 b hb
  ·exact bg.lt cs zs f2 h2 b hb
theorem bg.move {w w':World} : ∀(r:List C) (ys:List Value) (fp:List Nat),(∀b∈fp,w'.heap[b]?=w.heap[b]?)→bg w r ys fp→bg w' r ys fp
 | [],_,_,_,h=>h
 | c :: cs,_,_,k,⟨z,zs,f1,f2,e,h,h1,h2⟩=>by
  subst h
  exact⟨z,zs,f1,f2,e,rfl,aG.move _ _ _ (fun b hb=>k b (List.mem_append_left _ hb)) h1,bg.move cs zs f2 (fun b hb=>k b (List.mem_append_right _ hb)) h2⟩
theorem bg.cells {w:World}{b:Nat} : ∀(r:List C) (ys:List Value) (fp:List Nat) (off:Nat),bg w r ys fp→(∀i,i<ys.length→w.cell? ⟨b,off+i,none⟩=ys[i]?)→b6 w b off r fp
 | [],_,_,_,⟨_,h⟩,_=>by subst h;unfold b6;rfl
 | c :: cs,_,_,off,⟨z,zs,f1,f2,e,h,h1,h2⟩,k=>by
  subst h e
  unfold b6
  refine⟨z,f1,f2,rfl,by simpa using k 0 (by simp),h1,bg.cells cs zs f2 _ h2 fun i hi=>?_⟩
  have:=k (i+1) (by simpa using hi)
  rw [show off+1+i=off+(i+1) from by omega]
  simpa using this
def cd (B g N:Nat)(T:TypeId)(w:World)(rows:List (List C)):Prop:=
 ∃fps cs,w.heap[g]?=some (.cells cs T (0,0))∧cs.size=N∧aM w g 0 rows fps∧fps.Nodup∧g∉fps∧B≤g∧∀x∈fps,B≤x
theorem cd.lt {B g N:Nat}{T:TypeId}{w:World}{rows:List (List C)}(h:cd B g N T w rows):g<w.heap.size:=by
 obtain⟨fps,cs,hg,_⟩:=h
 exact(Array.getElem?_eq_some_iff.1 hg).1
theorem cd.below {B g N:Nat}{T:TypeId}{w w':World}{rows:List (List C)}(h:cd B g N T w rows)(k:Below w.heap.size w w'):cd B g N T w' rows:=by
 obtain⟨fps,cs,hg,hN,hr,hd,hn,hB,hx⟩:=h
 exact⟨fps,cs,(k.block g (Array.getElem?_eq_some_iff.1 hg).1).trans hg,hN,
   hr.move _ _ _ (fun x hx=>k.block x (hr.lt _ _ _ x hx)) (fun o _ _=>World.cell?_of_block (a:=⟨g,o,none⟩) (k.block g (Array.getElem?_eq_some_iff.1 hg).1)),hd,hn,hB,hx⟩
theorem cd.made {N:Nat}{T:TypeId}{w:World}{cs:Array Value}(h:cs.size=N):cd w.heap.size w.heap.size N T (w.alloc (.cells cs T)) []:=
 ⟨[],cs,heap_alloc_new w _,h,by unfold aM;rfl,List.nodup_nil,by simp,Nat.le_refl _,by simp⟩
theorem cd.cell {B g N:Nat}{T:TypeId}{w:World}{rows:List (List C)}(h:cd B g N T w rows)(o:Nat)(ho:o<N):(∃v,w.cell? ⟨g,o,none⟩=some v)∧w.frozen? ⟨g,o,none⟩=false:=by
 obtain⟨fps,cs,hg,hN,_⟩:=h
 refine⟨⟨cs[o]'(by omega),by simp [World.cell?,hg,hN,ho]⟩,by simp [World.frozen?,hg]⟩
theorem cd.store {B g N o:Nat}{T:TypeId}{w w1:World}{rows:List (List C)}{r:List C}{vs:List Value}{fpv:List Nat}(h:cd B g N T w rows)(hb:Below w.heap.size w w1)
  (hv:bg w1 r vs fpv) (hd:fpv.Nodup) (hx : ∀x∈fpv,w.heap.size≤x) (hBw:B≤w.heap.size) (ho:rows.flatten.length=o) (room:o+r.length≤N):cd B g N T (iH w1 g o vs) (rows ++ [r]):=by
 have hlt:=h.lt
 obtain⟨fps,cs,hg0,hN,hr0,hd1,hn,hB,hx1⟩:=h
 have hg:=(hb.block g hlt).trans hg0
 have hr:=hr0.move _ _ _ (fun x hx=>hb.block x (aM.lt _ _ _ hr0 x hx)) (fun o _ _=>World.cell?_of_block (a:=⟨g,o,none⟩) (hb.block g hlt))
 have hfl : ∀x∈fps,x<w.heap.size:=fun x hx=>aM.lt _ _ _ hr0 x hx
 obtain⟨cs',h1,h2,h3,h4⟩:=fO vs w1 g o cs T (0,0) hg
 have hlen:=bg.len _ _ _ hv
 have hgn : ∀x∈fpv,x≠g:=fun x hx' e=>by have:=hx x hx';omega
 refine⟨fps++fpv,cs',h1,by omega,?_,?_,?_,hB,?_⟩
 ·refine aM.snoc (hr.move _ _ _ (fun x hx'=>cK vs w1 g o x (fun e=>hn (e▸hx'))) (fun o' _ ho'=>?_)) ?_
  ·rw [ho] at ho'
   simp only [World.cell?,h1,hg]
   simp
   exact h3 o' (.inl (by omega))
  ·rw [ho]
   refine bg.cells _ _ _ _ (hv.move _ _ _ fun x hx'=>cK vs w1 g o x (hgn x hx')) fun i hi=>?_
   simp only [World.cell?,h1]
   simp
   exact h4 i hi (by omega)
 ·exact List.nodup_append.2 ⟨hd1,hd,fun x hx1 y hy e=>by have:=hfl x hx1;have:=hx y hy;omega⟩
 ·intro hm
  rcases List.mem_append.1 hm with hm | hm
  ·exact hn hm
  ·exact hgn g hm rfl
 ·intro x hm
  rcases List.mem_append.1 hm with hm | hm
  ·exact hx1 x hm
  ·exact Nat.le_trans hBw (hx x hm)
theorem cd.slice {B g N n cap:Nat}{T:TypeId}{w:World}{rows:List (List C)}(h:cd B g N T w rows)(hn:rows.length=n)(hc:n≤cap)(hm:cap≤maxLen) :
  ∃fp,aG w (.sl rows) (.slice (some ⟨g,0,none⟩) n cap) fp∧fp.Nodup∧∀b∈fp,B≤b:=by
 obtain⟨fps,cs,hg,hN,hr,hd,hnn,hB,hx⟩:=h
 obtain⟨fp,h1,h2,h3⟩:=aG.sl_mk hg hn hc hm hr
 exact⟨fp,h1,h3 hd hnn,fun b hb=>by rcases h2 b hb with rfl | h;exact hB;exact hx b h⟩
def bR (w:World)(t:Ty)(y:Value)(fp:List Nat):Prop:=∃s,y = .agg #[.int .i64 t.kind,s]∧aG w (.sl (Ty.rows t.kids)) s fp
def iy (w:World)(ts:List Ty)(y:Value)(fp:List Nat):Prop:=aG w (.sl (Ty.rows ts)) y fp
def bh (B:Nat)(w:World)(t:Ty)(y:Value):Prop:=∃fp,bR w t y fp∧fp.Nodup∧∀b∈fp,B≤b
def bj (B:Nat)(w:World)(ts:List Ty)(y:Value):Prop:=∃fp,iy w ts y fp∧fp.Nodup∧∀b∈fp,B≤b
theorem bR.shape {w:World}{t:Ty}{y:Value}{fp:List Nat}(h:bR w t y fp) : ∃k a n q,y = .agg #[.int .i64 k,.slice a n q]∧k=t.kind∧iy w t.kids (.slice a n q) fp:=by
 obtain⟨s,rfl,h⟩:=h
 have h':=h
 unfold aG at h'
 obtain⟨a,q,rfl,_⟩:=h'
 exact⟨_,a,_,q,rfl,rfl,h⟩
theorem bR.below {w w':World}{t:Ty}{y:Value}{fp:List Nat}(h:bR w t y fp)(k:Below w.heap.size w w'):bR w' t y fp:=
 let ⟨s,h1,h2⟩:=h;⟨s,h1,h2.move _ _ _ fun b hb=>k.block b (h2.lt _ _ _ b hb)⟩
theorem bR.rep {w:World}{t:Ty}{y:Value}{fp:List Nat}(h:bR w t y fp):ap (· ∈ fp) w t y:=
 let ⟨s,h1,h2⟩:=h;⟨s,h1,h2.rep _ _ _ fun _ hb=>hb⟩
theorem bh.below {B:Nat}{w w':World}{t:Ty}{y:Value}(h:bh B w t y)(k:Below w.heap.size w w'):bh B w' t y:=
 let ⟨fp,h1,h2,h3⟩:=h;⟨fp,h1.below k,h2,h3⟩
theorem bh.rep {B:Nat}{w:World}{t:Ty}{y:Value}(h:bh B w t y):ap (B ≤ ·) w t y:=
 let ⟨fp,h1,_,h3⟩:=h;h1.rep.move (.weaken fun b hb _=>h3 b hb)
theorem bj.rep {B:Nat}{w:World}{ts:List Ty}{y:Value}(h:bj B w ts y):aF (B ≤ ·) w ts y:=
 let ⟨_,h1,_,h3⟩:=h;aG.rep _ _ _ (fun b hb=>h3 b hb) h1
theorem bj.below {B:Nat}{w w':World}{ts:List Ty}{y:Value}(h:bj B w ts y)(k:Below w.heap.size w w'):bj B w' ts y:=
 let ⟨fp,h1,h2,h3⟩:=h;⟨fp,aG.move _ _ _ (fun b hb=>k.block b (aG.lt _ _ _ h1 b hb)) h1,h2,h3⟩
theorem bh.shape {B:Nat}{w:World}{t:Ty}{y:Value}(h:bh B w t y) : ∃k a n q,y = .agg #[.int .i64 k,.slice a n q]:=by
 obtain⟨fp,⟨s,rfl,h⟩,_⟩:=h
 unfold aG at h
 obtain⟨a,q,rfl,_⟩:=h
 exact⟨_,a,_,q,rfl⟩
theorem bj.setCell {B:Nat}{w:World}{ts:List Ty}{y:Value}(h:bj B w ts y){p:Addr}(hp:p.block<B)(v:Value):bj B (w.setCell p v) ts y:=by
 obtain⟨fp,h1,h2,h3⟩:=h
 exact⟨fp,aG.move _ _ _ (fun b hb=>Below.heap_setCell w p v b (by have:=h3 b hb;omega)) h1,h2,h3⟩
theorem bj.ty {B:Nat}{w:World}{k:Int}{ts:List Ty}{y:Value}(h:bj B w ts y):bh B w (.mk k ts) (.agg #[.int .i64 k,y]):=by
 obtain⟨fp,h1,h2,h3⟩:=h
 exact⟨fp,⟨y,rfl,h1⟩,h2,h3⟩
theorem bh.setCell {B:Nat}{w:World}{t:Ty}{y:Value}(h:bh B w t y){p:Addr}(hp:p.block<B)(v:Value):bh B (w.setCell p v) t y:=by
 obtain⟨fp,⟨s,hs,h1⟩,h2,h3⟩:=h
 exact⟨fp,⟨s,hs,aG.move _ _ _ (fun b hb=>Below.heap_setCell w p v b (by have:=h3 b hb;omega)) h1⟩,h2,h3⟩
theorem bh.mono {B B':Nat}{w:World}{t:Ty}{y:Value}(h:bh B w t y)(hB:B'≤B):bh B' w t y:=
 let ⟨fp,h1,h2,h3⟩:=h;⟨fp,h1,h2,fun b hb=>Nat.le_trans hB (h3 b hb)⟩
theorem bj.mono {B B':Nat}{w:World}{t:List Ty}{y:Value}(h:bj B w t y)(hB:B'≤B):bj B' w t y:=
 let ⟨fp,h1,h2,h3⟩:=h;⟨fp,h1,h2,fun b hb=>Nat.le_trans hB (h3 b hb)⟩
theorem Ty.flatten_length (ts:List Ty):(Ty.rows ts).flatten.length=ts.length*2:=by
 induction ts with
 | nil=>unfold Ty.rows;rfl
 | cons t ts ih=>unfold Ty.rows;rw [List.flatten_cons,List.length_append,ih,t.row_length,List.length_cons];omega
theorem bR.cells {w:World}{t:Ty}{s:Value}{fp:List Nat}{k:Int}(h:bR w t (.agg #[.int .i64 k,s]) fp):bg w t.row [.int .i64 k,s] fp:=by
 obtain⟨s',he,h⟩:=h
 cases t with | mk k' ts=>
 simp only [Value.agg.injEq,Array.mk.injEq,List.cons.injEq,Value.int.injEq,true_and,and_true] at he
 obtain⟨rfl,rfl⟩:=he
 unfold Ty.row
 exact⟨_,_,[],fp,rfl,rfl,by unfold aG;exact⟨rfl,rfl⟩,_,_,fp,[],rfl,by simp,h,rfl,rfl⟩
theorem bh.open {B:Nat}{w:World}{t:Ty}{y:Value}(h:bh B w t y) : ∃k c m q fp,y = .agg #[.int .i64 k,.slice c m q]∧k=t.kind∧m=t.kids.length∧bg w t.row [.int .i64 k,.slice c m q] fp∧fp.Nodup∧∀b∈fp,B≤b:=by
 obtain⟨fp,h1,h2,h3⟩:=h
 obtain⟨s,rfl,h⟩:=h1
 have h':=h
 unfold aG at h'
 obtain⟨a,cap,rfl,_⟩:=h'
 exact⟨_,a,_,cap,fp,rfl,rfl,Ty.rows_length _,bR.cells ⟨_,rfl,h⟩,h2,h3⟩
end Go.Proofs.Ytnaoghknnenfoaa
namespace Go.Proofs.Ytnaoghknnenfoaa
open Go.RowKit
end Go.Proofs.Ytnaoghknnenfoaa
namespace Go.Proofs.Ytnaoghknnenfoaa
open Go.RowKit
mutual
def Ty.same:Ty→Ty→Bool
 | .mk k ts,.mk l us=>k==l&&Ty.sames ts us
def Ty.sames:List Ty→List Ty→Bool
 | [],[]=>true
 | t :: ts,u :: us=>t.same u&&Ty.sames ts us
 | _,_=>false
end
def cC (R:Ty→Ty→Bool):List Ty→List Ty→Bool
 | [],[]=>true
 | t :: ts,u :: us=>R t u&&cC R ts us
 | _,_=>false
theorem fl (R:Ty→Ty→Bool)(ts us:List Ty)(k:Nat)(h:k<ts.length)(h':k<us.length):cC R (ts.drop k) (us.drop k)=(R ts[k] us[k]&&cC R (ts.drop (k+1)) (us.drop (k+1))):=by
 rw [List.drop_eq_getElem_cons h,List.drop_eq_getElem_cons h'];rfl
theorem nY (R:Ty→Ty→Bool) : ∀(ts us:List Ty),ts.length≠us.length→cC R ts us=false
 | [],[],h=>absurd rfl h
 | [],_ :: _,_=>rfl
 | _ :: _,[],_=>rfl
 | t :: ts,u :: us,h=>by
  have:=nY R ts us (fun e=>h (by simp [e]))
  simp [cC,this]
theorem im (R:Ty→Ty→Bool)(ts us:List Ty)(k:Nat)(h:ts.length≤k)(h':us.length≤k):cC R (ts.drop k) (us.drop k)=true:=by
 rw [List.drop_eq_nil_of_le h,List.drop_eq_nil_of_le h'];rfl
theorem Ty.sames_all2 : ∀ts us:List Ty,cC Ty.same ts us=Ty.sames ts us
 | [],[]=>by unfold Ty.sames;rfl
 | [],_ :: _=>by unfold Ty.sames;rfl
 | _ :: _,[]=>by unfold Ty.sames;rfl
 | t :: ts,u :: us=>by unfold Ty.sames cC;rw [Ty.sames_all2 ts us]
end Go.Proofs.Ytnaoghknnenfoaa
namespace Go.Proofs.Ytnaoghknnenfoaa
open Go.RowKit
def df (t:Ty)(w:World)(e:Ending)(w':World):Prop:=∃v,e = .returned v∧bh w.heap.size w' t v∧Below w.heap.size w w'
def RetTys (ts:List Ty)(w:World)(e:Ending)(w':World):Prop:=∃v,e = .returned v∧bj w.heap.size w' ts v∧Below w.heap.size w w'
theorem Try.infoTy:(Try.prog.info? 25).map (fun i=>(i.zero,i.size,i.bytes))=some (some (.agg #[.int .i64 0,.slice none 0 0]),2,32):=by kernel_rfl
end Go.Proofs.Ytnaoghknnenfoaa
namespace Go.Proofs.Ytnaoghknnenfoaa
open Go.RowKit
mutual
def Ty.marks:List Ty→Int→List Ty
 | [],_=> []
 | t :: ts,m=>t.marked m :: Ty.marks ts (m+1+t.cnt)
def Ty.marked:Ty→Int→Ty
 | .mk _ us,m=>.mk m (Ty.marks us (m+1))
end
theorem aM.split {w:World}{b:Nat} : ∀ {off:Nat} {r1 r2:List (List C)} {r:List C} {fp:List Nat},aM w b off (r1++r :: r2) fp →
  ∃f1 f f2,fp=f1++(f++f2)∧aM w b off r1 f1∧b6 w b (off+r1.flatten.length) r f∧aM w b (off+r1.flatten.length+r.length) r2 f2
 | off,[],r2,r,fp,h=>by
  simp only [List.nil_append] at h
  unfold aM at h
  obtain⟨f1,f2,rfl,h1,h2⟩:=h
  exact⟨[],f1,f2,rfl,by unfold aM;rfl,by simpa using h1,by simpa using h2⟩
 | off,x :: r1,r2,r,fp,h=>by
  simp only [List.cons_append] at h
  unfold aM at h
  obtain⟨g1,g2,rfl,h1,h2⟩:=h
  obtain⟨f1,f,f2,rfl,k1,k2,k3⟩:=aM.split h2
  refine⟨g1++f1,f,f2,by simp,?_,?_,?_⟩
  ·unfold aM;exact⟨g1,f1,rfl,h1,k1⟩
  ·rw [List.flatten_cons,List.length_append,←Nat.add_assoc];exact k2
  ·rw [List.flatten_cons,List.length_append,←Nat.add_assoc];exact k3
theorem aM.join {w:World}{b:Nat} : ∀ {off:Nat} {r1 r2:List (List C)} {r:List C} {f1 f f2:List Nat},aM w b off r1 f1→b6 w b (off+r1.flatten.length) r f→aM w b (off+r1.flatten.length+r.length) r2 f2 →
  aM w b off (r1++r :: r2) (f1++(f++f2))
 | off,[],r2,r,f1,f,f2,h,h1,h2=>by
  unfold aM at h;subst h
  simp only [List.nil_append]
  unfold aM
  exact⟨f,f2,rfl,by simpa using h1,by simpa using h2⟩
 | off,x :: r1,r2,r,f1,f,f2,h,h1,h2=>by
  unfold aM at h
  obtain⟨g1,g2,rfl,k1,k2⟩:=h
  rw [List.flatten_cons,List.length_append,←Nat.add_assoc] at h1 h2
  simp only [List.cons_append]
  unfold aM
  exact⟨g1,g2++(f++f2),by simp,k1,aM.join k2 h1 h2⟩
theorem Ty.rows_append (a b:List Ty):Ty.rows (a++b)=Ty.rows a++Ty.rows b:=by simp [Ty.rows_eq]
theorem Ty.rows_cons (t:Ty)(b:List Ty):Ty.rows (t :: b)=t.row :: Ty.rows b:=by conv=>lhs;unfold Ty.rows
def iS (w:World)(b:Nat)(ts:List Ty)(fps:List Nat):Prop:=(∃cs T,w.heap[b]?=some (.cells cs T (0,0)))∧aM w b 0 (Ty.rows ts) fps∧fps.Nodup∧b∉fps
theorem iS.row {w:World}{b:Nat}{ts1 ts2:List Ty}{t:Ty}{fps:List Nat}(h:iS w b (ts1++t :: ts2) fps) :
  ∃f1 f f2 s,fps=f1++(f++f2)∧aM w b 0 (Ty.rows ts1) f1∧aM w b (ts1.length*2+2) (Ty.rows ts2) f2∧w.cell? ⟨b,ts1.length*2,none⟩=some (.int .i64 t.kind)∧w.cell? ⟨b,ts1.length*2+1,none⟩=some s∧iy w t.kids s f:=by
 obtain⟨_,hr,_,_⟩:=h
 rw [Ty.rows_append,Ty.rows_cons] at hr
 obtain⟨f1,f,f2,rfl,h1,h2,h3⟩:=aM.split hr
 rw [Ty.flatten_length,Nat.zero_add] at h2 h3
 rw [Ty.row_length] at h3
 cases t with | mk k us=>
 unfold Ty.row b6 at h2
 obtain⟨y,g1,g2,rfl,hy,k1,k2⟩:=h2
 unfold aG at k1
 obtain⟨rfl,rfl⟩:=k1
 unfold b6 at k2
 obtain⟨y',g3,g4,rfl,hy',k3,k4⟩:=k2
 unfold b6 at k4
 subst k4
 exact⟨f1,g3,f2,y',by simp,h1,h3,hy,hy',k3⟩
theorem iS.step {w w':World}{b:Nat}{ts1 ts2 us':List Ty}{t:Ty}{k:Int}{f1 f f2:List Nat}{s:Value}(h:iS w b (ts1++t :: ts2) (f1++(f++f2)))(h1:aM w b 0 (Ty.rows ts1) f1)(h2:aM w b (ts1.length*2+2) (Ty.rows ts2) f2)
  (hs0:w.cell? ⟨b,ts1.length*2,none⟩=some (.int .i64 t.kind)) (hs:w.cell? ⟨b,ts1.length*2+1,none⟩=some s) (hc:Chg f (w.setCell ⟨b,ts1.length*2,none⟩ (.int .i64 k)) w') (hk:iy w' us' s f):iS w' b (ts1++Ty.mk k us' :: ts2) (f1++(f++f2)):=by
 obtain⟨⟨cs,T,hb⟩,_,hd,hn⟩:=h
 simp only [List.mem_append,not_or] at hn
 have hbl:=(Array.getElem?_eq_some_iff.1 hb).1
 have hsz:(w.setCell ⟨b,ts1.length*2,none⟩ (.int .i64 k)).heap.size=w.heap.size:=by simp [World.setCell]
 have hb1:w'.heap[b]?=some (.cells (cs.setIfInBounds (ts1.length*2) (.int .i64 k)) T (0,0)):=(hc.block b (by omega) hn.2.1).trans (cf hb)
 rw [List.nodup_append,List.nodup_append] at hd
 obtain⟨d1,⟨d2,d3,d23⟩,d123⟩:=hd
 have old : ∀x,x<w.heap.size→x≠b→x∉f→w'.heap[x]?=w.heap[x]?:=fun x hx hxb hxf=>
  (hc.block x (by omega) hxf).trans (Below.heap_setCell w ⟨b,_,none⟩ _ x hxb)
 have cell : ∀o,o≠ts1.length*2→w'.cell? ⟨b,o,none⟩=w.cell? ⟨b,o,none⟩:=fun o ho=>by
  simp only [World.cell?,hb1,hb]
  simp
  rw [Array.getElem?_setIfInBounds_ne (by omega)]
 have hl':ts1.length*2<cs.size:=by
  simp only [World.cell?,hb] at hs0
  simp at hs0
  exact(Array.getElem?_eq_some_iff.1 hs0).1
 refine⟨⟨_,T,hb1⟩,?_,?_,?_⟩
 ·rw [Ty.rows_append,Ty.rows_cons]
  refine aM.join ?_ ?_ ?_
  ·exact h1.move _ _ _ (fun x hx=>old x (h1.lt _ _ _ x hx) (fun e=>hn.1 (e▸hx)) (fun hf=>d123 x hx x (List.mem_append_left _ hf) rfl)) (fun o _ ho=>cell o (by rw [Ty.flatten_length] at ho;omega))
  ·rw [Ty.flatten_length,Nat.zero_add]
   unfold Ty.row b6
   refine⟨_,[],f,by simp,?_,by unfold aG;exact⟨rfl,rfl⟩,?_⟩
   ·simp only [World.cell?,hb1]
    simp
    rw [Array.getElem?_setIfInBounds_self]
    simp;omega
   ·unfold b6
    exact⟨s,f,[],by simp,(cell _ (by omega)).trans hs,hk,by unfold b6;rfl⟩
  ·rw [Ty.flatten_length,Ty.row_length,Nat.zero_add]
   exact h2.move _ _ _ (fun x hx=>old x (h2.lt _ _ _ x hx) (fun e=>hn.2.2 (e▸hx)) (fun hf=>d23 x hf x hx rfl)) (fun o ho _=>cell o (by omega))
 ·rw [List.nodup_append,List.nodup_append];exact⟨d1,⟨d2,d3,d23⟩,d123⟩
 ·simp only [List.mem_append,not_or];exact hn
end Go.Proofs.Ytnaoghknnenfoaa
namespace Go.Proofs.Ytnaoghknnenfoaa
open Go.RowKit
theorem av {w:World}{p a:Addr}{v u:Value}(h:w.cell? a=some u)(hne:p≠a):(w.setCell p v).cell? a=some u:=(World.cell?_setCell_other w p a v hne).trans h
theorem aY {w:World}{b o:Nat}{v u:Value}(h:w.cell? ⟨b,o,none⟩=some u):(w.setCell ⟨b,o,none⟩ v).cell? ⟨b,o,none⟩=some v:=by
 simp only [World.cell?] at h
 split at h
 ·rename_i cs T fr hb
  simp at h
  have hlt:=(Array.getElem?_eq_some_iff.1 h).1
  simp only [World.cell?,cf hb]
  simp
  rw [Array.getElem?_setIfInBounds_self]
  simp [hlt]
 ·cases h
theorem aO (w:World)(p:Addr)(v:Value)(a:Addr):(w.setCell p v).frozen? a=w.frozen? a:=by simp
def be (w:World):List (List C)→List Value→List Nat→Prop
 | [],xs,fps=>xs = []∧fps = []
 | r :: rs,xs,fps=>∃ys xs' f1 f2,xs=ys++xs'∧fps=f1++f2∧bg w r ys f1∧be w rs xs' f2
theorem be.move {w w':World} : ∀(rs:List (List C)) (xs:List Value) (fps:List Nat),(∀b∈fps,w'.heap[b]?=w.heap[b]?)→be w rs xs fps→be w' rs xs fps
 | [],_,_,_,h=>h
 | r :: rs,_,_,k,⟨ys,xs',f1,f2,e,h,h1,h2⟩=>by
  subst h
  exact⟨ys,xs',f1,f2,e,rfl,h1.move _ _ _ (fun b hb=>k b (List.mem_append_left _ hb)),be.move rs xs' f2 (fun b hb=>k b (List.mem_append_right _ hb)) h2⟩
theorem be.lt {w:World} : ∀(rs:List (List C)) (xs:List Value) (fps:List Nat),be w rs xs fps→∀b∈fps,b<w.heap.size
 | [],_,_,⟨_,h⟩=>by subst h;simp
 | r :: rs,_,_,⟨ys,xs',f1,f2,_,h,h1,h2⟩=>by
  subst h
  intro b hb
  rcases List.mem_append.1 hb with hb | hb
  ·exact bg.lt _ _ _ h1 b hb
  ·exact be.lt rs xs' f2 h2 b hb
theorem be.snoc {w:World} : ∀ {rs:List (List C)} {xs:List Value} {fps:List Nat} {r:List C} {ys:List Value} {f:List Nat},be w rs xs fps→bg w r ys f→be w (rs ++ [r]) (xs++ys) (fps++f)
 | [],_,_,r,ys,f,⟨hx,hf⟩,h=>by
  subst hx hf
  exact⟨ys,[],f,[],by simp,by simp,h,rfl,rfl⟩
 | r' :: rs,_,_,r,ys,f,⟨ys',xs',f1,f2,e,e2,h1,h2⟩,h=>by
  subst e e2
  exact⟨ys',xs'++ys,f1,f2++f,by simp,by simp,h1,be.snoc h2 h⟩
theorem be.rows {w:World}{b:Nat} : ∀(rs:List (List C)) (xs:List Value) (fps:List Nat) (off:Nat),be w rs xs fps→(∀i,i<xs.length→w.cell? ⟨b,off+i,none⟩=xs[i]?)→aM w b off rs fps
 | [],_,_,_,⟨_,h⟩,_=>by subst h;unfold aM;rfl
 | r :: rs,_,_,off,⟨ys,xs',f1,f2,e,h,h1,h2⟩,k=>by
  subst e h
  have hl:=bg.len _ _ _ h1
  unfold aM
  refine⟨f1,f2,rfl,bg.cells r ys f1 off h1 (fun i hi=>?_),be.rows rs xs' f2 _ h2 fun i hi=>?_⟩
  ·rw [k i (by rw [List.length_append];omega),List.getElem?_append_left hi]
  ·rw [←hl,Nat.add_assoc,k (ys.length+i) (by rw [List.length_append];omega),List.getElem?_append_right (by omega)]
   congr 1
   omega
def aH (B:Nat)(e:TypeId)(size:Nat)(w:World)(v:Value)(n:Nat)(rows:List (List C)):Prop:=
 ∃xs fps,w.ownsRow B e size v n xs∧rows.length=n∧be w rows xs fps∧fps.Nodup∧∀x∈fps,B≤x∧v.ownBlock≠some x
theorem aH.nil (B:Nat)(e:TypeId)(size:Nat)(w:World):aH B e size w (.slice none 0 0) 0 []:=
 ⟨[],[],World.ownsRow_nil w B e size,rfl,⟨rfl,rfl⟩,List.nodup_nil,by simp⟩
theorem aH.grown {B:Nat}{e:TypeId}{size n:Nat}{w w':World}{v:Value}{rows:List (List C)}(h:aH B e size w v n rows)(hb:Below w.heap.size w w'):aH B e size w' v n rows:=by
 obtain⟨xs,fps,h1,h2,h3,h4,h5⟩:=h
 refine⟨xs,fps,h1.kept (row:=none) ⟨hb.os,hb.tape,hb.output,hb.size,fun k hk _=>hb.block k hk⟩ ?_,h2,h3.move _ _ _ (fun b hx=>hb.block b (h3.lt _ _ _ b hx)),h4,h5⟩
 cases v.ownBlock with
 | none=>exact .inl rfl
 | some g=>exact .inr (by simp)
theorem aH.setCell {B:Nat}{e:TypeId}{size n:Nat}{w:World}{v:Value}{rows:List (List C)}(h:aH B e size w v n rows){p:Addr}(hp:p.block<B)(u:Value):aH B e size (w.setCell p u) v n rows:=by
 obtain⟨xs,fps,h1,h2,h3,h4,h5⟩:=h
 refine⟨xs,fps,?_,h2,h3.move _ _ _ (fun b hx=>Below.heap_setCell w p u b (by have:=(h5 b hx).1;omega)),h4,h5⟩
 exact ownsRow_setCell_below h1 hp u
theorem aH.shape {B:Nat}{e:TypeId}{size n:Nat}{w:World}{v:Value}{rows:List (List C)}(h:aH B e size w v n rows) : ∃c q,v = .slice c n q:=by
 obtain⟨xs,fps,⟨_,h1⟩,_⟩:=h
 rcases h1 with ⟨rfl,rfl⟩ | ⟨g,cap,cur,rfl,_⟩
 ·exact⟨none,0,rfl⟩
 ·exact⟨_,cap,rfl⟩
theorem aH.append {B H g cap:Nat}{e:TypeId}{size n:Nat}{w w1:World}{v:Value}{xs ys:List Value}{fps f:List Nat}{rows:List (List C)}{r:List C}
  (h2:rows.length=n) (h3:be w rows xs fps) (h4:fps.Nodup) (h5 : ∀x∈fps,B≤x∧v.ownBlock≠some x)
  (hr:bg w r ys f) (hd:f.Nodup) (hf : ∀x∈f,B≤x∧v.ownBlock≠some x∧x∉fps)
  (hown:w1.ownsRow B e size (.slice (some ⟨g,0,none⟩) (n+1) cap) (n+1) (xs++ys)) (hgrow:w.grownBy w1 v.ownBlock) (hat:v.ownBlock=some g∨g=H) (hH:w.heap.size=H) :
  aH B e size w1 (.slice (some ⟨g,0,none⟩) (n+1) cap) (n+1) (rows ++ [r]):=by
 have l3 : ∀b∈fps,b<w.heap.size:=fun b hb=>be.lt _ _ _ h3 b hb
 have lr : ∀b∈f,b<w.heap.size:=fun b hb=>bg.lt _ _ _ hr b hb
 have keep : ∀x,x<w.heap.size→v.ownBlock≠some x→w1.heap[x]?=w.heap[x]?:=fun x hx hn=>hgrow.block x hx (fun e=>hn e.symm)
 refine⟨xs++ys,fps++f,hown,by simp [h2],be.snoc (h3.move _ _ _ fun b hb=>keep b (l3 b hb) (h5 b hb).2) (hr.move _ _ _ fun b hb=>keep b (lr b hb) (hf b hb).2.1),?_,?_⟩
 ·exact List.nodup_append.2 ⟨h4,hd,fun x hx y hy e=>(hf y hy).2.2 (e▸hx)⟩
 ·intro x hx
  have hlt:x<w.heap.size∧B≤x∧v.ownBlock≠some x:=by
   rcases List.mem_append.1 hx with hx | hx
   ·exact⟨l3 x hx,h5 x hx⟩
   ·exact⟨lr x hx,(hf x hx).1,(hf x hx).2.1⟩
  refine⟨hlt.2.1,fun e=>?_⟩
  simp only [Value.ownBlock,Option.some.injEq] at e
  rcases hat with hat | hat
  ·exact hlt.2.2 (by rw [hat,e])
  ·omega
theorem bi {B:Nat}{e:TypeId}{size n:Nat}{w w':World}{v:Value}{xs:List Value}(h:w.ownsRow B e size v n xs)(hb:Below w.heap.size w w'):w'.ownsRow B e size v n xs:=
 h.kept (row:=none) ⟨hb.os,hb.tape,hb.output,hb.size,fun k hk _=>hb.block k hk⟩ (by cases v.ownBlock with | none=>exact .inl rfl | some g=>exact .inr (by simp))
theorem cF {wr W w2:World}{B:Nat}{e:TypeId}{size n:Nat}{v:Value}{xs:List Value}(hb:Below wr.heap.size wr W)(ho:wr.ownsRow B e size v n xs)(hg:W.grownBy w2 v.ownBlock)(b:Nat)(hl:b<wr.heap.size)(hB:b<B):w2.heap[b]?=wr.heap[b]?:=
 (hg.block b (Nat.lt_of_lt_of_le hl hb.size) (fun e=>by have:=(ho.lt b e.symm).1;omega)).trans (hb.block b hl)
theorem ck {w0 wr W w2:World}{B:Nat}{e:TypeId}{size n:Nat}{v:Value}{xs:List Value}(h0:Below w0.heap.size w0 wr)(hb:Below wr.heap.size wr W)(ho:wr.ownsRow B e size v n xs)(hB:w0.heap.size≤B)(hg:W.grownBy w2 v.ownBlock):Below w0.heap.size w0 w2:=
 (ai h0 hb).grown hg (ai h0 hb).size (fun k hk=>Nat.le_trans hB (ho.lt k hk).1)
theorem aH.push {B g cap:Nat}{e:TypeId}{size n:Nat}{wr W0 W w2:World}{v:Value}{xs ys:List Value}{fps f:List Nat}{rows:List (List C)}{r:List C}(hl:rows.length=n)(ho:wr.ownsRow B e size v n xs)(hs:be wr rows xs fps)(hd:fps.Nodup)
  (hfp : ∀x∈fps,B≤x∧v.ownBlock≠some x) (hB:B≤wr.heap.size) (hb:Below wr.heap.size wr W) (h0:wr.heap.size≤W0.heap.size) (hr:bg W r ys f) (hdf:f.Nodup) (hxf : ∀x∈f,W0.heap.size≤x)
  (hown:w2.ownsRow B e size (.slice (some ⟨g,0,none⟩) (n+1) cap) (n+1) (xs++ys)) (hgrow:W.grownBy w2 v.ownBlock) (hat:v.ownBlock=some g∨g=W.heap.size):aH B e size w2 (.slice (some ⟨g,0,none⟩) (n+1) cap) (n+1) (rows ++ [r]):=by
 have hlt : ∀x∈fps,x<wr.heap.size:=fun x hx=>be.lt _ _ _ hs x hx
 refine aH.append (w:=W) hl (hs.move _ _ _ fun b hx=>hb.block b (hlt b hx)) hd hfp hr hdf (fun x hx=>?_) hown hgrow hat rfl
 have h1:=hxf x hx
 refine⟨by omega,fun e=>by have:=(ho.lt x e).2;omega,fun e=>by have:=hlt x e;omega⟩
theorem aH.own {B:Nat}{e:TypeId}{size n:Nat}{w:World}{v:Value}{rows:List (List C)}(h:aH B e size w v n rows) : ∃fp,aG w (.sl rows) v fp∧fp.Nodup∧∀x∈fp,B≤x:=by
 obtain⟨xs,fps,⟨hl,h1⟩,h2,h3,h4,h5⟩:=h
 rcases h1 with ⟨rfl,rfl⟩ | ⟨g,cap,cur,rfl,hb,hg,hn,hc,hs,ht⟩
 ·obtain rfl:rows = []:=List.eq_nil_of_length_eq_zero h2
  exact⟨[],aG.sl_nil (by unfold maxLen;omega),List.nodup_nil,by simp⟩
 ·have hr:aM w g 0 rows fps:=h3.rows _ _ _ 0 (fun i hi=>by
     rw [←ht] at hi ⊢
     simp only [World.cell?,hg]
     simp only [List.length_take] at hi
     simp
     rw [List.getElem?_take_of_lt (by omega),Array.getElem?_toList])
  obtain⟨fp,k1,k2,k3⟩:=aG.sl_mk hg h2 hn hc hr
  exact⟨fp,k1,k3 h4 (fun hx=>(h5 g hx).2 rfl),fun x hx=>by rcases k2 x hx with rfl | hx;exact hb;exact(h5 x hx).1⟩
theorem aH.tys {B n:Nat}{e:TypeId}{w:World}{v:Value}{ts:List Ty}(h:aH B e 2 w v n (Ty.rows ts)):bj B w ts v:=h.own
end Go.Proofs.Ytnaoghknnenfoaa
namespace Go.Proofs.Ytnaoghknnenfoaa
open Go.RowKit
theorem aj {X:World}{n:Nat}{cs:Array Value}{T:TypeId}(h:X.heap.size=n)(j:Nat):(X.alloc (.cells cs T)).cell? ⟨n,j,none⟩=cs[j]?:=by subst h;exact ao j
theorem cG {X:World}{n:Nat}{cs:Array Value}{T:TypeId}(h:X.heap.size=n)(j:Nat):(X.alloc (.cells cs T)).frozen? ⟨n,j,none⟩=false:=by subst h;exact aP j
theorem aw {w w1:World}{a:Addr}{v:Value}(h:Below w.heap.size w w1)(hc:w.cell? a=some v)(hf:w.frozen? a=false):w1.frozen? a=false:=(h.frozen (World.block_lt_of_cell? w a hc)).trans hf
theorem ay {w:World}{a:Addr}{v:Value}(hc:w.cell? a=some v):w.drew.cell? a=some v:=hc
theorem dfro {w:World}{a:Addr}(hc:w.frozen? a=false):w.drew.frozen? a=false:=hc
theorem sfro {w:World}{a p:Addr}{v:Value}(hf:w.frozen? a=false):(w.setCell p v).frozen? a=false:=(aO w p v a).trans hf
theorem bc {w:World}{p a:Addr}{v u:Value}(h:w.cell? a=some u)(hne:a.block≠p.block):(w.setCell p v).cell? a=some u:=av h (fun e=>by subst e;exact hne rfl)
end Go.Proofs.Ytnaoghknnenfoaa
namespace Go.Proofs.Ytnaoghknnenfoaa
open Go.RowKit
theorem bR.chg {fp fp':List Nat}{w w':World}{t:Ty}{y:Value}(h:Chg fp w w')(hn : ∀b∈fp',b∉fp)(r:bR w t y fp'):bR w' t y fp':=by
 obtain⟨s,rfl,ho⟩:=r
 exact⟨s,rfl,aG.move _ _ _ (fun b hb=>h.block b (aG.lt _ _ _ ho b hb) (hn b hb)) ho⟩
theorem bR.lt {w:World}{t:Ty}{y:Value}{fp:List Nat}(r:bR w t y fp) : ∀b∈fp,b<w.heap.size:=by
 obtain⟨s,rfl,ho⟩:=r
 exact aG.lt _ _ _ ho
theorem ap.old {F:Nat→Prop}{w:World}{t:Ty}{y:Value}(r:ap F w t y):ap (· < w.heap.size) w t y:=r.move (.weaken fun _ _ h=>h)
theorem bR.ks {w:World}{t:Ty}{y:Value}{fp:List Nat}(r:bR w t y fp) : ∃k a n q,y = .agg #[.int .i64 k,.slice a n q]:=by
 obtain⟨k,a,n,q,rfl,-⟩:=r.shape
 exact⟨k,a,n,q,rfl⟩
end Go.Proofs.Ytnaoghknnenfoaa
namespace Go.Proofs.Ytnaoghknnenfoaa
open Go.RowKit
def aN (s:ByteArray):Bool:=if h:s.size=1 then decide ((97:Int)≤((s[0]'(by omega)).toNat:Int))&&decide (((s[0]'(by omega)).toNat:Int)≤122) else false
theorem io {s:ByteArray}(h : ¬s.size=1):aN s=false:=by unfold aN;rw [dif_neg h]
theorem kw {s:ByteArray}(h:s.size=1)(hp:0<s.size):aN s=(decide ((97:Int)≤((s[0]'hp).toNat:Int))&&decide (((s[0]'hp).toNat:Int)≤122)):=by unfold aN;rw [dif_pos h]
set_option maxHeartbeats 1000000 in
theorem pn (s:ByteArray)(w:World):Calls Try.prog 58 #[.string s] w fun e w'=>e = .returned (.bool (aN s))∧w=w':=by
 by_cases h1:s.size=1
 ·have hp:0<s.size:=by omega
  have HN:=Lib.hid (kw h1 hp)
  have hi:((s.size:Int)==1)=true:=by simp [h1]
  have hp':(0:Int)<(s.size:Int):=by omega
  by_cases hA:(97:Int)≤((s[0]'hp).toNat:Int)
  ·have hA':decide ((97:Int)≤((s[0]'hp).toNat:Int))=true:=decide_eq_true hA
   go_enter Try.func58,Try.ntmps58
   go_wp2_with fail
   go_ret
   exact⟨au (by rw [HN.out,hA'];rfl),rfl⟩
  ·have hA':decide ((97:Int)≤((s[0]'hp).toNat:Int))=false:=decide_eq_false hA
   go_enter Try.func58,Try.ntmps58
   go_wp2_with fail
   go_ret
   exact⟨au (by rw [HN.out,hA'];rfl),rfl⟩
 ·have HN:=Lib.hid (io h1)
  have hi:((s.size:Int)==1)=false:=by simp;omega
  clear h1
  go_enter Try.func58,Try.ntmps58
  go_wp2_with fail
  go_ret
  exact⟨au HN.out.symm,rfl⟩
set_option maxHeartbeats 1000000 in
theorem iM (s:ByteArray)(w:World):Calls Try.prog 72 #[.string s] w fun e w'=>e = .returned (.bool (aN s))∧w=w':=by
 by_cases h1:s.size=1
 ·have hp:0<s.size:=by omega
  have HN:=Lib.hid (kw h1 hp)
  have hi:((s.size:Int)==1)=true:=by simp [h1]
  have hp':(0:Int)<(s.size:Int):=by omega
  by_cases hA:(97:Int)≤((s[0]'hp).toNat:Int)
  ·have hA':decide ((97:Int)≤((s[0]'hp).toNat:Int))=true:=decide_eq_true hA
   go_enter Try.func72,Try.ntmps72
   go_wp2_with fail
   go_ret
   exact⟨au (by rw [HN.out,hA'];rfl),rfl⟩
  ·have hA':decide ((97:Int)≤((s[0]'hp).toNat:Int))=false:=decide_eq_false hA
   go_enter Try.func72,Try.ntmps72
   go_wp2_with fail
   go_ret
   exact⟨au (by rw [HN.out,hA'];rfl),rfl⟩
 ·have HN:=Lib.hid (io h1)
  have hi:((s.size:Int)==1)=false:=by simp;omega
  clear h1
  go_enter Try.func72,Try.ntmps72
  go_wp2_with fail
  go_ret
  exact⟨au HN.out.symm,rfl⟩
end Go.Proofs.Ytnaoghknnenfoaa
namespace Go.Proofs.Ytnaoghknnenfoaa
open Go.RowKit
def aA (n a b:Int):Bool:=decide (a≤n)&&decide (n≤b)
def cN (n:Int):Bool:=aA n 1 99||aA n (-99) (-1)
theorem b9 (n a b:Int)(w:World):Calls Try.prog 59 #[.int .i64 n,.int .i64 a,.int .i64 b] w fun e w'=>e = .returned (.bool (aA n a b))∧Below w.heap.size w w':=by
 unfold aA
 by_cases h1:a≤n
 ·by_cases h2:n≤b
  ·go_enter Try.func59,Try.ntmps59
   go_wp2_with fail
   go_ret
   exact⟨au (by simp [h1,h2]),Below.refl _ _⟩
  ·have h2':decide (n≤b)=false:=decide_eq_false h2
   go_enter Try.func59,Try.ntmps59
   go_wp2_with fail
   go_ret
   exact⟨au (by simp [h1,h2']),Below.refl _ _⟩
 ·have h1':decide (a≤n)=false:=decide_eq_false h1
  go_enter Try.func59,Try.ntmps59
  go_wp2_with fail
  go_ret
  exact⟨au (by simp [h1']),Below.refl _ _⟩
theorem jc (n:Int)(h0:(aA n 1 99)=true):(true:Bool)=(cN n):=by
 simp_all [cN]
theorem jn (n:Int)(h0:(aA n 1 99)=false):(aA n (-99) (-1):Bool)=(cN n):=by
 simp_all [cN]
set_option maxHeartbeats 1000000 in
theorem oR (n:Int)(w:World):Calls Try.prog 63 #[.int .i64 n] w fun e w'=>e = .returned (.bool (cN n))∧Below w.heap.size w w':=by
 obtain⟨rr,hrr⟩ : ∃rr0:Bool,(cN n)=rr0:=⟨_,rfl⟩
 rw [hrr]
 have HT:=Lib.hid hrr
 clear hrr
 go_enter Try.func63,Try.ntmps63
 rcases Bool.eq_false_or_eq_true (aA n 1 99) with q1 | q1
 ·have Hq1:=Lib.hid q1
  clear q1
  go_wp2_with fail
  refine(b9 n 1 99 _).mono ?_
  rintro e w1 ⟨rfl,hb1⟩
  rw [Hq1.out]
  have hB:=(ai (Below.refl _ _) hb1)
  have zw1:=hB.size
  go_wp2_with fail
  refine bodyPost_ret (v:=.bool (true)) (by simp [results,Try.results63,go_sem,bne]) rfl ?_
  exact⟨au ((jc n Hq1.out).trans HT.out),hB⟩
 ·have Hq1:=Lib.hid q1
  clear q1
  go_wp2_with fail
  refine(b9 n 1 99 _).mono ?_
  rintro e w2 ⟨rfl,hb2⟩
  rw [Hq1.out]
  have hB:=(ai (Below.refl _ _) hb2)
  have zw2:=hB.size
  go_wp2_with fail
  refine(b9 n (-99) (-1) _).mono ?_
  rintro e w3 ⟨rfl,hb3⟩
  replace hB:=(ai hB hb3)
  have zw3:=hB.size
  go_wp2_with fail
  refine bodyPost_ret (v:=.bool (aA n (-99) (-1))) (by simp [results,Try.results63,go_sem,bne]) rfl ?_
  exact⟨au ((jn n Hq1.out).trans HT.out),hB⟩
end Go.Proofs.Ytnaoghknnenfoaa
namespace Go.Proofs.Ytnaoghknnenfoaa
open Go.RowKit
set_option maxHeartbeats 400000 in
theorem du (g:FuncId)(R:Ty→Ty→Bool)(F G:Nat→Prop)(ts us:List Ty)(ys zs:Value)(w:World)(hy:aF F w ts ys)(hz:aF G w us zs)
  (hcf : ∀xs W,(callFunc g xs).run Try.prog W = .ok (.enter g xs) W)
  (hg : ∀t∈ts,∀u∈us,∀(W:World) (y z:Value),ap F W t y→ap G W u z→Calls Try.prog g #[y,z] W fun e W'=>e = .returned (.bool (R t u))∧Below W.heap.size W W') :
  Calls Try.prog 33 #[ys,zs,.func (.func g) #[] #[]] w fun e w'=>e = .returned (.bool (cC R ts us))∧Below w.heap.size w w':=by
 have HG:=Lib.hid hg
 clear hg
 obtain⟨a,cap,rfl,h2,h3,h4⟩:=hy.open
 obtain⟨c,cap',rfl,g2,g3,g4⟩:=hz.open
 have H4:=Lib.hid h4
 have G4:=Lib.hid g4
 clear h4 g4 hy hz
 unfold maxLen at h3 g3
 by_cases hl:ts.length=us.length
 ·obtain⟨n,hn⟩ : ∃n,ts.length=n:=⟨_,rfl⟩
  rw [hn] at hl h2
  rw [←hl] at g2
  have HN:=Lib.hid hn
  have HL:=Lib.hid hl
  rw [hn,←hl]
  clear hn hl
  go_enter Try.func33,Try.ntmps33
  go_wp2_with fail
  go_loopw [17] (fun i wr=>∃k:Nat,k≤n∧i = .int .i64 k∧Below w.heap.size w wr∧Hid (cC R ts us=cC R (ts.drop k) (us.drop k))) (fun i _=>n-(intOf i).toNat)
  case atStart=>exact⟨0,by omega,rfl,Below.refl _ _,rfl⟩
  case round=>
   obtain⟨k,hk,rfl,hbw,hR⟩:=hrel
   by_cases hlt:k<n
   ·obtain⟨b,off,k0,a0,m0,q0,rfl,c0,c1,ht⟩:=H4.out k (by rw [HN.out];exact hlt)
    obtain⟨b',off',k0',a0',m0',q0',rfl,c0',c1',hu⟩:=G4.out k (by rw [←HL.out];exact hlt)
    have e0:=(hbw.cell (p:=⟨b,off+k*2,none⟩) (World.block_lt_of_cell? w _ c0)).trans c0
    have e1:=(hbw.cell (p:=⟨b,off+k*2+1,none⟩) (World.block_lt_of_cell? w _ c1)).trans c1
    have e0':=(hbw.cell (p:=⟨b',off'+k*2,none⟩) (World.block_lt_of_cell? w _ c0')).trans c0'
    have e1':=(hbw.cell (p:=⟨b',off'+k*2+1,none⟩) (World.block_lt_of_cell? w _ c1')).trans c1'
    clear c0 c1 c0' c1'
    have l0:=World.block_lt_of_cell? wr _ e0
    have l0':=World.block_lt_of_cell? wr _ e0'
    have hkt:k<ts.length:=by rw [HN.out];exact hlt
    have hku:k<us.length:=by rw [←HL.out];exact hlt
    have hcall:=HG.out ts[k] (List.getElem_mem hkt) us[k] (List.getElem_mem hku)
    have hstep:=hR.out.trans (fl R ts us k hkt hku)
    generalize R ts[k] us[k]=r at hcall hstep
    have HC:=Lib.hid hcall
    have HS:=Lib.hid hstep
    clear hcall hstep hR
    cases r
    all_goals
     go_wp2_with fail
     refine(HC.out _ _ _ (ht.below (ai hbw aI)) (hu.below (ai hbw aI))).mono ?_
     rintro e w1 ⟨rfl,hb1⟩
     go_wp2_with fail
    ·go_ret
     exact⟨au (by rw [HS.out];rfl),ai (ai hbw aI) hb1⟩
    ·go_roundw
     case rel=>exact⟨k+1,by omega,by go_num,ai (ai hbw aI) hb1,by rw [Hid,HS.out];rfl⟩
     case measure=>simp [intOf];omega
   ·go_wp2_with fail
    go_ret
    exact⟨au (by rw [hR.out,im _ _ _ _ (by rw [HN.out];omega) (by rw [←HL.out];omega)]),hbw⟩
 ·have HL:=Lib.hid hl
  go_enter Try.func33,Try.ntmps33
  go_wp2_with fail
  go_ret
  exact⟨au (nY R ts us HL.out).symm,Below.refl _ _⟩
end Go.Proofs.Ytnaoghknnenfoaa
namespace Go.Proofs.Ytnaoghknnenfoaa
open Go.RowKit
mutual
theorem Ty.same_refl : ∀t:Ty,t.same t=true
 | .mk k ts=>by unfold Ty.same;rw [Ty.sames_refl ts];simp
theorem Ty.sames_refl : ∀ts:List Ty,Ty.sames ts ts=true
 | []=>by unfold Ty.sames;rfl
 | t :: ts=>by unfold Ty.sames;rw [Ty.same_refl t,Ty.sames_refl ts];rfl
end
end Go.Proofs.Ytnaoghknnenfoaa
namespace Go.Proofs.Ytnaoghknnenfoaa
open Go.RowKit
end Go.Proofs.Ytnaoghknnenfoaa

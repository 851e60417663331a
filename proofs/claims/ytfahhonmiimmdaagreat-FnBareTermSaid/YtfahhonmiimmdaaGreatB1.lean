/- Worlds that differ in few blocks. And what else its parts name. -/
import Derived.Test.YtfahhonmiimmdaaGreatB0
import Derived.Test.YtfahhonmiimmdaaGreatRows
import Derived.Handy
import Derived.Deep.RegionHeld3
import Derived.Deep.AppendLies
import Derived.Deep.RegionLaw
set_option linter.unusedSimpArgs false
set_option linter.unusedVariables false
set_option maxRecDepth 100000
set_option maxHeartbeats 16000000
namespace Go.Proofs.YtfahhonmiimmdaaGreat
open Go.RowKit
structure Chg (fp:List Nat) (w w':World):Prop where
 os:w'.os=w.os
 tape:w'.tape=w.tape
 output:w'.output=w.output
 size:w.heap.size≤w'.heap.size
 block : ∀k,k<w.heap.size→k∉fp→w'.heap[k]?=w.heap[k]?
theorem Chg.of_below {fp:List Nat}{w w':World}(h:Below w.heap.size w w'):Chg fp w w':=⟨h.os,h.tape,h.output,h.size,fun k hk _=>h.block k hk⟩
theorem Chg.refl (fp:List Nat)(w:World):Chg fp w w:=.of_below (Below.refl _ _)
theorem Chg.trans {fp:List Nat}{w w1 w2:World}(h:Chg fp w w1)(k:Chg fp w1 w2):Chg fp w w2:=
 ⟨k.os.trans h.os,k.tape.trans h.tape,k.output.trans h.output,Nat.le_trans h.size k.size,fun b hb hn=>(k.block b (Nat.lt_of_lt_of_le hb h.size) hn).trans (h.block b hb hn)⟩
theorem Chg.mono {fp fp':List Nat}{w w':World}(h:Chg fp w w')(hs : ∀x∈fp,x∈fp'):Chg fp' w w':=
 ⟨h.os,h.tape,h.output,h.size,fun b hb hn=>h.block b hb (fun hx=>hn (hs b hx))⟩
theorem Chg.setCell {fp:List Nat}{w w':World}(h:Chg fp w w'){p:Addr}(hp:p.block∈fp)(v:Value):Chg fp w (w'.setCell p v):=
 ⟨h.os,h.tape,h.output,by simpa [World.setCell] using h.size,fun b hb hn=>(Below.heap_setCell w' p v b (fun e=>hn (e▸hp))).trans (h.block b hb hn)⟩
theorem Chg.below {fp:List Nat}{w w':World}{B:Nat}(h:Chg fp w w')(hB : ∀x∈fp,B≤x)(hs:B≤w.heap.size):Below B w w':=
 ⟨h.os,h.tape,h.output,h.size,fun k hk=>h.block k (by omega) (fun hx=>by have:=hB k hx;omega)⟩
theorem Chg.cell {fp:List Nat}{w w':World}{a:Addr}{v:Value}(h:Chg fp w w')(hn:a.block∉fp)(hc:w.cell? a=some v):w'.cell? a=some v:=
 (World.cell?_of_block (h.block a.block (World.block_lt_of_cell? _ _ hc) hn)).trans hc
theorem Chg.keeps {fp:List Nat}{w w':World}{F:Nat→Prop}(h:Chg fp w w')(hn : ∀b,F b→b∉fp):bx F F w w':=
 ⟨h.size,fun _ h _=>h,fun b hF hl=>h.block b hl (hn b hF)⟩
theorem ap.chg {fp:List Nat}{w w':World}{F:Nat→Prop}{t:Ty}{y:Value}(h:Chg fp w w')(hn : ∀b,F b→b∉fp)(r:ap F w t y):ap F w' t y:=r.move (h.keeps hn)
theorem Chg.cellne {r:Nat}{w w':World}{a:Addr}{v:Value}(h:Chg [r] w w')(hn:a.block≠r)(hc:w.cell? a=some v):w'.cell? a=some v:=h.cell (by simpa using hn) hc
theorem Chg.frone {r b o:Nat}{w w':World}(h:Chg [r] w w')(hn:b≠r)(hl:b<w.heap.size):w'.frozen? ⟨b,o,none⟩=w.frozen? ⟨b,o,none⟩:=World.frozen?_of_block (a:=⟨b,o,none⟩) (h.block b hl (by simpa using hn))
theorem aP {r b o:Nat}{w w1:World}{v:Value}(h:Chg [r] w w1)(hn:b≠r)(hc:w.cell? ⟨b,o,none⟩=some v):w1.cell? ⟨b,o,none⟩=some v:=h.cellne hn hc
theorem aU {r b o:Nat}{w w1:World}{v:Value}(h:Chg [r] w w1)(hn:b≠r)(hc:w.cell? ⟨b,o,none⟩=some v)(hf:w.frozen? ⟨b,o,none⟩=false):w1.frozen? ⟨b,o,none⟩=false:=
 (h.frone hn (World.block_lt_of_cell? _ _ hc)).trans hf
theorem bchg {B r:Nat}{w w1 w2:World}(h:Below B w w1)(k:Chg [r] w1 w2)(hr:B≤r)(hw:B≤w.heap.size):Below B w w2:=
 ⟨k.os.trans h.os,k.tape.trans h.tape,k.output.trans h.output,Nat.le_trans h.size k.size,fun b hb=>(k.block b (Nat.lt_of_lt_of_le (Nat.lt_of_lt_of_le hb hw) h.size) (by simp;omega)).trans (h.block b hb)⟩
theorem Chg.trans' {r:Nat}{w w':World}(h:Chg [r] w w'){p:Addr}(hp:w.heap.size≤p.block)(v:Value):Chg [r] w (w'.setCell p v):=
 ⟨h.os,h.tape,h.output,by simpa [World.setCell] using h.size,fun b hb hn=>(Below.heap_setCell w' p v b (by omega)).trans (h.block b hb hn)⟩
theorem ap.chgA {r:Nat}{w w':World}{t:Ty}{y:Value}(h:ap (· ≠ r) w t y)(k:Chg [r] w w'):ap (· ≠ r) w' t y:=ap.chg k (fun b hb=>by simpa using hb) h
theorem aE.chgA {r:Nat}{w w':World}{t:List Ty}{y:Value}(h:aE (· ≠ r) w t y)(k:Chg [r] w w'):aE (· ≠ r) w' t y:=h.move (k.keeps (fun b hb=>by simpa using hb))
mutual
def aJ (w:World):C→Value→List Nat→Prop
 | .int n,y,fp=>y = .int .i64 n∧fp = []
 | .str s,y,fp=>y = .string s∧s.size≤maxLen∧fp = []
 | .sl rows,y,fp=>∃(a:Option Addr) (cap:Nat),y = .slice a rows.length cap∧rows.length≤cap∧cap≤maxLen ∧
   ((rows = []∧fp = [])∨∃b fps cs T,a=some ⟨b,0,none⟩∧fp=b :: fps∧w.heap[b]?=some (.cells cs T (0,0))∧aK w b 0 rows fps)
def aK (w:World)(b:Nat):Nat→List (List C)→List Nat→Prop
 | _,[],fp=>fp = []
 | off,r :: rs,fp=>∃f1 f2,fp=f1++f2∧aV w b off r f1∧aK w b (off+r.length) rs f2
def aV (w:World)(b:Nat):Nat→List C→List Nat→Prop
 | _,[],fp=>fp = []
 | off,c :: cs,fp=>∃y f1 f2,fp=f1++f2∧w.cell? ⟨b,off,none⟩=some y∧aJ w c y f1∧aV w b (off+1) cs f2
end
mutual
theorem aJ.move {w w':World} : ∀(c:C) (y:Value) (fp:List Nat),(∀b∈fp,w'.heap[b]?=w.heap[b]?)→aJ w c y fp→aJ w' c y fp
 | .int n,y,fp,_,h=>by unfold aJ at h ⊢;exact h
 | .str s,y,fp,_,h=>by unfold aJ at h ⊢;exact h
 | .sl rows,y,fp,k,h=>by
  unfold aJ at h ⊢;obtain⟨a,cap,h1,h2,h3,h4⟩:=h;refine⟨a,cap,h1,h2,h3,?_⟩
  rcases h4 with h4 | ⟨b,fps,cs,T,ha,rfl,hb,hr⟩
  ·exact .inl h4
  ·refine .inr ⟨b,fps,cs,T,ha,rfl,(k b (List.mem_cons_self ..)).trans hb,aK.move 0 rows fps (fun x hx=>k x (List.mem_cons_of_mem _ hx)) (fun o=>?_) hr⟩
   intro _ _
   exact World.cell?_of_block (a:=⟨b,o,none⟩) (k b (List.mem_cons_self ..))
theorem aK.move {w w':World}{b:Nat} : ∀(off:Nat) (rows:List (List C)) (fp:List Nat),(∀x∈fp,w'.heap[x]?=w.heap[x]?) →
  (∀o,off≤o→o<off+rows.flatten.length→w'.cell? ⟨b,o,none⟩=w.cell? ⟨b,o,none⟩)→aK w b off rows fp→aK w' b off rows fp
 | _,[],_,_,_,h=>by unfold aK at h ⊢;exact h
 | off,r :: rs,fp,k,kc,h=>by
  unfold aK at h ⊢;obtain⟨f1,f2,rfl,h1,h2⟩:=h;simp only[List.flatten_cons,List.length_append] at kc
  exact⟨f1,f2,rfl,aV.move off r f1 (fun x hx=>k x (List.mem_append_left _ hx)) (fun o a c=>kc o a (by omega)) h1,
    aK.move _ rs f2 (fun x hx=>k x (List.mem_append_right _ hx)) (fun o a c=>kc o (by omega) (by omega)) h2⟩
theorem aV.move {w w':World}{b:Nat} : ∀(off:Nat) (r:List C) (fp:List Nat),(∀x∈fp,w'.heap[x]?=w.heap[x]?) →
  (∀o,off≤o→o<off+r.length→w'.cell? ⟨b,o,none⟩=w.cell? ⟨b,o,none⟩)→aV w b off r fp→aV w' b off r fp
 | _,[],_,_,_,h=>by unfold aV at h ⊢;exact h
 | off,c :: cs,fp,k,kc,h=>by
  unfold aV at h ⊢;obtain⟨y,f1,f2,rfl,hy,h1,h2⟩:=h;simp only[List.length_cons] at kc
  exact⟨y,f1,f2,rfl,(kc off (by omega) (by omega)).trans hy,aJ.move c y f1 (fun x hx=>k x (List.mem_append_left _ hx)) h1,
    aV.move _ cs f2 (fun x hx=>k x (List.mem_append_right _ hx)) (fun o a c=>kc o (by omega) (by omega)) h2⟩
end
mutual
theorem aJ.lt {w:World} : ∀(c:C) (y:Value) (fp:List Nat),aJ w c y fp→∀b∈fp,b<w.heap.size
 | .int n,y,fp,h=>by unfold aJ at h;obtain⟨_,rfl⟩:=h;simp
 | .str s,y,fp,h=>by unfold aJ at h;obtain⟨_,_,rfl⟩:=h;simp
 | .sl rows,y,fp,h=>by
  unfold aJ at h;obtain⟨a,cap,_,_,_,⟨_,rfl⟩ | ⟨b,fps,cs,T,_,rfl,hb,hr⟩⟩:=h
  ·simp
  ·intro x hx
   rcases List.mem_cons.1 hx with rfl | hx
   ·exact(Array.getElem?_eq_some_iff.1 hb).1
   ·exact aK.lt 0 rows fps hr x hx
theorem aK.lt {w:World}{b:Nat} : ∀(off:Nat) (rows:List (List C)) (fp:List Nat),aK w b off rows fp→∀x∈fp,x<w.heap.size
 | _,[],_,h=>by unfold aK at h;subst h;simp
 | off,r :: rs,fp,h=>by
  unfold aK at h;obtain⟨f1,f2,rfl,h1,h2⟩:=h;intro x hx
  rcases List.mem_append.1 hx with hx | hx
  ·exact aV.lt off r f1 h1 x hx
  ·exact aK.lt _ rs f2 h2 x hx
theorem aV.lt {w:World}{b:Nat} : ∀(off:Nat) (r:List C) (fp:List Nat),aV w b off r fp→∀x∈fp,x<w.heap.size
 | _,[],_,h=>by unfold aV at h;subst h;simp
 | off,c :: cs,fp,h=>by
  unfold aV at h;obtain⟨y,f1,f2,rfl,hy,h1,h2⟩:=h;intro x hx
  rcases List.mem_append.1 hx with hx | hx
  ·exact aJ.lt c y f1 h1 x hx
  ·exact aV.lt _ cs f2 h2 x hx
end
mutual
theorem aJ.rep {w:World}{F:Nat→Prop} : ∀(c:C) (y:Value) (fp:List Nat),(∀b∈fp,F b)→aJ w c y fp→aM F w c y
 | .int n,y,fp,_,h=>by unfold aJ at h;unfold aM;exact h.1
 | .str s,y,fp,_,h=>by unfold aJ at h;unfold aM;exact⟨h.1,h.2.1⟩
 | .sl rows,y,fp,k,h=>by
  unfold aJ at h;unfold aM;obtain⟨a,cap,h1,h2,h3,h4⟩:=h;refine⟨a,cap,h1,h2,h3,?_⟩
  rcases h4 with ⟨h4,_⟩ | ⟨b,fps,cs,T,ha,rfl,hb,hr⟩
  ·exact .inl h4
  ·exact .inr ⟨b,0,ha,k b (List.mem_cons_self ..),(Array.getElem?_eq_some_iff.1 hb).1,aK.rep 0 rows fps (fun x hx=>k x (List.mem_cons_of_mem _ hx)) hr⟩
theorem aK.rep {w:World}{F:Nat→Prop}{b:Nat} : ∀(off:Nat) (rows:List (List C)) (fp:List Nat),(∀x∈fp,F x)→aK w b off rows fp→bg F w b off rows
 | _,[],_,_,_=>by unfold bg;trivial
 | off,r :: rs,fp,k,h=>by
  unfold aK at h;unfold bg;obtain⟨f1,f2,rfl,h1,h2⟩:=h
  exact⟨aV.rep off r f1 (fun x hx=>k x (List.mem_append_left _ hx)) h1,aK.rep _ rs f2 (fun x hx=>k x (List.mem_append_right _ hx)) h2⟩
theorem aV.rep {w:World}{F:Nat→Prop}{b:Nat} : ∀(off:Nat) (r:List C) (fp:List Nat),(∀x∈fp,F x)→aV w b off r fp→aR F w b off r
 | _,[],_,_,_=>by unfold aR;trivial
 | off,c :: cs,fp,k,h=>by
  unfold aV at h;unfold aR;obtain⟨y,f1,f2,rfl,hy,h1,h2⟩:=h
  exact⟨⟨y,hy,aJ.rep c y f1 (fun x hx=>k x (List.mem_append_left _ hx)) h1⟩,aV.rep _ cs f2 (fun x hx=>k x (List.mem_append_right _ hx)) h2⟩
end
theorem aK.snoc {w:World}{b:Nat} : ∀ {off:Nat} {rows:List (List C)} {fp f:List Nat} {r:List C},aK w b off rows fp→aV w b (off+rows.flatten.length) r f→aK w b off (rows ++ [r]) (fp++f)
 | off,[],fp,f,r,h,hr=>by
  unfold aK at h;subst h;simp only[List.nil_append];unfold aK
  exact⟨f,[],by simp,by simpa using hr,by unfold aK;rfl⟩
 | off,r' :: rs,fp,f,r,h,hr=>by
  unfold aK at h;obtain⟨f1,f2,rfl,h1,h2⟩:=h;have:=aK.snoc (f:=f) (r:=r) h2 (by rw[List.flatten_cons,List.length_append] at hr;rw[Nat.add_assoc];exact hr);simp only[List.cons_append];unfold aK
  exact⟨f1,f2++f,by simp,h1,this⟩
theorem aJ.sl_mk {w:World}{b n cap:Nat}{rows:List (List C)}{fps:List Nat}{cs:Array Value}{T:TypeId}(hb:w.heap[b]?=some (.cells cs T (0,0)))(hn:rows.length=n)(hc:n≤cap)(hm:cap≤maxLen)
  (h:aK w b 0 rows fps) : ∃fp,aJ w (.sl rows) (.slice (some ⟨b,0,none⟩) n cap) fp∧(∀x∈fp,x=b∨x∈fps)∧(fps.Nodup→b∉fps→fp.Nodup):=by
 subst hn;refine⟨b :: fps,?_,fun x hx=>List.mem_cons.1 hx,fun h1 h2=>List.nodup_cons.2 ⟨h2,h1⟩⟩;unfold aJ
 exact⟨_,cap,rfl,hc,hm,.inr ⟨b,fps,cs,T,rfl,rfl,hb,h⟩⟩
theorem aJ.sl_nil {w:World}{a:Option Addr}{cap:Nat}(hm:cap≤maxLen):aJ w (.sl []) (.slice a 0 cap) []:=by
 unfold aJ
 exact⟨a,cap,rfl,Nat.zero_le _,hm,.inl ⟨rfl,rfl⟩⟩
def kU (w:World)(b:Nat):Nat→List Value→World
 | _,[]=>w
 | off,v :: vs=>kU (w.setCell ⟨b,off,none⟩ v) b (off+1) vs
theorem dR : ∀(vs:List Value) (w:World) (b off k:Nat),k≠b→(kU w b off vs).heap[k]?=w.heap[k]?
 | [],_,_,_,_,_=>rfl
 | v :: vs,w,b,off,k,h=>(dR vs _ b _ k h).trans (Below.heap_setCell w ⟨b,off,none⟩ v k h)
theorem cy {w:World}{b off:Nat}{v:Value}{cs:Array Value}{T:TypeId}{fr:Nat × Nat}(h:w.heap[b]?=some (.cells cs T fr)) :
  (w.setCell ⟨b,off,none⟩ v).heap[b]?=some (.cells (cs.setIfInBounds off v) T fr):=by
 simp[World.setCell,Array.getElem?_modify,h]
theorem iR : ∀(vs:List Value) (w:World) (b off:Nat) (cs:Array Value) (T:TypeId) (fr:Nat × Nat),w.heap[b]?=some (.cells cs T fr) →
  ∃cs',(kU w b off vs).heap[b]?=some (.cells cs' T fr)∧cs'.size=cs.size∧(∀o,o<off∨off+vs.length≤o→cs'[o]?=cs[o]?)∧(∀i,i<vs.length→off+i<cs.size→cs'[off+i]?=vs[i]?)
 | [],w,b,off,cs,T,fr,h=>⟨cs,h,rfl,fun _ _=>rfl,fun _ hi=>absurd hi (Nat.not_lt_zero _)⟩
 | v :: vs,w,b,off,cs,T,fr,h=>by
  obtain⟨cs',h1,h2,h3,h4⟩:=iR vs (w.setCell ⟨b,off,none⟩ v) b (off+1) _ T fr (cy h);rw[Array.size_setIfInBounds] at h2 h4;refine⟨cs',h1,h2,fun o ho=>?_,fun i hi hl=>?_⟩
  ·rw[h3 o (by rcases ho with ho | ho;exact .inl (by omega);exact .inr (by simp only[List.length_cons] at ho;omega))]
   rw[Array.getElem?_setIfInBounds_ne (by rcases ho with ho | ho;omega;simp only[List.length_cons] at ho;omega)]
  ·cases i with
   | zero=>
    rw[h3 _ (.inl (by omega))];simp only[Nat.add_zero,List.getElem?_cons_zero];rw[Array.getElem?_setIfInBounds_self]
    simp at hl
    simp[hl]
   | succ i=>
    have:=h4 i (by simpa using hi) (by omega);rw[show off+(i+1)=off+1+i from by omega,this]
    simp
def bl (w:World):List C→List Value→List Nat→Prop
 | [],ys,fp=>ys = []∧fp = []
 | c :: cs,ys,fp=>∃z zs f1 f2,ys=z :: zs∧fp=f1++f2∧aJ w c z f1∧bl w cs zs f2
theorem bl.len {w:World} : ∀(r:List C) (ys:List Value) (fp:List Nat),bl w r ys fp→ys.length=r.length
 | [],_,_,⟨h,_⟩=>by rw[h];rfl
 | c :: cs,_,_,⟨z,zs,f1,f2,h,_,_,h2⟩=>by rw[h,List.length_cons,List.length_cons,bl.len cs zs f2 h2]
theorem bl.lt {w:World} : ∀(r:List C) (ys:List Value) (fp:List Nat),bl w r ys fp→∀b∈fp,b<w.heap.size
 | [],_,_,⟨_,h⟩=>by subst h;simp
 | c :: cs,_,_,⟨z,zs,f1,f2,_,h,h1,h2⟩=>by
  subst h;intro b hb
  rcases List.mem_append.1 hb with hb | hb
  ·exact aJ.lt _ _ _ h1 b hb
  ·exact bl.lt cs zs f2 h2 b hb
theorem bl.move {w w':World} : ∀(r:List C) (ys:List Value) (fp:List Nat),(∀b∈fp,w'.heap[b]?=w.heap[b]?)→bl w r ys fp→bl w' r ys fp
 | [],_,_,_,h=>h
 | c :: cs,_,_,k,⟨z,zs,f1,f2,e,h,h1,h2⟩=>by
  subst h
  exact⟨z,zs,f1,f2,e,rfl,aJ.move _ _ _ (fun b hb=>k b (List.mem_append_left _ hb)) h1,bl.move cs zs f2 (fun b hb=>k b (List.mem_append_right _ hb)) h2⟩
theorem bl.cells {w:World}{b:Nat} : ∀(r:List C) (ys:List Value) (fp:List Nat) (off:Nat),bl w r ys fp→(∀i,i<ys.length→w.cell? ⟨b,off+i,none⟩=ys[i]?)→aV w b off r fp
 | [],_,_,_,⟨_,h⟩,_=>by subst h;unfold aV;rfl
 | c :: cs,_,_,off,⟨z,zs,f1,f2,e,h,h1,h2⟩,k=>by
  subst h e;unfold aV;refine⟨z,f1,f2,rfl,by simpa using k 0 (by simp),h1,bl.cells cs zs f2 _ h2 fun i hi=>?_⟩;have:=k (i+1) (by simpa using hi);rw[show off+1+i=off+(i+1) from by omega]
  simpa using this
def cw (B g N:Nat)(T:TypeId)(w:World)(rows:List (List C)):Prop:=
 ∃fps cs,w.heap[g]?=some (.cells cs T (0,0))∧cs.size=N∧aK w g 0 rows fps∧fps.Nodup∧g∉fps∧B≤g∧∀x∈fps,B≤x
theorem cw.lt {B g N:Nat}{T:TypeId}{w:World}{rows:List (List C)}(h:cw B g N T w rows):g<w.heap.size:=by
 obtain⟨fps,cs,hg,_⟩:=h
 exact(Array.getElem?_eq_some_iff.1 hg).1
theorem cw.below {B g N:Nat}{T:TypeId}{w w':World}{rows:List (List C)}(h:cw B g N T w rows)(k:Below w.heap.size w w'):cw B g N T w' rows:=by
 obtain⟨fps,cs,hg,hN,hr,hd,hn,hB,hx⟩:=h
 exact⟨fps,cs,(k.block g (Array.getElem?_eq_some_iff.1 hg).1).trans hg,hN,
   hr.move _ _ _ (fun x hx=>k.block x (hr.lt _ _ _ x hx)) (fun o _ _=>World.cell?_of_block (a:=⟨g,o,none⟩) (k.block g (Array.getElem?_eq_some_iff.1 hg).1)),hd,hn,hB,hx⟩
theorem cw.made {N:Nat}{T:TypeId}{w:World}{cs:Array Value}(h:cs.size=N):cw w.heap.size w.heap.size N T (w.alloc (.cells cs T)) []:=
 ⟨[],cs,heap_alloc_new w _,h,by unfold aK;rfl,List.nodup_nil,by simp,Nat.le_refl _,by simp⟩
theorem cw.cell {B g N:Nat}{T:TypeId}{w:World}{rows:List (List C)}(h:cw B g N T w rows)(o:Nat)(ho:o<N):(∃v,w.cell? ⟨g,o,none⟩=some v)∧w.frozen? ⟨g,o,none⟩=false:=by
 obtain⟨fps,cs,hg,hN,_⟩:=h;refine⟨⟨cs[o]'(by omega),by simp[World.cell?,hg,hN,ho]⟩,by simp[World.frozen?,hg]⟩
theorem cw.store {B g N o:Nat}{T:TypeId}{w w1:World}{rows:List (List C)}{r:List C}{vs:List Value}{fpv:List Nat}(h:cw B g N T w rows)(hb:Below w.heap.size w w1)
  (hv:bl w1 r vs fpv) (hd:fpv.Nodup) (hx : ∀x∈fpv,w.heap.size≤x) (hBw:B≤w.heap.size) (ho:rows.flatten.length=o) (room:o+r.length≤N):cw B g N T (kU w1 g o vs) (rows ++ [r]):=by
 have hlt:=h.lt;obtain⟨fps,cs,hg0,hN,hr0,hd1,hn,hB,hx1⟩:=h;have hg:=(hb.block g hlt).trans hg0;have hr:=hr0.move _ _ _ (fun x hx=>hb.block x (aK.lt _ _ _ hr0 x hx)) (fun o _ _=>World.cell?_of_block (a:=⟨g,o,none⟩) (hb.block g hlt));have hfl : ∀x∈fps,x<w.heap.size:=fun x hx=>aK.lt _ _ _ hr0 x hx;obtain⟨cs',h1,h2,h3,h4⟩:=iR vs w1 g o cs T (0,0) hg;have hlen:=bl.len _ _ _ hv;have hgn : ∀x∈fpv,x≠g:=fun x hx' e=>by have:=hx x hx';omega
 refine⟨fps++fpv,cs',h1,by omega,?_,?_,?_,hB,?_⟩
 ·refine aK.snoc (hr.move _ _ _ (fun x hx'=>dR vs w1 g o x (fun e=>hn (e▸hx'))) (fun o' _ ho'=>?_)) ?_
  ·rw[ho] at ho'
   simp only[World.cell?,h1,hg]
   simp
   exact h3 o' (.inl (by omega))
  ·rw[ho]
   refine bl.cells _ _ _ _ (hv.move _ _ _ fun x hx'=>dR vs w1 g o x (hgn x hx')) fun i hi=>?_;simp only[World.cell?,h1]
   simp
   exact h4 i hi (by omega)
 ·exact List.nodup_append.2 ⟨hd1,hd,fun x hx1 y hy e=>by have:=hfl x hx1;have:=hx y hy;omega⟩
 ·intro hm
  rcases List.mem_append.1 hm with hm | hm
  ·exact hn hm
  ·exact hgn g hm rfl
 ·intro x hm
  rcases List.mem_append.1 hm with hm | hm
  ·exact hx1 x hm
  ·exact Nat.le_trans hBw (hx x hm)
theorem cw.slice {B g N n cap:Nat}{T:TypeId}{w:World}{rows:List (List C)}(h:cw B g N T w rows)(hn:rows.length=n)(hc:n≤cap)(hm:cap≤maxLen) :
  ∃fp,aJ w (.sl rows) (.slice (some ⟨g,0,none⟩) n cap) fp∧fp.Nodup∧∀b∈fp,B≤b:=by
 obtain⟨fps,cs,hg,hN,hr,hd,hnn,hB,hx⟩:=h;obtain⟨fp,h1,h2,h3⟩:=aJ.sl_mk hg hn hc hm hr
 exact⟨fp,h1,h3 hd hnn,fun b hb=>by rcases h2 b hb with rfl | h;exact hB;exact hx b h⟩
def cf (w:World)(t:Ty)(y:Value)(fp:List Nat):Prop:=∃s,y = .agg #[.int .i64 t.kind,s]∧aJ w (.sl (Ty.rows t.kids)) s fp
def cp (w:World)(ts:List Ty)(y:Value)(fp:List Nat):Prop:=aJ w (.sl (Ty.rows ts)) y fp
def bo (B:Nat)(w:World)(t:Ty)(y:Value):Prop:=∃fp,cf w t y fp∧fp.Nodup∧∀b∈fp,B≤b
def bj (B:Nat)(w:World)(ts:List Ty)(y:Value):Prop:=∃fp,cp w ts y fp∧fp.Nodup∧∀b∈fp,B≤b
theorem cf.shape {w:World}{t:Ty}{y:Value}{fp:List Nat}(h:cf w t y fp) : ∃k a n q,y = .agg #[.int .i64 k,.slice a n q]∧k=t.kind∧cp w t.kids (.slice a n q) fp:=by
 obtain⟨s,rfl,h⟩:=h;have h':=h;unfold aJ at h';obtain⟨a,q,rfl,_⟩:=h'
 exact⟨_,a,_,q,rfl,rfl,h⟩
theorem cf.below {w w':World}{t:Ty}{y:Value}{fp:List Nat}(h:cf w t y fp)(k:Below w.heap.size w w'):cf w' t y fp:=
 let ⟨s,h1,h2⟩:=h;⟨s,h1,h2.move _ _ _ fun b hb=>k.block b (h2.lt _ _ _ b hb)⟩
theorem cf.rep {w:World}{t:Ty}{y:Value}{fp:List Nat}(h:cf w t y fp):ap (· ∈ fp) w t y:=
 let ⟨s,h1,h2⟩:=h;⟨s,h1,h2.rep _ _ _ fun _ hb=>hb⟩
theorem bo.below {B:Nat}{w w':World}{t:Ty}{y:Value}(h:bo B w t y)(k:Below w.heap.size w w'):bo B w' t y:=
 let ⟨fp,h1,h2,h3⟩:=h;⟨fp,h1.below k,h2,h3⟩
theorem bo.rep {B:Nat}{w:World}{t:Ty}{y:Value}(h:bo B w t y):ap (B ≤ ·) w t y:=
 let ⟨fp,h1,_,h3⟩:=h;h1.rep.move (.weaken fun b hb _=>h3 b hb)
theorem bj.rep {B:Nat}{w:World}{ts:List Ty}{y:Value}(h:bj B w ts y):aE (B ≤ ·) w ts y:=
 let ⟨_,h1,_,h3⟩:=h;aJ.rep _ _ _ (fun b hb=>h3 b hb) h1
theorem bj.below {B:Nat}{w w':World}{ts:List Ty}{y:Value}(h:bj B w ts y)(k:Below w.heap.size w w'):bj B w' ts y:=
 let ⟨fp,h1,h2,h3⟩:=h;⟨fp,aJ.move _ _ _ (fun b hb=>k.block b (aJ.lt _ _ _ h1 b hb)) h1,h2,h3⟩
theorem bo.shape {B:Nat}{w:World}{t:Ty}{y:Value}(h:bo B w t y) : ∃k a n q,y = .agg #[.int .i64 k,.slice a n q]:=by
 obtain⟨fp,⟨s,rfl,h⟩,_⟩:=h;unfold aJ at h;obtain⟨a,q,rfl,_⟩:=h
 exact⟨_,a,_,q,rfl⟩
theorem bj.setCell {B:Nat}{w:World}{ts:List Ty}{y:Value}(h:bj B w ts y){p:Addr}(hp:p.block<B)(v:Value):bj B (w.setCell p v) ts y:=by
 obtain⟨fp,h1,h2,h3⟩:=h
 exact⟨fp,aJ.move _ _ _ (fun b hb=>Below.heap_setCell w p v b (by have:=h3 b hb;omega)) h1,h2,h3⟩
theorem bj.ty {B:Nat}{w:World}{k:Int}{ts:List Ty}{y:Value}(h:bj B w ts y):bo B w (.mk k ts) (.agg #[.int .i64 k,y]):=by
 obtain⟨fp,h1,h2,h3⟩:=h
 exact⟨fp,⟨y,rfl,h1⟩,h2,h3⟩
theorem bo.setCell {B:Nat}{w:World}{t:Ty}{y:Value}(h:bo B w t y){p:Addr}(hp:p.block<B)(v:Value):bo B (w.setCell p v) t y:=by
 obtain⟨fp,⟨s,hs,h1⟩,h2,h3⟩:=h
 exact⟨fp,⟨s,hs,aJ.move _ _ _ (fun b hb=>Below.heap_setCell w p v b (by have:=h3 b hb;omega)) h1⟩,h2,h3⟩
theorem bo.mono {B B':Nat}{w:World}{t:Ty}{y:Value}(h:bo B w t y)(hB:B'≤B):bo B' w t y:=
 let ⟨fp,h1,h2,h3⟩:=h;⟨fp,h1,h2,fun b hb=>Nat.le_trans hB (h3 b hb)⟩
theorem bj.mono {B B':Nat}{w:World}{t:List Ty}{y:Value}(h:bj B w t y)(hB:B'≤B):bj B' w t y:=
 let ⟨fp,h1,h2,h3⟩:=h;⟨fp,h1,h2,fun b hb=>Nat.le_trans hB (h3 b hb)⟩
theorem Ty.flatten_length (ts:List Ty):(Ty.rows ts).flatten.length=ts.length*2:=by
 induction ts with
 | nil=>unfold Ty.rows;rfl
 | cons t ts ih=>unfold Ty.rows;rw[List.flatten_cons,List.length_append,ih,t.row_length,List.length_cons];omega
theorem cf.cells {w:World}{t:Ty}{s:Value}{fp:List Nat}{k:Int}(h:cf w t (.agg #[.int .i64 k,s]) fp):bl w t.row [.int .i64 k,s] fp:=by
 obtain⟨s',he,h⟩:=h
 cases t with | mk k' ts=>
 simp only[Value.agg.injEq,Array.mk.injEq,List.cons.injEq,Value.int.injEq,true_and,and_true] at he;obtain⟨rfl,rfl⟩:=he;unfold Ty.row
 exact⟨_,_,[],fp,rfl,rfl,by unfold aJ;exact⟨rfl,rfl⟩,_,_,fp,[],rfl,by simp,h,rfl,rfl⟩
theorem bo.open {B:Nat}{w:World}{t:Ty}{y:Value}(h:bo B w t y) : ∃k c m q fp,y = .agg #[.int .i64 k,.slice c m q]∧k=t.kind∧m=t.kids.length∧bl w t.row [.int .i64 k,.slice c m q] fp∧fp.Nodup∧∀b∈fp,B≤b:=by
 obtain⟨fp,h1,h2,h3⟩:=h;obtain⟨s,rfl,h⟩:=h1;have h':=h;unfold aJ at h';obtain⟨a,cap,rfl,_⟩:=h'
 exact⟨_,a,_,cap,fp,rfl,rfl,Ty.rows_length _,cf.cells ⟨_,rfl,h⟩,h2,h3⟩
mutual
def Ty.same:Ty→Ty→Bool
 | .mk k ts,.mk l us=>k==l&&Ty.sames ts us
def Ty.sames:List Ty→List Ty→Bool
 | [],[]=>true
 | t :: ts,u :: us=>t.same u&&Ty.sames ts us
 | _,_=>false
end
def dx (R:Ty→Ty→Bool):List Ty→List Ty→Bool
 | [],[]=>true
 | t :: ts,u :: us=>R t u&&dx R ts us
 | _,_=>false
theorem ic (R:Ty→Ty→Bool)(ts us:List Ty)(k:Nat)(h:k<ts.length)(h':k<us.length):dx R (ts.drop k) (us.drop k)=(R ts[k] us[k]&&dx R (ts.drop (k+1)) (us.drop (k+1))):=by
 rw[List.drop_eq_getElem_cons h,List.drop_eq_getElem_cons h'];rfl
theorem jV (R:Ty→Ty→Bool) : ∀(ts us:List Ty),ts.length≠us.length→dx R ts us=false
 | [],[],h=>absurd rfl h
 | [],_ :: _,_=>rfl
 | _ :: _,[],_=>rfl
 | t :: ts,u :: us,h=>by
  have:=jV R ts us (fun e=>h (by simp[e]))
  simp[dx,this]
theorem jU (R:Ty→Ty→Bool)(ts us:List Ty)(k:Nat)(h:ts.length≤k)(h':us.length≤k):dx R (ts.drop k) (us.drop k)=true:=by
 rw[List.drop_eq_nil_of_le h,List.drop_eq_nil_of_le h'];rfl
theorem Ty.sames_all2 : ∀ts us:List Ty,dx Ty.same ts us=Ty.sames ts us
 | [],[]=>by unfold Ty.sames;rfl
 | [],_ :: _=>by unfold Ty.sames;rfl
 | _ :: _,[]=>by unfold Ty.sames;rfl
 | t :: ts,u :: us=>by unfold Ty.sames dx;rw[Ty.sames_all2 ts us]
def eg (t:Ty)(w:World)(e:Ending)(w':World):Prop:=∃v,e = .returned v∧bo w.heap.size w' t v∧Below w.heap.size w w'
theorem Tryz.infoTy:(Tryz.prog.info? 25).map (fun i=>(i.zero,i.size,i.bytes))=some (some (.agg #[.int .i64 0,.slice none 0 0]),2,32):=by kernel_rfl
theorem aX {w:World}{p a:Addr}{v u:Value}(h:w.cell? a=some u)(hne:p≠a):(w.setCell p v).cell? a=some u:=(World.cell?_setCell_other w p a v hne).trans h
theorem bv {w:World}{b o:Nat}{v u:Value}(h:w.cell? ⟨b,o,none⟩=some u):(w.setCell ⟨b,o,none⟩ v).cell? ⟨b,o,none⟩=some v:=by
 simp only[World.cell?] at h
 split at h
 ·rename_i cs T fr hb
  simp at h
  have hlt:=(Array.getElem?_eq_some_iff.1 h).1;simp only[World.cell?,cy hb]
  simp
  rw[Array.getElem?_setIfInBounds_self]
  simp[hlt]
 ·cases h
theorem cr (w:World)(p:Addr)(v:Value)(a:Addr):(w.setCell p v).frozen? a=w.frozen? a:=by simp
def bm (w:World):List (List C)→List Value→List Nat→Prop
 | [],xs,fps=>xs = []∧fps = []
 | r :: rs,xs,fps=>∃ys xs' f1 f2,xs=ys++xs'∧fps=f1++f2∧bl w r ys f1∧bm w rs xs' f2
theorem bm.move {w w':World} : ∀(rs:List (List C)) (xs:List Value) (fps:List Nat),(∀b∈fps,w'.heap[b]?=w.heap[b]?)→bm w rs xs fps→bm w' rs xs fps
 | [],_,_,_,h=>h
 | r :: rs,_,_,k,⟨ys,xs',f1,f2,e,h,h1,h2⟩=>by
  subst h
  exact⟨ys,xs',f1,f2,e,rfl,h1.move _ _ _ (fun b hb=>k b (List.mem_append_left _ hb)),bm.move rs xs' f2 (fun b hb=>k b (List.mem_append_right _ hb)) h2⟩
theorem bm.lt {w:World} : ∀(rs:List (List C)) (xs:List Value) (fps:List Nat),bm w rs xs fps→∀b∈fps,b<w.heap.size
 | [],_,_,⟨_,h⟩=>by subst h;simp
 | r :: rs,_,_,⟨ys,xs',f1,f2,_,h,h1,h2⟩=>by
  subst h;intro b hb
  rcases List.mem_append.1 hb with hb | hb
  ·exact bl.lt _ _ _ h1 b hb
  ·exact bm.lt rs xs' f2 h2 b hb
theorem bm.snoc {w:World} : ∀ {rs:List (List C)} {xs:List Value} {fps:List Nat} {r:List C} {ys:List Value} {f:List Nat},bm w rs xs fps→bl w r ys f→bm w (rs ++ [r]) (xs++ys) (fps++f)
 | [],_,_,r,ys,f,⟨hx,hf⟩,h=>by
  subst hx hf
  exact⟨ys,[],f,[],by simp,by simp,h,rfl,rfl⟩
 | r' :: rs,_,_,r,ys,f,⟨ys',xs',f1,f2,e,e2,h1,h2⟩,h=>by
  subst e e2
  exact⟨ys',xs'++ys,f1,f2++f,by simp,by simp,h1,bm.snoc h2 h⟩
theorem bm.rows {w:World}{b:Nat} : ∀(rs:List (List C)) (xs:List Value) (fps:List Nat) (off:Nat),bm w rs xs fps→(∀i,i<xs.length→w.cell? ⟨b,off+i,none⟩=xs[i]?)→aK w b off rs fps
 | [],_,_,_,⟨_,h⟩,_=>by subst h;unfold aK;rfl
 | r :: rs,_,_,off,⟨ys,xs',f1,f2,e,h,h1,h2⟩,k=>by
  subst e h;have hl:=bl.len _ _ _ h1;unfold aK;refine⟨f1,f2,rfl,bl.cells r ys f1 off h1 (fun i hi=>?_),bm.rows rs xs' f2 _ h2 fun i hi=>?_⟩
  ·rw[k i (by rw[List.length_append];omega),List.getElem?_append_left hi]
  ·rw[←hl,Nat.add_assoc,k (ys.length+i) (by rw[List.length_append];omega),List.getElem?_append_right (by omega)]
   congr 1
   omega
def aQ (B:Nat)(e:TypeId)(size:Nat)(w:World)(v:Value)(n:Nat)(rows:List (List C)):Prop:=
 ∃xs fps,w.ownsRow B e size v n xs∧rows.length=n∧bm w rows xs fps∧fps.Nodup∧∀x∈fps,B≤x∧v.ownBlock≠some x
theorem aQ.nil (B:Nat)(e:TypeId)(size:Nat)(w:World):aQ B e size w (.slice none 0 0) 0 []:=
 ⟨[],[],World.ownsRow_nil w B e size,rfl,⟨rfl,rfl⟩,List.nodup_nil,by simp⟩
theorem aQ.grown {B:Nat}{e:TypeId}{size n:Nat}{w w':World}{v:Value}{rows:List (List C)}(h:aQ B e size w v n rows)(hb:Below w.heap.size w w'):aQ B e size w' v n rows:=by
 obtain⟨xs,fps,h1,h2,h3,h4,h5⟩:=h;refine⟨xs,fps,h1.kept (row:=none) ⟨hb.os,hb.tape,hb.output,hb.size,fun k hk _=>hb.block k hk⟩ ?_,h2,h3.move _ _ _ (fun b hx=>hb.block b (h3.lt _ _ _ b hx)),h4,h5⟩
 cases v.ownBlock with
 | none=>exact .inl rfl
 | some g=>exact .inr (by simp)
theorem aQ.setCell {B:Nat}{e:TypeId}{size n:Nat}{w:World}{v:Value}{rows:List (List C)}(h:aQ B e size w v n rows){p:Addr}(hp:p.block<B)(u:Value):aQ B e size (w.setCell p u) v n rows:=by
 obtain⟨xs,fps,h1,h2,h3,h4,h5⟩:=h;refine⟨xs,fps,?_,h2,h3.move _ _ _ (fun b hx=>Below.heap_setCell w p u b (by have:=(h5 b hx).1;omega)),h4,h5⟩
 exact ownsRow_setCell_below h1 hp u
theorem aQ.shape {B:Nat}{e:TypeId}{size n:Nat}{w:World}{v:Value}{rows:List (List C)}(h:aQ B e size w v n rows) : ∃c q,v = .slice c n q:=by
 obtain⟨xs,fps,⟨_,h1⟩,_⟩:=h
 rcases h1 with ⟨rfl,rfl⟩ | ⟨g,cap,cur,rfl,_⟩
 ·exact⟨none,0,rfl⟩
 ·exact⟨_,cap,rfl⟩
theorem aQ.append {B H g cap:Nat}{e:TypeId}{size n:Nat}{w w1:World}{v:Value}{xs ys:List Value}{fps f:List Nat}{rows:List (List C)}{r:List C}
  (h2:rows.length=n) (h3:bm w rows xs fps) (h4:fps.Nodup) (h5 : ∀x∈fps,B≤x∧v.ownBlock≠some x)
  (hr:bl w r ys f) (hd:f.Nodup) (hf : ∀x∈f,B≤x∧v.ownBlock≠some x∧x∉fps)
  (hown:w1.ownsRow B e size (.slice (some ⟨g,0,none⟩) (n+1) cap) (n+1) (xs++ys)) (hgrow:w.grownBy w1 v.ownBlock) (hat:v.ownBlock=some g∨g=H) (hH:w.heap.size=H) :
  aQ B e size w1 (.slice (some ⟨g,0,none⟩) (n+1) cap) (n+1) (rows ++ [r]):=by
 have l3 : ∀b∈fps,b<w.heap.size:=fun b hb=>bm.lt _ _ _ h3 b hb;have lr : ∀b∈f,b<w.heap.size:=fun b hb=>bl.lt _ _ _ hr b hb;have keep : ∀x,x<w.heap.size→v.ownBlock≠some x→w1.heap[x]?=w.heap[x]?:=fun x hx hn=>hgrow.block x hx (fun e=>hn e.symm);refine⟨xs++ys,fps++f,hown,by simp[h2],bm.snoc (h3.move _ _ _ fun b hb=>keep b (l3 b hb) (h5 b hb).2) (hr.move _ _ _ fun b hb=>keep b (lr b hb) (hf b hb).2.1),?_,?_⟩
 ·exact List.nodup_append.2 ⟨h4,hd,fun x hx y hy e=>(hf y hy).2.2 (e▸hx)⟩
 ·intro x hx
  have hlt:x<w.heap.size∧B≤x∧v.ownBlock≠some x:=by
   rcases List.mem_append.1 hx with hx | hx
   ·exact⟨l3 x hx,h5 x hx⟩
   ·exact⟨lr x hx,(hf x hx).1,(hf x hx).2.1⟩
  refine⟨hlt.2.1,fun e=>?_⟩;simp only[Value.ownBlock,Option.some.injEq] at e
  rcases hat with hat | hat
  ·exact hlt.2.2 (by rw[hat,e])
  ·omega
theorem aY {B:Nat}{e:TypeId}{size n:Nat}{w w':World}{v:Value}{xs:List Value}(h:w.ownsRow B e size v n xs)(hb:Below w.heap.size w w'):w'.ownsRow B e size v n xs:=
 h.kept (row:=none) ⟨hb.os,hb.tape,hb.output,hb.size,fun k hk _=>hb.block k hk⟩ (by cases v.ownBlock with | none=>exact .inl rfl | some g=>exact .inr (by simp))
theorem cV {wr W w2:World}{B:Nat}{e:TypeId}{size n:Nat}{v:Value}{xs:List Value}(hb:Below wr.heap.size wr W)(ho:wr.ownsRow B e size v n xs)(hg:W.grownBy w2 v.ownBlock)(b:Nat)(hl:b<wr.heap.size)(hB:b<B):w2.heap[b]?=wr.heap[b]?:=
 (hg.block b (Nat.lt_of_lt_of_le hl hb.size) (fun e=>by have:=(ho.lt b e.symm).1;omega)).trans (hb.block b hl)
theorem bH {w0 wr W w2:World}{B:Nat}{e:TypeId}{size n:Nat}{v:Value}{xs:List Value}(h0:Below w0.heap.size w0 wr)(hb:Below wr.heap.size wr W)(ho:wr.ownsRow B e size v n xs)(hB:w0.heap.size≤B)(hg:W.grownBy w2 v.ownBlock):Below w0.heap.size w0 w2:=
 (al h0 hb).grown hg (al h0 hb).size (fun k hk=>Nat.le_trans hB (ho.lt k hk).1)
theorem aQ.push {B g cap:Nat}{e:TypeId}{size n:Nat}{wr W0 W w2:World}{v:Value}{xs ys:List Value}{fps f:List Nat}{rows:List (List C)}{r:List C}(hl:rows.length=n)(ho:wr.ownsRow B e size v n xs)(hs:bm wr rows xs fps)(hd:fps.Nodup)
  (hfp : ∀x∈fps,B≤x∧v.ownBlock≠some x) (hB:B≤wr.heap.size) (hb:Below wr.heap.size wr W) (h0:wr.heap.size≤W0.heap.size) (hr:bl W r ys f) (hdf:f.Nodup) (hxf : ∀x∈f,W0.heap.size≤x)
  (hown:w2.ownsRow B e size (.slice (some ⟨g,0,none⟩) (n+1) cap) (n+1) (xs++ys)) (hgrow:W.grownBy w2 v.ownBlock) (hat:v.ownBlock=some g∨g=W.heap.size):aQ B e size w2 (.slice (some ⟨g,0,none⟩) (n+1) cap) (n+1) (rows ++ [r]):=by
 have hlt : ∀x∈fps,x<wr.heap.size:=fun x hx=>bm.lt _ _ _ hs x hx;refine aQ.append (w:=W) hl (hs.move _ _ _ fun b hx=>hb.block b (hlt b hx)) hd hfp hr hdf (fun x hx=>?_) hown hgrow hat rfl;have h1:=hxf x hx;refine⟨by omega,fun e=>by have:=(ho.lt x e).2;omega,fun e=>by have:=hlt x e;omega⟩
theorem aQ.own {B:Nat}{e:TypeId}{size n:Nat}{w:World}{v:Value}{rows:List (List C)}(h:aQ B e size w v n rows) : ∃fp,aJ w (.sl rows) v fp∧fp.Nodup∧∀x∈fp,B≤x:=by
 obtain⟨xs,fps,⟨hl,h1⟩,h2,h3,h4,h5⟩:=h
 rcases h1 with ⟨rfl,rfl⟩ | ⟨g,cap,cur,rfl,hb,hg,hn,hc,hs,ht⟩
 ·obtain rfl:rows = []:=List.eq_nil_of_length_eq_zero h2
  exact⟨[],aJ.sl_nil (by unfold maxLen;omega),List.nodup_nil,by simp⟩
 ·have hr:aK w g 0 rows fps:=h3.rows _ _ _ 0 (fun i hi=>by
     rw[←ht] at hi ⊢;simp only[World.cell?,hg];simp only[List.length_take] at hi
     simp
     rw[List.getElem?_take_of_lt (by omega),Array.getElem?_toList])
  obtain⟨fp,k1,k2,k3⟩:=aJ.sl_mk hg h2 hn hc hr
  exact⟨fp,k1,k3 h4 (fun hx=>(h5 g hx).2 rfl),fun x hx=>by rcases k2 x hx with rfl | hx;exact hb;exact(h5 x hx).1⟩
theorem aQ.tys {B n:Nat}{e:TypeId}{w:World}{v:Value}{ts:List Ty}(h:aQ B e 2 w v n (Ty.rows ts)):bj B w ts v:=h.own
theorem ig (g:FuncId)(R:Ty→Ty→Bool)(F G:Nat→Prop)(ts us:List Ty)(ys zs:Value)(w:World)(hy:aE F w ts ys)(hz:aE G w us zs)
  (hcf : ∀xs W,(callFunc g xs).run Tryz.prog W = .ok (.enter g xs) W)
  (hg : ∀t∈ts,∀u∈us,∀(W:World) (y z:Value),ap F W t y→ap G W u z→Calls Tryz.prog g #[y,z] W fun e W'=>e = .returned (.bool (R t u))∧Below W.heap.size W W') :
  Calls Tryz.prog 44 #[ys,zs,.func (.func g) #[] #[]] w fun e w'=>e = .returned (.bool (dx R ts us))∧Below w.heap.size w w':=by
 have HG:=zq hg;clear hg;obtain⟨a,cap,rfl,h2,h3,h4⟩:=hy.open;obtain⟨c,cap',rfl,g2,g3,g4⟩:=hz.open;have H4:=zq h4;have G4:=zq g4;clear h4 g4 hy hz;unfold maxLen at h3 g3
 by_cases hl:ts.length=us.length
 ·obtain⟨n,hn⟩ : ∃n,ts.length=n:=⟨_,rfl⟩
  rw[hn] at hl h2;rw[←hl] at g2;have HN:=zq hn;have HL:=zq hl;rw[hn,←hl];clear hn hl
  go_enter Tryz.func44,Tryz.ntmps44
  go_wp2_with fail
  go_loopw [17] (fun i wr=>∃k:Nat,k≤n∧i = .int .i64 k∧Below w.heap.size w wr∧Hid (dx R ts us=dx R (ts.drop k) (us.drop k))) (fun i _=>n-(intOf i).toNat)
  case atStart=>exact⟨0,by omega,rfl,Below.refl _ _,rfl⟩
  case round=>
   obtain⟨k,hk,rfl,hbw,hR⟩:=hrel
   by_cases hlt:k<n
   ·obtain⟨b,off,k0,a0,m0,q0,rfl,c0,c1,ht⟩:=H4.out k (by rw[HN.out];exact hlt)
    obtain⟨b',off',k0',a0',m0',q0',rfl,c0',c1',hu⟩:=G4.out k (by rw[←HL.out];exact hlt);have e0:=(hbw.cell (p:=⟨b,off+k*2,none⟩) (World.block_lt_of_cell? w _ c0)).trans c0;have e1:=(hbw.cell (p:=⟨b,off+k*2+1,none⟩) (World.block_lt_of_cell? w _ c1)).trans c1;have e0':=(hbw.cell (p:=⟨b',off'+k*2,none⟩) (World.block_lt_of_cell? w _ c0')).trans c0';have e1':=(hbw.cell (p:=⟨b',off'+k*2+1,none⟩) (World.block_lt_of_cell? w _ c1')).trans c1';clear c0 c1 c0' c1';have l0:=World.block_lt_of_cell? wr _ e0;have l0':=World.block_lt_of_cell? wr _ e0';have hkt:k<ts.length:=by rw[HN.out];exact hlt
    have hku:k<us.length:=by rw[←HL.out];exact hlt
    have hcall:=HG.out ts[k] (List.getElem_mem hkt) us[k] (List.getElem_mem hku);have hstep:=hR.out.trans (ic R ts us k hkt hku);generalize R ts[k] us[k]=r at hcall hstep;have HC:=zq hcall;have HS:=zq hstep;clear hcall hstep hR
    cases r
    all_goals
     go_wp2_with fail
     refine(HC.out _ _ _ (ht.below (al hbw aH)) (hu.below (al hbw aH))).mono ?_;rintro e w1 ⟨rfl,hb1⟩
     go_wp2_with fail
    ·go_ret
     exact⟨ax (by rw[HS.out];rfl),al (al hbw aH) hb1⟩
    ·go_roundw
     case rel=>exact⟨k+1,by omega,by go_num,al (al hbw aH) hb1,by rw[Hid,HS.out];rfl⟩
     case measure=>simp[intOf];omega
   ·go_wp2_with fail
    go_ret
    exact⟨ax (by rw[hR.out,jU _ _ _ _ (by rw[HN.out];omega) (by rw[←HL.out];omega)]),hbw⟩
 ·have HL:=zq hl
  go_enter Tryz.func44,Tryz.ntmps44
  go_wp2_with fail
  go_ret
  exact⟨ax (jV R ts us HL.out).symm,Below.refl _ _⟩
end Go.Proofs.YtfahhonmiimmdaaGreat

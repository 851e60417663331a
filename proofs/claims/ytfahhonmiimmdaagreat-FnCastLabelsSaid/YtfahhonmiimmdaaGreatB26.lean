/- Drawn terms: what is laid together. And what else its parts name. -/
import Derived.Test.YtfahhonmiimmdaaGreatB13
import Derived.Test.YtfahhonmiimmdaaGreatB6
set_option linter.unusedSimpArgs false
set_option linter.unusedVariables false
set_option maxRecDepth 100000
set_option maxHeartbeats 16000000
namespace Go.Proofs.YtfahhonmiimmdaaGreat
open Go.RowKit
theorem Tryz.infoTm2:(Tryz.prog.info? 28).map (fun i=>(i.zero,i.size,i.bytes))=some (some (.agg #[.int .i64 0,.string ByteArray.empty,.int .i64 0,.int .i64 0,.slice none 0 0,.int .i64 0,.slice none 0 0,.int .i64 0,.slice none 0 0]),9,128):=by kernel_rfl
theorem pc (x:UInt8) : ∀l:List UInt8,(fs x l).length≤l.length+1
 | []=>by simp[fs]
 | y :: l=>by
  unfold fs;have:=pc x l
  split
  ·simp;omega
  ·split
   ·simp
   ·simp
theorem jK {X:World}{B:Nat}(xs:List ByteArray){T:TypeId}(hB:X.heap.size=B)(Q:ByteArray→Prop)(hQ : ∀x∈xs,Q x)(i:Nat)(hi:i<xs.length) :
  ∃x,(X.alloc (.cells (xs.map Value.string).toArray T)).cell? ⟨B,i,none⟩=some (.string x)∧Q x:=by
 refine⟨xs[i],?_,hQ _ (List.getElem_mem hi)⟩;rw[ap hB]
 simp[hi]
theorem Tm.cnts_append : ∀(a b:List Tm),Tm.cnts (a++b)=Tm.cnts a+Tm.cnts b
 | [],b=>by simp[Tm.cnts]
 | t :: a,b=>by
  have:=Tm.cnts_append a b;simp only[List.cons_append,Tm.cnts]
  omega
theorem ax.srep {F:Nat→Prop}{w:World}{t:Tm}{k u tk fk l:Int}{nm:ByteArray}{s1 s2 s:Value}(h:ax F w t (.agg #[.int .i64 k,.string nm,.int .i64 u,.int .i64 tk,s1,.int .i64 fk,s2,.int .i64 l,s])) :
  bz F w t.row [.int .i64 k,.string nm,.int .i64 u,.int .i64 tk,s1,.int .i64 fk,s2,.int .i64 l,s]:=by
 obtain⟨z1,z2,z,he,hn,h1,h2,h3⟩:=h;simp only[Value.agg.injEq,Array.mk.injEq,List.cons.injEq,Value.int.injEq,Value.string.injEq,true_and,and_true] at he;obtain⟨rfl,rfl,rfl,rfl,rfl,rfl,rfl,rfl,rfl⟩:=he
 cases t with | mk k nm u t f l ts=>
 have ci : ∀n:Int,aH F w (.int n) (.int .i64 n):=fun n=>by unfold aH;rfl
 unfold Tm.row
 exact⟨_,_,rfl,ci _,_,_,rfl,by unfold aH;exact⟨rfl,hn⟩,_,_,rfl,ci _,_,_,rfl,ci _,_,_,rfl,h1,_,_,rfl,ci _,_,_,rfl,h2,_,_,rfl,ci _,_,_,rfl,h3,rfl⟩
theorem ax.mk {F:Nat→Prop}{w:World}{k u l tk fk:Int}{nm:ByteArray}{t f:Ty}{ts:List Tm}{s1 s2 s:Value}(hn:nm.size≤maxLen)(h1:ao F w t (.agg #[.int .i64 tk,s1]))(h2:ao F w f (.agg #[.int .i64 fk,s2]))(h3:aN F w ts s) :
  ax F w (.mk k nm u t f l ts) (.agg #[.int .i64 k,.string nm,.int .i64 u,.int .i64 tk,s1,.int .i64 fk,s2,.int .i64 l,s]):=by
 obtain⟨z1,he1,h1⟩:=h1;obtain⟨z2,he2,h2⟩:=h2;simp only[Value.agg.injEq,Array.mk.injEq,List.cons.injEq,Value.int.injEq,true_and,and_true] at he1 he2;obtain⟨rfl,rfl⟩:=he1;obtain⟨rfl,rfl⟩:=he2
 exact⟨_,_,_,rfl,hn,h1,h2,h3⟩
theorem ao.setB {B:Nat}{w:World}{t:Ty}{y:Value}(h:ao (B ≤ ·) w t y){p:Addr}(hp:p.block<B)(v:Value):ao (B ≤ ·) (w.setCell p v) t y:=
 h.move ⟨by simp[World.setCell],fun _ h _=>h,fun b hb _=>Below.heap_setCell w p v b (by omega)⟩
structure St (wr W:World) (b j:Nat) (ch:List Nat):Prop where
 chg:Chg (b :: ch) wr W
 far : ∀o,j*9+9≤o→W.cell? ⟨b,o,none⟩=wr.cell? ⟨b,o,none⟩
 fro : ∀o,W.frozen? ⟨b,o,none⟩=false
theorem St.refl {wr:World}{b j:Nat}(h : ∀o,wr.frozen? ⟨b,o,none⟩=false):St wr wr b j []:=⟨Chg.refl _ _,fun _ _=>rfl,h⟩
theorem St.set {wr W:World}{b j o:Nat}{ch:List Nat}{v:Value}(h:St wr W b j ch)(ho:o<j*9+9):St wr (W.setCell ⟨b,o,none⟩ v) b j ch:=
 ⟨h.chg.setCell (by simp) _,fun o' ho'=>(World.cell?_setCell_other W _ _ v (fun e=>by cases e;omega)).trans (h.far o' ho'),fun o'=>(dK _ _ _ _).trans (h.fro o')⟩
theorem St.call {wr W W':World}{b j:Nat}{ch g:List Nat}(h:St wr W b j ch)(hc:Chg g W W')(hb:b∉g)(hl:b<W.heap.size):St wr W' b j (ch++g):=
 ⟨(h.chg.mono (by simp;intro x hx;exact .inr (.inl hx))).trans (hc.mono (by simp;intro x hx;exact .inr (.inr hx))),
  fun o ho=>(World.cell?_of_block (a:=⟨b,o,none⟩) (hc.block b hl hb)).trans (h.far o ho),fun o=>(World.frozen?_of_block (a:=⟨b,o,none⟩) (hc.block b hl hb)).trans (h.fro o)⟩
theorem St.below {wr W W':World}{b j:Nat}{ch:List Nat}(h:St wr W b j ch)(hc:Below W.heap.size W W')(hl:b<W.heap.size):St wr W' b j ch:=by
 have:=h.call (Chg.of_below (fp:= []) hc) (by simp) hl
 simpa using this
theorem St.own {wr W:World}{b j:Nat}{ch:List Nat}{c:C}{y:Value}{f:List Nat}(h:St wr W b j ch)(ho:aF wr c y f)(hd : ∀x∈f,x≠b∧x∉ch):aF W c y f:=
 aF.move _ _ _ (fun x hx=>h.chg.block x (aF.lt _ _ _ ho x hx) (by have:=hd x hx;simp[this.1,this.2])) ho
theorem ck.keep {B:Nat}{w w':World}{t:Tm}{y:Value}(h:ck B w t y)(k:Below w.heap.size w w'):ck B w' t y:=h.below k
theorem bh.leaf {B:Nat}{w:World}{k:Int}{y:Value}(h:bh B w (.mk k []) y) : ∃a q,y = .agg #[.int .i64 k,.slice a 0 q]∧q≤maxLen:=by
 obtain⟨fp,⟨s,rfl,h⟩,-⟩:=h;simp only[Ty.kids,Ty.rows] at h;unfold aF at h;obtain⟨a,q,rfl,-,hq,-⟩:=h
 exact⟨a,q,rfl,hq⟩
end Go.Proofs.YtfahhonmiimmdaaGreat

/- An argument of type []byte reads as a slice of bytes. And what else its parts name. -/
import Derived.Test.YtfahhonmiimmdaaGreatB21
import Derived.Laws.AppendOwnNone
import Derived.Test.YtfahhonmiimmdaaGreatB6
set_option linter.unusedSimpArgs false
set_option linter.unusedVariables false
set_option maxRecDepth 100000
set_option maxHeartbeats 16000000
namespace Go.Proofs.YtfahhonmiimmdaaGreat
open Go.RowKit Go.ChangeShapes Go.WideShapes
theorem Tryz.cellsU8:Tryz.prog.cellsOf 5=1:=by kernel_rfl
section
variable {H:Type} {enc:TypeId × Value→H} {w:World} {base:Nat} {held:Bool} {spare:Nat→Bool}
theorem um (n:Nat)(cs:List Value)(x:DataW H × List MemPlace)(h:DataW.trod enc Tryz.prog w base spare held (n+1) 22 cs=some x) :
  ∃s,cs = [s]∧cd w w.heap.size s:=by
 rcases DataW.trod_slice Tryz.underlying22 h with ⟨rfl,_⟩ | ⟨a,len,cap,elems,rest,n',hn,rfl,_,_,hlc,hcm,hel,he,_⟩
 ·exact⟨_,rfl,none,0,0,rfl,Nat.le_refl _,by unfold maxLen;omega,fun i hi=>absurd hi (Nat.not_lt_zero _)⟩
 ·obtain rfl:n=n':=by omega
  rw[Tryz.cellsU8] at he;have get : ∀i,i<len→∃k,w.cell? (a.add i)=some (.int .u8 k)∧0≤k∧k<256:=by
   intro i hi;have hk:=he i hi;rw[List.getElem?_eq_getElem (by omega)] at hk;obtain⟨cs',hc,ht⟩:=Option.bind_eq_some_iff.1 hk;obtain⟨k,rfl,-,hwf⟩:=DataW.trod_int Tryz.underlying5 ht;obtain⟨_,hl,g⟩:=World.cells?_some hc;have g0:=g 0 (by omega);rw[Nat.mul_one,show(a.add i).add 0=a.add i from by simp[Addr.add]] at g0;refine⟨k,by simpa using g0,?_⟩
   simp[Lit.wf,IntKind.min,IntKind.max,IntKind.signed,IntKind.bits] at hwf
   omega
  refine⟨_,rfl,some a,len,cap,rfl,hlc,hcm,fun i hi=>?_⟩;obtain⟨k0,h0,-,-⟩:=get 0 (by omega);have hs:=te (show w.cell? a=some (.int .u8 k0) from by simpa [Addr.add] using h0);obtain⟨k,h1,h2,h3⟩:=get i hi;rw[oR i hs] at h1;have hb:=World.block_lt_of_cell? w _ h1;refine⟨a.block,a.off,k,?_,hb,hb,h1,h2,h3⟩
  cases a;simp at hs;subst hs;rfl
theorem uF {v:Value}{d:DataW H}{ps:List MemPlace}{r:Reach}{b:Nat}(hv:Value.okWide Tryz.prog w r b 22 v)(h:DataW.Trod enc Tryz.prog w base spare held 22 v d ps):cd w w.heap.size v:=by
 obtain⟨fuel,hf⟩:=h
 cases fuel with
 | zero=>simp[DataW.trod] at hf
 | succ n=>
  obtain⟨s,hs,hr⟩:=um n _ _ hf;obtain⟨a,m,c,rfl⟩:=okWide_slice Tryz.underlying22 hv;have hvs:Value.slice a m c=s:=by simpa [Value.cells] using hs
  rw[hvs];exact hr
end
end Go.Proofs.YtfahhonmiimmdaaGreat
namespace Go.Proofs.YtfahhonmiimmdaaGreat
open Go.RowKit
def hasT (k:Int):Bool:=k==5||k==13
mutual
def Tm.tys:Tm→List Ty
 | .mk k _ _ t _ _ ts=>(if hasT k then [t] else [])++Tm.tyss ts
def Tm.tyss:List Tm→List Ty
 | []=> []
 | t :: ts=>t.tys++Tm.tyss ts
end
theorem b5.append {w:World} : ∀ {r1 r2:List (List C)} {x1 x2:List Value} {f1 f2:List Nat},b5 w r1 x1 f1→b5 w r2 x2 f2→b5 w (r1++r2) (x1++x2) (f1++f2)
 | [],r2,_,x2,_,f2,⟨h1,h2⟩,h=>by subst h1 h2;exact h
 | r :: r1,r2,_,x2,_,f2,⟨ys,xs',g1,g2,e1,e2,h1,h2⟩,h=>by
  subst e1 e2
  exact⟨ys,xs'++x2,g1,g2++f2,by simp,by simp,h1,b5.append h2 h⟩
theorem aF.one {w:World} : ∀ {c:C} {y:Value} {fp:List Nat},aF w c y fp→y.oneCell'=true
 | .int _,_,_,h=>by unfold aF at h;rw[h.1];rfl
 | .str _,_,_,h=>by unfold aF at h;rw[h.1];rfl
 | .sl _,_,_,h=>by unfold aF at h;obtain⟨a,q,h,-⟩:=h;rw[h];rfl
theorem bf.one {w:World} : ∀ {r:List C} {ys:List Value} {fp:List Nat},bf w r ys fp→∀y∈ys,y.oneCell'=true
 | [],_,_,⟨h,_⟩,y,hy=>by subst h;cases hy
 | c :: cs,_,_,⟨z,zs,f1,f2,e,_,h1,h2⟩,y,hy=>by
  subst e
  rcases List.mem_cons.1 hy with rfl | hy
  ·exact h1.one
  ·exact bf.one h2 y hy
theorem b5.one {w:World} : ∀ {rs:List (List C)} {ys:List Value} {fp:List Nat},b5 w rs ys fp→∀y∈ys,y.oneCell'=true
 | [],_,_,⟨h,_⟩,y,hy=>by subst h;cases hy
 | r :: rs,_,_,⟨y1,x',f1,f2,e,_,h1,h2⟩,y,hy=>by
  subst e
  rcases List.mem_append.1 hy with hy | hy
  ·exact h1.one y hy
  ·exact b5.one h2 y hy
theorem aL.pushS {B g cap m:Nat}{e:TypeId}{size n:Nat}{W w2:World}{v:Value}{xs ys:List Value}{fps f:List Nat}{rows rs:List (List C)}(hl:rows.length=n)(hs:b5 W rows xs fps)(hd:fps.Nodup)
  (hfp : ∀x∈fps,B≤x∧v.ownBlock≠some x) (hrl:rs.length=m) (hr:b5 W rs ys f) (hdf:f.Nodup) (hxf : ∀x∈f,B≤x∧v.ownBlock≠some x∧x∉fps)
  (hown:w2.ownsRow B e size (.slice (some ⟨g,0,none⟩) (n+m) cap) (n+m) (xs++ys)) (hgrow:W.grownBy w2 v.ownBlock) (hat:v.ownBlock=some g∨g=W.heap.size) :
  aL B e size w2 (.slice (some ⟨g,0,none⟩) (n+m) cap) (n+m) (rows++rs):=by
 have l1 : ∀b∈fps,b<W.heap.size:=fun b hb=>b5.lt _ _ _ hs b hb;have l2 : ∀b∈f,b<W.heap.size:=fun b hb=>b5.lt _ _ _ hr b hb;have keep : ∀x,x<W.heap.size→v.ownBlock≠some x→w2.heap[x]?=W.heap[x]?:=fun x hx hn=>hgrow.block x hx (fun e=>hn e.symm);refine⟨xs++ys,fps++f,hown,by simp[hl,hrl],b5.append (hs.move _ _ _ fun b hb=>keep b (l1 b hb) (hfp b hb).2) (hr.move _ _ _ fun b hb=>keep b (l2 b hb) (hxf b hb).2.1),?_,?_⟩
 ·exact List.nodup_append.2 ⟨hd,hdf,fun x hx y hy e=>(hxf y hy).2.2 (e▸hx)⟩
 ·intro x hx
  have hlt:x<W.heap.size∧B≤x∧v.ownBlock≠some x:=by
   rcases List.mem_append.1 hx with hx | hx
   ·exact⟨l1 x hx,hfp x hx⟩
   ·exact⟨l2 x hx,(hxf x hx).1,(hxf x hx).2.1⟩
  refine⟨hlt.2.1,fun e=>?_⟩;simp only[Value.ownBlock,Option.some.injEq] at e
  rcases hat with hat | hat
  ·exact hlt.2.2 (by rw[hat,e])
  ·omega
theorem b5.single {w:World}{r:List C}{ys:List Value}{f:List Nat}(h:bf w r ys f):b5 w [r] ys f:=⟨ys,[],f,[],by simp,by simp,h,rfl,rfl⟩
theorem eT {w:World}{B:Nat}{e:TypeId}{size n q g:Nat}{xs:List Value}(h:w.ownsRow B e size (.slice (some ⟨g,0,none⟩) n q) n xs) : ∀j u,xs[j]?=some u→w.cell? ((⟨g,0,none⟩:Addr).add j)=some u:=by
 obtain⟨h1,h2 | ⟨g',cap,cur,h2,hB,hg,hn,hc,hs,ht⟩⟩:=h
 ·exact absurd h2.1 (by simp)
 ·simp only[Value.slice.injEq,Option.some.injEq,Addr.mk.injEq,and_true] at h2
  obtain⟨rfl,_⟩:=h2;intro j u hu;have e1:(⟨g,0,none⟩:Addr).add j=⟨g,j,none⟩:=by
   by_cases hj:j=0
   ·subst hj;rfl
   ·simp[Addr.add,hj]
  rw[e1];rw[←ht] at hu;have hj:j<n*size:=by
   have:=List.getElem?_eq_some_iff.1 hu;obtain⟨h,_⟩:=this
   simp at h;omega
  rw[List.getElem?_take_of_lt hj,Array.getElem?_toList] at hu
  simp[World.cell?,hg,hu]
theorem aL.mono {B B' n size:Nat}{e:TypeId}{w:World}{v:Value}{rows:List (List C)}(h:aL B e size w v n rows)(hb:B'≤B):aL B' e size w v n rows:=by
 obtain⟨xs,fps,⟨h0,h1⟩,h2,h3,h4,h5⟩:=h;refine⟨xs,fps,⟨h0,?_⟩,h2,h3,h4,fun x hx=>⟨Nat.le_trans hb (h5 x hx).1,(h5 x hx).2⟩⟩
 rcases h1 with h1 | ⟨g,cap,cur,e1,e2,e3⟩
 ·exact .inl h1
 ·exact .inr ⟨g,cap,cur,e1,Nat.le_trans hb e2,e3⟩
end Go.Proofs.YtfahhonmiimmdaaGreat

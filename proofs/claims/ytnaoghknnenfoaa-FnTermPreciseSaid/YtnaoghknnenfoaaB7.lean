/-
  Arguments read as data: slices of rows.
  A name's type in a context, both sides.
-/
import Derived.Test.YtnaoghknnenfoaaRows
import Derived.Test.YtnaoghknnenfoaaB0
import Derived.ProofKit
import Derived.OpenShut
import Derived.ShutString
import Derived.ChangeOld
import Derived.Test.YtnaoghknnenfoaaB5
import Derived.Test.YtnaoghknnenfoaaTyCopyB
import Derived.Test.YtnaoghknnenfoaaB2
import Derived.Deep.RegionHeld3
set_option linter.unusedSimpArgs false
set_option linter.unusedVariables false
set_option maxRecDepth 100000
namespace Go.Proofs.Ytnaoghknnenfoaa
open Go.RowKit Go.ChangeShapes Go.WideShapes
theorem nH {a:Addr}(n:Nat)(h:a.spot=none):a.add n=⟨a.block,a.off+n,none⟩:=by
 unfold Addr.add
 split
 ·rename_i h0;subst h0;cases a;simp at h;subst h;rfl
 ·rfl
theorem mO {w:World}{a:Addr}{v:Value}(h:w.cell? a=some v):a.spot=none:=by
 unfold World.cell? at h
 split at h
 ·split at h
  ·cases h
  ·rename_i hs;simpa using hs
 ·cases h
theorem bT.cells {F:Nat→Prop}{w:World}{b:Nat} : ∀(r:List C) (ys:List Value) (off:Nat),bT F w r ys→(∀i,i<ys.length→w.cell? ⟨b,off+i,none⟩=ys[i]?)→aU F w b off r
 | [],_,_,_,_=>by unfold aU;trivial
 | c :: cs,_,off,⟨z,zs,e,h1,h2⟩,k=>by
  subst e
  unfold aU
  refine⟨⟨z,by simpa using k 0 (by simp),h1⟩,bT.cells cs zs _ h2 fun i hi=>?_⟩
  have:=k (i+1) (by simpa using hi)
  rw [show off+1+i=off+(i+1) from by omega]
  simpa using this
section
variable {H:Type} {enc:TypeId × Value→H} {w:World} {base:Nat} {held:Bool} {spare:Nat→Bool}
end
section
variable {H:Type} {enc:TypeId × Value→H} {P:Program}
theorem pj {t:TypeId}(hl:laidOutB P=true)(hr:P.readableRec t=true)(hrow:t<P.types.size){W W':World}{v:Value}{d:DataW H}{ps:List MemPlace}
  (h:DataW.Trod enc P W 0 (fun _=>true) true t v d ps) (hb:Below W.heap.size W W') :
  DataW.Trod enc P W' 0 (fun b=>decide (b<W.heap.size)) true t v d ps:=
 Below.trod hl hr hrow h hb (by obtain⟨m,hm⟩:=h;exact DataW.trod_lt m _ _ _ hm)
end
end Go.Proofs.Ytnaoghknnenfoaa
namespace Go.Proofs.Ytnaoghknnenfoaa
open Go.RowKit
def RetOG (G:Nat→Prop)(o:Option Ty)(w:World)(e:Ending)(w':World):Prop:=∃(k:Int) (a:Option Addr) (n q:Nat) (b:Bool) (t:Ty),e = .returned (.tuple #[.agg #[.int .i64 k,.slice a n q],.bool b])∧b=o.isSome∧ap (fun x=>G x∨w.heap.size≤x) w' t (.agg #[.int .i64 k,.slice a n q])∧(∀s,o=some s→t=s)∧Below w.heap.size w w'
def co (l:List Bd)(nm:ByteArray):Nat→Option Ty
 | 0=>none
 | i+1=>match l[i]? with
  | some b=>if b.name.toList==nm.toList then some b.ty else co l nm i
  | none=>co l nm i
theorem pC {l:List Bd}{nm:ByteArray}{i:Nat}(h:i<l.length)(e:(l[i].name.toList==nm.toList)=true):co l nm (i+1)=some l[i].ty:=by
 simp only [co,List.getElem?_eq_getElem h,e,if_true]
theorem pi {l:List Bd}{nm:ByteArray}{i:Nat}(h:i<l.length)(e:(l[i].name.toList==nm.toList)=false):co l nm (i+1)=co l nm i:=by
 simp only [co,List.getElem?_eq_getElem h,e];rfl
theorem ap.any {F:Nat→Prop}{w:World}{t:Ty}{y:Value}(h:ap F w t y):ap (fun _=>True) w t y:=h.move (.weaken fun _ _ _=>trivial)
def bC (o:Option Ty)(w:World)(e:Ending)(w':World):Prop:=RetOG (fun _=>False) o w e w'
theorem ap.zeroG {H:Nat→Prop}{w:World}:ap H w (.mk 0 []) (.agg #[.int .i64 0,.slice none 0 0]):=by
 refine⟨_,rfl,?_⟩
 unfold aF aS
 exact⟨none,0,rfl,Nat.le_refl _,by unfold maxLen;omega,.inl rfl⟩
set_option maxHeartbeats 4000000 in
theorem iK (F:Nat→Prop)(l:List Bd)(nm:ByteArray)(y:Value)(w:World)(hy:aL F w l y)(hc : ∀b∈l,b.ty.cnt≤1048576) :
  Calls Try.prog 39 #[y,.string nm] w (bC (co l nm l.length) w):=by
 obtain⟨a,n,q,rfl⟩:=hy.shape
 obtain⟨a',q',he,hq1,hq2,-⟩:=hy.open
 simp only [Value.slice.injEq] at he
 obtain⟨rfl,rfl,rfl⟩:=he
 unfold maxLen at hq2
 have HY:=Lib.hid hy
 have HCN:=Lib.hid hc
 clear hy hc
 have hZ:(w.alloc (.cells #[.int .i64 0,.slice none 0 0] 25)).heap[w.heap.size]?=some (.cells #[.int .i64 0,.slice none 0 0] 25 (0,0)):=aD rfl
 generalize hn:l.length=n at *
 have HN:=Lib.hid hn
 clear hn
 have hwn:wrap64 ((n:Int)-1)=(n:Int)-1:=by unfold wrap64;omega
 go_enter Try.func39,Try.ntmps39
 go_wp2_with fail
 go_loopw [6] (fun i wr=>∃j:Nat,j≤n∧i = .int .i64 ((j:Int)-1)∧wr=w.alloc (.cells #[.int .i64 0,.slice none 0 0] 25)∧Hid (co l nm n=co l nm j)) (fun i _=>(intOf i+1).toNat)
 case atStart=>exact⟨n,Nat.le_refl _,rfl,rfl,Lib.hid rfl⟩
 case round=>
  obtain⟨j,hj,rfl,rfl,hrel⟩:=hrel
  have z0:(w.alloc (.cells #[.int .i64 0,.slice none 0 0] 25)).cell? ⟨w.heap.size,0,none⟩=some (.int .i64 0):=ag hZ rfl
  have z1:(w.alloc (.cells #[.int .i64 0,.slice none 0 0] 25)).cell? ⟨w.heap.size,1,none⟩=some (.slice none 0 0):=ag hZ rfl
  have zf0:(w.alloc (.cells #[.int .i64 0,.slice none 0 0] 25)).frozen? ⟨w.heap.size,0,none⟩=false:=aC hZ 0
  have zf1:(w.alloc (.cells #[.int .i64 0,.slice none 0 0] 25)).frozen? ⟨w.heap.size,1,none⟩=false:=aC hZ 1
  cases j with
  | zero=>
   have h0:decide (((0:Nat):Int)-1≥0)=false:=by simp
   go_wp2_with fail
   refine bodyPost_ret (v:=.tuple #[.agg #[.int .i64 0,.slice none 0 0],.bool false]) (by simp [results,Try.results39,go_sem]) rfl ?_
   exact⟨_,_,_,_,_,_,rfl,by rw [hrel.out];rfl,ap.zeroG,(by rw [hrel.out];intro s h;cases h),ah⟩
  | succ j=>
   have hjl:j<l.length:=by have:=HN.out;omega
   obtain⟨b,off,k0,a0,m0,q0,rfl,l0,e0,ez,e1,e2,ht⟩:=HY.out.at (Below.refl _ _) hjl
   replace e0:=a9 (ah (o:=.cells #[.int .i64 0,.slice none 0 0] 25)) e0
   replace e1:=a9 (ah (o:=.cells #[.int .i64 0,.slice none 0 0] 25)) e1
   replace e2:=a9 (ah (o:=.cells #[.int .i64 0,.slice none 0 0] 25)) e2
   have HT:=Lib.hid ht
   clear ht
   have h0:decide (((j+1:Nat):Int)-1≥0)=true:=by simp
   have hji:((j+1:Nat):Int)-1=(j:Int):=by omega
   have hj0:(0:Int)≤(j:Int):=by omega
   have hj1:(j:Int)<(n:Int):=by omega
   have hwj:wrap64 ((j:Int)-1)=(j:Int)-1:=by unfold wrap64;omega
   rw [hji]
   rcases Bool.eq_false_or_eq_true (l[j].name.toList==nm.toList) with q1 | q1
   ·have HQ:=Lib.hid (pC hjl q1)
    go_wp2_with fail
    refine(b8 F _ _ _ (HT.out.below ah) (HCN.out _ (List.getElem_mem hjl))).mono ?_
    rintro e w1 ⟨v,rfl,hv,hb1⟩
    obtain⟨kc,ac,nc,qc,rfl⟩:=hv.shape
    have HV:=Lib.hid hv
    have HB:=Lib.hid (ai ah hb1)
    replace hZ:=af hZ hb1
    have hz1:=hb1.size
    simp only [World.size_alloc] at hz1
    clear hv hb1 z0 z1 zf0 zf1 e0 e1 e2
    have z0:w1.cell? ⟨w.heap.size,0,none⟩=some (.int .i64 0):=ag hZ rfl
    have z1:w1.cell? ⟨w.heap.size,1,none⟩=some (.slice none 0 0):=ag hZ rfl
    have zf0:w1.frozen? ⟨w.heap.size,0,none⟩=false:=aC hZ 0
    have zf1:w1.frozen? ⟨w.heap.size,1,none⟩=false:=aC hZ 1
    go_wp2_with fail
    have hY:((w1.setCell ⟨w.heap.size,0,none⟩ (.int .i64 kc)).setCell ⟨w.heap.size,1,none⟩ (.slice ac nc qc)).heap[w.heap.size]?=some (.cells #[.int .i64 kc,.slice ac nc qc] 25 (0,0)):=aQ (aQ hZ (rfl:(#[Value.int .i64 0,.slice none 0 0]:Array Value).setIfInBounds 0 (.int .i64 kc) = #[.int .i64 kc,.slice none 0 0])) rfl
    obtain⟨rc0,rc1⟩:=blk2 hY
    refine bodyPost_ret (v:=.tuple #[.agg #[.int .i64 kc,.slice ac nc qc],.bool true]) (by simp [results,Try.results39,go_sem,rc0,rc1]) rfl ?_
    exact⟨_,_,_,_,_,_,rfl,by rw [hrel.out,HQ.out];rfl,((HV.out.setCell (p:=⟨w.heap.size,0,none⟩) (by simp) _).setCell (p:=⟨w.heap.size,1,none⟩) (by simp) _).rep.move (.weaken fun b h _=>.inr (by have:(w.alloc (.cells #[.int .i64 0,.slice none 0 0] 25)).heap.size≤b:=h;simp at this;omega)),(by rw [hrel.out,HQ.out];intro s h;exact Option.some.inj h),(HB.out.setCell (p:=⟨w.heap.size,0,none⟩) (by show w.heap.size≤w.heap.size;omega) _).setCell (p:=⟨w.heap.size,1,none⟩) (by show w.heap.size≤w.heap.size;omega) _⟩
   ·have HQ:=Lib.hid (pi hjl q1)
    go_wp2_with fail
    go_roundw
    case rel=>exact⟨j,by omega,by first | trivial | rfl,by first | trivial | rfl,Lib.hid (hrel.out.trans HQ.out)⟩
    case measure=>simp [intOf]
end Go.Proofs.Ytnaoghknnenfoaa
namespace Go.Proofs.Ytnaoghknnenfoaa
open Go.RowKit
end Go.Proofs.Ytnaoghknnenfoaa

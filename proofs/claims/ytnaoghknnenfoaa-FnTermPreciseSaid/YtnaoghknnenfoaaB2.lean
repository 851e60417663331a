/-
  Shapes of types: plain facts.
  Functions that make types.
  Consistency and precision of types: implConsistent0, specL1Consistent.
  The reference's ground types.
  Functions that make types.
  How many unknown parts a type has, and how deep it is.
  Consistency and precision of types: implPrecise0, specL1Precise.
  Consistency and precision of types: implPrecise, specPrecise.
  TypeSame of the program and of the reference: equality of trees.
-/
import Derived.Test.YtnaoghknnenfoaaTyValid
import Derived.Test.YtnaoghknnenfoaaB3
import Derived.Test.YtnaoghknnenfoaaRows
set_option linter.unusedSimpArgs false
set_option linter.unusedVariables false
set_option maxRecDepth 100000
namespace Go.Proofs.Ytnaoghknnenfoaa
open Go.RowKit
theorem Ty.shapes_mem : ∀ {ts:List Ty} {d:Int} {t:Ty},Ty.shapes ts d=true→t∈ts→t.shape d=true
 | u :: ts,d,t,h,ht=>by
  unfold Ty.shapes at h
  simp only [Bool.and_eq_true] at h
  rcases List.mem_cons.1 ht with rfl | ht
  ·exact h.1
  ·exact Ty.shapes_mem h.2 ht
theorem ii (k:Int):bm k≤2:=by unfold bm;split;omega;split<;>omega
mutual
theorem Ty.cnt_shape : ∀(t:Ty) (n:Nat),t.shape n=true→t.cnt+2≤2 ^ n
 | .mk k ts,n,h=>by
  obtain⟨h1,h2,h3⟩:=Ty.shape_mk h
  obtain⟨m,rfl⟩ : ∃m,n=m+1:=⟨n-1,by omega⟩
  rw [show((m+1:Nat):Int)-1=(m:Int) from by omega] at h3
  have h4:=Ty.cnts_shape ts m h3
  have h5:=ii k
  unfold Ty.cnt
  have:2 ^ (m+1)=2*2 ^ m:=by rw [Nat.pow_succ];omega
  have h6:ts.length=0∨ts.length=1∨ts.length=2:=by omega
  have h7:1≤2 ^ m:=Nat.one_le_two_pow
  rcases h6 with h6 | h6 | h6<;>rw [h6] at h4 ⊢ <;> omega
theorem Ty.cnts_shape : ∀(ts:List Ty) (n:Nat),Ty.shapes ts n=true→Ty.cnts ts+2*ts.length≤ts.length*2 ^ n
 | [],_,_=>by simp [Ty.cnts]
 | t :: ts,n,h=>by
  unfold Ty.shapes at h
  simp only [Bool.and_eq_true] at h
  have h1:=Ty.cnt_shape t n h.1
  have h2:=Ty.cnts_shape ts n h.2
  simp only [Ty.cnts,List.length_cons,Nat.add_mul]
  omega
end
theorem Ty.cnt_valid {t:Ty}(h:t.valid=true):t.cnt≤1048576:=by
 have:=Ty.cnt_shape t 4 h
 omega
end Go.Proofs.Ytnaoghknnenfoaa
namespace Go.Proofs.Ytnaoghknnenfoaa
open Go.RowKit
theorem bj.nil (B:Nat)(w:World):bj B w [] (.slice none 0 0):=⟨[],aG.sl_nil (by unfold maxLen;omega),List.nodup_nil,by simp⟩
set_option maxHeartbeats 400000 in
theorem pQ (k:Int)(w:World):Calls Try.prog 21 #[.int .i64 k] w (df (.mk k []) w):=by
 go_enter Try.func21,Try.ntmps21
 go_wp2_with fail
 refine bodyPost_ret (v:=.agg #[.int .i64 k,.slice none 0 0]) (by simp [results,Try.results21,go_sem]) rfl ?_
 exact⟨_,rfl,bh.mono (bj.ty (bj.nil _ _)) (Nat.le_refl _),ah⟩
set_option maxHeartbeats 400000 in
theorem dg (w:World):Calls Try.prog 49 #[] w (df (.mk 1 []) w):=by
 go_enter Try.func49,Try.ntmps49
 go_wp2_with fail
 refine bodyPost_ret (v:=.agg #[.int .i64 1,.slice none 0 0]) (by simp [results,Try.results49,go_sem]) rfl ?_
 exact⟨_,rfl,bh.mono (bj.ty (bj.nil _ _)) (Nat.le_refl _),ah⟩
theorem bj.two {B:Nat}{w w':World}{t u:Ty}{k1 k2:Int}{s1 s2:Value}{T:TypeId}{f1 f2:List Nat}(h1:bg w t.row [.int .i64 k1,s1] f1)(h2:bg w u.row [.int .i64 k2,s2] f2)(hd:(f1++f2).Nodup)(hB : ∀b∈f1++f2,B≤b)(hBw:B≤w.heap.size)
  (hk:Below w.heap.size w w') (hh:w'.heap[w.heap.size]?=some (.cells #[.int .i64 k1,s1,.int .i64 k2,s2] T (0,0))):bj B w' [t,u] (.slice (some ⟨w.heap.size,0,none⟩) 2 2):=by
 have hr:be w (Ty.rows [t,u]) [.int .i64 k1,s1,.int .i64 k2,s2] (f1++f2):=by
  unfold Ty.rows
  refine⟨[_,_],[_,_],f1,f2,rfl,rfl,h1,?_⟩
  unfold Ty.rows
  refine⟨[_,_],[],f2,[],rfl,by simp,h2,?_⟩
  unfold Ty.rows
  exact⟨rfl,rfl⟩
 have hlt:=be.lt _ _ _ hr
 have hr':=hr.move _ _ _ fun b hb=>hk.block b (hlt b hb)
 have ho:aM w' w.heap.size 0 (Ty.rows [t,u]) (f1++f2):=hr'.rows _ _ _ 0 (fun i hi=>by
   simp only [World.cell?,hh]
   simp)
 obtain⟨fp,k1,k2,k3⟩:=aG.sl_mk (n:=2) (cap:=2) hh (by rw [Ty.rows_length];rfl) (Nat.le_refl _) (by unfold maxLen;omega) ho
 exact⟨fp,k1,k3 hd (fun h=>by have:=hlt _ h;omega),fun b hb=>by rcases k2 b hb with rfl | hb;exact hBw;exact hB b hb⟩
def ground (k:Int):Ty:=if k=4∨k=5 then .mk k [.mk 1 [],.mk 1 []] else .mk k []
end Go.Proofs.Ytnaoghknnenfoaa
namespace Go.Proofs.Ytnaoghknnenfoaa
open Go.RowKit
mutual
def Ty.cons:Ty→Ty→Bool
 | .mk k ts,.mk l us=>k==1||l==1||(k==l&&Ty.conss ts us)
def Ty.conss:List Ty→List Ty→Bool
 | [],[]=>true
 | t :: ts,u :: us=>t.cons u&&Ty.conss ts us
 | _,_=>false
end
mutual
def Ty.prec:Ty→Ty→Bool
 | .mk k ts,.mk l us=>l==1||(k==l&&Ty.precs ts us)
def Ty.precs:List Ty→List Ty→Bool
 | [],[]=>true
 | t :: ts,u :: us=>t.prec u&&Ty.precs ts us
 | _,_=>false
end
theorem Ty.conss_all2 : ∀ts us:List Ty,cC Ty.cons ts us=Ty.conss ts us
 | [],[]=>by unfold Ty.conss;rfl
 | [],_ :: _=>by unfold Ty.conss;rfl
 | _ :: _,[]=>by unfold Ty.conss;rfl
 | t :: ts,u :: us=>by unfold Ty.conss cC;rw [Ty.conss_all2 ts us]
theorem Ty.precs_all2 : ∀ts us:List Ty,cC Ty.prec ts us=Ty.precs ts us
 | [],[]=>by unfold Ty.precs;rfl
 | [],_ :: _=>by unfold Ty.precs;rfl
 | _ :: _,[]=>by unfold Ty.precs;rfl
 | t :: ts,u :: us=>by unfold Ty.precs cC;rw [Ty.precs_all2 ts us]
set_option maxHeartbeats 1000000 in
theorem dz (F G:Nat→Prop)(t:Ty) : ∀(u:Ty) (y z:Value) (w:World),ap F w t y→ap G w u z →
  Calls Try.prog 75 #[y,z] w fun e w'=>e = .returned (.bool (t.cons u))∧Below w.heap.size w w':=by
 intro u y z w hy hz
 have IH : ∀t'∈t.kids,∀u'∈u.kids,∀(W:World) (y z:Value),ap F W t' y→ap G W u' z→Calls Try.prog 75 #[y,z] W fun e W'=>e = .returned (.bool (t'.cons u'))∧Below W.heap.size W W':=
  fun t' ht u' _ W y z a b=>dz F G t' u' y z W a b
 obtain⟨a,cap,rfl,h2,h3,h4⟩:=hy.open
 obtain⟨c,cap',rfl,g2,g3,g4⟩:=hz.open
 clear hy hz
 cases t with | mk k ts=>cases u with | mk l us=>
 simp only [Ty.kind,Ty.kids] at *
 have HC:=fun W (h:Below w.heap.size w W)=>du _ _ F G ts us _ _ W (h4.below h) (g4.below h) Try.call75 IH
 generalize ts.length=n at *
 generalize us.length=m at *
 unfold Ty.cons
 by_cases hk1:k=1
 ·subst hk1
  clear HC IH
  go_enter Try.func75,Try.ntmps75
  go_wp2_with fail
  go_ret
  exact⟨au (by simp),aI⟩
 have g1:(k==1)=false:=by simpa using hk1
 by_cases hl1:l=1
 ·subst hl1
  clear HC IH
  go_enter Try.func75,Try.ntmps75
  go_wp2_with fail
  go_ret
  exact⟨au (by simp),aI⟩
 have g2:(l==1)=false:=by simpa using hl1
 by_cases hk:k=l
 ·subst hk
  rw [Ty.conss_all2] at HC
  generalize Ty.conss ts us=r at *
  have H:=Lib.hid HC
  clear HC IH
  clear hl1 hk1
  go_enter Try.func75,Try.ntmps75
  go_wp2_with fail
  refine(H.out _ aI).mono ?_
  rintro e w1 ⟨rfl,hb1⟩
  go_wp2_with fail
  go_ret
  exact⟨au (by simp [g2]),ai aI hb1⟩
 ·have hkl:(k==l)=false:=by simpa using hk
  clear hk HC IH hl1 hk1
  go_enter Try.func75,Try.ntmps75
  go_wp2_with fail
  go_ret
  exact⟨au (by simp [hkl,g2,g1]),aI⟩
termination_by SizeOf.sizeOf t
decreasing_by exact Ty.kid_lt ht
set_option maxHeartbeats 2000000 in
theorem dn (F G:Nat→Prop)(t:Ty) : ∀(u:Ty) (d d':Int) (y z:Value) (w:World),ap F w t y→ap G w u z→t.shape d=true→u.shape d'=true →
  Calls Try.prog 42 #[y,z] w fun e w'=>e = .returned (.bool (t.cons u))∧Below w.heap.size w w':=by
 intro u d d' y z w hy hz sy sz
 have IH : ∀t'∈t.kids,∀u'∈u.kids,∀(d d':Int) (W:World) (y z:Value),ap F W t' y→ap G W u' z→t'.shape d=true→u'.shape d'=true→Calls Try.prog 42 #[y,z] W fun e W'=>e = .returned (.bool (t'.cons u'))∧Below W.heap.size W W':=
  fun t' ht u' _ d d' W y z a b c e=>dn F G t' u' d d' y z W a b c e
 obtain⟨a,cap,rfl,h2,h3,hy'⟩:=hy.open
 obtain⟨c,cap',rfl,g2',g3,hz'⟩:=hz.open
 clear hy hz
 have IHH:=Lib.hid IH
 clear IH
 cases t with | mk k ts=>cases u with | mk l us=>
 simp only [Ty.kind,Ty.kids] at *
 unfold maxLen at h3 g3
 obtain⟨-,st,sst⟩:=Ty.shape_mk sy
 obtain⟨-,su,ssu⟩:=Ty.shape_mk sz
 have SST:=Lib.hid sst
 have SSU:=Lib.hid ssu
 clear sy sz sst ssu
 unfold Ty.cons
 rw [←Ty.conss_all2]
 obtain⟨n,hn⟩ : ∃n,ts.length=n:=⟨_,rfl⟩
 obtain⟨m,hm⟩ : ∃m,us.length=m:=⟨_,rfl⟩
 rw [hn] at h2 hy' st ⊢
 rw [hm] at g2' hz' su ⊢
 have HN:=Lib.hid hn
 have HM:=Lib.hid hm
 have ST:=Lib.hid st
 have SU:=Lib.hid su
 clear hn hm st su
 by_cases hk1:k=1
 ·subst hk1
  clear IHH
  go_enter Try.func42,Try.ntmps42
  go_wp2_with fail
  go_ret
  exact⟨au (by simp),aI⟩
 have g1:(k==1)=false:=by simpa using hk1
 by_cases hl1:l=1
 ·subst hl1
  clear IHH
  go_enter Try.func42,Try.ntmps42
  go_wp2_with fail
  go_ret
  exact⟨au (by simp),aI⟩
 have g2:(l==1)=false:=by simpa using hl1
 by_cases hk:k=l
 ·subst hk
  obtain rfl:n=m:=by have:=ST.out;have:=SU.out;omega
  clear hl1 hk1
  go_enter Try.func42,Try.ntmps42
  go_wp2_with fail
  go_loopw [5] (fun i wr=>∃j:Nat,j≤n∧i = .int .i64 j∧Below w.heap.size w wr∧wr.cell? ⟨w.heap.size,1,none⟩=some (.slice a n cap)∧wr.cell? ⟨w.heap.size+1,1,none⟩=some (.slice c n cap')∧w.heap.size+1<wr.heap.size∧Hid (cC Ty.cons ts us=cC Ty.cons (ts.drop j) (us.drop j))) (fun i _=>n-(intOf i).toNat)
  case atStart=>exact⟨0,by omega,rfl,aI,by simp,by simp,by simp,rfl⟩
  case round=>
   obtain⟨j,hj,rfl,hbw,hc1,hc2,hsz,hR⟩:=hrel
   by_cases hlt:j<n
   ·have hkt:j<ts.length:=by rw [HN.out];exact hlt
    have hku:j<us.length:=by rw [HM.out];exact hlt
    obtain⟨b,off,k0,a0,m0,q0,rfl,l0,e0,e1,ht⟩:=hy'.at hbw hkt
    obtain⟨b',off',k0',a0',m0',q0',rfl,l0',e0',e1',hu⟩:=hz'.at hbw hku
    have hcall:=fun W (h:Below wr.heap.size wr W)=>IHH.out ts[j] (List.getElem_mem hkt) us[j] (List.getElem_mem hku) _ _ W _ _ (ht.below h) (hu.below h) (Ty.shapes_mem SST.out (List.getElem_mem hkt)) (Ty.shapes_mem SSU.out (List.getElem_mem hku))
    have hstep:=hR.out.trans (fl Ty.cons ts us j hkt hku)
    generalize ts[j].cons us[j]=r at hcall hstep
    have HC:=Lib.hid hcall
    have HS:=Lib.hid hstep
    clear hcall hstep hR
    cases r
    all_goals
     go_wp2_with fail
     go_region_held3 (fun w'=>w'.cell? ⟨w.heap.size,1,none⟩=some (.slice (some ⟨b,off,none⟩) n cap)∧w'.cell? ⟨w.heap.size+1,1,none⟩=some (.slice (some ⟨b',off',none⟩) n cap')∧w'.cell? ⟨b,off+j*2,none⟩=some (.int .i64 k0)∧w'.cell? ⟨b,off+j*2+1,none⟩=some (.slice a0 m0 q0)∧w'.cell? ⟨b',off'+j*2,none⟩=some (.int .i64 k0')∧w'.cell? ⟨b',off'+j*2+1,none⟩=some (.slice a0' m0' q0'))
      (first | go_keep | exact⟨bX hb1 hc1,bX hb1 hc2,bX hb1 e0,bX hb1 e1,bX hb1 e0',bX hb1 e1'⟩)
      (first | (go_at_call 42;refine(HC.out _ bdr).mono ?_;rintro e w1 ⟨rfl,hb1⟩))
     go_wp2_with fail
    ·go_ret
     exact⟨au (by rw [HS.out];simpa using g2),lh hbw hb1⟩
    ·go_roundw
     case rel=>exact⟨j+1,by omega,by go_num,lh hbw hb1,bX hb1 hc1,bX hb1 hc2,Nat.lt_of_lt_of_le hsz hb1.size,by rw [Hid,HS.out];rfl⟩
     case measure=>simp [intOf];omega
   ·go_wp2_with fail
    go_ret
    exact⟨au (by rw [hR.out,im _ _ _ _ (by rw [HN.out];omega) (by rw [HM.out];omega)];simp),hbw⟩
 ·have hkl:(k==l)=false:=by simpa using hk
  have hkl':(k != l)=true:=by simpa using hk
  clear hk hl1 hk1
  go_enter Try.func42,Try.ntmps42
  go_wp2_with fail
  go_ret
  exact⟨au (by simp [hkl,g2,g1]),aI⟩
termination_by SizeOf.sizeOf t
decreasing_by exact Ty.kid_lt ht
end Go.Proofs.Ytnaoghknnenfoaa
namespace Go.Proofs.Ytnaoghknnenfoaa
open Go.RowKit
end Go.Proofs.Ytnaoghknnenfoaa
namespace Go.Proofs.Ytnaoghknnenfoaa
open Go.RowKit
end Go.Proofs.Ytnaoghknnenfoaa
namespace Go.Proofs.Ytnaoghknnenfoaa
open Go.RowKit
mutual
def Ty.any:Ty→Nat
 | .mk k ts=>if k=1 then 1 else Ty.anys ts
def Ty.anys:List Ty→Nat
 | []=>0
 | t :: ts=>t.any+Ty.anys ts
end
end Go.Proofs.Ytnaoghknnenfoaa
namespace Go.Proofs.Ytnaoghknnenfoaa
open Go.RowKit
set_option maxHeartbeats 1000000 in
theorem gi (F G:Nat→Prop)(t:Ty) : ∀(u:Ty) (y z:Value) (w:World),ap F w t y→ap G w u z →
  Calls Try.prog 14 #[y,z] w fun e w'=>e = .returned (.bool (t.prec u))∧Below w.heap.size w w':=by
 intro u y z w hy hz
 have IH : ∀t'∈t.kids,∀u'∈u.kids,∀(W:World) (y z:Value),ap F W t' y→ap G W u' z→Calls Try.prog 14 #[y,z] W fun e W'=>e = .returned (.bool (t'.prec u'))∧Below W.heap.size W W':=
  fun t' ht u' _ W y z a b=>gi F G t' u' y z W a b
 obtain⟨a,cap,rfl,h2,h3,h4⟩:=hy.open
 obtain⟨c,cap',rfl,g2,g3,g4⟩:=hz.open
 clear hy hz
 cases t with | mk k ts=>cases u with | mk l us=>
 simp only [Ty.kind,Ty.kids] at *
 have HC:=fun W (h:Below w.heap.size w W)=>du _ _ F G ts us _ _ W (h4.below h) (g4.below h) Try.call14 IH
 generalize ts.length=n at *
 generalize us.length=m at *
 unfold Ty.prec
 by_cases hl1:l=1
 ·subst hl1
  clear HC IH
  go_enter Try.func14,Try.ntmps14
  go_wp2_with fail
  go_ret
  exact⟨au (by simp),aI⟩
 have g2:(l==1)=false:=by simpa using hl1
 by_cases hk:k=l
 ·subst hk
  rw [Ty.precs_all2] at HC
  generalize Ty.precs ts us=r at *
  have H:=Lib.hid HC
  clear HC IH
  clear hl1
  go_enter Try.func14,Try.ntmps14
  go_wp2_with fail
  refine(H.out _ aI).mono ?_
  rintro e w1 ⟨rfl,hb1⟩
  go_wp2_with fail
  go_ret
  exact⟨au (by simp [g2]),ai aI hb1⟩
 ·have hkl:(k==l)=false:=by simpa using hk
  clear hk HC IH hl1
  go_enter Try.func14,Try.ntmps14
  go_wp2_with fail
  go_ret
  exact⟨au (by simp [hkl,g2]),aI⟩
termination_by SizeOf.sizeOf t
decreasing_by exact Ty.kid_lt ht
set_option maxHeartbeats 2000000 in
theorem es (F G:Nat→Prop)(t:Ty) : ∀(u:Ty) (d d':Int) (y z:Value) (w:World),ap F w t y→ap G w u z→t.shape d=true→u.shape d'=true →
  Calls Try.prog 36 #[y,z] w fun e w'=>e = .returned (.bool (t.prec u))∧Below w.heap.size w w':=by
 intro u d d' y z w hy hz sy sz
 have IH : ∀t'∈t.kids,∀u'∈u.kids,∀(d d':Int) (W:World) (y z:Value),ap F W t' y→ap G W u' z→t'.shape d=true→u'.shape d'=true→Calls Try.prog 36 #[y,z] W fun e W'=>e = .returned (.bool (t'.prec u'))∧Below W.heap.size W W':=
  fun t' ht u' _ d d' W y z a b c e=>es F G t' u' d d' y z W a b c e
 obtain⟨a,cap,rfl,h2,h3,hy'⟩:=hy.open
 obtain⟨c,cap',rfl,g2',g3,hz'⟩:=hz.open
 clear hy hz
 have IHH:=Lib.hid IH
 clear IH
 cases t with | mk k ts=>cases u with | mk l us=>
 simp only [Ty.kind,Ty.kids] at *
 unfold maxLen at h3 g3
 obtain⟨-,st,sst⟩:=Ty.shape_mk sy
 obtain⟨-,su,ssu⟩:=Ty.shape_mk sz
 have SST:=Lib.hid sst
 have SSU:=Lib.hid ssu
 clear sy sz sst ssu
 unfold Ty.prec
 rw [←Ty.precs_all2]
 obtain⟨n,hn⟩ : ∃n,ts.length=n:=⟨_,rfl⟩
 obtain⟨m,hm⟩ : ∃m,us.length=m:=⟨_,rfl⟩
 rw [hn] at h2 hy' st ⊢
 rw [hm] at g2' hz' su ⊢
 have HN:=Lib.hid hn
 have HM:=Lib.hid hm
 have ST:=Lib.hid st
 have SU:=Lib.hid su
 clear hn hm st su
 by_cases hl1:l=1
 ·subst hl1
  clear IHH
  go_enter Try.func36,Try.ntmps36
  go_wp2_with fail
  go_ret
  exact⟨au (by simp),aI⟩
 have g2:(l==1)=false:=by simpa using hl1
 by_cases hk:k=l
 ·subst hk
  obtain rfl:n=m:=by have:=ST.out;have:=SU.out;omega
  clear hl1
  go_enter Try.func36,Try.ntmps36
  go_wp2_with fail
  go_loopw [5] (fun i wr=>∃j:Nat,j≤n∧i = .int .i64 j∧Below w.heap.size w wr∧wr.cell? ⟨w.heap.size,1,none⟩=some (.slice a n cap)∧wr.cell? ⟨w.heap.size+1,1,none⟩=some (.slice c n cap')∧w.heap.size+1<wr.heap.size∧Hid (cC Ty.prec ts us=cC Ty.prec (ts.drop j) (us.drop j))) (fun i _=>n-(intOf i).toNat)
  case atStart=>exact⟨0,by omega,rfl,aI,by simp,by simp,by simp,rfl⟩
  case round=>
   obtain⟨j,hj,rfl,hbw,hc1,hc2,hsz,hR⟩:=hrel
   by_cases hlt:j<n
   ·have hkt:j<ts.length:=by rw [HN.out];exact hlt
    have hku:j<us.length:=by rw [HM.out];exact hlt
    obtain⟨b,off,k0,a0,m0,q0,rfl,l0,e0,e1,ht⟩:=hy'.at hbw hkt
    obtain⟨b',off',k0',a0',m0',q0',rfl,l0',e0',e1',hu⟩:=hz'.at hbw hku
    have hcall:=fun W (h:Below wr.heap.size wr W)=>IHH.out ts[j] (List.getElem_mem hkt) us[j] (List.getElem_mem hku) _ _ W _ _ (ht.below h) (hu.below h) (Ty.shapes_mem SST.out (List.getElem_mem hkt)) (Ty.shapes_mem SSU.out (List.getElem_mem hku))
    have hstep:=hR.out.trans (fl Ty.prec ts us j hkt hku)
    generalize ts[j].prec us[j]=r at hcall hstep
    have HC:=Lib.hid hcall
    have HS:=Lib.hid hstep
    clear hcall hstep hR
    cases r
    all_goals
     go_wp2_with fail
     go_region_held3 (fun w'=>w'.cell? ⟨w.heap.size,1,none⟩=some (.slice (some ⟨b,off,none⟩) n cap)∧w'.cell? ⟨w.heap.size+1,1,none⟩=some (.slice (some ⟨b',off',none⟩) n cap')∧w'.cell? ⟨b,off+j*2,none⟩=some (.int .i64 k0)∧w'.cell? ⟨b,off+j*2+1,none⟩=some (.slice a0 m0 q0)∧w'.cell? ⟨b',off'+j*2,none⟩=some (.int .i64 k0')∧w'.cell? ⟨b',off'+j*2+1,none⟩=some (.slice a0' m0' q0'))
      (first | go_keep | exact⟨bX hb1 hc1,bX hb1 hc2,bX hb1 e0,bX hb1 e1,bX hb1 e0',bX hb1 e1'⟩)
      (first | (go_at_call 36;refine(HC.out _ bdr).mono ?_;rintro e w1 ⟨rfl,hb1⟩))
     go_wp2_with fail
    ·go_ret
     exact⟨au (by rw [HS.out];simpa using g2),lh hbw hb1⟩
    ·go_roundw
     case rel=>exact⟨j+1,by omega,by go_num,lh hbw hb1,bX hb1 hc1,bX hb1 hc2,Nat.lt_of_lt_of_le hsz hb1.size,by rw [Hid,HS.out];rfl⟩
     case measure=>simp [intOf];omega
   ·go_wp2_with fail
    go_ret
    exact⟨au (by rw [hR.out,im _ _ _ _ (by rw [HN.out];omega) (by rw [HM.out];omega)];simp),hbw⟩
 ·have hkl:(k==l)=false:=by simpa using hk
  have hkl':(k != l)=true:=by simpa using hk
  clear hk hl1
  go_enter Try.func36,Try.ntmps36
  go_wp2_with fail
  go_ret
  exact⟨au (by simp [hkl,g2]),aI⟩
termination_by SizeOf.sizeOf t
decreasing_by exact Ty.kid_lt ht
end Go.Proofs.Ytnaoghknnenfoaa
namespace Go.Proofs.Ytnaoghknnenfoaa
open Go.RowKit
end Go.Proofs.Ytnaoghknnenfoaa
namespace Go.Proofs.Ytnaoghknnenfoaa
open Go.RowKit
set_option maxHeartbeats 400000 in
theorem dr (F G:Nat→Prop)(t:Ty) : ∀(u:Ty) (y z:Value) (w:World),ap F w t y→ap G w u z →
  Calls Try.prog 22 #[y,z] w fun e w'=>e = .returned (.bool (t.same u))∧Below w.heap.size w w':=by
 intro u y z w hy hz
 have IH : ∀t'∈t.kids,∀u'∈u.kids,∀(W:World) (y z:Value),ap F W t' y→ap G W u' z→Calls Try.prog 22 #[y,z] W fun e W'=>e = .returned (.bool (t'.same u'))∧Below W.heap.size W W':=
  fun t' ht u' _ W y z a b=>dr F G t' u' y z W a b
 obtain⟨a,cap,rfl,h2,h3,h4⟩:=hy.open
 obtain⟨c,cap',rfl,g2,g3,g4⟩:=hz.open
 clear hy hz
 cases t with | mk k ts=>cases u with | mk l us=>
 simp only [Ty.kind,Ty.kids] at *
 have HC:=fun W (h:Below w.heap.size w W)=>du _ _ F G ts us _ _ W (h4.below h) (g4.below h) Try.call22 IH
 have H:=Lib.hid HC
 clear HC IH
 generalize ts.length=n at *
 generalize us.length=m at *
 unfold Ty.same
 by_cases hk:k=l
 ·subst hk
  go_enter Try.func22,Try.ntmps22
  go_wp2_with fail
  refine(H.out _ aI).mono ?_
  rintro e w1 ⟨rfl,hb1⟩
  go_wp2_with fail
  go_ret
  exact⟨au (by rw [Ty.sames_all2];simp),ai aI hb1⟩
 ·have hkl:(k==l)=false:=by simpa using hk
  clear hk
  go_enter Try.func22,Try.ntmps22
  go_wp2_with fail
  go_ret
  exact⟨au (by simp [hkl]),aI⟩
termination_by SizeOf.sizeOf t
decreasing_by exact Ty.kid_lt ht
end Go.Proofs.Ytnaoghknnenfoaa

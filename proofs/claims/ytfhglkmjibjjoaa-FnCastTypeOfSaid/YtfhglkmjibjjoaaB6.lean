/- Arguments read as data: slices of rows. And what else its parts name. -/
import Derived.ProofKit
import Derived.OpenShut
import Derived.ShutString
import Derived.ChangeOld
import Derived.Test.YtfhglkmjibjjoaaB3
import Derived.Test.YtfhglkmjibjjoaaB0
set_option linter.unusedSimpArgs false
set_option linter.unusedVariables false
set_option maxRecDepth 100000
set_option maxHeartbeats 16000000
namespace Go.Proofs.Ytfhglkmjibjjoaa
open Go.RowKit Go.ChangeShapes Go.WideShapes
theorem l7 {a:Addr}(n:Nat)(h:a.spot=none):a.add n=⟨a.block,a.off+n,none⟩:=by
 unfold Addr.add
 split
 ·rename_i h0;subst h0;cases a;simp at h;subst h;rfl
 ·rfl
theorem mC {w:World}{a:Addr}{v:Value}(h:w.cell? a=some v):a.spot=none:=by
 unfold World.cell? at h
 split at h
 ·split at h
  ·cases h
  ·rename_i hs;simpa using hs
 ·cases h
theorem cn.cells {F:Nat->Prop}{w:World}{b:Nat} : ∀(r:List C) (ys:List Value) (off:Nat),cn F w r ys->(∀i,i<ys.length->w.cell? ⟨b,off+i,none⟩=ys[i]?)->aP F w b off r
 | [],_,_,_,_=>by unfold aP;trivial
 | c::cs,_,off,⟨z,zs,e,h1,h2⟩,k=>by
  subst e;unfold aP;refine⟨⟨z,by simpa using k 0 (by simp),h1⟩,cn.cells cs zs _ h2 fun i hi=>?_⟩;have:=k (i+1) (by simpa using hi);rw[show off+1+i=off+(i+1) from by omega]
  simpa using this
section
variable {H:Type} {enc:TypeId × Value->H} {w:World} {base:Nat} {held:Bool} {spare:Nat->Bool}
end
section
variable {H:Type} {enc:TypeId × Value->H} {P:Program}
theorem iQ {t:TypeId}(hl:laidOutB P=true)(hr:P.readableRec t=true)(hrow:t<P.types.size){W W':World}{v:Value}{d:DataW H}{ps:List MemPlace}
  (h:DataW.Trod enc P W 0 (fun _=>true) true t v d ps) (hb:Below W.heap.size W W') :
  DataW.Trod enc P W' 0 (fun b=>decide (b<W.heap.size)) true t v d ps:=
 Below.trod hl hr hrow h hb (by obtain⟨m,hm⟩:=h;exact DataW.trod_lt m _ _ _ hm)
end
end Go.Proofs.Ytfhglkmjibjjoaa
namespace Go.Proofs.Ytfhglkmjibjjoaa
open Go.RowKit
theorem Ty.shapes_mem : ∀ {ts:List Ty} {d:Int} {t:Ty},Ty.shapes ts d=true->t∈ts->t.shape d=true
 | u::ts,d,t,h,ht=>by
  unfold Ty.shapes at h;simp only[Bool.and_eq_true] at h
  rcases List.mem_cons.1 ht with rfl | ht
  ·exact h.1
  ·exact Ty.shapes_mem h.2 ht
theorem iK (k:Int):bK k<=2:=by unfold bK;split;omega;split<;>omega
mutual
theorem Ty.cnt_shape : ∀(t:Ty) (n:Nat),t.shape n=true->t.cnt+2<=2 ^ n
 | .mk k ts,n,h=>by
  obtain⟨h1,h2,h3⟩:=Ty.shape_mk h;obtain⟨m,rfl⟩ : ∃m,n=m+1:=⟨n-1,by omega⟩
  rw[show((m+1:Nat):Int)-1=(m:Int) from by omega] at h3;have h4:=Ty.cnts_shape ts m h3;have h5:=iK k;unfold Ty.cnt;have:2 ^ (m+1)=2*2 ^ m:=by rw[Nat.pow_succ];omega
  have h6:ts.length=0∨ts.length=1∨ts.length=2:=by omega
  have h7:1<=2 ^ m:=Nat.one_le_two_pow
  rcases h6 with h6 | h6 | h6<;>rw[h6] at h4 ⊢ <;> omega
theorem Ty.cnts_shape : ∀(ts:List Ty) (n:Nat),Ty.shapes ts n=true->Ty.cnts ts+2*ts.length<=ts.length*2 ^ n
 | [],_,_=>by simp[Ty.cnts]
 | t::ts,n,h=>by
  unfold Ty.shapes at h;simp only[Bool.and_eq_true] at h;have h1:=Ty.cnt_shape t n h.1;have h2:=Ty.cnts_shape ts n h.2;simp only[Ty.cnts,List.length_cons,Nat.add_mul]
  omega
end
theorem Ty.cnt_valid {t:Ty}(h:t.valid=true):t.cnt<=1048576:=by
 have:=Ty.cnt_shape t 4 h
 omega
theorem bx.nil (B:Nat)(w:World):bx B w [] (.slice none 0 0):=⟨[],aQ.sl_nil (by unfold maxLen;omega),List.nodup_nil,by simp⟩
theorem cX (w:World):Calls Try.prog 47 #[] w (cJ (.mk 1 []) w):=by
 go_enter Try.func47,Try.ntmps47
 go_wp2_with fail
 refine bq (.agg #[.int .i64 1,.slice none 0 0]) (by simp[results,Try.results47,go_sem]) ?_
 exact⟨_,rfl,bp.mono (bx.ty (bx.nil _ _)) (Nat.le_refl _),ag⟩
theorem bx.two {B:Nat}{w w':World}{t u:Ty}{k1 k2:Int}{s1 s2:Value}{T:TypeId}{f1 f2:List Nat}(h1:bL w t.row [.int .i64 k1,s1] f1)(h2:bL w u.row [.int .i64 k2,s2] f2)(hd:(f1++f2).Nodup)(hB : ∀b∈f1++f2,B<=b)(hBw:B<=w.heap.size)
  (hk:Below w.heap.size w w') (hh:w'.heap[w.heap.size]?=some (.cells #[.int .i64 k1,s1,.int .i64 k2,s2] T (0,0))):bx B w' [t,u] (.slice (some ⟨w.heap.size,0,none⟩) 2 2):=by
 have hr:bE w (Ty.rows [t,u]) [.int .i64 k1,s1,.int .i64 k2,s2] (f1++f2):=by
  unfold Ty.rows;refine⟨[_,_],[_,_],f1,f2,rfl,rfl,h1,?_⟩;unfold Ty.rows;refine⟨[_,_],[],f2,[],rfl,by simp,h2,?_⟩;unfold Ty.rows
  exact⟨rfl,rfl⟩
 have hlt:=bE.lt _ _ _ hr;have hr':=hr.move _ _ _ fun b hb=>hk.block b (hlt b hb);have ho:aK w' w.heap.size 0 (Ty.rows [t,u]) (f1++f2):=hr'.rows _ _ _ 0 (fun i hi=>by
   simp only[World.cell?,hh]
   simp)
 obtain⟨fp,k1,k2,k3⟩:=aQ.sl_mk (n:=2) (cap:=2) hh (by rw[Ty.rows_length];rfl) (Nat.le_refl _) (by unfold maxLen;omega) ho
 exact⟨fp,k1,k3 hd (fun h=>by have:=hlt _ h;omega),fun b hb=>by rcases k2 b hb with rfl | hb;exact hBw;exact hB b hb⟩
theorem oo (B:Nat)(kk:Int)(t u:Ty)(y z:Value)(w:World)(f1 f2:List Nat)(hy:cb w t y f1)(hz:cb w u z f2)(hd:(f1++f2).Nodup)(hB : ∀b∈f1++f2,B<=b)(hBw:B<=w.heap.size) :
  Calls Try.prog 51 #[.int .i64 kk,y,z] w fun e w'=>∃v,e = .returned v∧bp B w' (.mk kk [t,u]) v∧Below w.heap.size w w':=by
 obtain⟨k1,a1,n1,q1,rfl,-,-⟩:=hy.shape;obtain⟨k2,a2,n2,q2,rfl,-,-⟩:=hz.shape;have h1:=cb.cells (hy.below (bG (o:=.cells #[.int .i64 k1,.slice a1 n1 q1] 25) (o':=.cells #[.int .i64 k2,.slice a2 n2 q2] 25) (o2:=.cells #[.int .i64 kk,.slice (some ⟨w.heap.size+1+1+1,0,none⟩) 2 2] 25)));have h2:=cb.cells (hz.below (bG (o:=.cells #[.int .i64 k1,.slice a1 n1 q1] 25) (o':=.cells #[.int .i64 k2,.slice a2 n2 q2] 25) (o2:=.cells #[.int .i64 kk,.slice (some ⟨w.heap.size+1+1+1,0,none⟩) 2 2] 25)));have h:=bx.two (B:=B) (T:=25) h1 h2 hd hB (by simp;omega) (ag (o:=.cells #[.int .i64 k1,.slice a1 n1 q1,.int .i64 k2,.slice a2 n2 q2] 25)) (heap_alloc_new _ _);have e : ∀o1 o2 o3,(((w.alloc o1).alloc o2).alloc o3).heap.size=w.heap.size+1+1+1:=by intros;simp
 rw[e] at h;have HH:=zq h;clear h h1 h2 e hy hz hd hB
 go_enter Try.func51,Try.ntmps51
 go_wp2_with fail
 refine bq (.agg #[.int .i64 kk,.slice (some ⟨w.heap.size+1+1+1,0,none⟩) 2 2]) (by simp[results,Try.results51,go_sem]) ?_
 exact⟨_,rfl,bx.ty HH.out,al bG ag⟩
mutual
def Ty.cons:Ty->Ty->Bool
 | .mk k ts,.mk l us=>k==1||l==1||(k==l&&Ty.conss ts us)
def Ty.conss:List Ty->List Ty->Bool
 | [],[]=>true
 | t::ts,u::us=>t.cons u&&Ty.conss ts us
 | _,_=>false
end
theorem Ty.conss_all2 : ∀ts us:List Ty,de Ty.cons ts us=Ty.conss ts us
 | [],[]=>by unfold Ty.conss;rfl
 | [],_::_=>by unfold Ty.conss;rfl
 | _::_,[]=>by unfold Ty.conss;rfl
 | t::ts,u::us=>by unfold Ty.conss de;rw[Ty.conss_all2 ts us]
theorem aU (F G:Nat->Prop)(t:Ty) : ∀(u:Ty) (y z:Value) (w:World),ai F w t y->ai G w u z ->
  Calls Try.prog 21 #[y,z] w fun e w'=>e = .returned (.bool (t.cons u))∧Below w.heap.size w w':=by
 intro u y z w hy hz;have IH : ∀t'∈t.kids,∀u'∈u.kids,∀(W:World) (y z:Value),ai F W t' y->ai G W u' z->Calls Try.prog 21 #[y,z] W fun e W'=>e = .returned (.bool (t'.cons u'))∧Below W.heap.size W W':=
  fun t' ht u' _ W y z a b=>aU F G t' u' y z W a b
 obtain⟨a,cap,rfl,h2,h3,h4⟩:=hy.open;obtain⟨c,cap',rfl,g2,g3,g4⟩:=hz.open;clear hy hz
 cases t with | mk k ts=>cases u with | mk l us=>
 simp only[Ty.kind,Ty.kids] at *;have HC:=fun W (h:Below w.heap.size w W)=>fJ _ _ F G ts us _ _ W (h4.below h) (g4.below h) Try.call21 IH;generalize ts.length=n at *;generalize us.length=m at *;unfold Ty.cons
 by_cases hk1:k=1
 ·subst hk1
  clear HC IH
  go_enter Try.func21,Try.ntmps21
  go_wp2_with fail
  go_ret
  exact⟨au (by simp),aZ⟩
 have g1:(k==1)=false:=by simpa using hk1
 by_cases hl1:l=1
 ·subst hl1
  clear HC IH
  go_enter Try.func21,Try.ntmps21
  go_wp2_with fail
  go_ret
  exact⟨au (by simp),aZ⟩
 have g2:(l==1)=false:=by simpa using hl1
 by_cases hk:k=l
 ·subst hk
  rw[Ty.conss_all2] at HC;generalize Ty.conss ts us=r at *;have H:=zq HC;clear HC IH;clear hl1 hk1
  go_enter Try.func21,Try.ntmps21
  go_wp2_with fail
  refine(H.out _ aZ).mono ?_;rintro e w1 ⟨rfl,hb1⟩
  go_wp2_with fail
  go_ret
  exact⟨au (by simp[g2]),al aZ hb1⟩
 ·have hkl:(k==l)=false:=by simpa using hk
  clear hk HC IH hl1 hk1
  go_enter Try.func21,Try.ntmps21
  go_wp2_with fail
  go_ret
  exact⟨au (by simp[hkl,g2,g1]),aZ⟩
termination_by SizeOf.sizeOf t
decreasing_by exact Ty.kid_lt ht
theorem dr (F G:Nat->Prop)(t:Ty) : ∀(u:Ty) (d d':Int) (y z:Value) (w:World),ai F w t y->ai G w u z->t.shape d=true->u.shape d'=true ->
  Calls Try.prog 44 #[y,z] w fun e w'=>e = .returned (.bool (t.cons u))∧Below w.heap.size w w':=by
 intro u d d' y z w hy hz sy sz;have IH : ∀t'∈t.kids,∀u'∈u.kids,∀(d d':Int) (W:World) (y z:Value),ai F W t' y->ai G W u' z->t'.shape d=true->u'.shape d'=true->Calls Try.prog 44 #[y,z] W fun e W'=>e = .returned (.bool (t'.cons u'))∧Below W.heap.size W W':=
  fun t' ht u' _ d d' W y z a b c e=>dr F G t' u' d d' y z W a b c e
 obtain⟨a,cap,rfl,h2,h3,hy'⟩:=hy.open;obtain⟨c,cap',rfl,g2',g3,hz'⟩:=hz.open;clear hy hz;have IHH:=zq IH;clear IH
 cases t with | mk k ts=>cases u with | mk l us=>
 simp only[Ty.kind,Ty.kids] at *;unfold maxLen at h3 g3;obtain⟨-,st,sst⟩:=Ty.shape_mk sy;obtain⟨-,su,ssu⟩:=Ty.shape_mk sz;have SST:=zq sst;have SSU:=zq ssu;clear sy sz sst ssu;unfold Ty.cons;rw[<-Ty.conss_all2];obtain⟨n,hn⟩ : ∃n,ts.length=n:=⟨_,rfl⟩
 obtain⟨m,hm⟩ : ∃m,us.length=m:=⟨_,rfl⟩
 rw[hn] at h2 hy' st ⊢;rw[hm] at g2' hz' su ⊢;have HN:=zq hn;have HM:=zq hm;have ST:=zq st;have SU:=zq su;clear hn hm st su
 by_cases hk1:k=1
 ·subst hk1
  clear IHH
  go_enter Try.func44,Try.ntmps44
  go_wp2_with fail
  go_ret
  exact⟨au (by simp),aZ⟩
 have g1:(k==1)=false:=by simpa using hk1
 by_cases hl1:l=1
 ·subst hl1
  clear IHH
  go_enter Try.func44,Try.ntmps44
  go_wp2_with fail
  go_ret
  exact⟨au (by simp),aZ⟩
 have g2:(l==1)=false:=by simpa using hl1
 by_cases hk:k=l
 ·subst hk
  obtain rfl:n=m:=by have:=ST.out;have:=SU.out;omega
  clear hl1 hk1
  go_enter Try.func44,Try.ntmps44
  go_wp2_with fail
  go_loopw [5] (fun i wr=>∃j:Nat,j<=n∧i = .int .i64 j∧Below w.heap.size w wr∧wr.cell? ⟨w.heap.size,1,none⟩=some (.slice a n cap)∧wr.cell? ⟨w.heap.size+1,1,none⟩=some (.slice c n cap')∧w.heap.size+1<wr.heap.size∧Hid (de Ty.cons ts us=de Ty.cons (ts.drop j) (us.drop j))) (fun i _=>n-(intOf i).toNat)
  case atStart=>exact⟨0,by omega,rfl,aZ,by simp,by simp,by simp,rfl⟩
  case round=>
   obtain⟨j,hj,rfl,hbw,hc1,hc2,hsz,hR⟩:=hrel
   by_cases hlt:j<n
   ·have hkt:j<ts.length:=by rw[HN.out];exact hlt
    have hku:j<us.length:=by rw[HM.out];exact hlt
    obtain⟨b,off,k0,a0,m0,q0,rfl,l0,e0,e1,ht⟩:=hy'.at hbw hkt;obtain⟨b',off',k0',a0',m0',q0',rfl,l0',e0',e1',hu⟩:=hz'.at hbw hku;have hcall:=fun W (h:Below wr.heap.size wr W)=>IHH.out ts[j] (List.getElem_mem hkt) us[j] (List.getElem_mem hku) _ _ W _ _ (ht.below h) (hu.below h) (Ty.shapes_mem SST.out (List.getElem_mem hkt)) (Ty.shapes_mem SSU.out (List.getElem_mem hku));have hstep:=hR.out.trans (fz Ty.cons ts us j hkt hku);generalize ts[j].cons us[j]=r at hcall hstep;have HC:=zq hcall;have HS:=zq hstep;clear hcall hstep hR
    cases r
    all_goals
     go_wp2_with fail
     go_region_held3 (fun w'=>w'.cell? ⟨w.heap.size,1,none⟩=some (.slice (some ⟨b,off,none⟩) n cap)∧w'.cell? ⟨w.heap.size+1,1,none⟩=some (.slice (some ⟨b',off',none⟩) n cap')∧w'.cell? ⟨b,off+j*2,none⟩=some (.int .i64 k0)∧w'.cell? ⟨b,off+j*2+1,none⟩=some (.slice a0 m0 q0)∧w'.cell? ⟨b',off'+j*2,none⟩=some (.int .i64 k0')∧w'.cell? ⟨b',off'+j*2+1,none⟩=some (.slice a0' m0' q0'))
      (first | go_keep | exact⟨cE hb1 hc1,cE hb1 hc2,cE hb1 e0,cE hb1 e1,cE hb1 e0',cE hb1 e1'⟩)
      (first | (go_at_call 44;refine(HC.out _ bdr).mono ?_;rintro e w1 ⟨rfl,hb1⟩))
     go_wp2_with fail
    ·go_ret
     exact⟨au (by rw[HS.out];simpa using g2),l5 hbw hb1⟩
    ·go_roundw
     case rel=>exact⟨j+1,by omega,by go_num,l5 hbw hb1,cE hb1 hc1,cE hb1 hc2,Nat.lt_of_lt_of_le hsz hb1.size,by rw[Hid,HS.out];rfl⟩
     case measure=>simp[intOf];omega
   ·go_wp2_with fail
    go_ret
    exact⟨au (by rw[hR.out,io _ _ _ _ (by rw[HN.out];omega) (by rw[HM.out];omega)];simp),hbw⟩
 ·have hkl:(k==l)=false:=by simpa using hk
  have hkl':(k != l)=true:=by simpa using hk
  clear hk hl1 hk1
  go_enter Try.func44,Try.ntmps44
  go_wp2_with fail
  go_ret
  exact⟨au (by simp[hkl,g2,g1]),aZ⟩
termination_by SizeOf.sizeOf t
decreasing_by exact Ty.kid_lt ht
theorem ej (F G:Nat->Prop)(t u:Ty)(y z:Value)(w:World)(hy:ai F w t y)(hz:ai G w u z) :
  Calls Try.prog 10 #[y,z] w fun e w'=>e = .returned (.bool (t.valid&&u.valid&&t.cons u))∧Below w.heap.size w w':=by
 obtain⟨k,a,n,q,rfl⟩:=hy.shape;obtain⟨k',a',n',q',rfl⟩:=hz.shape;have HV:=fun W (h:Below w.heap.size w W)=>d9 F t _ W (hy.below h);have HU:=fun W (h:Below w.heap.size w W)=>d9 G u _ W (hz.below h);have HI:=fun(hv:t.valid=true) (hu:u.valid=true) W (h:Below w.heap.size w W)=>aU F G t u _ _ W (hy.below h) (hz.below h);clear hy hz
 cases hv:t.valid
 ·rw[hv] at HV
  have HH:=zq HV;clear HV HU HI hv
  go_enter Try.func10,Try.ntmps10
  go_wp2_with fail
  refine(HH.out _ aZ).mono ?_;rintro e w1 ⟨rfl,hb1⟩
  go_wp2_with fail
  go_ret
  exact⟨au (by simp),al aZ hb1⟩
 ·rw[hv] at HV
  cases hu:u.valid
  ·rw[hu] at HU
   have HH:=zq HV;have HK:=zq HU;clear HV HU HI hv hu
   go_enter Try.func10,Try.ntmps10
   go_wp2_with fail
   refine(HH.out _ aZ).mono ?_;rintro e w1 ⟨rfl,hb1⟩;obtain⟨hc,hf⟩:=la hb1
   go_wp2_with fail
   refine(HK.out _ (al aZ hb1)).mono ?_;rintro e w2 ⟨rfl,hb2⟩
   go_wp2_with fail
   go_ret
   exact⟨au (by simp),al (al aZ hb1) hb2⟩
  ·rw[hu] at HU
   have HI:=HI hv hu;generalize t.cons u=r at *;have HH:=zq HV;have HK:=zq HU;have HJ:=zq HI;clear HV HU HI hv hu
   go_enter Try.func10,Try.ntmps10
   go_wp2_with fail
   refine(HH.out _ aZ).mono ?_;rintro e w1 ⟨rfl,hb1⟩;obtain⟨hc,hf⟩:=la hb1
   go_wp2_with fail
   refine(HK.out _ (al aZ hb1)).mono ?_;rintro e w2 ⟨rfl,hb2⟩;clear hc hf;obtain⟨hc,hf⟩:=la (al hb1 hb2)
   go_wp2_with fail
   refine(HJ.out _ (al (al aZ hb1) hb2)).mono ?_;rintro e w3 ⟨rfl,hb3⟩
   go_wp2_with fail
   go_ret
   exact⟨au (by simp),al (al (al aZ hb1) hb2) hb3⟩
theorem cA (F G:Nat->Prop)(t:Ty) : ∀(u:Ty) (y z:Value) (w:World),ai F w t y->ai G w u z ->
  Calls Try.prog 8 #[y,z] w fun e w'=>e = .returned (.bool (t.same u))∧Below w.heap.size w w':=by
 intro u y z w hy hz;have IH : ∀t'∈t.kids,∀u'∈u.kids,∀(W:World) (y z:Value),ai F W t' y->ai G W u' z->Calls Try.prog 8 #[y,z] W fun e W'=>e = .returned (.bool (t'.same u'))∧Below W.heap.size W W':=
  fun t' ht u' _ W y z a b=>cA F G t' u' y z W a b
 obtain⟨a,cap,rfl,h2,h3,h4⟩:=hy.open;obtain⟨c,cap',rfl,g2,g3,g4⟩:=hz.open;clear hy hz
 cases t with | mk k ts=>cases u with | mk l us=>
 simp only[Ty.kind,Ty.kids] at *;have HC:=fun W (h:Below w.heap.size w W)=>fJ _ _ F G ts us _ _ W (h4.below h) (g4.below h) Try.call8 IH;have H:=zq HC;clear HC IH;generalize ts.length=n at *;generalize us.length=m at *;unfold Ty.same
 by_cases hk:k=l
 ·subst hk
  go_enter Try.func8,Try.ntmps8
  go_wp2_with fail
  refine(H.out _ aZ).mono ?_;rintro e w1 ⟨rfl,hb1⟩
  go_wp2_with fail
  go_ret
  exact⟨au (by rw[Ty.sames_all2];simp),al aZ hb1⟩
 ·have hkl:(k==l)=false:=by simpa using hk
  clear hk
  go_enter Try.func8,Try.ntmps8
  go_wp2_with fail
  go_ret
  exact⟨au (by simp[hkl]),aZ⟩
termination_by SizeOf.sizeOf t
decreasing_by exact Ty.kid_lt ht
theorem bm (F G:Nat->Prop)(t:Ty) : ∀(u:Ty) (y z:Value) (w:World),ai F w t y->ai G w u z ->
  Calls Try.prog 62 #[y,z] w fun e w'=>e = .returned (.bool (t.same u))∧Below w.heap.size w w':=by
 intro u y z w hy hz;have IH : ∀t'∈t.kids,∀u'∈u.kids,∀(W:World) (y z:Value),ai F W t' y->ai G W u' z->Calls Try.prog 62 #[y,z] W fun e W'=>e = .returned (.bool (t'.same u'))∧Below W.heap.size W W':=
  fun t' ht u' _ W y z a b=>bm F G t' u' y z W a b
 obtain⟨a,cap,rfl,h2,h3,hy'⟩:=hy.open;obtain⟨c,cap',rfl,g2,g3,hz'⟩:=hz.open;obtain⟨_,_,e1,_,_,h4⟩:=hy'.open;obtain⟨_,_,e2,_,_,g4⟩:=hz'.open;simp only[Value.slice.injEq,true_and] at e1 e2;obtain⟨rfl,rfl⟩:=e1;obtain⟨rfl,rfl⟩:=e2;have H4:=zq h4;have G4:=zq g4;clear hy hz hy' hz' h4 g4;have IHH:=zq IH;clear IH
 cases t with | mk k ts=>cases u with | mk l us=>
 simp only[Ty.kind,Ty.kids] at *;unfold maxLen at h3 g3;unfold Ty.same;rw[<-Ty.sames_all2]
 by_cases hk:k=l
 ·subst hk
  by_cases hl:ts.length=us.length
  ·obtain⟨n,hn⟩ : ∃n,ts.length=n:=⟨_,rfl⟩
   rw[hn] at hl h2;rw[<-hl] at g2;have HN:=zq hn;have HL:=zq hl;rw[hn,<-hl];clear hn hl
   go_enter Try.func62,Try.ntmps62
   go_wp2_with fail
   have hW : ∀w',Below w.heap.size w w'->True:=fun _ _=>trivial
   go_loopw [5] (fun i wr=>∃j:Nat,j<=n∧i = .int .i64 j∧Below w.heap.size w wr∧wr.cell? ⟨w.heap.size,1,none⟩=some (.slice a n cap)∧wr.cell? ⟨w.heap.size+1,1,none⟩=some (.slice c n cap')∧w.heap.size+1<wr.heap.size∧Hid (de Ty.same ts us=de Ty.same (ts.drop j) (us.drop j))) (fun i _=>n-(intOf i).toNat)
   case atStart=>exact⟨0,by omega,rfl,aZ,by simp,by simp,by simp,rfl⟩
   case round=>
    obtain⟨j,hj,rfl,hbw,hc1,hc2,hsz,hR⟩:=hrel
    by_cases hlt:j<n
    ·obtain⟨b,off,k0,a0,m0,q0,rfl,c0,c1,ht⟩:=H4.out j (by rw[HN.out];exact hlt)
     obtain⟨b',off',k0',a0',m0',q0',rfl,c0',c1',hu⟩:=G4.out j (by rw[<-HL.out];exact hlt);have e0:=(hbw.cell (p:=⟨b,off+j*2,none⟩) (World.block_lt_of_cell? w _ c0)).trans c0;have e1:=(hbw.cell (p:=⟨b,off+j*2+1,none⟩) (World.block_lt_of_cell? w _ c1)).trans c1;have e0':=(hbw.cell (p:=⟨b',off'+j*2,none⟩) (World.block_lt_of_cell? w _ c0')).trans c0';have e1':=(hbw.cell (p:=⟨b',off'+j*2+1,none⟩) (World.block_lt_of_cell? w _ c1')).trans c1';have l0:=World.block_lt_of_cell? wr _ e0;have l0':=World.block_lt_of_cell? wr _ e0';clear c0 c1 c0' c1';have hkt:j<ts.length:=by rw[HN.out];exact hlt
     have hku:j<us.length:=by rw[<-HL.out];exact hlt
     have hcall:=IHH.out ts[j] (List.getElem_mem hkt) us[j] (List.getElem_mem hku);have hstep:=hR.out.trans (fz Ty.same ts us j hkt hku);generalize ts[j].same us[j]=r at hcall hstep;have HC:=zq hcall;have HS:=zq hstep;clear hcall hstep hR
     cases r
     all_goals
      go_wp2_with fail
      go_region_held3 (fun w'=>w'.cell? ⟨w.heap.size,1,none⟩=some (.slice (some ⟨b,off,none⟩) n cap)∧w'.cell? ⟨w.heap.size+1,1,none⟩=some (.slice (some ⟨b',off',none⟩) n cap')∧w'.cell? ⟨b,off+j*2,none⟩=some (.int .i64 k0)∧w'.cell? ⟨b,off+j*2+1,none⟩=some (.slice a0 m0 q0)∧w'.cell? ⟨b',off'+j*2,none⟩=some (.int .i64 k0')∧w'.cell? ⟨b',off'+j*2+1,none⟩=some (.slice a0' m0' q0'))
       (first | go_keep | exact⟨cE hb1 hc1,cE hb1 hc2,cE hb1 e0,cE hb1 e1,cE hb1 e0',cE hb1 e1'⟩)
       (first | (go_at_call 62;refine(HC.out _ _ _ (ht.below hbw.drew) (hu.below hbw.drew)).mono ?_;rintro e w1 ⟨rfl,hb1⟩))
      go_wp2_with fail
     ·go_ret
      exact⟨au (by rw[HS.out];simp),l5 hbw hb1⟩
     ·go_roundw
      case rel=>exact⟨j+1,by omega,by go_num,l5 hbw hb1,cE hb1 hc1,cE hb1 hc2,Nat.lt_of_lt_of_le hsz hb1.size,by rw[Hid,HS.out];rfl⟩
      case measure=>simp[intOf];omega
    ·go_wp2_with fail
     go_ret
     exact⟨au (by rw[hR.out,io _ _ _ _ (by rw[HN.out];omega) (by rw[<-HL.out];omega)];simp),hbw⟩
  ·have HL:=zq hl
   go_enter Try.func62,Try.ntmps62
   go_wp2_with fail
   go_ret
   exact⟨au (by rw[ip Ty.same ts us HL.out];simp),aZ⟩
 ·have hkl:(k==l)=false:=by simpa using hk
  have hkl':(k != l)=true:=by simpa using hk
  clear hk
  go_enter Try.func62,Try.ntmps62
  go_wp2_with fail
  go_ret
  exact⟨au (by simp[hkl]),aZ⟩
termination_by SizeOf.sizeOf t
decreasing_by exact Ty.kid_lt ht
end Go.Proofs.Ytfhglkmjibjjoaa

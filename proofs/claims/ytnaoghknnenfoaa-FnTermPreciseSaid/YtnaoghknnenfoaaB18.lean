/-
  spec.l3Make: a step.
  spec.l3Make: the recursion.
  A term with other types, by the program (5).
  A term with other types, by the program (13).
  A term with other types, by the program: joined; WithTypes: what it is.
  Terms with other types: plain laws.
  A term without types: what it is.
  Precision of terms: plain laws.
  Valid terms are small.
  A term with other types, by the reference: joined.
  EraseTerm of the program.
-/
import Derived.Test.YtnaoghknnenfoaaB12
import Derived.Test.YtnaoghknnenfoaaB13
import Derived.Test.YtnaoghknnenfoaaB22
import Derived.Test.YtnaoghknnenfoaaB14
import Derived.Test.YtnaoghknnenfoaaMkWany
import Derived.Test.YtnaoghknnenfoaaB17
import Derived.Test.YtnaoghknnenfoaaB11
import Derived.Test.YtnaoghknnenfoaaB6
import Derived.Test.YtnaoghknnenfoaaB2
import Derived.Test.YtnaoghknnenfoaaTmWith5
import Derived.Test.YtnaoghknnenfoaaTmWith13
import Derived.Test.YtnaoghknnenfoaaTmWithk
import Derived.Test.YtnaoghknnenfoaaB16
set_option linter.unusedSimpArgs false
set_option linter.unusedVariables false
set_option maxRecDepth 100000
namespace Go.Proofs.Ytnaoghknnenfoaa
open Go.RowKit
theorem kh (dd:Int)(s:S)(r p:Nat)(l:List Bd)(w:World)(c y:Value)(hrd0:aW w r p)(hcx:aL (· ≠ r) w l c)(hcv:CtxV l c)(hok:cI l)(hl:l.length+mkM dd s≤60)(hs:s.vd=true)(hy:ap (· ≠ r) w s.ty y)(hd5:dd≤5)(hdlo : -1000≤dd)(hp:p+mkB dd s≤1125899906800000)
  (IH : ∀(s':S) (l':List Bd),mkM (dd-1) s'<mkM dd s→s'.vd=true→cI l'→l'.length≤l.length+1→(∀b∈l',b.name.size≤1)→MkC r (dd-1) s' l') (hnl : ∀b∈l,b.name.size≤1) :
  Calls Try.prog 24 #[.pointer (some ⟨r,0,none⟩),c,y,.int .i64 dd] w (DTm r p (mkB dd s) (mkB dd s) w):=by
 obtain⟨kt,ta,tn,tq,rfl⟩:=hy.shape
 obtain⟨xa,xn,xq,rfl⟩:=hcv.shape
 refine(cL dd s r p l w kt ta tn tq xa xn xq).2 hrd0 hcx hcv hok hl hs hy hd5 hdlo hp IH hnl (fun _=>mkW0 dd s r p l w kt ta tn tq xa xn xq) (fun _=>mkW1 dd s r p l w kt ta tn tq xa xn xq) (fun _=>mkW2 dd s r p l w kt ta tn tq xa xn xq) (fun _=>mkW3 dd s r p l w kt ta tn tq xa xn xq) (fun _=>?_)
 cases s with
 | zero=>exact absurd hs (by decide)
 | int=>exact mkWint dd r p l w kt ta tn tq xa xn xq
 | any=>exact mkWany dd r p l w kt ta tn tq xa xn xq
 | bool=>exact mkWbool dd r p l w kt ta tn tq xa xn xq
 | fn a b=>exact mkWfn dd r p l w kt ta tn tq xa xn xq a b
 | pr a b=>exact mkWpr dd r p l w kt ta tn tq xa xn xq a b
end Go.Proofs.Ytnaoghknnenfoaa
namespace Go.Proofs.Ytnaoghknnenfoaa
open Go.RowKit
theorem iE (r:Nat) : ∀(n:Nat) (dd:Int) (s:S) (l:List Bd),mkM dd s≤n→l.length+n≤60→s.vd=true→cI l→(∀b∈l,b.name.size≤1)→dd≤5→(n:Int)-900≤dd→MkC r dd s l
 | 0,dd,s,l,h,_,_,_,_,_,_=>absurd h (by unfold mkM;omega)
 | n+1,dd,s,l,hm,hl,hs,hok,hnl,h5,hlo=>by
  intro q W c y hrd hcx hcv hy hp
  exact kh dd s r q l W c y hrd hcx hcv hok (by omega) hs hy h5 (by omega) hp
   (fun s' l' h1 h2 h3 h4 h6=>iE r n (dd-1) s' l' (by omega) (by omega) h2 h3 h6 (by omega) (by omega)) hnl
end Go.Proofs.Ytnaoghknnenfoaa
namespace Go.Proofs.Ytnaoghknnenfoaa
open Go.RowKit
end Go.Proofs.Ytnaoghknnenfoaa
namespace Go.Proofs.Ytnaoghknnenfoaa
open Go.RowKit
end Go.Proofs.Ytnaoghknnenfoaa
namespace Go.Proofs.Ytnaoghknnenfoaa
open Go.RowKit
def Tm.withB (t:Tm)(L:List Ty):Bool:=t.valid&&(decide (t.tys.length=L.length) && !(L.any fun x=> !x.valid))
def Tm.withT (t:Tm)(L:List Ty):Tm:=if t.withB L then t.rety L else .zero
end Go.Proofs.Ytnaoghknnenfoaa
namespace Go.Proofs.Ytnaoghknnenfoaa
open Go.RowKit
mutual
theorem Tm.rety_tys : ∀(t:Tm) (L:List Ty),t.tys.length≤L.length→(t.rety L).tys=L.take t.tys.length
 | .mk k s u ty f l ts,L,h=>by
  rw [Tm.rety,Tm.tys]
  rw [Tm.tys] at h ⊢
  by_cases hk:b7 k=true
  ·simp only [hk,if_true] at h ⊢
   cases L with
   | nil=>simp at h
   | cons x L=>
    have h':(Tm.tyss ts).length≤L.length:=by simp at h;omega
    simp only [List.headD_cons,List.tail_cons]
    rw [Tm.retys_tys ts L h']
    simp
  ·simp only [hk,Bool.false_eq_true,if_false] at h ⊢
   have h':(Tm.tyss ts).length≤L.length:=by simpa using h
   rw [Tm.retys_tys ts L h']
   simp
theorem Tm.retys_tys : ∀(ts:List Tm) (L:List Ty),(Tm.tyss ts).length≤L.length→Tm.tyss (Tm.retys ts L)=L.take (Tm.tyss ts).length
 | [],L,_=>by unfold Tm.retys Tm.tyss;simp
 | t :: ts,L,h=>by
  rw [Tm.tyss,List.length_append] at h
  rw [Tm.retys,Tm.tyss,Tm.tyss,Tm.rety_tys t L (by omega),Tm.retys_tys ts (L.drop t.tys.length) (by simp;omega),List.length_append,List.take_add]
end
mutual
theorem Tm.rety_back : ∀(t:Tm) (L M:List Ty),t.tys.length≤L.length→(t.rety L).rety (t.tys++M)=t
 | .mk k s u ty f l ts,L,M,h=>by
  rw [Tm.rety,Tm.rety,Tm.tys]
  rw [Tm.tys] at h
  by_cases hk:b7 k=true
  ·simp only [hk,if_true] at h ⊢
   have h':(Tm.tyss ts).length≤L.tail.length:=by simp at h ⊢;omega
   simp only [List.singleton_append,List.cons_append,List.nil_append,List.headD_cons,List.tail_cons]
   rw [Tm.retys_back ts L.tail M h']
  ·simp only [hk,Bool.false_eq_true,if_false] at h ⊢
   have h':(Tm.tyss ts).length≤L.length:=by simpa using h
   simp only [List.nil_append]
   rw [Tm.retys_back ts L M h']
theorem Tm.retys_back : ∀(ts:List Tm) (L M:List Ty),(Tm.tyss ts).length≤L.length→Tm.retys (Tm.retys ts L) (Tm.tyss ts++M)=ts
 | [],L,M,_=>by unfold Tm.retys;rfl
 | t :: ts,L,M,h=>by
  rw [Tm.tyss,List.length_append] at h
  have hl:(t.rety L).tys.length=t.tys.length:=by rw [Tm.rety_tys t L (by omega)];simp;omega
  rw [Tm.retys,Tm.retys,Tm.tyss,hl,List.append_assoc,Tm.rety_back t L _ (by omega),List.drop_left,Tm.retys_back ts _ M (by simp;omega)]
end
theorem Tm.retys_length' : ∀(ts:List Tm) (L:List Ty),(Tm.retys ts L).length=ts.length
 | [],L=>by unfold Tm.retys;rfl
 | t :: ts,L=>by unfold Tm.retys;simp [Tm.retys_length' ts]
mutual
theorem Tm.rety_size : ∀(t:Tm) (L:List Ty),(t.rety L).size=t.size
 | .mk k s u ty f l ts,L=>by rw [Tm.rety,Tm.size,Tm.size,Tm.retys_size]
theorem Tm.retys_size : ∀(ts:List Tm) (L:List Ty),Tm.sizes (Tm.retys ts L)=Tm.sizes ts
 | [],L=>by unfold Tm.retys;rfl
 | t :: ts,L=>by rw [Tm.retys,Tm.sizes,Tm.sizes,Tm.rety_size,Tm.retys_size]
end
mutual
theorem Tm.rety_shape : ∀(t:Tm) (L:List Ty) (d:Int),t.tys.length≤L.length→(∀x∈L,x.valid=true)→t.shape 14 d=true→(t.rety L).shape 14 d=true
 | .mk k s u ty f l ts,L,d,h,hv,hs=>by
  rw [Tm.rety]
  obtain⟨h1,h2,h3,h4,h5⟩:=Tm.shape_parts hs
  rw [Tm.tys] at h
  have hk14:(k==14)=false:=by simpa using h2
  have hown:(Tm.mk k s u (if b7 k then L.headD .no else ty) f l (Tm.retys ts (if b7 k then L.tail else L))).ownB=true:=by
   unfold Tm.ownB Go.Proofs.Ytnaoghknnenfoaa.ownB at h4 ⊢
   simp only [Tm.kind,Tm.num,Tm.label,Tm.name,Tm.type,Tm.src] at h4 ⊢
   by_cases hk:b7 k=true
   ·simp only [hk,if_true] at h ⊢
    cases L with
    | nil=>simp at h
    | cons x L=>
     have hx:=hv x (by simp)
     have hk2:(k==5||k==13||k==14)=true:=by
      rcases np.1 hk with rfl | rfl<;>rfl
     simp only [hk2,if_true,List.headD_cons,hx,hk14,Bool.false_eq_true,if_false] at h4 ⊢
     simp only [Bool.and_eq_true] at h4 ⊢
     have hk3:(k==5||k==13||false)=true:=by simpa using (by rcases np.1 hk with rfl | rfl<;>rfl:(k==5||k==13)=true)
     exact⟨⟨⟨h4.1.1.1,h4.1.1.2⟩,by rw [if_pos hk3]⟩,h4.2⟩
   ·have hk':b7 k=false:=by simpa using hk
    simp only [hk',Bool.false_eq_true,if_false,hk14] at h4 ⊢
    exact h4
  have hkids:Tm.shapes (Tm.retys ts (if b7 k then L.tail else L)) 14 (d-1)=true:=by
   by_cases hk:b7 k=true
   ·simp only [hk,if_true] at h ⊢
    exact Tm.retys_shape ts _ _ (by simp at h ⊢;omega) (fun x hx=>hv x (List.mem_of_mem_tail hx)) h5
   ·simp only [hk,Bool.false_eq_true,if_false] at h ⊢
    exact Tm.retys_shape ts _ _ (by simpa using h) hv h5
  unfold Tm.shape
  simp only [Bool.and_eq_true,decide_eq_true_eq,Bool.not_eq_true',beq_iff_eq]
  exact⟨⟨⟨h1,hk14⟩,by rw [Tm.retys_length'];exact h3,hown⟩,hkids⟩
theorem Tm.retys_shape : ∀(ts:List Tm) (L:List Ty) (d:Int),(Tm.tyss ts).length≤L.length→(∀x∈L,x.valid=true)→Tm.shapes ts 14 d=true→Tm.shapes (Tm.retys ts L) 14 d=true
 | [],L,d,_,_,_=>by unfold Tm.retys Tm.shapes;rfl
 | t :: ts,L,d,h,hv,hs=>by
  rw [Tm.tyss,List.length_append] at h
  unfold Tm.shapes at hs
  simp only [Bool.and_eq_true] at hs
  unfold Tm.retys Tm.shapes
  simp only [Bool.and_eq_true]
  exact⟨Tm.rety_shape t L d (by omega) hv hs.1,Tm.retys_shape ts _ d (by simp;omega) (fun x hx=>hv x (List.mem_of_mem_drop hx)) hs.2⟩
end
theorem Tm.withB_parts {t:Tm}{L:List Ty}(h:t.withB L=true):t.valid=true∧t.tys.length=L.length∧∀x∈L,x.valid=true:=by
 unfold Tm.withB at h
 simp only [Bool.and_eq_true,decide_eq_true_eq,Bool.not_eq_true',List.any_eq_false,Bool.not_eq_true,Bool.not_eq_false'] at h
 exact⟨h.1,h.2.1,fun x hx=>by simpa using h.2.2 x hx⟩
theorem Tm.with_law {t:Tm}{L:List Ty}(h:t.withB L=true):(t.withT L).valid=true∧(t.withT L).types=L∧(t.withT L).withB t.types=true∧(t.withT L).withT t.types=t:=by
 obtain⟨h1,h2,h3⟩:=Tm.withB_parts h
 have hW:t.withT L=t.rety L:=by unfold Tm.withT;rw [if_pos h]
 have h1':=h1
 unfold Tm.valid at h1'
 simp only [Bool.and_eq_true,decide_eq_true_eq] at h1'
 have hv:(t.withT L).valid=true:=by
  rw [hW]
  unfold Tm.valid
  simp only [Bool.and_eq_true,decide_eq_true_eq]
  exact⟨Tm.rety_shape t L 12 (by omega) h3 h1'.1,by rw [Tm.rety_size];exact h1'.2⟩
 have ht:(t.withT L).tys=L:=by rw [hW,Tm.rety_tys t L (by omega),h2,List.take_length]
 have hty:t.types=t.tys:=by unfold Tm.types;rw [if_pos h1]
 have hB:(t.withT L).withB t.types=true:=by
  unfold Tm.withB
  rw [hty,hv,ht,h2]
  simp only [Bool.true_and,Bool.and_eq_true,decide_eq_true_eq,Bool.not_eq_true',List.any_eq_false,Bool.not_eq_true,Bool.not_eq_false']
  exact⟨trivial,fun x hx=>by simpa using Tm.tys_valid t 12 h1'.1 x hx⟩
 refine⟨hv,by unfold Tm.types;rw [if_pos hv,ht],hB,?_⟩
 unfold Tm.withT at hB ⊢
 rw [if_pos hB,if_pos h,hty]
 have:=Tm.rety_back t L [] (by omega)
 rw [List.append_nil] at this
 exact this
end Go.Proofs.Ytnaoghknnenfoaa
namespace Go.Proofs.Ytnaoghknnenfoaa
open Go.RowKit
def gE:Tm→Tm
 | .mk k s u t f l ts=>if b7 k then .mk k s u .any1 f l ts else .mk k s u t f l ts
theorem gE_mk (k u l:Int)(s:ByteArray)(t f:Ty)(ts:List Tm):gE (.mk k s u t f l ts)=if b7 k then .mk k s u .any1 f l ts else .mk k s u t f l ts:=rfl
mutual
theorem Tm.map_erase : ∀(t:Tm) (n:Nat),t.tys.length≤n→t.mapT gE=t.rety (List.replicate n .any1)
 | .mk k s u t f l ts,n,h=>by
  unfold Tm.tys at h
  unfold Tm.mapT Tm.rety
  rw [gE_mk]
  by_cases hk:b7 k=true
  ·rw [if_pos hk] at h
   simp only [hk,if_true]
   obtain⟨n',rfl⟩ : ∃n',n=n'+1:=⟨n-1,by simp at h;omega⟩
   rw [Tm.maps_erase ts n' (by simp at h;omega)]
   rfl
  ·rw [if_neg hk] at h
   simp only [hk,if_false,Bool.false_eq_true]
   rw [Tm.maps_erase ts n (by simpa using h)]
theorem Tm.maps_erase : ∀(ts:List Tm) (n:Nat),(Tm.tyss ts).length≤n→Tm.mapTs gE ts=Tm.retys ts (List.replicate n .any1)
 | [],_,_=>by unfold Tm.mapTs Tm.retys;rfl
 | t :: ts,n,h=>by
  unfold Tm.tyss at h
  rw [List.length_append] at h
  unfold Tm.mapTs Tm.retys
  rw [Tm.map_erase t n (by omega),List.drop_replicate,Tm.maps_erase ts (n-t.tys.length) (by omega)]
end
mutual
theorem Tm.mapOk_true (g:Tm→Tm) : ∀t:Tm,t.mapOk g (fun _=>True)
 | .mk k s u t f l ts=>by unfold Tm.mapOk;exact⟨trivial,Tm.mapOks_true g ts⟩
theorem Tm.mapOks_true (g:Tm→Tm) : ∀ts:List Tm,Tm.mapOks g (fun _=>True) ts
 | []=>by unfold Tm.mapOks;trivial
 | t :: ts=>by unfold Tm.mapOks;exact⟨Tm.mapOk_true g t,Tm.mapOks_true g ts⟩
end
def Tm.erased (t:Tm):Tm:=t.rety (List.replicate t.tys.length .any1)
def Tm.eraseT (t:Tm):Tm:=if t.valid then t.erased else .zero
theorem Tm.withB_erase (t:Tm):t.withB (List.replicate t.types.length .any1)=t.valid∧t.withT (List.replicate t.types.length .any1)=t.eraseT:=by
 have hv : ∀n:Nat,((List.replicate n Ty.any1).any fun x=> !x.valid)=false:=fun n=>by
  rw [List.any_eq_false]
  intro x hx
  rw [(List.mem_replicate.1 hx).2]
  decide
 unfold Tm.withT Tm.withB Tm.eraseT Tm.types Tm.erased
 by_cases h:t.valid=true
 ·rw [if_pos h,if_pos h,h,hv]
  simp
 ·have h':t.valid=false:=by simpa using h
  simp [h']
theorem b3.retype' {B:Nat}{w:World}{k u l:Int}{nm:ByteArray}{tt ff:Ty}{ts:List Tm}{tk fk:Int}{s1 s2 s3:Value}(h:b3 B w (.mk k nm u tt ff l ts) (.agg #[.int .i64 k,.string nm,.int .i64 u,.int .i64 tk,s1,.int .i64 fk,s2,.int .i64 l,s3])){a:Option Addr}{q:Nat}(hq:q≤maxLen) :
  b3 B w (.mk k nm u .any1 ff l ts) (.agg #[.int .i64 k,.string nm,.int .i64 u,.int .i64 1,.slice a 0 q,.int .i64 fk,s2,.int .i64 l,s3]):=h.retype 1 hq
end Go.Proofs.Ytnaoghknnenfoaa
namespace Go.Proofs.Ytnaoghknnenfoaa
open Go.RowKit
theorem Ty.prec_reflV {t:Ty}(h:t.valid=true):t.prec t=true:=by
 obtain⟨s,rfl,-⟩:=Ty.valid_S h
 rw [S.ty_prec];exact S.prec_refl s
theorem Ty.prec_transV {t u v:Ty}(h1:t.valid=true)(h2:u.valid=true)(h3:v.valid=true)(a:t.prec u=true)(b:u.prec v=true):t.prec v=true:=by
 obtain⟨s,rfl,-⟩:=Ty.valid_S h1
 obtain⟨s2,rfl,-⟩:=Ty.valid_S h2
 obtain⟨s3,rfl,-⟩:=Ty.valid_S h3
 rw [S.ty_prec] at a b ⊢;exact S.prec_trans _ _ _ a b
theorem Ty.prec_antiV {t u:Ty}(h1:t.valid=true)(h2:u.valid=true)(a:t.prec u=true)(b:u.prec t=true):t.same u=true:=by
 obtain⟨s,rfl,-⟩:=Ty.valid_S h1
 obtain⟨s2,rfl,-⟩:=Ty.valid_S h2
 rw [S.ty_prec] at a b
 rw [S.same,decide_eq_true_eq];exact S.prec_anti _ _ a b
theorem Ty.prec_anyV {t:Ty}(h:t.valid=true):t.prec .any1=true:=by
 obtain⟨s,rfl,-⟩:=Ty.valid_S h
 rw [show Ty.any1=S.any.ty from rfl,S.ty_prec]
 cases s<;>rfl
theorem Ty.none_same {t u:Ty}(h1:t.noneB=true)(h2:u.noneB=true):t.same u=true:=by
 cases t with | mk k ts=>cases u with | mk l us=>
 unfold Ty.noneB Go.Proofs.Ytnaoghknnenfoaa.noneB at h1 h2
 simp only [Ty.kind,Ty.kids,Bool.and_eq_true,beq_iff_eq] at h1 h2
 obtain⟨rfl,e1⟩:=h1
 obtain⟨rfl,e2⟩:=h2
 have e1':ts = []:=List.length_eq_zero_iff.1 (by simpa using e1)
 have e2':us = []:=List.length_eq_zero_iff.1 (by simpa using e2)
 subst e1' e2'
 exact Ty.same_refl _
theorem cB {k u l:Int}{s:ByteArray}{t f:Ty}{ts:List Tm}(h:(Tm.mk k s u t f l ts).ownB=true)(hk : ¬k=14):f.noneB=true∧l=0∧(((k==5||k==13)=true→t.valid=true)∧((k==5||k==13)=false→t.noneB=true)):=by
 have h1:Go.Proofs.Ytnaoghknnenfoaa.ownB k u l s t.valid t.noneB f.noneB (f.valid&&t.valid&&f.cons t)=true:=h
 unfold Go.Proofs.Ytnaoghknnenfoaa.ownB at h1
 have hk14:(k==14)=false:=by rw [beq_eq_false_iff_ne];exact hk
 rw [hk14] at h1
 simp only [Bool.or_false,Bool.and_eq_true,if_neg (show ¬(false=true) by simp),beq_iff_eq] at h1
 refine⟨h1.2.1,h1.2.2,fun e=>?_,fun e=>?_⟩
 ·have:=h1.1.2;rw [if_pos e] at this;exact this
 ·have:=h1.1.2;rw [if_neg (by rw [e];simp)] at this;exact this
mutual
theorem Tm.alike_refl : ∀(a:Tm) (d:Int),a.shape 14 d=true→a.alike a=true
 | .mk k s u t f l ts,d,h=>by
  obtain⟨-,hk,-,ho,hs⟩:=Tm.shape_parts h
  have hp:=(cB ho hk).2.2.1
  unfold Tm.alike
  rw [Tm.alikes_refl ts (d-1) hs]
  cases hb:(k==5||k==13) with
  | false=>simp
  | true=>simp [Ty.prec_reflV (hp hb)]
theorem Tm.alikes_refl : ∀(ts:List Tm) (d:Int),Tm.shapes ts 14 d=true→Tm.alikes ts ts=true
 | [],_,_=>by unfold Tm.alikes;rfl
 | t :: ts,d,h=>by
  unfold Tm.shapes at h
  simp only [Bool.and_eq_true] at h
  unfold Tm.alikes
  rw [Tm.alike_refl t d h.1,Tm.alikes_refl ts d h.2];rfl
end
mutual
theorem Tm.alike_trans : ∀(a b c:Tm) (d1 d2 d3:Int),a.shape 14 d1=true→b.shape 14 d2=true→c.shape 14 d3=true→a.alike b=true→b.alike c=true→a.alike c=true
 | .mk k s u t f l ts,.mk k' s' u' t' f' l' us,.mk k2 s2 u2 t2 f2 l2 vs,d1,d2,d3,g1,g2,g3,h1,h2=>by
  obtain⟨-,hk1,-,ho1,hs1⟩:=Tm.shape_parts g1
  obtain⟨-,hk2,-,ho2,hs2⟩:=Tm.shape_parts g2
  obtain⟨-,hk3,-,ho3,hs3⟩:=Tm.shape_parts g3
  have p1:=(cB ho1 hk1).2.2.1
  have p2:=(cB ho2 hk2).2.2.1
  have p3:=(cB ho3 hk3).2.2.1
  unfold Tm.alike at h1 h2 ⊢
  simp only [Bool.and_eq_true,beq_iff_eq] at h1 h2
  obtain⟨⟨⟨⟨rfl,e1⟩,rfl⟩,q1⟩,r1⟩:=h1
  obtain⟨⟨⟨⟨rfl,e2⟩,rfl⟩,q2⟩,r2⟩:=h2
  rw [e1,e2,Tm.alikes_trans ts us vs _ _ _ hs1 hs2 hs3 r1 r2]
  cases hb:(k==5||k==13) with
  | false=>simp
  | true=>
   rw [hb] at q1 q2
   simp at q1 q2
   simp [Ty.prec_transV (p1 hb) (p2 hb) (p3 hb) q1 q2]
theorem Tm.alikes_trans : ∀(ts us vs:List Tm) (d1 d2 d3:Int),Tm.shapes ts 14 d1=true→Tm.shapes us 14 d2=true→Tm.shapes vs 14 d3=true→Tm.alikes ts us=true→Tm.alikes us vs=true→Tm.alikes ts vs=true
 | [],[],[],_,_,_,_,_,_,_,_=>by unfold Tm.alikes;rfl
 | [],[],_ :: _,_,_,_,_,_,_,_,h=>by unfold Tm.alikes at h;cases h
 | [],_ :: _,_,_,_,_,_,_,_,h,_=>by unfold Tm.alikes at h;cases h
 | _ :: _,[],_,_,_,_,_,_,_,h,_=>by unfold Tm.alikes at h;cases h
 | _ :: _,_ :: _,[],_,_,_,_,_,_,_,h=>by unfold Tm.alikes at h;cases h
 | t :: ts,u :: us,v :: vs,d1,d2,d3,g1,g2,g3,h1,h2=>by
  unfold Tm.shapes at g1 g2 g3
  unfold Tm.alikes at h1 h2 ⊢
  simp only [Bool.and_eq_true] at g1 g2 g3 h1 h2
  rw [Tm.alike_trans t u v _ _ _ g1.1 g2.1 g3.1 h1.1 h2.1,Tm.alikes_trans ts us vs _ _ _ g1.2 g2.2 g3.2 h1.2 h2.2];rfl
end
mutual
theorem Tm.alike_anti : ∀(a b:Tm) (d1 d2:Int),a.shape 14 d1=true→b.shape 14 d2=true→a.alike b=true→b.alike a=true→a.same b=true
 | .mk k s u t f l ts,.mk k' s' u' t' f' l' us,d1,d2,g1,g2,h1,h2=>by
  obtain⟨-,hk1,-,ho1,hs1⟩:=Tm.shape_parts g1
  obtain⟨-,hk2,-,ho2,hs2⟩:=Tm.shape_parts g2
  obtain⟨n1,rfl,p1,c1⟩:=cB ho1 hk1
  obtain⟨n2,rfl,p2,c2⟩:=cB ho2 hk2
  unfold Tm.alike at h1 h2
  simp only [Bool.and_eq_true,beq_iff_eq] at h1 h2
  obtain⟨⟨⟨⟨rfl,e1⟩,rfl⟩,q1⟩,r1⟩:=h1
  obtain⟨⟨⟨⟨-,-⟩,-⟩,q2⟩,r2⟩:=h2
  unfold Tm.same
  rw [e1,Tm.alikes_anti ts us _ _ hs1 hs2 r1 r2,Ty.none_same n1 n2]
  cases hb:(k==5||k==13) with
  | false=>simp [Ty.none_same (c1 hb) (c2 hb)]
  | true=>
   rw [hb] at q1 q2
   simp at q1 q2
   simp [Ty.prec_antiV (p1 hb) (p2 hb) q1 q2]
theorem Tm.alikes_anti : ∀(ts us:List Tm) (d1 d2:Int),Tm.shapes ts 14 d1=true→Tm.shapes us 14 d2=true→Tm.alikes ts us=true→Tm.alikes us ts=true→Tm.sames ts us=true
 | [],[],_,_,_,_,_,_=>by unfold Tm.sames;rfl
 | [],_ :: _,_,_,_,_,h,_=>by unfold Tm.alikes at h;cases h
 | _ :: _,[],_,_,_,_,h,_=>by unfold Tm.alikes at h;cases h
 | t :: ts,u :: us,d1,d2,g1,g2,h1,h2=>by
  unfold Tm.shapes at g1 g2
  unfold Tm.alikes at h1 h2
  unfold Tm.sames
  simp only [Bool.and_eq_true] at g1 g2 h1 h2
  rw [Tm.alike_anti t u _ _ g1.1 g2.1 h1.1 h2.1,Tm.alikes_anti ts us _ _ g1.2 g2.2 h1.2 h2.2];rfl
end
mutual
theorem Tm.alike_any : ∀(a:Tm) (d:Int) (n:Nat),a.shape 14 d=true→a.tys.length≤n→a.alike (a.rety (List.replicate n .any1))=true
 | .mk k s u t f l ts,d,n,h,hn=>by
  obtain⟨-,hk,-,ho,hs⟩:=Tm.shape_parts h
  have hp:=(cB ho hk).2.2.1
  unfold Tm.tys at hn
  unfold Tm.rety
  by_cases hb:b7 k=true
  ·rw [if_pos hb] at hn
   obtain⟨n',rfl⟩ : ∃n',n=n'+1:=⟨n-1,by simp at hn;omega⟩
   simp only [hb,if_true,List.replicate_succ]
   unfold Tm.alike
   rw [show(Ty.any1 :: List.replicate n' Ty.any1).tail=List.replicate n' Ty.any1 from rfl,show(Ty.any1 :: List.replicate n' Ty.any1).headD Ty.no=Ty.any1 from rfl,Tm.alikes_any ts (d-1) n' hs (by simp at hn;omega)]
   have hb':(k==5||k==13)=true:=hb
   simp [hb',Ty.prec_anyV (hp hb')]
  ·rw [if_neg hb] at hn
   simp only [hb,if_false,Bool.false_eq_true]
   unfold Tm.alike
   rw [Tm.alikes_any ts (d-1) n hs (by simpa using hn)]
   have hb':(k==5||k==13)=false:=by simpa [b7] using hb
   simp [hb']
theorem Tm.alikes_any : ∀(ts:List Tm) (d:Int) (n:Nat),Tm.shapes ts 14 d=true→(Tm.tyss ts).length≤n→Tm.alikes ts (Tm.retys ts (List.replicate n .any1))=true
 | [],_,_,_,_=>by unfold Tm.retys Tm.alikes;rfl
 | t :: ts,d,n,h,hn=>by
  unfold Tm.shapes at h
  simp only [Bool.and_eq_true] at h
  unfold Tm.tyss at hn
  rw [List.length_append] at hn
  unfold Tm.retys Tm.alikes
  rw [List.drop_replicate,Tm.alike_any t d n h.1 (by omega),Tm.alikes_any ts d (n-t.tys.length) h.2 (by omega)];rfl
end
theorem gI {t:Tm}(h:t.valid=true) : ∃d,t.shape 14 d=true:=by
 unfold Tm.valid at h
 rw [Bool.and_eq_true] at h
 exact⟨12,h.1⟩
theorem Tm.prec_law (a b c:Tm)(ha:a.valid=true):a.precB a=true∧(a.precB b=true→b.precB c=true→a.precB c=true)∧(a.precB b=true→b.precB a=true→a.same b=true)∧a.precB a.eraseT=true:=by
 obtain⟨d,hd⟩:=gI ha
 have he:=Tm.withB_erase a
 rw [ha] at he
 have hw:=Tm.with_law he.1
 rw [he.2] at hw
 refine⟨?_,?_,?_,?_⟩
 ·unfold Tm.precB;rw [ha,Tm.alike_refl a d hd];rfl
 ·intro h1 h2
  unfold Tm.precB at h1 h2 ⊢
  simp only [Bool.and_eq_true] at h1 h2 ⊢
  obtain⟨d2,hd2⟩:=gI h1.1.2
  obtain⟨d3,hd3⟩:=gI h2.1.2
  exact⟨⟨ha,h2.1.2⟩,Tm.alike_trans a b c d d2 d3 hd hd2 hd3 h1.2 h2.2⟩
 ·intro h1 h2
  unfold Tm.precB at h1 h2
  simp only [Bool.and_eq_true] at h1 h2
  obtain⟨d2,hd2⟩:=gI h1.1.2
  exact Tm.alike_anti a b d d2 hd hd2 h1.2 h2.2
 ·unfold Tm.precB
  rw [ha,hw.1]
  unfold Tm.eraseT
  rw [if_pos ha]
  unfold Tm.erased
  rw [Tm.alike_any a d _ hd (Nat.le_refl _)];rfl
end Go.Proofs.Ytnaoghknnenfoaa
namespace Go.Proofs.Ytnaoghknnenfoaa
open Go.RowKit
theorem pS {s:ByteArray}(h:s.toList = []):s.size≤1:=by
 have h1:s.data.toList = []:=by simpa [ByteArray.toList_eq] using h
 have e:s.data.toList.length=s.size:=by simp
 rw [h1] at e
 simp at e;omega
theorem pK {k u l:Int}{s:ByteArray}{t f:Ty}{ts:List Tm}(h:(Tm.mk k s u t f l ts).ownB=true):s.size≤1:=by
 have h1:Go.Proofs.Ytnaoghknnenfoaa.ownB k u l s t.valid t.noneB f.noneB (f.valid&&t.valid&&f.cons t)=true:=h
 unfold Go.Proofs.Ytnaoghknnenfoaa.ownB at h1
 simp only [Bool.and_eq_true] at h1
 have h2:=h1.1.1.1
 split at h2
 ·unfold aN at h2
  by_cases hz:s.size=1
  ·omega
  ·simp [hz] at h2
 ·have h3:s.toList = []:=by simpa using h2
  exact pS h3
theorem nL {t:Ty}(h:t.noneB=true):t.cnt=0:=by
 cases t with | mk k ts=>
 unfold Ty.noneB Go.Proofs.Ytnaoghknnenfoaa.noneB at h
 simp only [Ty.kind,Ty.kids,Bool.and_eq_true,beq_iff_eq] at h
 have e:ts = []:=List.length_eq_zero_iff.1 (by simpa using h.2)
 subst e
 simp [Ty.cnt,Ty.cnts]
theorem kB {t:Ty}(h:t.valid=true):t.cnt≤14:=by
 have:=Ty.cnt_shape t 4 h
 omega
mutual
theorem Tm.cnt_shape14 : ∀(t:Tm) (d:Int),t.shape 14 d=true→t.cnt+1≤17*t.size
 | .mk k s u t f l ts,d,h=>by
  obtain⟨-,hk,-,ho,hs⟩:=Tm.shape_parts h
  obtain⟨n1,-,p1,c1⟩:=cB ho hk
  have h1:=pK ho
  have h2:=nL n1
  have h3:t.cnt≤14:=by
   cases hb:(k==5||k==13) with
   | true=>exact kB (p1 hb)
   | false=>rw [nL (c1 hb)];omega
  have h4:=Tm.cnts_shape14 ts (d-1) hs
  simp only [Tm.cnt,Tm.size]
  omega
theorem Tm.cnts_shape14 : ∀(ts:List Tm) (d:Int),Tm.shapes ts 14 d=true→Tm.cnts ts+ts.length≤17*Tm.sizes ts
 | [],_,_=>by simp [Tm.cnts,Tm.sizes]
 | t :: ts,d,h=>by
  unfold Tm.shapes at h
  simp only [Bool.and_eq_true] at h
  have h1:=Tm.cnt_shape14 t d h.1
  have h2:=Tm.cnts_shape14 ts d h.2
  simp only [Tm.cnts,Tm.sizes,List.length_cons]
  omega
end
theorem Tm.cnt_valid30 {t:Tm}(h:t.valid=true):t.cnt≤510:=by
 unfold Tm.valid at h
 rw [Bool.and_eq_true] at h
 have h1:=Tm.cnt_shape14 t 12 h.1
 have h2:=of_decide_eq_true h.2
 omega
end Go.Proofs.Ytnaoghknnenfoaa
namespace Go.Proofs.Ytnaoghknnenfoaa
open Go.RowKit
theorem iu (F G:Nat→Prop)(L:List Ty)(t:Tm):dD F G L t:=by
 have IH : ∀t'∈t.kids,dD F G L t':=fun t' ht=>iu F G L t'
 by_cases h5:t.kind=5
 ·exact with5 F G L t h5 IH
 ·by_cases h13:t.kind=13
  ·exact with13 F G L t h13 IH
  ·exact withk F G L t (by simpa using h5) (by simpa using h13) IH
termination_by SizeOf.sizeOf t
decreasing_by exact Tm.kid_lt ht
end Go.Proofs.Ytnaoghknnenfoaa
namespace Go.Proofs.Ytnaoghknnenfoaa
open Go.RowKit
set_option maxHeartbeats 8000000 in
theorem pN:MapC 19 gE (fun _=>True):=by
 intro B t y w hy _ hB
 cases t with | mk kk nn uu tt ff ll ts=>
 obtain⟨k,nm,u,tk,ta,tn,tq,fk,fa,fn,fq,l,c,m,q,rfl⟩:=hy.shape
 obtain⟨r1,r2,r3,r4,r5,r6,r7,r8,r9,rn,rm,rq,hty,hsr,hks⟩:=hy.rep.parts
 simp only [Tm.kind,Tm.name,Tm.num,Tm.type,Tm.src,Tm.label,Tm.kids] at *
 subst r1 r2 r3 r8
 unfold maxLen at rq
 clear r4 r5 r6 r7 r9 rn hty hsr hks
 by_cases hk:b7 k=true
 ·have hg:gE (.mk k nm u tt ff l ts) = .mk k nm u .any1 ff l ts:=by rw [gE_mk,if_pos hk]
  rw [hg]
  have HY:=Lib.hid hy
  have HK:=Lib.hid hk
  clear hy hg hk
  go_enter Try.func19,Try.ntmps19
  go_wp2_with fail
  refine(cM k nm u tk ta tn tq fk fa fn fq l c m q _).mono ?_
  rintro e w1 ⟨rfl,hb1⟩
  rw [HK.out]
  have HZw1:=Lib.hid hb1
  clear hb1
  go_wp2_with fail
  refine(pQ 1 _).mono ?_
  rintro e w2 ⟨v1,rfl,hv1,hb2⟩
  obtain⟨a1,q1,rfl,hq1⟩:=hv1.leaf
  have HZw2:=Lib.hid (ai HZw1.out hb2)
  have g0:w2.cell? ⟨w.heap.size,0,none⟩=some (.int .i64 k):=a9 HZw2.out (a9 ah (ao 0))
  have g1:w2.cell? ⟨w.heap.size,1,none⟩=some (.string nm):=a9 HZw2.out (a9 ah (ao 1))
  have g2:w2.cell? ⟨w.heap.size,2,none⟩=some (.int .i64 u):=a9 HZw2.out (a9 ah (ao 2))
  have g3:w2.cell? ⟨w.heap.size,3,none⟩=some (.int .i64 tk):=a9 HZw2.out (a9 ah (ao 3))
  have g4:w2.cell? ⟨w.heap.size,4,none⟩=some (.slice ta tn tq):=a9 HZw2.out (a9 ah (ao 4))
  have g5:w2.cell? ⟨w.heap.size,5,none⟩=some (.int .i64 fk):=a9 HZw2.out (a9 ah (ao 5))
  have g6:w2.cell? ⟨w.heap.size,6,none⟩=some (.slice fa fn fq):=a9 HZw2.out (a9 ah (ao 6))
  have g7:w2.cell? ⟨w.heap.size,7,none⟩=some (.int .i64 l):=a9 HZw2.out (a9 ah (ao 7))
  have g8:w2.cell? ⟨w.heap.size,8,none⟩=some (.slice c m q):=a9 HZw2.out (a9 ah (ao 8))
  have z0:w2.cell? ⟨w.heap.size+1,0,none⟩=some (.int .i64 0):=a9 HZw2.out (ax 0)
  have y0:w2.frozen? ⟨w.heap.size+1,0,none⟩=false:=aw HZw2.out (ax 0) (aK 0)
  have z1:w2.cell? ⟨w.heap.size+1,1,none⟩=some (.string { data:=#[] }):=a9 HZw2.out (ax 1)
  have y1:w2.frozen? ⟨w.heap.size+1,1,none⟩=false:=aw HZw2.out (ax 1) (aK 1)
  have z2:w2.cell? ⟨w.heap.size+1,2,none⟩=some (.int .i64 0):=a9 HZw2.out (ax 2)
  have y2:w2.frozen? ⟨w.heap.size+1,2,none⟩=false:=aw HZw2.out (ax 2) (aK 2)
  have z3:w2.cell? ⟨w.heap.size+1,3,none⟩=some (.int .i64 0):=a9 HZw2.out (ax 3)
  have y3:w2.frozen? ⟨w.heap.size+1,3,none⟩=false:=aw HZw2.out (ax 3) (aK 3)
  have z4:w2.cell? ⟨w.heap.size+1,4,none⟩=some (.slice none 0 0):=a9 HZw2.out (ax 4)
  have y4:w2.frozen? ⟨w.heap.size+1,4,none⟩=false:=aw HZw2.out (ax 4) (aK 4)
  have z5:w2.cell? ⟨w.heap.size+1,5,none⟩=some (.int .i64 0):=a9 HZw2.out (ax 5)
  have y5:w2.frozen? ⟨w.heap.size+1,5,none⟩=false:=aw HZw2.out (ax 5) (aK 5)
  have z6:w2.cell? ⟨w.heap.size+1,6,none⟩=some (.slice none 0 0):=a9 HZw2.out (ax 6)
  have y6:w2.frozen? ⟨w.heap.size+1,6,none⟩=false:=aw HZw2.out (ax 6) (aK 6)
  have z7:w2.cell? ⟨w.heap.size+1,7,none⟩=some (.int .i64 0):=a9 HZw2.out (ax 7)
  have y7:w2.frozen? ⟨w.heap.size+1,7,none⟩=false:=aw HZw2.out (ax 7) (aK 7)
  have z8:w2.cell? ⟨w.heap.size+1,8,none⟩=some (.slice none 0 0):=a9 HZw2.out (ax 8)
  have y8:w2.frozen? ⟨w.heap.size+1,8,none⟩=false:=aw HZw2.out (ax 8) (aK 8)
  have p3:w2.frozen? ⟨w.heap.size,3,none⟩=false:=aw HZw2.out (a9 ah (ao 3)) (bz ah (by simp) (aP 3))
  have p4:w2.frozen? ⟨w.heap.size,4,none⟩=false:=aw HZw2.out (a9 ah (ao 4)) (bz ah (by simp) (aP 4))
  have lw1:=World.block_lt_of_cell? _ _ g0
  have HB1:=Lib.hid (ai aI HZw2.out)
  have HQ1:=Lib.hid hq1
  clear hv1 hb2 hq1
  go_wp2_with fail
  refine bodyPost_ret (v:=.agg #[.int .i64 k,.string nm,.int .i64 u,.int .i64 1,.slice a1 0 q1,.int .i64 fk,.slice fa fn fq,.int .i64 l,.slice c m q]) (by simp [results,Try.results19,go_sem,z0,z1,z2,z3,z4,z5,z6,z7,z8]) rfl ?_
  refine⟨_,rfl,(HY.out.retype' HQ1.out).below ?_,?_⟩<;>exact(((((((((((HB1.out).setCell (by show w.heap.size≤w.heap.size;omega) _).setCell (by show w.heap.size≤w.heap.size;omega) _).setCell (by show w.heap.size≤w.heap.size+1;omega) _).setCell (by show w.heap.size≤w.heap.size+1;omega) _).setCell (by show w.heap.size≤w.heap.size+1;omega) _).setCell (by show w.heap.size≤w.heap.size+1;omega) _).setCell (by show w.heap.size≤w.heap.size+1;omega) _).setCell (by show w.heap.size≤w.heap.size+1;omega) _).setCell (by show w.heap.size≤w.heap.size+1;omega) _).setCell (by show w.heap.size≤w.heap.size+1;omega) _).setCell (by show w.heap.size≤w.heap.size+1;omega) _
 ·have hg:gE (.mk k nm u tt ff l ts) = .mk k nm u tt ff l ts:=by rw [gE_mk,if_neg hk]
  have hkf:b7 k=false:=by simpa using hk
  rw [hg]
  have HY:=Lib.hid hy
  have HK:=Lib.hid hkf
  clear hy hg hk hkf
  go_enter Try.func19,Try.ntmps19
  go_wp2_with fail
  refine(cM k nm u tk ta tn tq fk fa fn fq l c m q _).mono ?_
  rintro e w1 ⟨rfl,hb1⟩
  rw [HK.out]
  have HZw1:=Lib.hid hb1
  clear hb1
  have g0:w1.cell? ⟨w.heap.size,0,none⟩=some (.int .i64 k):=a9 HZw1.out (a9 ah (ao 0))
  have g1:w1.cell? ⟨w.heap.size,1,none⟩=some (.string nm):=a9 HZw1.out (a9 ah (ao 1))
  have g2:w1.cell? ⟨w.heap.size,2,none⟩=some (.int .i64 u):=a9 HZw1.out (a9 ah (ao 2))
  have g3:w1.cell? ⟨w.heap.size,3,none⟩=some (.int .i64 tk):=a9 HZw1.out (a9 ah (ao 3))
  have g4:w1.cell? ⟨w.heap.size,4,none⟩=some (.slice ta tn tq):=a9 HZw1.out (a9 ah (ao 4))
  have g5:w1.cell? ⟨w.heap.size,5,none⟩=some (.int .i64 fk):=a9 HZw1.out (a9 ah (ao 5))
  have g6:w1.cell? ⟨w.heap.size,6,none⟩=some (.slice fa fn fq):=a9 HZw1.out (a9 ah (ao 6))
  have g7:w1.cell? ⟨w.heap.size,7,none⟩=some (.int .i64 l):=a9 HZw1.out (a9 ah (ao 7))
  have g8:w1.cell? ⟨w.heap.size,8,none⟩=some (.slice c m q):=a9 HZw1.out (a9 ah (ao 8))
  have z0:w1.cell? ⟨w.heap.size+1,0,none⟩=some (.int .i64 0):=a9 HZw1.out (ax 0)
  have y0:w1.frozen? ⟨w.heap.size+1,0,none⟩=false:=aw HZw1.out (ax 0) (aK 0)
  have z1:w1.cell? ⟨w.heap.size+1,1,none⟩=some (.string { data:=#[] }):=a9 HZw1.out (ax 1)
  have y1:w1.frozen? ⟨w.heap.size+1,1,none⟩=false:=aw HZw1.out (ax 1) (aK 1)
  have z2:w1.cell? ⟨w.heap.size+1,2,none⟩=some (.int .i64 0):=a9 HZw1.out (ax 2)
  have y2:w1.frozen? ⟨w.heap.size+1,2,none⟩=false:=aw HZw1.out (ax 2) (aK 2)
  have z3:w1.cell? ⟨w.heap.size+1,3,none⟩=some (.int .i64 0):=a9 HZw1.out (ax 3)
  have y3:w1.frozen? ⟨w.heap.size+1,3,none⟩=false:=aw HZw1.out (ax 3) (aK 3)
  have z4:w1.cell? ⟨w.heap.size+1,4,none⟩=some (.slice none 0 0):=a9 HZw1.out (ax 4)
  have y4:w1.frozen? ⟨w.heap.size+1,4,none⟩=false:=aw HZw1.out (ax 4) (aK 4)
  have z5:w1.cell? ⟨w.heap.size+1,5,none⟩=some (.int .i64 0):=a9 HZw1.out (ax 5)
  have y5:w1.frozen? ⟨w.heap.size+1,5,none⟩=false:=aw HZw1.out (ax 5) (aK 5)
  have z6:w1.cell? ⟨w.heap.size+1,6,none⟩=some (.slice none 0 0):=a9 HZw1.out (ax 6)
  have y6:w1.frozen? ⟨w.heap.size+1,6,none⟩=false:=aw HZw1.out (ax 6) (aK 6)
  have z7:w1.cell? ⟨w.heap.size+1,7,none⟩=some (.int .i64 0):=a9 HZw1.out (ax 7)
  have y7:w1.frozen? ⟨w.heap.size+1,7,none⟩=false:=aw HZw1.out (ax 7) (aK 7)
  have z8:w1.cell? ⟨w.heap.size+1,8,none⟩=some (.slice none 0 0):=a9 HZw1.out (ax 8)
  have y8:w1.frozen? ⟨w.heap.size+1,8,none⟩=false:=aw HZw1.out (ax 8) (aK 8)
  have lw1:=World.block_lt_of_cell? _ _ g0
  have HB1:=Lib.hid (ai aI HZw1.out)
  go_wp2_with fail
  refine bodyPost_ret (v:=.agg #[.int .i64 k,.string nm,.int .i64 u,.int .i64 tk,.slice ta tn tq,.int .i64 fk,.slice fa fn fq,.int .i64 l,.slice c m q]) (by simp [results,Try.results19,go_sem,z0,z1,z2,z3,z4,z5,z6,z7,z8]) rfl ?_
  refine⟨_,rfl,HY.out.below ?_,?_⟩<;>exact(((((((((HB1.out).setCell (by show w.heap.size≤w.heap.size+1;omega) _).setCell (by show w.heap.size≤w.heap.size+1;omega) _).setCell (by show w.heap.size≤w.heap.size+1;omega) _).setCell (by show w.heap.size≤w.heap.size+1;omega) _).setCell (by show w.heap.size≤w.heap.size+1;omega) _).setCell (by show w.heap.size≤w.heap.size+1;omega) _).setCell (by show w.heap.size≤w.heap.size+1;omega) _).setCell (by show w.heap.size≤w.heap.size+1;omega) _).setCell (by show w.heap.size≤w.heap.size+1;omega) _
set_option maxHeartbeats 8000000 in
theorem kS (F:Nat→Prop)(t:Tm)(y:Value)(w:World)(hy:az F w t y)(hcnt:t.cnt≤1048576) :
  Calls Try.prog 8 #[y] w (RetTmB t.eraseT t.valid w):=by
 have hv:=fun W (h:Below w.heap.size w W)=>cO F t y W (hy.below h)
 have hm:=fun W (h:Below w.heap.size w W)=>j5 19 (fun _ _=>by rfl) gE (fun _=>True) pN F t y W (hy.below h) hcnt (Tm.mapOk_true gE t)
 rw [Tm.map_erase t t.tys.length (Nat.le_refl _)] at hm
 unfold Tm.eraseT Tm.erased
 obtain⟨k,nm,u,tk,ta,tn,tq,fk,fa,fn,fq,l,c,m,q,rfl⟩:=hy.shape
 generalize t.rety (List.replicate t.tys.length .any1)=bt at *
 generalize t.valid=va at *
 have HV:=Lib.hid hv
 have HBR:=Lib.hid hm
 clear hv hm hy hcnt
 cases va
 ·simp only [Bool.false_eq_true,if_false]
  go_enter Try.func8,Try.ntmps8
  go_wp2_with fail
  refine(HV.out _ aI).mono ?_
  rintro e w1 ⟨rfl,hb1⟩
  have HZw1:=Lib.hid hb1
  clear hb1
  have z0:w1.cell? ⟨w.heap.size+1,0,none⟩=some (.int .i64 0):=a9 HZw1.out (ax 0)
  have y0:w1.frozen? ⟨w.heap.size+1,0,none⟩=false:=aw HZw1.out (ax 0) (aK 0)
  have z1:w1.cell? ⟨w.heap.size+1,1,none⟩=some (.string { data:=#[] }):=a9 HZw1.out (ax 1)
  have y1:w1.frozen? ⟨w.heap.size+1,1,none⟩=false:=aw HZw1.out (ax 1) (aK 1)
  have z2:w1.cell? ⟨w.heap.size+1,2,none⟩=some (.int .i64 0):=a9 HZw1.out (ax 2)
  have y2:w1.frozen? ⟨w.heap.size+1,2,none⟩=false:=aw HZw1.out (ax 2) (aK 2)
  have z3:w1.cell? ⟨w.heap.size+1,3,none⟩=some (.int .i64 0):=a9 HZw1.out (ax 3)
  have y3:w1.frozen? ⟨w.heap.size+1,3,none⟩=false:=aw HZw1.out (ax 3) (aK 3)
  have z4:w1.cell? ⟨w.heap.size+1,4,none⟩=some (.slice none 0 0):=a9 HZw1.out (ax 4)
  have y4:w1.frozen? ⟨w.heap.size+1,4,none⟩=false:=aw HZw1.out (ax 4) (aK 4)
  have z5:w1.cell? ⟨w.heap.size+1,5,none⟩=some (.int .i64 0):=a9 HZw1.out (ax 5)
  have y5:w1.frozen? ⟨w.heap.size+1,5,none⟩=false:=aw HZw1.out (ax 5) (aK 5)
  have z6:w1.cell? ⟨w.heap.size+1,6,none⟩=some (.slice none 0 0):=a9 HZw1.out (ax 6)
  have y6:w1.frozen? ⟨w.heap.size+1,6,none⟩=false:=aw HZw1.out (ax 6) (aK 6)
  have z7:w1.cell? ⟨w.heap.size+1,7,none⟩=some (.int .i64 0):=a9 HZw1.out (ax 7)
  have y7:w1.frozen? ⟨w.heap.size+1,7,none⟩=false:=aw HZw1.out (ax 7) (aK 7)
  have z8:w1.cell? ⟨w.heap.size+1,8,none⟩=some (.slice none 0 0):=a9 HZw1.out (ax 8)
  have y8:w1.frozen? ⟨w.heap.size+1,8,none⟩=false:=aw HZw1.out (ax 8) (aK 8)
  have lz0:=World.block_lt_of_cell? _ _ z0
  have HB6:=Lib.hid (ai aI HZw1.out)
  go_wp2_with fail
  refine bodyPost_ret (v:=.tuple #[.agg #[.int .i64 0,.string { data:=#[] },.int .i64 0,.int .i64 0,.slice none 0 0,.int .i64 0,.slice none 0 0,.int .i64 0,.slice none 0 0],.bool false]) (by simp [results,Try.results8,go_sem,z0,z1,z2,z3,z4,z5,z6,z7,z8]) rfl ?_
  exact⟨_,rfl,b3.nil (by show 0≤_;omega),(((((((((HB6.out).setCell (by show w.heap.size≤w.heap.size+1;omega) _).setCell (by show w.heap.size≤w.heap.size+1;omega) _).setCell (by show w.heap.size≤w.heap.size+1;omega) _).setCell (by show w.heap.size≤w.heap.size+1;omega) _).setCell (by show w.heap.size≤w.heap.size+1;omega) _).setCell (by show w.heap.size≤w.heap.size+1;omega) _).setCell (by show w.heap.size≤w.heap.size+1;omega) _).setCell (by show w.heap.size≤w.heap.size+1;omega) _).setCell (by show w.heap.size≤w.heap.size+1;omega) _⟩
 ·simp only [if_true]
  go_enter Try.func8,Try.ntmps8
  go_wp2_with fail
  refine(HV.out _ aI).mono ?_
  rintro e w1 ⟨rfl,hb1⟩
  have HZw1:=Lib.hid hb1
  have g0:w1.cell? ⟨w.heap.size,0,none⟩=some (.int .i64 k):=a9 HZw1.out (a9 ah (ao 0))
  have g1:w1.cell? ⟨w.heap.size,1,none⟩=some (.string nm):=a9 HZw1.out (a9 ah (ao 1))
  have g2:w1.cell? ⟨w.heap.size,2,none⟩=some (.int .i64 u):=a9 HZw1.out (a9 ah (ao 2))
  have g3:w1.cell? ⟨w.heap.size,3,none⟩=some (.int .i64 tk):=a9 HZw1.out (a9 ah (ao 3))
  have g4:w1.cell? ⟨w.heap.size,4,none⟩=some (.slice ta tn tq):=a9 HZw1.out (a9 ah (ao 4))
  have g5:w1.cell? ⟨w.heap.size,5,none⟩=some (.int .i64 fk):=a9 HZw1.out (a9 ah (ao 5))
  have g6:w1.cell? ⟨w.heap.size,6,none⟩=some (.slice fa fn fq):=a9 HZw1.out (a9 ah (ao 6))
  have g7:w1.cell? ⟨w.heap.size,7,none⟩=some (.int .i64 l):=a9 HZw1.out (a9 ah (ao 7))
  have g8:w1.cell? ⟨w.heap.size,8,none⟩=some (.slice c m q):=a9 HZw1.out (a9 ah (ao 8))
  have lg1:=World.block_lt_of_cell? _ _ g0
  clear hb1
  go_wp2_with fail
  refine(HBR.out _ (ai aI HZw1.out)).mono ?_
  rintro e w3 ⟨v1,rfl,hv1,hb3⟩
  obtain⟨k5,nm5,u5',tk5,ta5,tn5,tq5,fk5,fa5,fn5,fq5,l5,c5',m5,q5,rfl⟩:=hv1.shape
  have HZw3:=Lib.hid (ai HZw1.out hb3)
  have hsz:=HZw1.out.size
  simp at hsz
  have HV5:=Lib.hid (show b3 (w.heap.size+1+1) w3 bt _ from hv1.mono (by omega))
  clear lg1 g0 g1 g2 g3 g4 g5 g6 g7 g8 hv1 hb3
  have z0:w3.cell? ⟨w.heap.size+1,0,none⟩=some (.int .i64 0):=a9 HZw3.out (ax 0)
  have y0:w3.frozen? ⟨w.heap.size+1,0,none⟩=false:=aw HZw3.out (ax 0) (aK 0)
  have z1:w3.cell? ⟨w.heap.size+1,1,none⟩=some (.string { data:=#[] }):=a9 HZw3.out (ax 1)
  have y1:w3.frozen? ⟨w.heap.size+1,1,none⟩=false:=aw HZw3.out (ax 1) (aK 1)
  have z2:w3.cell? ⟨w.heap.size+1,2,none⟩=some (.int .i64 0):=a9 HZw3.out (ax 2)
  have y2:w3.frozen? ⟨w.heap.size+1,2,none⟩=false:=aw HZw3.out (ax 2) (aK 2)
  have z3:w3.cell? ⟨w.heap.size+1,3,none⟩=some (.int .i64 0):=a9 HZw3.out (ax 3)
  have y3:w3.frozen? ⟨w.heap.size+1,3,none⟩=false:=aw HZw3.out (ax 3) (aK 3)
  have z4:w3.cell? ⟨w.heap.size+1,4,none⟩=some (.slice none 0 0):=a9 HZw3.out (ax 4)
  have y4:w3.frozen? ⟨w.heap.size+1,4,none⟩=false:=aw HZw3.out (ax 4) (aK 4)
  have z5:w3.cell? ⟨w.heap.size+1,5,none⟩=some (.int .i64 0):=a9 HZw3.out (ax 5)
  have y5:w3.frozen? ⟨w.heap.size+1,5,none⟩=false:=aw HZw3.out (ax 5) (aK 5)
  have z6:w3.cell? ⟨w.heap.size+1,6,none⟩=some (.slice none 0 0):=a9 HZw3.out (ax 6)
  have y6:w3.frozen? ⟨w.heap.size+1,6,none⟩=false:=aw HZw3.out (ax 6) (aK 6)
  have z7:w3.cell? ⟨w.heap.size+1,7,none⟩=some (.int .i64 0):=a9 HZw3.out (ax 7)
  have y7:w3.frozen? ⟨w.heap.size+1,7,none⟩=false:=aw HZw3.out (ax 7) (aK 7)
  have z8:w3.cell? ⟨w.heap.size+1,8,none⟩=some (.slice none 0 0):=a9 HZw3.out (ax 8)
  have y8:w3.frozen? ⟨w.heap.size+1,8,none⟩=false:=aw HZw3.out (ax 8) (aK 8)
  have lz0:=World.block_lt_of_cell? _ _ z0
  have HB6:=Lib.hid (ai aI HZw3.out)
  go_wp2_with fail
  refine bodyPost_ret (v:=.tuple #[.agg #[.int .i64 k5,.string nm5,.int .i64 u5',.int .i64 tk5,.slice ta5 tn5 tq5,.int .i64 fk5,.slice fa5 fn5 fq5,.int .i64 l5,.slice c5' m5 q5],.bool true]) (by simp [results,Try.results8,go_sem,z0,z1,z2,z3,z4,z5,z6,z7,z8]) rfl ?_
  exact⟨_,rfl,b3.mono ((((((((((HV5.out).setCell (by show w.heap.size+1<w.heap.size+1+1;omega) _).setCell (by show w.heap.size+1<w.heap.size+1+1;omega) _).setCell (by show w.heap.size+1<w.heap.size+1+1;omega) _).setCell (by show w.heap.size+1<w.heap.size+1+1;omega) _).setCell (by show w.heap.size+1<w.heap.size+1+1;omega) _).setCell (by show w.heap.size+1<w.heap.size+1+1;omega) _).setCell (by show w.heap.size+1<w.heap.size+1+1;omega) _).setCell (by show w.heap.size+1<w.heap.size+1+1;omega) _).setCell (by show w.heap.size+1<w.heap.size+1+1;omega) _) (by omega),(((((((((HB6.out).setCell (by show w.heap.size≤w.heap.size+1;omega) _).setCell (by show w.heap.size≤w.heap.size+1;omega) _).setCell (by show w.heap.size≤w.heap.size+1;omega) _).setCell (by show w.heap.size≤w.heap.size+1;omega) _).setCell (by show w.heap.size≤w.heap.size+1;omega) _).setCell (by show w.heap.size≤w.heap.size+1;omega) _).setCell (by show w.heap.size≤w.heap.size+1;omega) _).setCell (by show w.heap.size≤w.heap.size+1;omega) _).setCell (by show w.heap.size≤w.heap.size+1;omega) _⟩
end Go.Proofs.Ytnaoghknnenfoaa

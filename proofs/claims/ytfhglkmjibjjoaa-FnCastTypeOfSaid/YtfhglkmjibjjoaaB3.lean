/- Validity of types: the program's and the reference's are one function of trees. -/
import Derived.Test.YtfhglkmjibjjoaaB2
import Derived.Deep.RegionHeld3
import Derived.Deep.QuietTactic
import Derived.BigQuiet
set_option linter.unusedSimpArgs false
set_option linter.unusedVariables false
set_option maxRecDepth 100000
set_option maxHeartbeats 16000000
namespace Go.Proofs.Ytfhglkmjibjjoaa
open Go.RowKit
def bK (k:Int):Int:=if k=1∨k=2∨k=3 then 0 else if k=4∨k=5 then 2 else -1
mutual
def Ty.shape:Ty->Int->Bool
 | .mk k ts,d=>decide (1<=d)&&(decide (bK k=ts.length)&&Ty.shapes ts (d-1))
def Ty.shapes:List Ty->Int->Bool
 | [],_=>true
 | t::ts,d=>t.shape d&&Ty.shapes ts d
end
def Ty.valid (t:Ty):Bool:=t.shape 4
def IdxPost (R:Ty->Bool)(ts:List Ty)(w:World)(e:Ending)(w':World):Prop:=∃i:Int,e = .returned (.int .i64 i)∧decide (0<=i)=ts.any R∧Below w.heap.size w w'
theorem om (R:Ty->Bool)(ts:List Ty)(k:Nat)(h:k<ts.length):(ts.drop k).any R=(R ts[k]||(ts.drop (k+1)).any R):=by
 rw[List.drop_eq_getElem_cons h];rfl
theorem lv (g:FuncId)(p:Value)(R:Ty->Bool)(F:Nat->Prop)(ts:List Ty)(ys:Value)(w:World)(hy:av F w ts ys)
  (hcf : ∀xs W,(callFunc g xs).run Try.prog W = .ok (.enter g xs) W)
  (hg : ∀t∈ts,∀(W:World) (y:Value),Below w.heap.size w W->ai F W t y->Calls Try.prog g #[y,p] W fun e W'=>e = .returned (.bool (R t))∧Below W.heap.size W W') :
  Calls Try.prog 83 #[ys,.func (.func g) #[] #[p]] w (IdxPost R ts w):=by
 have HG:=zq hg;clear hg;obtain⟨a,cap,rfl,h2,h3,-⟩:=hy.open;unfold maxLen at h3;obtain⟨n,hn⟩ : ∃n,ts.length=n:=⟨_,rfl⟩
 rw[hn] at h2 hy ⊢;have HN:=zq hn;clear hn
 go_enter Try.func83,Try.ntmps83
 go_wp2_with fail
 go_loopw [8] (fun i wr=>∃k:Nat,k<=n∧i = .int .i64 k∧Below w.heap.size w wr∧Hid (ts.any R=(ts.drop k).any R)) (fun i _=>n-(intOf i).toNat)
 case atStart=>exact⟨0,by omega,rfl,Below.refl _ _,rfl⟩
 case round=>
  obtain⟨k,hk,rfl,hbw,hR⟩:=hrel
  by_cases hlt:k<n
  ·have hkt:k<ts.length:=by rw[HN.out];exact hlt
   obtain⟨b,off,k0,a0,m0,q0,rfl,l0,e0,e1,ht⟩:=hy.at hbw hkt;have hcall:=HG.out ts[k] (List.getElem_mem hkt) wr _ hbw ht;have hstep:=hR.out.trans (om R ts k hkt);generalize R ts[k]=r at hcall hstep;have HC:=zq hcall;have HS:=zq hstep;clear hcall hstep hR
   cases r
   all_goals
    go_wp2_with fail
    refine HC.out.mono ?_;rintro e w1 ⟨rfl,hb1⟩
    go_wp2_with fail
   ·go_roundw
    case rel=>exact⟨k+1,by omega,by go_num,al hbw hb1,by rw[Hid,HS.out];rfl⟩
    case measure=>simp[intOf];omega
   ·go_ret
    exact⟨_,rfl,by rw[HS.out];simp,al hbw hb1⟩
  ·go_wp2_with fail
   go_ret
   exact⟨_,rfl,by rw[hR.out,List.drop_eq_nil_of_le (by rw[HN.out];omega)];rfl,hbw⟩
theorem iR (g:FuncId)(p:Value)(R:Ty->Bool)(F:Nat->Prop)(ts:List Ty)(ys:Value)(w:World)(hy:av F w ts ys)
  (hcf : ∀xs W,(callFunc g xs).run Try.prog W = .ok (.enter g xs) W)
  (hg : ∀t∈ts,∀(W:World) (y:Value),Below w.heap.size w W->ai F W t y->Calls Try.prog g #[y,p] W fun e W'=>e = .returned (.bool (R t))∧Below W.heap.size W W') :
  Calls Try.prog 68 #[ys,.func (.func g) #[] #[p]] w fun e w'=>e = .returned (.bool (ts.any R))∧Below w.heap.size w w':=by
 have H:=zq (lv g p R F ts ys w hy hcf hg);clear hg hcf hy
 go_enter Try.func68,Try.ntmps68
 go_wp2_with fail
 refine H.out.mono ?_;rintro e w1 ⟨i,rfl,hi,hb1⟩;have HI:=zq hi;clear hi
 go_wp2_with fail
 go_ret
 exact⟨au HI.out,hb1⟩
theorem Ty.shapes_any : ∀(ts:List Ty) (d:Int),ts.any (fun t=> !t.shape d) = !Ty.shapes ts d
 | [],_=>by unfold Ty.shapes;rfl
 | t::ts,d=>by unfold Ty.shapes;rw[List.any_cons,Ty.shapes_any ts d];cases t.shape d<;>rfl
theorem int5 (k:Int):k=1∨k=2∨k=3∨k=4∨k=5∨((k==1)=false∧(k==2)=false∧(k==3)=false∧(k==4)=false∧(k==5)=false):=by
 simp only[beq_eq_false_iff_ne,ne_eq];omega
theorem mF (F:Nat->Prop)(t:Ty)(y:Value)(b:Nat)(d:Int)(w:World)(hy:ai F w t y)(hd0:1<=d)(hd:d<=4)(hc:w.cell? ⟨b,0,none⟩=some (.int .i64 d))
  (IH : ∀(W:World),Below w.heap.size w W->Calls Try.prog 36 #[y,.int .i64 (d+1)] W fun e W'=>e = .returned (.bool (t.shape (5-(d+1))))∧Below W.heap.size W W') :
  Calls Try.prog 69 #[y,.pointer (some ⟨b,0,none⟩)] w fun e w'=>e = .returned (.bool (!t.shape (5-(d+1))))∧Below w.heap.size w w':=by
 obtain⟨a,cap,rfl,h2,h3,hr⟩:=hy.open;have hb:=World.block_lt_of_cell? w _ hc;have H:=zq IH;clear IH hy hr h2 h3;generalize t.shape (5-(d+1))=r at *;generalize t.kind=k at *;generalize t.kids.length=n at *
 cases r
 all_goals
  go_enter Try.func69,Try.ntmps69
  go_wp2_with fail
  refine(H.out _ ag).mono ?_;rintro e w1 ⟨rfl,hb1⟩
  go_wp2_with fail
  go_ret
  exact⟨rfl,al ag hb1⟩
theorem fZ (F:Nat->Prop)(t:Ty) : ∀(d:Int) (y:Value) (w:World),ai F w t y->1<=d->d<=5 ->
  Calls Try.prog 36 #[y,.int .i64 d] w fun e w'=>e = .returned (.bool (t.shape (5-d)))∧Below w.heap.size w w':=by
 intro d y w hy hd0 hd5;have IH : ∀t'∈t.kids,∀(d:Int) (y:Value) (W:World),ai F W t' y->1<=d->d<=5->Calls Try.prog 36 #[y,.int .i64 d] W fun e W'=>e = .returned (.bool (t'.shape (5-d)))∧Below W.heap.size W W':=
  fun t' ht d y W a b c=>fZ F t' d y W a b c
 obtain⟨a,cap,rfl,h2,h3,hr⟩:=hy.open
 cases t with | mk k ts=>
 simp only[Ty.kind,Ty.kids] at *;unfold maxLen at h3;have H4:d<=4->∀(W:World) (b:Nat),Below w.heap.size w W->W.cell? ⟨b,0,none⟩=some (.int .i64 d) ->
   Calls Try.prog 68 #[.slice a ts.length cap,.func (.func 69) #[] #[.pointer (some ⟨b,0,none⟩)]] W fun e w'=>e = .returned (.bool (!Ty.shapes ts (5-(d+1))))∧Below W.heap.size W w':=by
  intro hd W b hW hcell;have:=iR 69 (.pointer (some ⟨b,0,none⟩)) (fun t=> !t.shape (5-(d+1))) F ts _ W (hr.below hW) Try.call69
   (fun t ht W' y hW' hy=>mF F t y b d W' hy hd0 hd (af hW' hcell) fun W2 hW2=>IH t ht (d+1) y W2 (hy.below hW2) (by omega) (by omega))
  rw[Ty.shapes_any] at this
  exact this
 have HH:=zq H4;clear H4 IH hy hr;generalize hn:ts.length=n at *;unfold Ty.shape;rw[hn];clear hn;have e5:5-(d+1)=5-d-1:=by omega
 rw[e5] at HH;clear e5;generalize Ty.shapes ts (5-d-1)=r at *
 by_cases hd:d<=4
 ·have hdec:decide (1<=5-d)=true:=by simp;omega
  rw[hdec];clear hdec;have HF:=zq (HH.out hd);clear HH
  rcases int5 k with rfl | rfl | rfl | rfl | rfl | ⟨g1,g2,g3,g4,g5⟩
  ·by_cases h:n=0
   ·subst h
    cases r
    all_goals
     go_enter Try.func36,Try.ntmps36
     go_wp2_with fail
     refine(HF.out _ _ aZ (cg 0)).mono ?_;rintro e w1 ⟨rfl,hb1⟩
     go_wp2_with fail
     go_ret
     exact⟨au (by decide),al aZ hb1⟩
   ·have hne:((0:Int)==(n:Int))=false:=by simp;omega
    have HX:=zq h;clear h
    go_enter Try.func36,Try.ntmps36
    go_wp2_with fail
    go_ret
    exact⟨au (by have:=HX.out;rw[decide_eq_false (by unfold bK;simp;omega)];rfl),aZ⟩
  ·by_cases h:n=0
   ·subst h
    cases r
    all_goals
     go_enter Try.func36,Try.ntmps36
     go_wp2_with fail
     refine(HF.out _ _ aZ (cg 0)).mono ?_;rintro e w1 ⟨rfl,hb1⟩
     go_wp2_with fail
     go_ret
     exact⟨au (by decide),al aZ hb1⟩
   ·have hne:((0:Int)==(n:Int))=false:=by simp;omega
    have HX:=zq h;clear h
    go_enter Try.func36,Try.ntmps36
    go_wp2_with fail
    go_ret
    exact⟨au (by have:=HX.out;rw[decide_eq_false (by unfold bK;simp;omega)];rfl),aZ⟩
  ·by_cases h:n=0
   ·subst h
    cases r
    all_goals
     go_enter Try.func36,Try.ntmps36
     go_wp2_with fail
     refine(HF.out _ _ aZ (cg 0)).mono ?_;rintro e w1 ⟨rfl,hb1⟩
     go_wp2_with fail
     go_ret
     exact⟨au (by decide),al aZ hb1⟩
   ·have hne:((0:Int)==(n:Int))=false:=by simp;omega
    have HX:=zq h;clear h
    go_enter Try.func36,Try.ntmps36
    go_wp2_with fail
    go_ret
    exact⟨au (by have:=HX.out;rw[decide_eq_false (by unfold bK;simp;omega)];rfl),aZ⟩
  ·by_cases h:n=2
   ·subst h
    cases r
    all_goals
     go_enter Try.func36,Try.ntmps36
     go_wp2_with fail
     refine(HF.out _ _ aZ (cg 0)).mono ?_;rintro e w1 ⟨rfl,hb1⟩
     go_wp2_with fail
     go_ret
     exact⟨au (by decide),al aZ hb1⟩
   ·have hne:((2:Int)==(n:Int))=false:=by simp;omega
    have HX:=zq h;clear h
    go_enter Try.func36,Try.ntmps36
    go_wp2_with fail
    go_ret
    exact⟨au (by have:=HX.out;rw[decide_eq_false (by unfold bK;simp;omega)];rfl),aZ⟩
  ·by_cases h:n=2
   ·subst h
    cases r
    all_goals
     go_enter Try.func36,Try.ntmps36
     go_wp2_with fail
     refine(HF.out _ _ aZ (cg 0)).mono ?_;rintro e w1 ⟨rfl,hb1⟩
     go_wp2_with fail
     go_ret
     exact⟨au (by decide),al aZ hb1⟩
   ·have hne:((2:Int)==(n:Int))=false:=by simp;omega
    have HX:=zq h;clear h
    go_enter Try.func36,Try.ntmps36
    go_wp2_with fail
    go_ret
    exact⟨au (by have:=HX.out;rw[decide_eq_false (by unfold bK;simp;omega)];rfl),aZ⟩
  ·have hk:bK k = -1:=by
    simp only[beq_eq_false_iff_ne,ne_eq] at g1 g2 g3 g4 g5;unfold bK;rw[if_neg (by omega),if_neg (by omega)]
   have HK:=zq hk;clear hk;have hne:((-1:Int)==(n:Int))=false:=by simp
   go_enter Try.func36,Try.ntmps36
   go_wp2_with fail
   go_ret
   exact⟨au (by rw[HK.out,decide_eq_false (by omega)];rfl),aZ⟩
 ·obtain rfl:d=5:=by omega
  clear HH
  go_enter Try.func36,Try.ntmps36
  go_wp2_with fail
  all_goals (go_ret;exact⟨au (by simp),aZ⟩)
termination_by SizeOf.sizeOf t
decreasing_by exact Ty.kid_lt ht
theorem d9 (F:Nat->Prop)(t:Ty)(y:Value)(w:World)(hy:ai F w t y) :
  Calls Try.prog 20 #[y] w fun e w'=>e = .returned (.bool t.valid)∧Below w.heap.size w w':=by
 have H:=zq fun W (h:Below w.heap.size w W)=>fZ F t 1 y W (hy.below h) (by omega) (by omega);obtain⟨k,a,n,q,rfl⟩:=hy.shape;clear hy
 go_enter Try.func20,Try.ntmps20
 go_wp2_with fail
 refine(H.out _ ag).mono ?_;rintro e w1 ⟨rfl,hb1⟩
 go_wp2_with fail
 go_ret
 exact⟨au rfl,al ag hb1⟩
theorem cd (k:Int)(w:World):Calls Try.prog 76 #[.int .i64 k] w fun e w'=>e = .returned (.int .i64 (bK k))∧w=w':=by
 rcases int5 k with rfl | rfl | rfl | rfl | rfl | ⟨g1,g2,g3,g4,g5⟩
 case inr.inr.inr.inr.inr=>
  have hk:bK k = -1:=by
   simp only[beq_eq_false_iff_ne,ne_eq] at g1 g2 g3 g4 g5;unfold bK;rw[if_neg (by omega),if_neg (by omega)]
  have HK:=zq hk;clear hk
  go_enter Try.func76,Try.ntmps76
  go_wp2_with fail
  go_ret
  exact⟨bg HK.out.symm,rfl⟩
 all_goals
  go_enter Try.func76,Try.ntmps76
  go_wp2_with fail
  go_ret
  exact⟨bg (by decide),rfl⟩
theorem Ty.shapes_drop (ts:List Ty)(d:Int)(k:Nat)(h:k<ts.length):Ty.shapes (ts.drop k) d=(ts[k].shape d&&Ty.shapes (ts.drop (k+1)) d):=by
 rw[List.drop_eq_getElem_cons h];conv=>lhs;unfold Ty.shapes
theorem ij (F:Nat->Prop)(t:Ty) : ∀(d:Int) (y:Value) (w:World),ai F w t y->0<=d->d<=100 ->
  Calls Try.prog 82 #[y,.int .i64 d] w fun e w'=>e = .returned (.bool (t.shape d))∧Below w.heap.size w w':=by
 intro d y w hy hd0 hd5;have IH : ∀t'∈t.kids,∀(d:Int) (y:Value) (W:World),ai F W t' y->0<=d->d<=100->Calls Try.prog 82 #[y,.int .i64 d] W fun e W'=>e = .returned (.bool (t'.shape d))∧Below W.heap.size W W':=
  fun t' ht d y W a b c=>ij F t' d y W a b c
 obtain⟨a,cap,rfl,h2,h3,hr⟩:=hy.open
 cases t with | mk k ts=>
 simp only[Ty.kind,Ty.kids] at *;unfold maxLen at h3;have IHH:=zq IH;clear IH hy;unfold Ty.shape;obtain⟨n,hn⟩ : ∃n,ts.length=n:=⟨_,rfl⟩
 rw[hn] at h2 hr ⊢;have HN:=zq hn;clear hn
 by_cases hd:d<1
 ·obtain rfl:d=0:=by omega
  go_enter Try.func82,Try.ntmps82
  go_wp2_with fail
  go_quiet (fail)
  go_wp2_with fail
  go_ret
  exact⟨au (by simp),ed ag _⟩
 ·have hd1:1<=d:=by omega
  have hdec:decide (1<=d)=true:=by simpa using hd1
  have hdlt:decide (d<1)=false:=by simpa using hd
  rw[hdec];clear hd hdec
  by_cases hk:bK k=n
  ·have hkk:(bK k != (n:Int))=false:=by simp[hk]
   rw[hk];have HK:=zq hk;clear hk
   go_enter Try.func82,Try.ntmps82
   go_wp2_with fail
   go_region_held3 (fun w'=>w'.cell? ⟨w.heap.size,0,none⟩=some (.int .i64 k)∧w'.cell? ⟨w.heap.size,1,none⟩=some (.slice a n cap)) (go_keep)
    (first | (go_at_call 76;refine(cd _ _).mono ?_;rintro e w1 ⟨rfl,rfl⟩))
   go_wp2_with fail
   go_loopw [5] (fun i wr=>∃j:Nat,j<=n∧i = .int .i64 j∧Below w.heap.size w wr∧wr.cell? ⟨w.heap.size,1,none⟩=some (.slice a n cap)∧Hid (Ty.shapes ts (d-1)=Ty.shapes (ts.drop j) (d-1))) (fun i _=>n-(intOf i).toNat)
   case atStart=>exact⟨0,by omega,rfl,ag.drew,by simp,rfl⟩
   case round=>
    obtain⟨j,hj,rfl,hbw,hc1,hR⟩:=hrel
    by_cases hlt:j<n
    ·have hjt:j<ts.length:=by rw[HN.out];exact hlt
     obtain⟨b,off,k0,a0,m0,q0,rfl,l0,e0,e1,ht⟩:=hr.at hbw hjt;have hcall:=IHH.out ts[j] (List.getElem_mem hjt) (d-1) _ wr ht (by omega) (by omega);have hstep:=hR.out.trans (Ty.shapes_drop ts (d-1) j hjt);generalize ts[j].shape (d-1)=r at hcall hstep;have HC:=zq hcall;have HS:=zq hstep;clear hcall hstep hR
     cases r
     all_goals
      go_wp2_with fail
      refine HC.out.mono ?_;rintro e w1 ⟨rfl,hb1⟩
      go_wp2_with fail
     ·go_ret
      exact⟨au (by rw[HS.out];simp),al hbw hb1⟩
     ·go_roundw
      case rel=>exact⟨j+1,by omega,by go_num,al hbw hb1,af hb1 hc1,by rw[Hid,HS.out];rfl⟩
      case measure=>simp[intOf];omega
    ·go_wp2_with fail
     go_ret
     exact⟨au (by rw[hR.out,List.drop_eq_nil_of_le (by rw[HN.out];omega)];unfold Ty.shapes;simp),hbw⟩
  ·have hkk:(bK k != (n:Int))=true:=by simpa using hk
   have HK:=zq hk;clear hk
   go_enter Try.func82,Try.ntmps82
   go_wp2_with fail
   go_region_held3 (fun w'=>w'.cell? ⟨w.heap.size,0,none⟩=some (.int .i64 k)∧w'.cell? ⟨w.heap.size,1,none⟩=some (.slice a n cap)) (go_keep)
    (first | (go_at_call 76;refine(cd _ _).mono ?_;rintro e w1 ⟨rfl,rfl⟩))
   go_wp2_with fail
   go_ret
   exact⟨au (by rw[decide_eq_false HK.out];simp),ag.drew⟩
termination_by SizeOf.sizeOf t
decreasing_by exact Ty.kid_lt ht
theorem ce (F:Nat->Prop)(t:Ty)(y:Value)(w:World)(hy:ai F w t y) :
  Calls Try.prog 61 #[y] w fun e w'=>e = .returned (.bool t.valid)∧Below w.heap.size w w':=by
 have H:=zq fun W (h:Below w.heap.size w W)=>ij F t 4 y W (hy.below h) (by omega) (by omega);obtain⟨k,a,n,q,rfl⟩:=hy.shape;clear hy
 go_enter Try.func61,Try.ntmps61
 go_wp2_with fail
 refine(H.out _ ag).mono ?_;rintro e w1 ⟨rfl,hb1⟩
 go_wp2_with fail
 go_ret
 exact⟨au rfl,al ag hb1⟩
theorem Ty.shape_mk {k:Int}{ts:List Ty}{d:Int}(h:(Ty.mk k ts).shape d=true):1<=d∧bK k=ts.length∧Ty.shapes ts (d-1)=true:=by
 unfold Ty.shape at h
 simpa using h
end Go.Proofs.Ytfhglkmjibjjoaa

/- The type of a term by the reference is valid. And what else its parts name. -/
import Derived.Test.YtfhglkmjibjjoaaB30
import Derived.Test.YtfhglkmjibjjoaaB32
import Derived.Test.YtfhglkmjibjjoaaB16
import Derived.Test.YtfhglkmjibjjoaaB20
set_option linter.unusedSimpArgs false
set_option linter.unusedVariables false
set_option maxRecDepth 100000
set_option maxHeartbeats 16000000
namespace Go.Proofs.Ytfhglkmjibjjoaa
open Go.RowKit
theorem S.meet_okT : ∀s u:S,s.cons u=true->s.ok=true->u.ok=true->(s.meet u).ok=true:=by
 intro s
 induction s with
 | fn a b ha hb=>
  intro u h h1 h2
  cases u<;>simp[S.cons] at h
  ·simpa [S.meet] using h1
  ·simp[S.ok] at h1 h2
   simp[S.meet,S.ok,ha _ h.1 h1.1 h2.1,hb _ h.2 h1.2 h2.2]
 | pr a b ha hb=>
  intro u h h1 h2
  cases u<;>simp[S.cons] at h
  ·simpa [S.meet] using h1
  ·simp[S.ok] at h1 h2
   simp[S.meet,S.ok,ha _ h.1 h1.1 h2.1,hb _ h.2 h1.2 h2.2]
 | _=>intro u h h1 h2;cases u<;>simp[S.cons] at h<;>simpa [S.meet] using (by assumption)
theorem S.meet_depT : ∀s u:S,s.cons u=true->(s.meet u).dep<=max s.dep u.dep:=by
 intro s
 induction s with
 | fn a b ha hb=>
  intro u h
  cases u<;>simp[S.cons] at h
  ·simp only[S.meet];exact Nat.le_max_left _ _
  ·rename_i c d
   have h1:=ha _ h.1;have h2:=hb _ h.2;simp only[S.meet,S.dep]
   omega
 | pr a b ha hb=>
  intro u h
  cases u<;>simp[S.cons] at h
  ·simp only[S.meet];exact Nat.le_max_left _ _
  ·rename_i c d
   have h1:=ha _ h.1;have h2:=hb _ h.2;simp only[S.meet,S.dep]
   omega
 | _=>intro u h;cases u<;>simp[S.cons] at h<;>simp only[S.meet]<;>first | exact Nat.le_max_left _ _ | exact Nat.le_max_right _ _
theorem S.meet_vdT (s u:S)(h:s.cons u=true)(hs:s.vd=true)(hu:u.vd=true):(s.meet u).vd=true:=by
 have h1:=S.meet_okT s u h (S.vd_ok hs) (S.vd_ok hu);have h2:=S.meet_depT s u h;have h3:=S.vd_dep hs;have h4:=S.vd_dep hu
 exact S.vd_mk h1 (by omega)
theorem oI {k:Int}{ty:Ty}{hs:List S}{h:S}(hk:k≠5)(hv : ∀g∈hs,g.vd=true)(hvt:k=13->ty.valid=true)(e:bi k ty hs=some h):h.vd=true:=by
 match hs,hv,e with
 | [],_,e=>simp[bi] at e
 | [g],hv,e=>
  simp only[bi,if_neg hk] at e
  split at e
  ·rename_i h13
   split at e
   ·simp at e;subst e;exact Ty.toS_vd (hvt h13)
   ·cases e
  ·split at e
   ·rename_i hm
    have hp:=iU (k:=5) (hv g (by simp)) hm;simp only[Option.some.injEq] at e;subst e
    split
    ·exact hp.2
    ·exact hp.1
   ·cases e
 | [g,q],hv,e=>
  simp only[bi] at e
  split at e
  ·split at e
   ·rename_i hm
    simp only[Bool.and_eq_true] at hm;simp only[Option.some.injEq] at e;subst e
    exact(iU (k:=4) (hv g (by simp)) hm.1).2
   ·cases e
  ·split at e
   ·split at e
    ·rename_i h10 hvd;simp at e;subst e;exact hvd
    ·cases e
   ·split at e
    ·simp only[Option.some.injEq] at e
     subst e
     split<;>rfl
    ·cases e
 | [c,g,q],hv,e=>
  simp only[bi] at e
  split at e
  ·rename_i hm
   simp only[Bool.and_eq_true] at hm;simp only[Option.some.injEq] at e;subst e
   exact S.meet_vdT _ _ hm.1 (hv g (by simp)) (hv q (by simp))
  ·cases e
 | _::_::_::_::_,_,e=>simp[bi] at e
theorem mG {d:Int}{l:List Bd}(hc:cz l) : ∀(ts:List Tm),Tm.shapes ts 14 d=true->(∀t∈ts,∀h,t.shape 14 d=true->t.typS l=some h->h.vd=true)->∀hs,Tm.typsS ts l=some hs->hs.length=ts.length∧∀h∈hs,h.vd=true
 | [],_,_,hs,e=>by simp[Tm.typsS] at e;subst e;simp
 | t::ts,hsh,IH,hs,e=>by
  unfold Tm.shapes at hsh;simp only[Bool.and_eq_true] at hsh;rw[Tm.typsS] at e
  cases h1:t.typS l with
  | none=>rw[h1] at e;cases e
  | some h=>
   rw[h1] at e
   dsimp only at e
   cases h2:Tm.typsS ts l with
   | none=>rw[h2] at e;cases e
   | some hs2=>
    rw[h2] at e;simp only[Option.some.injEq] at e;subst e;obtain⟨e1,e2⟩:=mG hc ts hsh.2 (fun t' ht'=>IH t' (List.mem_cons_of_mem _ ht')) hs2 h2;refine⟨by simp[e1],fun g hg=>?_⟩
    rcases List.mem_cons.1 hg with rfl | hg
    ·exact IH t (by simp) _ hsh.1 h1
    ·exact e2 g hg
theorem gZ {k u lb:Int}{nm:ByteArray}{ty src:Ty}{ts:List Tm}(h:(Tm.mk k nm u ty src lb ts).ownB=true)(hk:k=5∨k=13):ty.valid=true:=by
 unfold Tm.ownB ownB at h;simp only[Tm.kind,Tm.type,Tm.src,Tm.num,Tm.label,Tm.name] at h
 rcases hk with rfl | rfl
 ·simp at h;exact h.1.2
 ·simp at h;exact h.1.2
theorem dT : ∀(t:Tm) (d:Int) (l:List Bd),t.shape 14 d=true->cz l->∀h,t.typS l=some h->h.vd=true
 | .mk k nm u ty src lb ts,d,l,hsh,hc,h,e=>by
  obtain⟨hd,hk13,hlen,hown,hkids⟩:=Tm.shape_parts hsh;have IH : ∀t'∈ts,∀l',cz l'->∀h',t'.shape 14 (d-1)=true->t'.typS l'=some h'->h'.vd=true:=fun t' ht' l' hc' h' hs' e'=>dT t' (d-1) l' hs' hc' h' e'
  by_cases h1:k=1
  ·subst h1
   rw[Tm.typS,if_pos rfl] at e
   cases hlk:bS l nm l.length with
   | none=>rw[hlk] at e;cases e
   | some t'=>rw[hlk] at e;simp at e;subst e;exact Ty.toS_vd (dR hc _ _ hlk)
  by_cases h2:k=2
  ·subst h2;rw[Tm.typS,if_neg (by omega),if_pos rfl] at e;simp at e;subst e;rfl
  by_cases h34:k=3∨k=4
  ·rw[Tm.typS,if_neg h1,if_neg h2,if_pos h34] at e;simp at e;subst e;rfl
  by_cases h5:k=5
  ·subst h5
   rw[Tm.typS,if_neg (by omega),if_neg (by omega),if_neg (by omega),if_pos rfl] at e
   split at e
   ·split at e
    ·rename_i hv;simp at e;subst e;exact hv
    ·cases e
   ·cases e
  rw[Tm.typS,if_neg h1,if_neg h2,if_neg h34,if_neg h5] at e
  cases hcs:Tm.typsS ts l with
  | none=>rw[hcs] at e;cases e
  | some hs=>
   rw[hcs] at e
   exact oI h5 (mG hc ts hkids (fun t' ht' h' hs' e'=>IH t' ht' l hc h' hs' e') hs hcs).2 (fun h13=>gZ hown (.inr h13)) e
termination_by t=>SizeOf.sizeOf t
decreasing_by exact Tm.kid_lt (t:=.mk k nm u ty src lb ts) ht'
theorem mj (k:Int)(hs:List S)(hk:6<=k∧k<=13)(hlen:aD k=(hs.length:Int))(hv : ∀h∈hs,h.vd=true)(G1 G2 G3:Nat->Prop)(nm:ByteArray)(u lb tk fk:Int)(ty src:Ty)(ta fa ca:Option Addr)(tn tq fn fq cm cq:Nat)(w:World)(hty:ai G1 w ty (.agg #[.int .i64 tk,.slice ta tn tq]))(hsrc:ai G2 w src (.agg #[.int .i64 fk,.slice fa fn fq]))(hvt:k=13->ty.valid=true)(y:Value)(hy:av G3 w (hs.map S.ty) y) :
  Calls Try.prog 60 #[.agg (nv k nm u tk ta tn tq fk fa fn fq lb ca cm cq),y] w (aX ((bi k ty hs).map S.ty) w):=by
 have hcase:k=6∨k=7∨k=8∨k=9∨k=10∨k=11∨k=12∨k=13:=by omega
 have two : ∀ {l:List S},l.length=2->∃a b,l = [a,b]:=fun {l} h=>by
  match l,h with
  | [a,b],_=>exact⟨a,b,rfl⟩
 rcases hcase with rfl | rfl | rfl | rfl | rfl | rfl | rfl | rfl
 ·obtain⟨h1,h2,rfl⟩:=two (l:=hs) (by simp[aD] at hlen;omega)
  cases e:(h1.mat 4).2.2 with
  | false=>exact it G1 G2 G3 nm u lb tk fk ty src ta fa ca tn tq fn fq cm cq w hty hsrc y h1 h2 e (hv h1 (by simp)) (hv h2 (by simp)) hy
  | true=>exact iu G1 G2 G3 nm u lb tk fk ty src ta fa ca tn tq fn fq cm cq w hty hsrc y h1 h2 e (hv h1 (by simp)) (hv h2 (by simp)) hy
 ·obtain⟨h1,h2,rfl⟩:=two (l:=hs) (by simp[aD] at hlen;omega)
  cases e:h1.cons .int with
  | false=>exact iv G1 G2 G3 nm u lb tk fk ty src ta fa ca tn tq fn fq cm cq w hty hsrc y h1 h2 e (hv h1 (by simp)) (hv h2 (by simp)) hy
  | true=>exact iw G1 G2 G3 nm u lb tk fk ty src ta fa ca tn tq fn fq cm cq w hty hsrc y h1 h2 e (hv h1 (by simp)) (hv h2 (by simp)) hy
 ·obtain⟨h1,h2,rfl⟩:=two (l:=hs) (by simp[aD] at hlen;omega)
  cases e:h1.cons .int with
  | false=>exact ix G1 G2 G3 nm u lb tk fk ty src ta fa ca tn tq fn fq cm cq w hty hsrc y h1 h2 e (hv h1 (by simp)) (hv h2 (by simp)) hy
  | true=>exact iy G1 G2 G3 nm u lb tk fk ty src ta fa ca tn tq fn fq cm cq w hty hsrc y h1 h2 e (hv h1 (by simp)) (hv h2 (by simp)) hy
 ·obtain⟨h1,h2,h3,rfl⟩ : ∃a b c,hs = [a,b,c]:=by
   have:hs.length=3:=by simp[aD] at hlen;omega
   match hs,this with
   | [a,b,c],_=>exact⟨a,b,c,rfl⟩
  cases e:h2.cons h3 with
  | false=>exact iz G1 G2 G3 nm u lb tk fk ty src ta fa ca tn tq fn fq cm cq w hty hsrc y h1 h2 h3 e (hv h1 (by simp)) (hv h2 (by simp)) (hv h3 (by simp)) hy
  | true=>exact iA G1 G2 G3 nm u lb tk fk ty src ta fa ca tn tq fn fq cm cq w hty hsrc y h1 h2 h3 e (hv h1 (by simp)) (hv h2 (by simp)) (hv h3 (by simp)) hy
 ·obtain⟨h1,h2,rfl⟩:=two (l:=hs) (by simp[aD] at hlen;omega)
  exact j9 G1 G2 G3 nm u lb tk fk ty src ta fa ca tn tq fn fq cm cq w hty hsrc y h1 h2 (hv h1 (by simp)) (hv h2 (by simp)) hy
 ·obtain⟨h1,rfl⟩ : ∃h1,hs = [h1]:=List.length_eq_one_iff.1 (by simp[aD] at hlen;omega)
  exact ja G1 G2 G3 nm u lb tk fk ty src ta fa ca tn tq fn fq cm cq w hty hsrc y h1 (hv h1 (by simp)) hy
 ·obtain⟨h1,rfl⟩ : ∃h1,hs = [h1]:=List.length_eq_one_iff.1 (by simp[aD] at hlen;omega)
  exact jb G1 G2 G3 nm u lb tk fk ty src ta fa ca tn tq fn fq cm cq w hty hsrc y h1 (hv h1 (by simp)) hy
 ·obtain⟨h1,rfl⟩ : ∃h1,hs = [h1]:=List.length_eq_one_iff.1 (by simp[aD] at hlen;omega)
  exact jc G1 G2 G3 nm u lb tk fk ty src ta fa ca tn tq fn fq cm cq w hty hsrc y (hvt rfl) h1 (hv h1 (by simp)) hy
theorem og {ts:List Tm}{l:List Bd}{j:Nat}(h:j<ts.length):Tm.typsS (ts.drop j) l=match ts[j].typS l with
  | none=>none
  | some h=>(match Tm.typsS (ts.drop (j+1)) l with
    | none=>none
    | some hs=>some (h::hs)):=by
 rw[List.drop_eq_getElem_cons h,Tm.typsS]
 cases ts[j].typS l with
 | none=>rfl
 | some x=>cases Tm.typsS (ts.drop (j+1)) l<;>rfl
theorem oe {k:Int}{nm:ByteArray}{u lb:Int}{ty src:Ty}{ts:List Tm}{l:List Bd}(hk:6<=k):(Tm.mk k nm u ty src lb ts).typS l=match Tm.typsS ts l with
  | some hs=>bi k ty hs
  | none=>none:=by
 rw[Tm.typS,if_neg (by omega),if_neg (by omega),if_neg (by omega),if_neg (by omega)]
 cases Tm.typsS ts l<;>rfl
theorem nA (G:Nat->Prop)(k:Int)(nm:ByteArray)(u lb tk fk:Int)(ty src:Ty)(ts:List Tm)(l:List Bd)(xa ta fa ca:Option Addr)(xn xq tn tq fn fq cm cq:Nat)(w:World)
  (he:aB G w (.mk k nm u ty src lb ts) (.agg (nv k nm u tk ta tn tq fk fa fn fq lb ca cm cq)))
  (IH : ∀t'∈ts,∀(W:World) (y':Value),Below w.heap.size w W->aB G W t' y'->Calls Try.prog 31 #[.slice xa xn xq,y'] W (aX ((t'.typS l).map S.ty) W))
  (IV : ∀t'∈ts,∀h,t'.typS l=some h->h.vd=true)
  (hk:6<=k∧k<=13) (hlen:aD k=(ts.length:Int)) (hvt:k=13->ty.valid=true) (hsm:ts.length<=3) :
  Calls Try.prog 31 #[.slice xa xn xq,.agg (nv k nm u tk ta tn tq fk fa fn fq lb ca cm cq)] w (aX (((Tm.mk k nm u ty src lb ts).typS l).map S.ty) w):=by
 obtain⟨-,-,-,-,-,-,-,-,hm,hnm,hmq,hqm,hty,hsrc,hks⟩:=he.parts;simp only[Tm.type,Tm.src,Tm.kids] at hm hty hsrc hks;obtain⟨i0,hi,hz0,hz1,hz2⟩:=info_parts Try.infoTy;have Z0:=zq hz0;have Z1:=zq hz1;have Z2:=zq hz2;have HI:=zq hi;have q1:(k==1)=false:=by rw[beq_eq_false_iff_ne];omega
 have q2:(k==2)=false:=by rw[beq_eq_false_iff_ne];omega
 have q3:(k==3)=false:=by rw[beq_eq_false_iff_ne];omega
 have q4:(k==4)=false:=by rw[beq_eq_false_iff_ne];omega
 have q5:(k==5)=false:=by rw[beq_eq_false_iff_ne];omega
 have hm3:cm<=3:=by omega
 have HM:=zq hm;have HKS:=zq hks;have HIH:=zq IH;have HIV:=zq IV;have HEX:=zq (fun(hs:List S) (h1:hs.length=ts.length) (h2 : ∀h∈hs,h.vd=true) (W:World) (hW:Below w.heap.size w W) (G3:Nat->Prop) (y:Value) (hy:av G3 W (hs.map S.ty) y)=>mj k hs hk (by rw[h1];exact hlen) h2 G G G3 nm u lb tk fk ty src ta fa ca tn tq fn fq cm cq W (hty.below hW) (hsrc.below hW) hvt y hy);obtain⟨O,hO⟩ : ∃O:Option Ty,O=((Tm.mk k nm u ty src lb ts).typS l).map S.ty:=⟨_,rfl⟩
 rw[<-hO];have HO:=zq (show O=(match Tm.typsS ts l with
   | some hs=>bi k ty hs
   | none=>none:Option S).map S.ty from by rw[hO,oe (by omega)])
 have fE:=zq (a9 (a9 (aA (w:=w) (o:=.cells (nv k nm u tk ta tn tq fk fa fn fq lb ca cm cq) 28) rfl) (ag (o:=.cells #[.int .i64 0,.slice none 0 0] 25))) (ag (o:=.cells #[] 25)));have fR:=zq (a9 (aA (w:=w.alloc (.cells (nv k nm u tk ta tn tq fk fa fn fq lb ca cm cq) 28)) (o:=.cells #[.int .i64 0,.slice none 0 0] 25) (b:=w.heap.size+1) (by simp)) (ag (o:=.cells #[] 25)));have fK:=zq (aA (w:=(w.alloc (.cells (nv k nm u tk ta tn tq fk fa fn fq lb ca cm cq) 28)).alloc (.cells #[.int .i64 0,.slice none 0 0] 25)) (o:=.cells #[] 25) (b:=w.heap.size+1+1) (by simp));clear hO he IH IV hty hsrc hks hi hz0 hz1 hz2 hm hlen hvt hk
 go_enter Try.func31,Try.ntmps31
 go_wp2_with fail
 go_loopw [8,9] (fun s8 s9 wr=>∃(j:Nat) (hs:List S) (cv:Option Addr) (qv:Nat),j<=cm∧s8 = .slice cv j qv∧s9 = .int .i64 j∧Hid (Below w.heap.size w wr)∧w.heap.size+1+1<wr.heap.size ∧
     Hid (wr.heap[w.heap.size]?=some (.cells (nv k nm u tk ta tn tq fk fa fn fq lb ca cm cq) 28 (0,0)))∧Hid (wr.heap[w.heap.size+1]?=some (.cells #[.int .i64 0,.slice none 0 0] 25 (0,0)))∧Hid (bR (w.heap.size+1+1) 25 2 wr (.slice cv j qv) j (Ty.rows (hs.map S.ty))) ∧
     Hid (hs.length=j∧(∀h∈hs,h.vd=true)∧Tm.typsS ts l=(Tm.typsS (ts.drop j) l).map (hs ++ ·))) (fun _ i _=>cm-(intOf i).toNat)
 case atStart=>exact⟨0,[],_,_,by omega,rfl,rfl,zq (al (al ag ag) ag),by simp,fE,fR,zq ⟨rfl,[],⟨rfl,.inr ⟨_,0,#[],rfl,Nat.le_refl _,fK.out,Nat.le_refl _,by unfold maxLen;omega,rfl,by simp⟩⟩,rfl⟩,zq ⟨rfl,by simp,by simp⟩⟩
 case round=>
  obtain⟨j,hs,cv,qv,hj,rfl,rfl,hbw,hsz,hE,hR,hrow,hrel2⟩:=hrel;clear fE fR fK;have x0:=ah hE.out (o:=6) rfl;have x8:=ah hE.out (o:=8) rfl;have lx8:w.heap.size<wr.heap.size:=by omega
  by_cases hlt:j<cm
  ·have hjt:j<ts.length:=by rw[<-HM.out];exact hlt
   obtain⟨b,off,kk0,nn0,uu0,tk0,ta0,tn0,tq0,fk0,fa0,fn0,fq0,ll0,a0,m0,q0,rfl,lb_,e0,e1,e2,e3,e4,e5,e6,e7,e8,ht⟩:=HKS.out.at hbw.out hjt;have HC:=zq (HIH.out ts[j] (List.getElem_mem hjt) wr _ hbw.out ht);have HCV:=zq (HIV.out ts[j] (List.getElem_mem hjt));have HCD:=zq (og (l:=l) hjt);generalize hoj:ts[j].typS l=oj at HC HCV HCD;have lr:=aw hR.out;have hz3:j+1<=3:=by omega
   clear hoj ht
   cases oj with
   | none=>
    have HREL:=zq (show O=none from by rw[HO.out,hrel2.out.2.2,HCD.out];rfl);have r0:=ah hR.out (o:=0) rfl
    go_wp2_with fail
    refine HC.out.mono ?_;rintro e w1 ⟨kt,at_,nt,qt,bt,tt,rfl,hbt,htt,hot,hst⟩;obtain rfl:bt=false:=hbt;have hR1:=a9 hR.out hst;have HB1:=zq (al hbw.out hst);have hz1:=hst.size;clear htt hot hst r0;obtain⟨r0,r1⟩:=blk2 hR1;have rf0:=aj hR1 0;have rf1:=aj hR1 1;have lr1:=aw hR1;have lr2:w.heap.size+1<w1.heap.size+1:=by omega
    go_wp2_with fail
    have hY:(((w1.setCell ⟨w.heap.size+1,0,none⟩ (.int .i64 0)).setCell ⟨w.heap.size+1,1,none⟩ (.slice none 0 0)).alloc (.cells #[.int .i64 kt,.slice at_ nt qt] 25)).heap[w.heap.size+1]?=some (.cells #[.int .i64 0,.slice none 0 0] 25 (0,0)):=a9 (az (az hR1 rfl) rfl) ag;obtain⟨rc0,rc1⟩:=blk2 hY;refine bq (.tuple #[.agg #[.int .i64 0,.slice none 0 0],.bool false]) (by simp[results,Try.results31,go_sem,rc0,rc1]) ?_
    exact⟨_,_,_,_,_,_,rfl,by rw[HREL.out];rfl,ai.zeroG,(by rw[HREL.out];intro s h;cases h),al ((HB1.out.setCell (p:=⟨w.heap.size+1,0,none⟩) (by show w.heap.size<=w.heap.size+1;omega) _).setCell (p:=⟨w.heap.size+1,1,none⟩) (by show w.heap.size<=w.heap.size+1;omega) _) ag⟩
   | some hh=>
    have HVD:=zq (HCV.out hh rfl);have HNX:=zq (show Tm.typsS ts l=(Tm.typsS (ts.drop (j+1)) l).map ((hs ++ [hh]) ++ ·) from by
      rw[hrel2.out.2.2,HCD.out]
      cases Tm.typsS (ts.drop (j+1)) l<;>simp)
    obtain⟨hlenr,xs,ho,hvals⟩:=hrow.out;have HLEN:=zq hlenr;have HOW:=zq ho;have HV:=zq hvals;clear hlenr ho hvals hrow
    go_wp2_with fail
    refine HC.out.mono ?_;rintro e w1 ⟨kt,at_,nt,qt,bt,tt,rfl,hbt,htt,hot,hst⟩;obtain rfl:bt=true:=hbt;obtain rfl:tt=hh.ty:=hot _ rfl;have HT1:=zq htt;have HST:=zq hst;have hE1:=a9 hE.out hst;have hR1:=a9 hR.out hst;have HB1:=zq (al hbw.out hst);have hz1:=hst.size;have hW:=zq (show Below wr.heap.size wr ((w1.alloc (.cells #[.int .i64 kt,.slice at_ nt qt] 25)).alloc (.cells #[.int .i64 kt,.slice at_ nt qt] 25)) from al (al hst ag) ag);clear htt hot hst
    go_wp2_with (first | (at_builtin;refine wpList_append_lies _ rfl (.tmp 75) (.tmp 77) 23 rfl (w.heap.size+1+1) 25 i0 _ 2 32 Try.underlying23 HI.out Z0.out Z1.out Z2.out rfl (by omega) (.slice cv j qv) j xs rfl (bc HOW.out hW.out) ⟨w1.heap.size+1,0,none⟩ 1 1 [.int .i64 kt,.slice at_ nt qt] rfl rfl (World.news_of_block (cs:=#[.int .i64 kt,.slice at_ nt qt]) (t:=25) (fr:=(0,0)) (aA (by simp))) (by simp[Value.oneCell']) (by omega) (by unfold maxLen;omega) (by omega) (by simp;omega) _ rfl ?_) | fail)
    intro gg cap2 w6 hown2 hgrow hat hlt2;have HROW:=zq (bR.push (r:=w.heap.size) HLEN.out HOW.out HV.out (by omega) (Chg.of_below hW.out) (((HT1.out.move (.weaken fun b h _=>h.elim False.elim id)).below ag).below ag).srep (by omega) hown2 hgrow (by simpa using hat));have HBEL:=zq (bW hbw.out hW.out HOW.out (by omega) hgrow);have hfar:=cI hW.out HOW.out hgrow;have HFAR:=zq hfar;have hsz6:wr.heap.size<=w6.heap.size:=Nat.le_trans hW.out.size hgrow.size;clear hown2 hgrow hat hfar
    go_wp2_with fail
    go_roundw
    case rel=>exact⟨j+1,hs ++ [hh],_,_,by omega,rfl,by go_num,HBEL,by omega,zq ((HFAR.out w.heap.size (by omega) (by omega)).trans hE.out),zq ((HFAR.out (w.heap.size+1) (by omega) (by omega)).trans hR.out),(by
        unfold Hid;have e1:Ty.rows ((hs ++ [hh]).map S.ty)=Ty.rows (hs.map S.ty) ++ [hh.ty.row]:=by simp[Ty.rows_eq]
        rw[e1]
        exact HROW.out),zq ⟨by simp[hrel2.out.1],fun h hm=>(List.mem_append.1 hm).elim (hrel2.out.2.1 h) (fun q=>by simp at q;subst q;exact HVD.out),HNX.out⟩⟩
    case measure=>simp[intOf];omega
  ·have HJE:=zq (show j=cm by omega)
   have HJL:=zq (show ts.drop j = [] from List.drop_eq_nil_of_le (by have:=HM.out;have:=HJE.out;omega));have HREL:=zq (show O=(bi k ty hs).map S.ty from by
     rw[HO.out,hrel2.out.2.2,HJL.out,Tm.typsS]
     simp)
   have HTY:=zq (show av (w.heap.size+1+1 <= ·) wr (hs.map S.ty) (.slice cv j qv) from hrow.out.rep);have HCX:=zq (HEX.out hs (by have:=hrel2.out.1;have:=HM.out;have:=HJE.out;omega) hrel2.out.2.1 wr hbw.out _ _ HTY.out);have d0:=ah hE.out (o:=0) rfl;have d1:=ah hE.out (o:=1) rfl;have d2:=ah hE.out (o:=2) rfl;have d3:=ah hE.out (o:=3) rfl;have d4:=ah hE.out (o:=4) rfl;have d5:=ah hE.out (o:=5) rfl;have d7:=ah hE.out (o:=7) rfl;clear hrow
   go_wp2_with fail
   refine HCX.out.mono ?_;rintro e w1 ⟨kt,at_,nt,qt,bt,tt,rfl,hbt,htt,hot,hst⟩;have HBT:=zq hbt;have HTT:=zq htt;have HOT:=zq hot;have hR1:=a9 hR.out hst;have HB1:=zq (al hbw.out hst);have hz1:=hst.size;clear htt hot hst hbt d0 d1 d2 d3 d4 d5 d7 x0 x8;obtain⟨r0,r1⟩:=blk2 hR1;have rf0:=aj hR1 0;have rf1:=aj hR1 1
   go_wp2_with fail
   have hY:((w1.setCell ⟨w.heap.size+1,0,none⟩ (.int .i64 kt)).setCell ⟨w.heap.size+1,1,none⟩ (.slice at_ nt qt)).heap[w.heap.size+1]?=some (.cells #[.int .i64 kt,.slice at_ nt qt] 25 (0,0)):=az (az hR1 rfl) rfl;obtain⟨rc0,rc1⟩:=blk2 hY;refine bq (.tuple #[.agg #[.int .i64 kt,.slice at_ nt qt],.bool bt]) (by simp[results,Try.results31,go_sem,rc0,rc1]) ?_;have hne : ∀b,(False∨wr.heap.size<=b)->b≠w.heap.size+1:=fun b h=>by
    have h1:=h.elim False.elim id
    omega
   exact⟨_,_,_,_,_,tt,rfl,by rw[HREL.out];exact HBT.out,(ai.setN (ai.setN HTT.out hne) hne).move (.weaken fun b h _=>.inr (by have h1:=h.elim False.elim id;omega)),(by rw[HREL.out];exact HOT.out),(HB1.out.setCell (p:=⟨w.heap.size+1,0,none⟩) (by show w.heap.size<=w.heap.size+1;omega) _).setCell (p:=⟨w.heap.size+1,1,none⟩) (by show w.heap.size<=w.heap.size+1;omega) _⟩
theorem dv {nm:ByteArray}{u lb:Int}{ty src:Ty}{t1:Tm}{l:List Bd}(h:t1.typS (l ++ [⟨nm,ty⟩])=none):(Tm.mk 5 nm u ty src lb [t1]).typS l=none:=by
 rw[Tm.typS,if_neg (by omega),if_neg (by omega),if_neg (by omega),if_pos rfl]
 simp[Tm.typsS,h]
theorem dw {nm:ByteArray}{u lb:Int}{ty src:Ty}{t1:Tm}{l:List Bd}{h1:S}(hv:ty.valid=true)(h:t1.typS (l ++ [⟨nm,ty⟩])=some h1):((Tm.mk 5 nm u ty src lb [t1]).typS l).map S.ty=if (Ty.mk 4 [ty,h1.ty]).valid=true then some (.mk 4 [ty,h1.ty]) else none:=by
 rw[Tm.typS,if_neg (by omega),if_neg (by omega),if_neg (by omega),if_pos rfl];have e:(S.fn ty.toS h1).ty = .mk 4 [ty,h1.ty]:=by rw[S.ty,Ty.toS_ty hv]
 have e2:(S.fn ty.toS h1).vd=(Ty.mk 4 [ty,h1.ty]).valid:=by rw[<-e,S.valid]
 simp only[Tm.typsS,h];rw[e2]
 cases (Ty.mk 4 [ty,h1.ty]).valid<;>simp[e]
theorem gT.toC {Q:Nat->Prop}{l:List Bd}{w:World}{e:Ending}{w':World}(h:gT Q l w e w'):em l w e w':=by
 obtain⟨a,m,q,h1,h2,h3⟩:=h
 exact⟨a,m,q,h1,h2.move (.weaken fun _ _ _=>trivial),h3⟩
theorem il (F G:Nat->Prop)(l:List Bd)(ad:Addr)(n q:Nat)(nm:ByteArray)(ty:Ty)(tk:Int)(ta:Option Addr)(tn tq:Nat)(w:World)(hy:aE F w l (.slice (some ad) n q))(hl:l.length<=1000000)(hl1:1<=l.length)(hnm:nm.size<=maxLen)(ht:ai G w ty (.agg #[.int .i64 tk,.slice ta tn tq])) :
  Calls Try.prog 32 #[.slice (some ad) n q,.string nm,.agg #[.int .i64 tk,.slice ta tn tq]] w (em (l ++ [⟨nm,ty⟩]) w):=
 (eh (fun _=>True) l ad n q nm ty tk ta tn tq w (hy.move (.weaken fun _ _ _=>trivial)) hl hl1 hnm ht.any).mono fun _ _ h=>h.toC
theorem el (F G:Nat->Prop)(nm:ByteArray)(ty:Ty)(tk:Int)(ta:Option Addr)(tn tq:Nat)(w:World)(hnm:nm.size<=maxLen)(ht:ai G w ty (.agg #[.int .i64 tk,.slice ta tn tq])) :
  Calls Try.prog 32 #[.slice none 0 0,.string nm,.agg #[.int .i64 tk,.slice ta tn tq]] w (em ([] ++ [⟨nm,ty⟩]) w):=
 (dH (fun _=>True) nm ty tk ta tn tq w hnm ht.any).mono fun _ _ h=>h.toC
theorem stLetL {W:World}{b:Nat}{a0 a1 a2 a3 a4 a5 a6 a7 a8:Value}{T:TypeId}(h:W.heap[b]?=some (.cells #[a0,a1,a2,a3,a4,a5,a6,a7,a8] T (0,0)))(v:Value) : ∃X,World.setCell W ⟨b,7,none⟩ v=X∧HSt b W X∧X.heap[b]?=some (.cells #[a0,a1,a2,a3,a4,a5,a6,v,a8] T (0,0))∧W.heap.size<=X.heap.size∧X.heap.size<=W.heap.size:=
 ⟨_,rfl,(HSt.refl b W).step,az h rfl,by simp[World.setCell],by simp[World.setCell]⟩
theorem stLetS {W:World}{b:Nat}{a0 a1 a2 a3 a4 a5 a6 a7 a8:Value}{T:TypeId}(h:W.heap[b]?=some (.cells #[a0,a1,a2,a3,a4,a5,a6,a7,a8] T (0,0)))(v5 v6:Value) : ∃X,World.setCell (World.setCell W ⟨b,5,none⟩ v5) ⟨b,6,none⟩ v6=X∧HSt b W X∧X.heap[b]?=some (.cells #[a0,a1,a2,a3,a4,v5,v6,a7,a8] T (0,0))∧W.heap.size<=X.heap.size∧X.heap.size<=W.heap.size:=
 ⟨_,rfl,(HSt.refl b W).step.step,az (az h rfl) rfl,by simp[World.setCell],by simp[World.setCell]⟩
theorem ml (r p m:Nat)(t1:Tm)(y:Value)(w:World)(hrd0:aR w r p)(ht:aB (· ≠ r) w t1 y)(hm:t1.cnt<=m)(hm2:m<=90000)(hp:p<=800000000):Calls Try.prog 23 #[.pointer (some ⟨r,0,none⟩),y] w (DTm r p 1500 (m+80) w):=by
 obtain⟨kt1,nm1,ut1,tk1,ta1,tn1,tq1,fk1,fa1,fn1,fq1,lt1,ct1,mt1,qt1,rfl⟩:=ht.shape;have hrl:=hrd0.1;have HRD:=zq hrd0;have HT:=zq ht;have HM:=zq hm;clear hrd0 ht hm
 go_enter Try.func23,Try.ntmps23
 go_wp2_with fail
 refine(mg r p m t1 _ _ (HRD.out.below aZ) (HT.out.below aZ) HM.out (by omega) (by omega)).mono ?_;rintro e w1 ⟨t2,v,q2,rfl,hc2,hv,hq2,hrd,hb⟩;obtain⟨kt2,nm2,ut2,tk2,ta2,tn2,tq2,fk2,fa2,fn2,fq2,lt2,ct2,mt2,qt2,rfl⟩:=hv.shape;have z1:=hb.size;simp only[World.size_alloc] at z1;obtain⟨e1,e2,e3,-,-,-,-,e8,-,hnm2,-,-,hty,hsrc,hks⟩:=hv.parts
 cases t2 with | mk ke ne ue ty src le ts=>
 simp only[Tm.kind,Tm.name,Tm.num,Tm.label,Tm.type,Tm.src,Tm.kids] at e1 e2 e3 e8 hty hsrc hks;subst e1 e2 e3 e8;have HN2:=zq hnm2;have HC2:=zq hc2;have fR:w1.heap[w.heap.size+1]?=some (.cells (nz 0) 28 (0,0)):=ay (aA (by simp)) hb (by omega);have fC:Hid (Chg [r] w w1):=zq ((Chg.of_below aZ).trans hb);have rd:Hid (aR w1 r (q2)):=zq hrd;have hY:Hid (ai (fun b=>w.heap.size+1+1<=b∧b<w1.heap.size) w1 ty (.agg #[.int .i64 tk2,.slice ta2 tn2 tq2])):=zq (hty.move (.weaken fun b h1 h2=>⟨by simpa using h1,h2⟩));have hS:Hid (ai (fun b=>w.heap.size+1+1<=b∧b<w1.heap.size) w1 src (.agg #[.int .i64 fk2,.slice fa2 fn2 fq2])):=zq (hsrc.move (.weaken fun b h1 h2=>⟨by simpa using h1,h2⟩));have hK:Hid (aN (fun b=>w.heap.size+1+1<=b∧b<w1.heap.size) w1 ts (.slice ct2 mt2 qt2)):=zq (hks.move (.weaken fun b h1 h2=>⟨by simpa using h1,h2⟩));clear hb hv hrd hty hsrc hks hc2 hnm2 HRD HT
 go_upto_region 2 with fail
 generalize hXq:World.alloc w1 _=w2;obtain⟨hb,fO,zw2a,zw2b⟩:=alE hXq;replace fR:=a9 fR hb;replace fC:=zqb fC hb;replace rd:=mh hb rd;replace hY:=mh hb hY;replace hS:=mh hb hS;replace hK:=mh hb hK;clear hb hXq
 go_wp2_with fail
 refine(bH r (q2) 40 _ rd.out (by omega) (by omega)).mono ?_;rintro e w3 ⟨jk,rfl,hjk0,hjk1,hrd,hb⟩;have zw3:=hb.size;(try simp only[World.size_alloc] at zw3);replace fR:=ay fR hb;replace fC:=zqc fC hb;replace hY:=zq (hY.out.move (kpN hb (fun b hb=>by have h1:=hb.1;have h2:=hb.2;omega)));replace hS:=zq (hS.out.move (kpN hb (fun b hb=>by have h1:=hb.1;have h2:=hb.2;omega)));replace hK:=zq (hK.out.move (kpN hb (fun b hb=>by have h1:=hb.1;have h2:=hb.2;omega)));replace fO:=ay fO hb;replace rd:=zq hrd;clear hrd;clear hb;clear hjk0 hjk1
 rcases Bool.eq_false_or_eq_true (jk==0) with hj0 | hj0
 ·go_wp2_with fail
  refine(bY (fun _=>True) r (q2+1) _ 4 4 _ (rd.out.below ag) (by omega) (by omega) (by omega) (Nat.le_refl _) (by omega) (bJ [0,100,-9223372036854775808,3] rfl _ (fun _ _=>trivial))).mono ?_;rintro e w4 ⟨nn,rfl,-,hrd,hb0⟩;have hb:=Chg.trans (Chg.of_below (ag (w:=w3))) hb0;clear hb0;have zw4:=hb.size;(try simp only[World.size_alloc] at zw4);replace fR:=ay fR hb;replace fC:=zqc fC hb;replace hY:=zq (hY.out.move (kpN hb (fun b hb=>by have h1:=hb.1;have h2:=hb.2;omega)));replace hS:=zq (hS.out.move (kpN hb (fun b hb=>by have h1:=hb.1;have h2:=hb.2;omega)));replace hK:=zq (hK.out.move (kpN hb (fun b hb=>by have h1:=hb.1;have h2:=hb.2;omega)));replace fO:=ay fO hb;replace rd:=zq hrd;clear hrd;clear hb;have y7:=ah fO (o:=7) rfl;have yf7:=aj fO 7;have yl:=aw fO
  go_upto_region 7 with fail
  clear y7 yf7 yl;obtain⟨w5,hXq,hsq,fO_,zw5a,zw5b⟩:=stLetL fO (.int .i64 nn);rw[hXq];replace fR:=hsq.bk fR;replace fC:=zq (hsq.chg fC.out (by omega));replace rd:=zq (hsq.rd rd.out (by omega));replace hY:=zq (hY.out.move (hsq.keeps (fun b hb=>by have h1:=hb.1;have h2:=hb.2;omega)));replace hS:=zq (hS.out.move (hsq.keeps (fun b hb=>by have h1:=hb.1;have h2:=hb.2;omega)));replace hK:=zq (hK.out.move (hsq.keeps (fun b hb=>by have h1:=hb.1;have h2:=hb.2;omega)));clear fO hsq hXq;have fO:=fO_;clear fO_;obtain⟨y0,y1,y2,y3,y4,y5,y6,y7,y8⟩:=blk9 fO;have yl:=aw fO;obtain⟨x0,x1,x2,x3,x4,x5,x6,x7,x8⟩:=blk9 fR;have xf0:=aj fR 0;have xf1:=aj fR 1;have xf2:=aj fR 2;have xf3:=aj fR 3;have xf4:=aj fR 4;have xf5:=aj fR 5;have xf6:=aj fR 6;have xf7:=aj fR 7;have xf8:=aj fR 8;have xl:=aw fR
  go_wp2_with fail
  clear y0 y1 y2 y3 y4 y5 y6 y7 y8 yl x0 x1 x2 x3 x4 x5 x6 x7 x8 xf0 xf1 xf2 xf3 xf4 xf5 xf6 xf7 xf8 xl;obtain⟨w9,hXq,hsq,fR_,zw9a,zw9b⟩:=c7 fR (.int .i64 kt2) (.string nm2) (.int .i64 ut2) (.int .i64 tk2) (.slice ta2 tn2 tq2) (.int .i64 fk2) (.slice fa2 fn2 fq2) (.int .i64 nn) (.slice ct2 mt2 qt2);rw[hXq];replace fC:=zq (hsq.chg fC.out (by omega));replace rd:=zq (hsq.rd rd.out (by omega));replace hY:=zq (hsq.rep (fun b hb=>by have h1:=hb.1;have h2:=hb.2;omega) hY.out);replace hS:=zq (hsq.rep (fun b hb=>by have h1:=hb.1;have h2:=hb.2;omega) hS.out);replace hK:=zq (hK.out.move (hsq.keeps (fun b hb=>by have h1:=hb.1;have h2:=hb.2;omega)));replace fO:=hsq.bk fO;clear fR hsq hXq;have fR:=fR_;clear fR_;obtain⟨rc0,rc1,rc2,rc3,rc4,rc5,rc6,rc7,rc8⟩:=blk9 fR;refine bq (.agg (nv kt2 nm2 ut2 tk2 ta2 tn2 tq2 fk2 fa2 fn2 fq2 nn ct2 mt2 qt2)) (by simp[results,Try.results23,go_sem,rc0,rc1,rc2,rc3,rc4,rc5,rc6,rc7,rc8]) ?_;have h1:=HC2.out;simp only[Tm.cnt] at h1
  exact⟨.mk kt2 nm2 ut2 ty src nn ts,_,_,rfl,by simp only[Tm.cnt];omega,aB.mk HN2.out (hY.out.move (.weaken fun b h _=>by have h1:=h.1;show w.heap.size<=b;omega)) (hS.out.move (.weaken fun b h _=>by have h1:=h.1;show w.heap.size<=b;omega)) (hK.out.move (.weaken fun b h _=>by have h1:=h.1;show w.heap.size<=b;omega)),by omega,rd.out,fC.out⟩
 rcases Bool.eq_false_or_eq_true (jk==1) with hj1 | hj1
 ·go_wp2_with fail
  refine(eC r (q2+1) _ rd.out (by omega)).mono ?_;rintro e w4 ⟨t4,v,q4,rfl,hc4,hv,hq4,hrd,hb⟩;obtain⟨k4,a4,n4,c4,rfl⟩:=hv.shape;have h4':=hv.rg;have HC4:=zq hc4;clear hv hc4;have zw4:=hb.size;(try simp only[World.size_alloc] at zw4);replace fR:=ay fR hb;replace fC:=zqc fC hb;replace hY:=zq (hY.out.move (kpN hb (fun b hb=>by have h1:=hb.1;have h2:=hb.2;omega)));replace hS:=zq (hS.out.move (kpN hb (fun b hb=>by have h1:=hb.1;have h2:=hb.2;omega)));replace hK:=zq (hK.out.move (kpN hb (fun b hb=>by have h1:=hb.1;have h2:=hb.2;omega)));replace fO:=ay fO hb;replace rd:=zq hrd;clear hrd;clear hb;have h4_:=h4';clear h4'
  go_wp2_with fail
  refine(dZ r q4 14 t4 _ _ rd.out (h4_.out.move (.weaken fun b h _=>by have h1:=h.1;intro q;omega)) HC4.out (by omega) (by omega)).mono ?_;rintro e w5 ⟨t5,v,q5,rfl,hc5,hv,hq5,hrd,hb⟩;obtain⟨k5,a5,n5,c5,rfl⟩:=hv.shape;have h5':=hv.rg;have HC5:=zq hc5;clear hv hc5;have zw5:=hb.size;(try simp only[World.size_alloc] at zw5);replace fR:=ay fR hb;replace fC:=zqc fC hb;replace hY:=zq (hY.out.move (kpN hb (fun b hb=>by have h1:=hb.1;have h2:=hb.2;omega)));replace hS:=zq (hS.out.move (kpN hb (fun b hb=>by have h1:=hb.1;have h2:=hb.2;omega)));replace hK:=zq (hK.out.move (kpN hb (fun b hb=>by have h1:=hb.1;have h2:=hb.2;omega)));replace fO:=ay fO hb;replace h4_:=zq (h4_.out.move (kpN hb (fun b hb=>by have h1:=hb.1;have h2:=hb.2;omega)));replace rd:=zq hrd;clear hrd;clear hb;have h5_:=h5';clear h5';have y5:=ah fO (o:=5) rfl;have y6:=ah fO (o:=6) rfl;have yf5:=aj fO 5;have yf6:=aj fO 6;have yl:=aw fO
  go_upto_region 7 with fail
  clear y5 y6 yf5 yf6 yl;obtain⟨w6,hXq,hsq,fO_,zw6a,zw6b⟩:=stLetS fO (.int .i64 k5) (.slice a5 n5 c5);rw[hXq];replace fR:=hsq.bk fR;replace fC:=zq (hsq.chg fC.out (by omega));replace rd:=zq (hsq.rd rd.out (by omega));replace hY:=zq (hY.out.move (hsq.keeps (fun b hb=>by have h1:=hb.1;have h2:=hb.2;omega)));replace hS:=zq (hS.out.move (hsq.keeps (fun b hb=>by have h1:=hb.1;have h2:=hb.2;omega)));replace hK:=zq (hK.out.move (hsq.keeps (fun b hb=>by have h1:=hb.1;have h2:=hb.2;omega)));replace h4_:=zq (h4_.out.move (hsq.keeps (fun b hb=>by have h1:=hb.1;have h2:=hb.2;omega)));replace h5_:=zq (h5_.out.move (hsq.keeps (fun b hb=>by have h1:=hb.1;have h2:=hb.2;omega)));clear fO hsq hXq;have fO:=fO_;clear fO_;obtain⟨y0,y1,y2,y3,y4,y5,y6,y7,y8⟩:=blk9 fO;have yl:=aw fO;obtain⟨x0,x1,x2,x3,x4,x5,x6,x7,x8⟩:=blk9 fR;have xf0:=aj fR 0;have xf1:=aj fR 1;have xf2:=aj fR 2;have xf3:=aj fR 3;have xf4:=aj fR 4;have xf5:=aj fR 5;have xf6:=aj fR 6;have xf7:=aj fR 7;have xf8:=aj fR 8;have xl:=aw fR
  go_wp2_with fail
  clear y0 y1 y2 y3 y4 y5 y6 y7 y8 yl x0 x1 x2 x3 x4 x5 x6 x7 x8 xf0 xf1 xf2 xf3 xf4 xf5 xf6 xf7 xf8 xl;obtain⟨w9,hXq,hsq,fR_,zw9a,zw9b⟩:=c7 fR (.int .i64 kt2) (.string nm2) (.int .i64 ut2) (.int .i64 tk2) (.slice ta2 tn2 tq2) (.int .i64 k5) (.slice a5 n5 c5) (.int .i64 lt2) (.slice ct2 mt2 qt2);rw[hXq];replace fC:=zq (hsq.chg fC.out (by omega));replace rd:=zq (hsq.rd rd.out (by omega));replace hY:=zq (hsq.rep (fun b hb=>by have h1:=hb.1;have h2:=hb.2;omega) hY.out);replace hS:=zq (hsq.rep (fun b hb=>by have h1:=hb.1;have h2:=hb.2;omega) hS.out);replace hK:=zq (hK.out.move (hsq.keeps (fun b hb=>by have h1:=hb.1;have h2:=hb.2;omega)));replace fO:=hsq.bk fO;replace h4_:=zq (hsq.rep (fun b hb=>by have h1:=hb.1;have h2:=hb.2;omega) h4_.out);replace h5_:=zq (hsq.rep (fun b hb=>by have h1:=hb.1;have h2:=hb.2;omega) h5_.out);clear fR hsq hXq;have fR:=fR_;clear fR_;obtain⟨rc0,rc1,rc2,rc3,rc4,rc5,rc6,rc7,rc8⟩:=blk9 fR;refine bq (.agg (nv kt2 nm2 ut2 tk2 ta2 tn2 tq2 k5 a5 n5 c5 lt2 ct2 mt2 qt2)) (by simp[results,Try.results23,go_sem,rc0,rc1,rc2,rc3,rc4,rc5,rc6,rc7,rc8]) ?_;have h1:=HC2.out;simp only[Tm.cnt] at h1;have h5:=HC5.out
  exact⟨.mk kt2 nm2 ut2 ty t5 lt2 ts,_,_,rfl,by simp only[Tm.cnt];omega,aB.mk HN2.out (hY.out.move (.weaken fun b h _=>by have h1:=h.1;show w.heap.size<=b;omega)) (h5_.out.move (.weaken fun b h _=>by have h1:=h.1;show w.heap.size<=b;omega)) (hK.out.move (.weaken fun b h _=>by have h1:=h.1;show w.heap.size<=b;omega)),by omega,rd.out,fC.out⟩
 ·skip
  obtain⟨y0,y1,y2,y3,y4,y5,y6,y7,y8⟩:=blk9 fO;have yl:=aw fO;obtain⟨x0,x1,x2,x3,x4,x5,x6,x7,x8⟩:=blk9 fR;have xf0:=aj fR 0;have xf1:=aj fR 1;have xf2:=aj fR 2;have xf3:=aj fR 3;have xf4:=aj fR 4;have xf5:=aj fR 5;have xf6:=aj fR 6;have xf7:=aj fR 7;have xf8:=aj fR 8;have xl:=aw fR
  go_wp2_with fail
  clear y0 y1 y2 y3 y4 y5 y6 y7 y8 yl x0 x1 x2 x3 x4 x5 x6 x7 x8 xf0 xf1 xf2 xf3 xf4 xf5 xf6 xf7 xf8 xl;obtain⟨w9,hXq,hsq,fR_,zw9a,zw9b⟩:=c7 fR (.int .i64 kt2) (.string nm2) (.int .i64 ut2) (.int .i64 tk2) (.slice ta2 tn2 tq2) (.int .i64 fk2) (.slice fa2 fn2 fq2) (.int .i64 lt2) (.slice ct2 mt2 qt2);rw[hXq];replace fC:=zq (hsq.chg fC.out (by omega));replace rd:=zq (hsq.rd rd.out (by omega));replace hY:=zq (hsq.rep (fun b hb=>by have h1:=hb.1;have h2:=hb.2;omega) hY.out);replace hS:=zq (hsq.rep (fun b hb=>by have h1:=hb.1;have h2:=hb.2;omega) hS.out);replace hK:=zq (hK.out.move (hsq.keeps (fun b hb=>by have h1:=hb.1;have h2:=hb.2;omega)));replace fO:=hsq.bk fO;clear fR hsq hXq;have fR:=fR_;clear fR_;obtain⟨rc0,rc1,rc2,rc3,rc4,rc5,rc6,rc7,rc8⟩:=blk9 fR;refine bq (.agg (nv kt2 nm2 ut2 tk2 ta2 tn2 tq2 fk2 fa2 fn2 fq2 lt2 ct2 mt2 qt2)) (by simp[results,Try.results23,go_sem,rc0,rc1,rc2,rc3,rc4,rc5,rc6,rc7,rc8]) ?_;have h1:=HC2.out;simp only[Tm.cnt] at h1
  exact⟨.mk kt2 nm2 ut2 ty src lt2 ts,_,_,rfl,by simp only[Tm.cnt];omega,aB.mk HN2.out (hY.out.move (.weaken fun b h _=>by have h1:=h.1;show w.heap.size<=b;omega)) (hS.out.move (.weaken fun b h _=>by have h1:=h.1;show w.heap.size<=b;omega)) (hK.out.move (.weaken fun b h _=>by have h1:=h.1;show w.heap.size<=b;omega)),by omega,rd.out,fC.out⟩
def L4 (t:Tm)(d:Int):Prop:=∀(l:List Bd) (c y:Value) (W:World) (F G:Nat->Prop),t.shape 13 d=true->(l.length:Int)+d<=1000->cz l->dz l c->aE F W l c->aB G W t y->Calls Try.prog 17 #[c,y] W (aX ((t.castS l).map S.ty) W)
theorem jS (t:Tm)(d:Int)(IH : ∀t'∈t.kids,L4 t' (d-1)):L4 t d:=by
 intro l c y W F G hsh hld hc hcv hb he
 cases t with
 | mk k nm u ty src lb ts=>
  obtain⟨hd,hk13,hlen,hown,hkids⟩:=Tm.shape_parts hsh;have hcnt : ∀b∈l,b.ty.cnt<=1048576:=fun b hb=>Ty.cnt_valid (hc b hb);obtain⟨k',nm',u',tk,ta,tn,tq,fk,fa,fn,fq,lb',ca,cm,cq,rfl⟩:=he.shape;obtain⟨e1,e2,e3,-,-,-,-,e8,hcm,hnm,-,-,hty,hsrc,hks⟩:=he.parts;simp only[Tm.kind,Tm.name,Tm.num,Tm.label,Tm.type] at e1 e2 e3 e8 hty;subst e1 e2 e3 e8;have hl0:(0:Int)<=aD k':=by rw[hlen];omega
  by_cases h1:k'=1
  ·subst h1
   have hL:=mp c nm' u' lb' tk fk ta fa ca tn tq fn fq cm cq W (bS l nm' l.length) (zq fun W' hW=>gK F l c nm' u' lb' tk fk ta fa ca tn tq fn fq cm cq W' (hb.below hW) hcnt) hcv.shape;rw[Tm.castS,if_pos rfl,gX hc]
   exact hL
  by_cases h2:k'=2
  ·subst h2
   rw[Tm.castS,if_neg (by omega),if_pos rfl]
   exact mq c nm' u' lb' tk fk ta fa ca tn tq fn fq cm cq W _ (zq fun W' _=>gL c nm' u' lb' tk fk ta fa ca tn tq fn fq cm cq W') hcv.shape
  by_cases h3:k'=3
  ·subst h3
   rw[Tm.castS,if_neg (by omega),if_neg (by omega),if_pos (by omega)]
   exact mr c nm' u' lb' tk fk ta fa ca tn tq fn fq cm cq W _ (zq fun W' _=>gM c nm' u' lb' tk fk ta fa ca tn tq fn fq cm cq W') hcv.shape
  by_cases h4:k'=4
  ·subst h4
   rw[Tm.castS,if_neg (by omega),if_neg (by omega),if_pos (by omega)]
   exact ms c nm' u' lb' tk fk ta fa ca tn tq fn fq cm cq W _ (zq fun W' _=>gN c nm' u' lb' tk fk ta fa ca tn tq fn fq cm cq W') hcv.shape
  by_cases h5:k'=5
  ·subst h5
   have hv:=gG hown (.inl rfl);obtain⟨t1,rfl⟩ : ∃t1,ts = [t1]:=List.length_eq_one_iff.1 (by simp[aD] at hlen;omega);have hc2:=hc.snoc (nm:=nm') hv;have hs1:t1.shape 13 (d-1)=true:=Tm.shapes_mem hkids (by simp);obtain⟨xa,xn,xq,rfl⟩:=hcv.shape;have HM:Hid (∀W',Below W.heap.size W W'->Calls Try.prog 32 #[.slice xa xn xq,.string nm',.agg #[.int .i64 tk,.slice ta tn tq]] W' (em (l ++ [⟨nm',ty⟩]) W')):=zq fun W' hW=>by
    rcases hcv with ⟨rfl,hx⟩ | ⟨hl1,a,m,q,hx⟩
    ·rw[hx];exact el F G nm' ty tk ta tn tq W' hnm (hty.below hW)
    ·simp only[Value.slice.injEq] at hx
     obtain⟨rfl,rfl,rfl⟩:=hx
     exact il F G l a xn xq nm' ty tk ta tn tq W' (hb.below hW) (by omega) hl1 hnm (hty.below hW)
   have IHL:Hid (∀(W':World) (c' y':Value),Below W.heap.size W W'->aE (fun _=>True) W' (l ++ [⟨nm',ty⟩]) c'->aB G W' t1 y'->(∃a m q,c' = .slice (some a) m q)->Calls Try.prog 17 #[c',y'] W' (aX ((t1.castS (l ++ [⟨nm',ty⟩])).map S.ty) W')):=zq fun W' c' y' hW hb' he' hx=>
    IH t1 (by simp[Tm.kids]) _ c' y' W' _ G hs1 (by simp;omega) hc2 (.inr ⟨by simp,hx⟩) hb' he'
   cases hco:t1.castS (l ++ [⟨nm',ty⟩]) with
   | none=>exact jT G nm' u' lb' tk fk ty src t1 l xa ta fa ca xn xq tn tq fn fq cm cq W he hv HM IHL hco
   | some h1'=>exact jU G nm' u' lb' tk fk ty src t1 l xa ta fa ca xn xq tn tq fn fq cm cq W he hv HM IHL h1' (dB t1 _ _ hs1 hc2 _ hco) hco
  have hk:6<=k'∧k'<=12∨k'=14:=by
   unfold aD at hl0
   split at hl0
   ·omega
   split at hl0
   ·omega
   split at hl0
   ·omega
   split at hl0
   ·omega
   ·omega
  have hsm:ts.length<=3:=by
   have:aD k'<=3:=by unfold aD;repeat' split<;>omega
   omega
  obtain⟨xa,xn,xq,rfl⟩:=hcv.shape
  exact nD G k' nm' u' lb' tk fk ty src ts l xa ta fa ca xn xq tn tq fn fq cm cq W he
   (fun t' ht' W' y' hW he'=>IH t' ht' l _ y' W' F G (Tm.shapes_mem hkids ht') (by omega) hc hcv (hb.below hW) he')
   (fun t' ht' h e=>dB t' _ l (Tm.shapes_mem hkids ht') hc h e) hk hlen (fun h14=>gG hown (.inr h14)) hsm
theorem jm : ∀(t:Tm) (d:Int),L4 t d
 | t,d=>jS t d fun t' ht'=>jm t' (d-1)
termination_by t=>SizeOf.sizeOf t
decreasing_by exact Tm.kid_lt ht'
end Go.Proofs.Ytfhglkmjibjjoaa

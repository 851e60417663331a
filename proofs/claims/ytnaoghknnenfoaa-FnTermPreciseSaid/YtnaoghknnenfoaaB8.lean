/-
  The type of a term with casts: plain Lean. The reference's way (nodeS) and the program's way (wantS) answer alike.
  Numbers are drawn from given bytes; types are drawn.
  CtxValid of the program and of the reference.
  The number of nodes of a term, by the reference.
  Terms in memory of one's own.
-/
import Derived.Test.YtnaoghknnenfoaaB5
import Derived.Test.YtnaoghknnenfoaaDraw
import Derived.Test.YtnaoghknnenfoaaB3
import Derived.Test.YtnaoghknnenfoaaB1
set_option linter.unusedSimpArgs false
set_option linter.unusedVariables false
set_option maxRecDepth 100000
namespace Go.Proofs.Ytnaoghknnenfoaa
open Go.RowKit
theorem pr_vd {a b:S}(h:(S.pr a b).vd=true):a.vd=true∧b.vd=true:=by
 have h3:=S.vd_dep h
 have h1:=S.vd_ok h
 have e:(S.pr a b).dep=max a.dep b.dep+1:=rfl
 have e1:(S.pr a b).ok=(a.ok&&b.ok):=rfl
 have m1:=Nat.le_max_left a.dep b.dep
 have m2:=Nat.le_max_right a.dep b.dep
 rw [e] at h3
 rw [e1,Bool.and_eq_true] at h1
 exact⟨S.vd_mk h1.1 (by omega),S.vd_mk h1.2 (by omega)⟩
theorem fn_vd {a b:S}(h:(S.fn a b).vd=true):a.vd=true∧b.vd=true:=by
 have h3:=S.vd_dep h
 have h1:=S.vd_ok h
 have e:(S.fn a b).dep=max a.dep b.dep+1:=rfl
 have e1:(S.fn a b).ok=(a.ok&&b.ok):=rfl
 have m1:=Nat.le_max_left a.dep b.dep
 have m2:=Nat.le_max_right a.dep b.dep
 rw [e] at h3
 rw [e1,Bool.and_eq_true] at h1
 exact⟨S.vd_mk h1.1 (by omega),S.vd_mk h1.2 (by omega)⟩
end Go.Proofs.Ytnaoghknnenfoaa
namespace Go.Proofs.Ytnaoghknnenfoaa
open Go.RowKit
set_option maxHeartbeats 4000000 in
theorem pI (r:Nat)(y:Value)(w:World)(h:cj w r y)(hr:r≤w.heap.size):Calls Try.prog 10 #[y] w (pX w):=by
 obtain⟨a,n,cap,rfl,hn,hc,hg⟩:=h
 unfold maxLen at hc
 have HG:=Lib.hid hg
 clear hg
 by_cases h2:2000<n
 ·have hd:decide ((n:Int)>2000)=true:=by simp;omega
  obtain⟨b,off,c,rfl,-⟩:=HG.out 0 (by omega)
  have h3:2000≤cap:=by omega
  go_enter Try.func10,Try.ntmps10
  go_wp2_with fail
  go_ret
  refine⟨w.heap.size,rfl,Nat.le_refl _,⟨by simp,.slice (some ⟨b,off,none⟩) 2000 cap,ao 0,?_,ao 1,aP 1⟩,ah⟩
  refine⟨_,2000,cap,rfl,by omega,by unfold maxLen;omega,fun i hi=>?_⟩
  obtain⟨b,off,c,e,hb,hl,hcell,c0,c1⟩:=HG.out i (by omega)
  exact⟨b,off,c,e,hl,by simp;omega,a9 ah hcell,c0,c1⟩
 ·have hd:decide ((n:Int)>2000)=false:=by simp;omega
  go_enter Try.func10,Try.ntmps10
  go_wp2_with fail
  go_ret
  refine⟨w.heap.size,rfl,Nat.le_refl _,⟨by simp,.slice a n cap,ao 0,?_,ao 1,aP 1⟩,ah⟩
  refine⟨_,n,cap,rfl,by omega,by unfold maxLen;omega,fun i hi=>?_⟩
  obtain⟨b,off,c,e,hb,hl,hcell,c0,c1⟩:=HG.out i (by omega)
  exact⟨b,off,c,e,hl,by simp;omega,a9 ah hcell,c0,c1⟩
end Go.Proofs.Ytnaoghknnenfoaa
namespace Go.Proofs.Ytnaoghknnenfoaa
open Go.RowKit
set_option maxHeartbeats 1000000 in
theorem fo (F:Nat→Prop)(l:List Bd)(y:Value)(w:World)(hy:aL F w l y) :
  Calls Try.prog 67 #[y] w fun e w'=>e = .returned (.bool (ctxB l))∧Below w.heap.size w w':=by
 have HV:=Lib.hid (bW F)
 obtain⟨a,cap,rfl,h2,h3,-⟩:=hy.open
 unfold maxLen at h3
 obtain⟨n,hn⟩ : ∃n,l.length=n:=⟨_,rfl⟩
 rw [hn] at h2 hy ⊢
 have HN:=Lib.hid hn
 clear hn
 go_enter Try.func67,Try.ntmps67
 go_wp2_with fail
 go_loopw [3] (fun i wr=>∃j:Nat,j≤n∧i = .int .i64 j∧Below w.heap.size w wr∧Hid (l.all Bd.ok=(l.drop j).all Bd.ok)) (fun i _=>n-(intOf i).toNat)
 case atStart=>exact⟨0,by omega,rfl,Below.refl _ _,rfl⟩
 case round=>
  obtain⟨j,hj,rfl,hbw,hR⟩:=hrel
  by_cases hlt:j<n
  ·have hjt:j<l.length:=by rw [HN.out];exact hlt
   obtain⟨b,off,k0,a0,m0,q0,rfl,l0,e0,ez,e1,e2,ht⟩:=hy.at hbw hjt
   have hstep:l.all Bd.ok=((aN l[j].name&&l[j].ty.valid)&&(l.drop (j+1)).all Bd.ok):=by rw [hR.out,List.drop_eq_getElem_cons hjt];rfl
   have HC:=HV.out l[j].ty _ _ ht
   have HM:=fun W=>iM l[j].name W
   generalize l[j].name=nm at *
   generalize aN nm=nb at *
   generalize l[j].ty.valid=tv at *
   have HS:=Lib.hid hstep
   have HCC:=Lib.hid HC
   have HMM:=Lib.hid HM
   clear hstep HC HM hR ht ez
   cases nb
   ·go_wp2_with fail
    refine(HMM.out _).mono ?_
    rintro e w1 ⟨rfl,rfl⟩
    go_wp2_with fail
    go_ret
    exact⟨au (by unfold ctxB;rw [HS.out];simp),hbw⟩
   ·cases tv
    ·go_wp2_with fail
     refine(HMM.out _).mono ?_
     rintro e w1 ⟨rfl,rfl⟩
     go_wp2_with fail
     refine HCC.out.mono ?_
     rintro e w1 ⟨rfl,hb1⟩
     go_wp2_with fail
     go_ret
     exact⟨au (by unfold ctxB;rw [HS.out];simp),ai hbw hb1⟩
    ·go_wp2_with fail
     refine(HMM.out _).mono ?_
     rintro e w1 ⟨rfl,rfl⟩
     go_wp2_with fail
     refine HCC.out.mono ?_
     rintro e w1 ⟨rfl,hb1⟩
     go_wp2_with fail
     go_roundw
     case rel=>exact⟨j+1,by omega,by go_num,ai hbw hb1,by rw [Hid,HS.out];rfl⟩
     case measure=>simp [intOf];omega
  ·have hall:l.all Bd.ok=true:=by rw [hR.out,List.drop_eq_nil_of_le (by rw [HN.out];omega)];rfl
   have HA:=Lib.hid hall
   clear hall
   go_wp2_with fail
   go_ret
   exact⟨au (by unfold ctxB;rw [HA.out,HN.out];simp<;>omega),hbw⟩
end Go.Proofs.Ytnaoghknnenfoaa
namespace Go.Proofs.Ytnaoghknnenfoaa
open Go.RowKit
theorem lL (m1 rx:Int)(h0:m1=rx):(m1:Int)=(rx):=by
 simp_all
set_option maxHeartbeats 8000000 in
theorem i4 (F:Nat→Prop)(t:Tm) : ∀(nt:Int) (n:Nat) (_:t.shape nt n=true) (d:Int) (_:(n:Int)≤d) (_:d≤40) (y:Value) (w:World),az F w t y →
  Calls Try.prog 35 #[y,.int .i64 d] w fun e w'=>e = .returned (.int .i64 (t.size))∧Below w.heap.size w w':=by
 intro nt n hsh d hd0 hd5 y w hy
 have IH : ∀t'∈t.kids,∀(nt:Int) (n:Nat) (_:t'.shape nt n=true) (d:Int) (_:(n:Int)≤d) (_:d≤40) (y:Value) (W:World),az F W t' y→Calls Try.prog 35 #[y,.int .i64 d] W fun e W'=>e = .returned (.int .i64 (t'.size))∧Below W.heap.size W W':=
  fun t' ht nt n a d b c y W e=>i4 F t' nt n a d b c y W e
 have hbd:=Tm.size_bd hsh (by omega)
 obtain⟨k,nm,u,tk,ta,tn,tq,fk,fa,fn,fq,l,c,m,q,rfl⟩:=hy.shape
 obtain⟨r1,r2,r3,r4,r5,r6,r7,r8,r9,rn,rm,rq,hty,hsr,hks⟩:=hy.parts
 cases t with | mk kk nn uu tt ff ll ts=>
 simp only [Tm.kind,Tm.name,Tm.num,Tm.type,Tm.src,Tm.label,Tm.kids] at *
 subst r1 r2 r3 r8
 obtain⟨s1,-,-,-,s5⟩:=Tm.shape_parts hsh
 obtain⟨dd,rfl⟩ : ∃x,n=x+1:=⟨n-1,by omega⟩
 rw [show((dd+1:Nat):Int)-1=(dd:Int) from by omega] at s5
 unfold Tm.size at hbd ⊢
 have hd1:0<d:=by omega
 have hdd:(dd:Int)≤d-1:=by omega
 have hd:decide (d>0)=true:=by simpa using hd1
 obtain⟨rx,hr0⟩ : ∃r,1+Tm.sizes ts=r:=⟨_,rfl⟩
 rw [hr0]
 have HT0:=Lib.hid hr0
 have HN:=Lib.hid r9
 have HB:=Lib.hid hbd
 have HSH:=Lib.hid s5
 have IHH:=Lib.hid IH
 unfold maxLen at rq
 clear hr0 IH hy r9 r4 r5 r6 r7 rn hty hsr hbd s5 hsh hd0
 obtain⟨rr,hrr⟩ : ∃rr0:Int,(rx)=rr0:=⟨_,rfl⟩
 rw [hrr]
 have HT:=Lib.hid hrr
 clear hrr
 go_enter Try.func35,Try.ntmps35
 go_wp2_with fail
 go_loopw [6,5] (fun i m1_ wr=>∃j:Nat,j≤m∧i = .int .i64 j∧(∃m1:Int,m1_ = .int .i64 m1∧(1≤m1∧m1≤6078832729528464400)∧Hid (m1=1+Tm.sizes (ts.take j)))∧Below w.heap.size w wr∧wr.cell? ⟨w.heap.size,8,none⟩=some (.slice c m q)) (fun i _ _=>m-(intOf i).toNat)
 case atStart=>exact⟨0,by omega,rfl,⟨_,rfl,(by omega),(by unfold Hid;simp [Tm.sizes])⟩,ah,aj (by simp) 8⟩
 case round=>
  obtain⟨j,hj,rfl,⟨m1,rfl,m1_0,m1_1⟩,hB,x0⟩:=hrel
  have lx1:=World.block_lt_of_cell? _ _ x0
  by_cases hlt:j<m
  ·have hjt:j<ts.length:=by have:=HN.out;omega
   obtain⟨b,off,k0,nm0,u0,tk0,ta0,tn0,tq0,fk0,fa0,fn0,fq0,l0,a0,m0,q0,rfl,lb,e0,e1,e2,e3,e4,e5,e6,e7,e8,ht⟩:=hks.at hB hjt
   have hshj:ts[j].shape nt dd=true:=Tm.shapes_mem HSH.out (List.getElem_mem hjt)
   have hcall:=IHH.out ts[j] (List.getElem_mem hjt) nt dd hshj (d-1)
   have hp:=Tm.size_pos ts[j]
   have hstep:=Tm.sizes_take_succ ts j hjt
   have hle:=Tm.sizes_take_le ts (j+1)
   have hmr:m1+ts[j].size≤6078832729528464400:=by have:=m1_1.out;have:=HB.out;omega
   generalize ts[j].size=r at hcall hp hstep hmr
   have HC:=Lib.hid hcall
   have HS:=Lib.hid hstep
   clear hcall hstep hshj hle
   have hwr:=IntWalk.i64_in (d-1) (by omega)
   go_wp2_with fail
   refine(HC.out (by omega) (by omega) _ _ ht).mono ?_
   rintro e w1 ⟨rfl,hb1⟩
   replace hB:=(ai hB hb1)
   have zw1:=hB.size
   replace x0:w1.cell? ⟨w.heap.size,8,none⟩=some (.slice (some ⟨b,off,none⟩) m q):=a9 hb1 (x0)
   have d0_w1:=World.block_lt_of_cell? _ _ x0
   have hwr:=IntWalk.i64_in (m1+r) (by omega)
   have hwr:=IntWalk.i64_in ((j:Int)+1) (by omega)
   go_wp2_with fail
   go_roundw
   case rel=>exact⟨j+1,by omega,by go_num,⟨_,rfl,(by omega),(by have h1:=m1_1.out;have h2:=HS.out;unfold Hid;omega)⟩,hB,x0⟩
   case measure=>simp [intOf];omega
  ·skip
   have HMM:Hid (m1=rx):=Lib.hid (by have:=m1_1.out;rw [List.take_of_length_le (by have:=HN.out;omega)] at this;have:=HT0.out;omega)
   go_wp2_with fail
   refine bodyPost_ret (v:=.int .i64 (m1)) (by simp [results,Try.results35,go_sem,bne]) rfl ?_
   exact⟨bf ((lL m1 rx HMM.out).trans HT.out),hB⟩
termination_by SizeOf.sizeOf t
decreasing_by exact Tm.kid_lt ht
end Go.Proofs.Ytnaoghknnenfoaa
namespace Go.Proofs.Ytnaoghknnenfoaa
open Go.RowKit
def gJ (w:World)(t:Tm)(y:Value)(fp:List Nat):Prop:=∃s1 s2 s f1 f2 f3,y = .agg #[.int .i64 t.kind,.string t.name,.int .i64 t.num,.int .i64 t.type.kind,s1,.int .i64 t.src.kind,s2,.int .i64 t.label,s]∧fp=f1++(f2++f3)∧t.name.size≤maxLen ∧
 aG w (.sl (Ty.rows t.type.kids)) s1 f1∧aG w (.sl (Ty.rows t.src.kids)) s2 f2∧aG w (.sl (Tm.rows t.kids)) s f3
def TmsOwn (w:World)(ts:List Tm)(y:Value)(fp:List Nat):Prop:=aG w (.sl (Tm.rows ts)) y fp
def b3 (B:Nat)(w:World)(t:Tm)(y:Value):Prop:=∃fp,gJ w t y fp∧fp.Nodup∧∀b∈fp,B≤b
def cr (B:Nat)(w:World)(ts:List Tm)(y:Value):Prop:=∃fp,TmsOwn w ts y fp∧fp.Nodup∧∀b∈fp,B≤b
theorem gJ.below {w w':World}{t:Tm}{y:Value}{fp:List Nat}(h:gJ w t y fp)(k:Below w.heap.size w w'):gJ w' t y fp:=by
 obtain⟨s1,s2,s,f1,f2,f3,rfl,rfl,hn,h1,h2,h3⟩:=h
 exact⟨s1,s2,s,f1,f2,f3,rfl,rfl,hn,h1.move _ _ _ fun b hb=>k.block b (h1.lt _ _ _ b hb),h2.move _ _ _ fun b hb=>k.block b (h2.lt _ _ _ b hb),h3.move _ _ _ fun b hb=>k.block b (h3.lt _ _ _ b hb)⟩
theorem gJ.rep {w:World}{t:Tm}{y:Value}{fp:List Nat}(h:gJ w t y fp):az (· ∈ fp) w t y:=by
 obtain⟨s1,s2,s,f1,f2,f3,rfl,rfl,hn,h1,h2,h3⟩:=h
 exact⟨s1,s2,s,rfl,hn,h1.rep _ _ _ (fun b hb=>by simp [hb]),h2.rep _ _ _ (fun b hb=>by simp [hb]),h3.rep _ _ _ (fun b hb=>by simp [hb])⟩
theorem b3.below {B:Nat}{w w':World}{t:Tm}{y:Value}(h:b3 B w t y)(k:Below w.heap.size w w'):b3 B w' t y:=
 let ⟨fp,h1,h2,h3⟩:=h;⟨fp,h1.below k,h2,h3⟩
theorem b3.rep {B:Nat}{w:World}{t:Tm}{y:Value}(h:b3 B w t y):az (B ≤ ·) w t y:=
 let ⟨fp,h1,_,h3⟩:=h;h1.rep.move (.weaken fun b hb _=>h3 b hb)
theorem cr.rep {B:Nat}{w:World}{ts:List Tm}{y:Value}(h:cr B w ts y):aV (B ≤ ·) w ts y:=
 let ⟨_,h1,_,h3⟩:=h;aG.rep _ _ _ (fun b hb=>h3 b hb) h1
theorem cr.below {B:Nat}{w w':World}{ts:List Tm}{y:Value}(h:cr B w ts y)(k:Below w.heap.size w w'):cr B w' ts y:=
 let ⟨fp,h1,h2,h3⟩:=h;⟨fp,aG.move _ _ _ (fun b hb=>k.block b (aG.lt _ _ _ h1 b hb)) h1,h2,h3⟩
theorem b3.shape {B:Nat}{w:World}{t:Tm}{y:Value}(h:b3 B w t y) : ∃k nm u tk ta tn tq fk fa fn fq l c m q,y = .agg #[.int .i64 k,.string nm,.int .i64 u,.int .i64 tk,.slice ta tn tq,.int .i64 fk,.slice fa fn fq,.int .i64 l,.slice c m q]:=h.rep.shape
theorem b3.mono {B B':Nat}{w:World}{t:Tm}{y:Value}(h:b3 B w t y)(hB:B'≤B):b3 B' w t y:=
 let ⟨fp,h1,h2,h3⟩:=h;⟨fp,h1,h2,fun b hb=>Nat.le_trans hB (h3 b hb)⟩
theorem cr.mono {B B':Nat}{w:World}{t:List Tm}{y:Value}(h:cr B w t y)(hB:B'≤B):cr B' w t y:=
 let ⟨fp,h1,h2,h3⟩:=h;⟨fp,h1,h2,fun b hb=>Nat.le_trans hB (h3 b hb)⟩
theorem cr.setCell {B:Nat}{w:World}{ts:List Tm}{y:Value}(h:cr B w ts y){p:Addr}(hp:p.block<B)(v:Value):cr B (w.setCell p v) ts y:=by
 obtain⟨fp,h1,h2,h3⟩:=h
 exact⟨fp,aG.move _ _ _ (fun b hb=>Below.heap_setCell w p v b (by have:=h3 b hb;omega)) h1,h2,h3⟩
theorem b3.setCell {B:Nat}{w:World}{t:Tm}{y:Value}(h:b3 B w t y){p:Addr}(hp:p.block<B)(v:Value):b3 B (w.setCell p v) t y:=by
 obtain⟨fp,⟨s1,s2,s,f1,f2,f3,rfl,rfl,hn,h1,h2,h3⟩,hd,hx⟩:=h
 have hk : ∀b∈f1++(f2++f3),(w.setCell p v).heap[b]?=w.heap[b]?:=fun b hb=>Below.heap_setCell w p v b (by have:=hx b hb;omega)
 exact⟨_,⟨s1,s2,s,f1,f2,f3,rfl,rfl,hn,aG.move _ _ _ (fun b hb=>hk b (by simp [hb])) h1,aG.move _ _ _ (fun b hb=>hk b (by simp [hb])) h2,aG.move _ _ _ (fun b hb=>hk b (by simp [hb])) h3⟩,hd,hx⟩
theorem b3.nil {B:Nat}{w:World}{k u l:Int}{nm:ByteArray}(hn:nm.size≤maxLen):b3 B w (.mk k nm u (.mk 0 []) (.mk 0 []) l []) (.agg #[.int .i64 k,.string nm,.int .i64 u,.int .i64 0,.slice none 0 0,.int .i64 0,.slice none 0 0,.int .i64 l,.slice none 0 0]):=by
 have z:aG w (.sl []) (.slice none 0 0) []:=by unfold aG;exact⟨none,0,rfl,Nat.le_refl _,by unfold maxLen;omega,.inl ⟨rfl,rfl⟩⟩
 refine⟨[],⟨_,_,_,[],[],[],rfl,rfl,hn,?_,?_,?_⟩,by simp,by simp⟩
 ·simp only [Tm.type,Ty.kids,Ty.rows];exact z
 ·simp only [Tm.src,Ty.kids,Ty.rows];exact z
 ·simp only [Tm.kids,Tm.rows];exact z
theorem Tm.flatten_length (ts:List Tm):(Tm.rows ts).flatten.length=ts.length*9:=by
 induction ts with
 | nil=>unfold Tm.rows;rfl
 | cons t ts ih=>unfold Tm.rows;rw [List.flatten_cons,List.length_append,ih,t.row_length,List.length_cons];omega
theorem b3.open {B:Nat}{w:World}{t:Tm}{y:Value}(h:b3 B w t y) : ∃k nm u tk ta tn tq fk fa fn fq l c m q fp,y = .agg #[.int .i64 k,.string nm,.int .i64 u,.int .i64 tk,.slice ta tn tq,.int .i64 fk,.slice fa fn fq,.int .i64 l,.slice c m q]∧bg w t.row [.int .i64 k,.string nm,.int .i64 u,.int .i64 tk,.slice ta tn tq,.int .i64 fk,.slice fa fn fq,.int .i64 l,.slice c m q] fp∧fp.Nodup∧∀b∈fp,B≤b:=by
 obtain⟨fp,⟨s1,s2,s,f1,f2,f3,rfl,rfl,hn,h1,h2,h3⟩,hd,hx⟩:=h
 obtain⟨ta,tq,rfl,-⟩:=aS.rows (aG.rep _ _ _ (F:=fun _=>True) (fun _ _=>trivial) h1)
 obtain⟨fa,fq,rfl,-⟩:=aS.rows (aG.rep _ _ _ (F:=fun _=>True) (fun _ _=>trivial) h2)
 obtain⟨c,q,rfl,-⟩:=aS.rows (aG.rep _ _ _ (F:=fun _=>True) (fun _ _=>trivial) h3)
 refine⟨_,_,_,_,ta,_,tq,_,fa,_,fq,_,c,_,q,_,rfl,?_,hd,hx⟩
 cases t with | mk k nm u t f l ts=>
 simp only [Tm.kind,Tm.name,Tm.num,Tm.type,Tm.src,Tm.label,Tm.kids] at *
 unfold Tm.row
 have i1 : ∀n:Int,aG w (.int n) (.int .i64 n) []:=fun n=>by unfold aG;exact⟨rfl,rfl⟩
 have i2:aG w (.str nm) (.string nm) []:=by unfold aG;exact⟨rfl,hn,rfl⟩
 exact⟨_,_,[],_,rfl,rfl,i1 _,_,_,[],_,rfl,rfl,i2,_,_,[],_,rfl,rfl,i1 _,_,_,[],_,rfl,rfl,i1 _,_,_,f1,_,rfl,rfl,h1,_,_,[],_,rfl,rfl,i1 _,_,_,f2,_,rfl,rfl,h2,_,_,[],_,rfl,rfl,i1 _,_,_,f3,[],rfl,by simp,h3,rfl,rfl⟩
end Go.Proofs.Ytnaoghknnenfoaa

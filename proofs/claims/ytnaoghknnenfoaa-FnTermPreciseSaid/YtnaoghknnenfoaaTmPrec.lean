/-
  TermPrecise of both sides.
-/
import Derived.Test.YtnaoghknnenfoaaB11
import Derived.Test.YtnaoghknnenfoaaB11
import Derived.Test.YtnaoghknnenfoaaB2
import Derived.Test.YtnaoghknnenfoaaTmSame
set_option linter.unusedSimpArgs false
set_option linter.unusedVariables false
set_option maxRecDepth 100000
namespace Go.Proofs.Ytnaoghknnenfoaa
open Go.RowKit
set_option maxHeartbeats 1000000 in
theorem le (g:FuncId)(p:Value)(R:Tm→Tm→Bool)(F G:Nat→Prop)(ts us:List Tm)(ys zs:Value)(w:World)(hy:aV F w ts ys)(hz:aV G w us zs)
  (hcf : ∀xs W,(callFunc g xs).run Try.prog W = .ok (.enter g xs) W)
  (hg : ∀t∈ts,∀u∈us,∀(W:World) (y z:Value),Below w.heap.size w W→az F W t y→az G W u z→Calls Try.prog g #[y,z,p] W fun e W'=>e = .returned (.bool (R t u))∧Below W.heap.size W W') :
  Calls Try.prog 23 #[ys,zs,.func (.func g) #[] #[p]] w fun e w'=>e = .returned (.bool (bZ R ts us))∧Below w.heap.size w w':=by
 have HG:=Lib.hid hg
 clear hg
 obtain⟨a,cap,rfl,h2,h3,-⟩:=hy.open
 obtain⟨c,cap',rfl,g2,g3,-⟩:=hz.open
 unfold maxLen at h3 g3
 by_cases hl:ts.length=us.length
 ·obtain⟨n,hn⟩ : ∃n,ts.length=n:=⟨_,rfl⟩
  rw [hn] at hl h2 hy
  rw [←hl] at g2 hz
  have HN:=Lib.hid hn
  have HL:=Lib.hid hl
  rw [hn,←hl]
  clear hn hl
  go_enter Try.func23,Try.ntmps23
  go_wp2_with fail
  go_loopw [17] (fun i wr=>∃k:Nat,k≤n∧i = .int .i64 k∧Below w.heap.size w wr∧Hid (bZ R ts us=bZ R (ts.drop k) (us.drop k))) (fun i _=>n-(intOf i).toNat)
  case atStart=>exact⟨0,by omega,rfl,Below.refl _ _,rfl⟩
  case round=>
   obtain⟨j,hk,rfl,hbw,hR⟩:=hrel
   by_cases hlt:j<n
   ·have hkt:j<ts.length:=by rw [HN.out];exact hlt
    have hku:j<us.length:=by rw [←HL.out];exact hlt
    obtain⟨b,off,k0,nm0,u0,tk0,ta0,tn0,tq0,fk0,fa0,fn0,fq0,l0,a0,m0,q0,rfl,lb,e0,e1,e2,e3,e4,e5,e6,e7,e8,ht⟩:=hy.at hbw hkt
    obtain⟨b',off',k0',nm0',u0',tk0',ta0',tn0',tq0',fk0',fa0',fn0',fq0',l0',a0',m0',q0',rfl,lb',e0',e1',e2',e3',e4',e5',e6',e7',e8',hu⟩:=hz.at hbw hku
    have hcall:=HG.out ts[j] (List.getElem_mem hkt) us[j] (List.getElem_mem hku)
    have hstep:=hR.out.trans (da R ts us j hkt hku)
    generalize R ts[j] us[j]=r at hcall hstep
    have HC:=Lib.hid hcall
    have HS:=Lib.hid hstep
    clear hcall hstep hR
    cases r
    all_goals
     go_wp2_with fail
     refine(HC.out _ _ _ (ai hbw aI) (ht.below aI) (hu.below aI)).mono ?_
     rintro e w1 ⟨rfl,hb1⟩
     go_wp2_with fail
    ·go_ret
     exact⟨au (by rw [HS.out];rfl),ai (ai hbw aI) hb1⟩
    ·go_roundw
     case rel=>exact⟨j+1,by omega,by go_num,ai (ai hbw aI) hb1,by rw [Hid,HS.out];rfl⟩
     case measure=>simp [intOf];omega
   ·go_wp2_with fail
    go_ret
    exact⟨au (by rw [hR.out,dh _ _ _ _ (by rw [HN.out];omega) (by rw [←HL.out];omega)]),hbw⟩
 ·have HL:=Lib.hid hl
  go_enter Try.func23,Try.ntmps23
  go_wp2_with fail
  go_ret
  exact⟨au (dA R ts us HL.out).symm,Below.refl _ _⟩
set_option maxHeartbeats 1000000 in
theorem px (F G:Nat→Prop)(t v:Tm)(y z:Value)(b:Nat)(w:World)(hy:az F w t y)(hz:az G w v z)(hc:w.cell? ⟨b,0,none⟩=some (.func (.func 14) #[] #[]))
  (IH : ∀(W:World),Below w.heap.size w W→Calls Try.prog 13 #[y,z,.func (.func 14) #[] #[]] W fun e W'=>e = .returned (.bool (t.alike v))∧Below W.heap.size W W') :
  Calls Try.prog 32 #[y,z,.pointer (some ⟨b,0,none⟩)] w fun e w'=>e = .returned (.bool (t.alike v))∧Below w.heap.size w w':=by
 obtain⟨k,nm,u,tk,ta,tn,tq,fk,fa,fn,fq,l,c,m,q,rfl⟩:=hy.shape
 obtain⟨k',nm',u',tk',ta',tn',tq',fk',fa',fn',fq',l',c',m',q',rfl⟩:=hz.shape
 generalize t.alike v=r at *
 have H:=Lib.hid IH
 clear IH hy hz
 obtain⟨rr,hrr⟩ : ∃rr0:Bool,(r)=rr0:=⟨_,rfl⟩
 rw [hrr]
 have HT:=Lib.hid hrr
 clear hrr
 have hlb:=World.block_lt_of_cell? _ _ hc
 have hlb1:=Nat.lt_succ_of_lt hlb
 go_enter Try.func32,Try.ntmps32
 go_wp2_with fail
 refine(H.out _ aI).mono ?_
 rintro e w1 ⟨rfl,hb1⟩
 have hB:=(ai aI hb1)
 have zw1:=hB.size
 go_wp2_with fail
 refine bodyPost_ret (v:=.bool (r)) (by simp [results,Try.results32,go_sem,bne]) rfl ?_
 exact⟨au ((kV r ).trans HT.out),hB⟩
set_option maxHeartbeats 4000000 in
theorem kx (F G:Nat→Prop)(t:Tm) : ∀(v:Tm) (y z:Value) (w:World),az F w t y→az G w v z →
  Calls Try.prog 13 #[y,z,.func (.func 14) #[] #[]] w fun e w'=>e = .returned (.bool (t.alike v))∧Below w.heap.size w w':=by
 intro v y z w hy hz
 have IH : ∀t'∈t.kids,∀v'∈v.kids,∀(W:World) (y z:Value),az F W t' y→az G W v' z→Calls Try.prog 13 #[y,z,.func (.func 14) #[] #[]] W fun e W'=>e = .returned (.bool (t'.alike v'))∧Below W.heap.size W W':=
  fun t' ht v' _ W y z a b=>kx F G t' v' y z W a b
 obtain⟨k,nm,u,tk,ta,tn,tq,fk,fa,fn,fq,l,c,m,q,rfl⟩:=hy.shape
 obtain⟨k',nm',u',tk',ta',tn',tq',fk',fa',fn',fq',l',c',m',q',rfl⟩:=hz.shape
 obtain⟨r1,r2,r3,r4,r5,r6,r7,r8,r9,rn,rm,rq,hty,hsr,hks⟩:=hy.parts
 obtain⟨s1,s2,s3,s4,s5,s6,s7,s8,s9,sn,sm,sq,hty',hsr',hks'⟩:=hz.parts
 cases t with | mk kk nn uu tt ff ll ts=>cases v with | mk kk' nn' uu' tt' ff' ll' ts'=>
 simp only [Tm.kind,Tm.name,Tm.num,Tm.type,Tm.src,Tm.label,Tm.kids] at *
 subst r1 r2 r3 r8 s1 s2 s3 s8
 have h1:=fun W (h:Below w.heap.size w W)=>gi F G tt tt' _ _ W (hty.below h) (hty'.below h)
 have h3:=fun W (h:Below w.heap.size w W) (b:Nat) (hc:W.cell? ⟨b,0,none⟩=some (.func (.func 14) #[] #[]))=>le _ (.pointer (some ⟨b,0,none⟩)) Tm.alike F G ts ts' _ _ W (hks.below h) (hks'.below h) Try.call32
  (fun t' ht v' hv W2 y2 z2 hb a e=>px F G t' v' y2 z2 b W2 a e (a9 hb hc) fun W3 h3=>IH t' ht v' hv W3 y2 z2 (a.below h3) (e.below h3))
 simp only [Tm.alikes_all2] at h3
 unfold Tm.alike
 generalize tt.prec tt'=r1 at h1 ⊢
 generalize Tm.alikes ts ts'=r3 at h3 ⊢
 have H1:=Lib.hid h1
 have H3:=Lib.hid h3
 clear h1 h3 IH hty hty' hsr hsr' hks hks' hy hz
 clear r9 r4 r5 r6 r7 s4 s5 s6 s7 s9
 obtain⟨rr,hrr⟩ : ∃rr0:Bool,(k==k'&&nm.toList==nm'.toList&&u==u'&&(!(k==5||k==13)||r1)&&r3)=rr0:=⟨_,rfl⟩
 rw [hrr]
 have HT:=Lib.hid hrr
 clear hrr
 have hcp:=Try.call14
 go_enter Try.func13,Try.ntmps13
 rcases Bool.eq_false_or_eq_true (b7 k) with q1 | q1
 ·have Hq1:=Lib.hid q1
  clear q1
  rcases Bool.eq_false_or_eq_true (k==k') with q2 | q2
  ·skip
   have nq2:(k != k')=false:=by simp only [bne,q2];rfl
   go_wp2_with fail
   refine(cM k _ _ _ _ _ _ _ _ _ _ _ _ _ _ _).mono ?_
   rintro e w1 ⟨rfl,hb1⟩
   rw [Hq1.out]
   have hB:=(ai bS hb1)
   have zw1:=hB.size
   have c0_0:w1.cell? ⟨w.heap.size,0,none⟩=some (.int .i64 k):=a9 hb1 (a9 ah (a9 ah (aj (by simp) 0)))
   have c1_0:w1.cell? ⟨w.heap.size+1,0,none⟩=some (.int .i64 k'):=a9 hb1 (a9 ah (aj (by simp) 0))
   have c2_0:w1.cell? ⟨w.heap.size+1+1,0,none⟩=some (.func (.func 14) #[] #[]):=a9 hb1 (aj (by simp) 0)
   have c0_3:w1.cell? ⟨w.heap.size,3,none⟩=some (.int .i64 tk):=a9 hb1 (a9 ah (a9 ah (aj (by simp) 3)))
   have c0_4:w1.cell? ⟨w.heap.size,4,none⟩=some (.slice ta tn tq):=a9 hb1 (a9 ah (a9 ah (aj (by simp) 4)))
   have c1_3:w1.cell? ⟨w.heap.size+1,3,none⟩=some (.int .i64 tk'):=a9 hb1 (a9 ah (aj (by simp) 3))
   have c1_4:w1.cell? ⟨w.heap.size+1,4,none⟩=some (.slice ta' tn' tq'):=a9 hb1 (a9 ah (aj (by simp) 4))
   have c0_1:w1.cell? ⟨w.heap.size,1,none⟩=some (.string nm):=a9 hb1 (a9 ah (a9 ah (aj (by simp) 1)))
   have c1_1:w1.cell? ⟨w.heap.size+1,1,none⟩=some (.string nm'):=a9 hb1 (a9 ah (aj (by simp) 1))
   have c0_2:w1.cell? ⟨w.heap.size,2,none⟩=some (.int .i64 u):=a9 hb1 (a9 ah (a9 ah (aj (by simp) 2)))
   have c1_2:w1.cell? ⟨w.heap.size+1,2,none⟩=some (.int .i64 u'):=a9 hb1 (a9 ah (aj (by simp) 2))
   have c0_8:w1.cell? ⟨w.heap.size,8,none⟩=some (.slice c m q):=a9 hb1 (a9 ah (a9 ah (aj (by simp) 8)))
   have c1_8:w1.cell? ⟨w.heap.size+1,8,none⟩=some (.slice c' m' q'):=a9 hb1 (a9 ah (aj (by simp) 8))
   have d0_w1:=World.block_lt_of_cell? _ _ c0_0
   have d1_w1:=World.block_lt_of_cell? _ _ c1_0
   have d2_w1:=World.block_lt_of_cell? _ _ c2_0
   go_wp2_with fail
   refine(H1.out _ hB).mono ?_
   rintro e w2 ⟨rfl,hb2⟩
   replace hB:=(ai hB hb2)
   have zw2:=hB.size
   replace c0_0:w2.cell? ⟨w.heap.size,0,none⟩=some (.int .i64 k):=a9 hb2 (c0_0)
   replace c1_0:w2.cell? ⟨w.heap.size+1,0,none⟩=some (.int .i64 k'):=a9 hb2 (c1_0)
   replace c0_1:w2.cell? ⟨w.heap.size,1,none⟩=some (.string nm):=a9 hb2 (c0_1)
   replace c1_1:w2.cell? ⟨w.heap.size+1,1,none⟩=some (.string nm'):=a9 hb2 (c1_1)
   replace c0_2:w2.cell? ⟨w.heap.size,2,none⟩=some (.int .i64 u):=a9 hb2 (c0_2)
   replace c1_2:w2.cell? ⟨w.heap.size+1,2,none⟩=some (.int .i64 u'):=a9 hb2 (c1_2)
   replace c0_8:w2.cell? ⟨w.heap.size,8,none⟩=some (.slice c m q):=a9 hb2 (c0_8)
   replace c1_8:w2.cell? ⟨w.heap.size+1,8,none⟩=some (.slice c' m' q'):=a9 hb2 (c1_8)
   replace c2_0:w2.cell? ⟨w.heap.size+1+1,0,none⟩=some (.func (.func 14) #[] #[]):=a9 hb2 (c2_0)
   have d0_w2:=World.block_lt_of_cell? _ _ c0_0
   have d1_w2:=World.block_lt_of_cell? _ _ c1_0
   have d2_w2:=World.block_lt_of_cell? _ _ c2_0
   rcases Bool.eq_false_or_eq_true (r1) with q3 | q3
   ·(try rw [q3])
    have Hq3:=Lib.hid q3
    clear q3
    rcases Bool.eq_false_or_eq_true (nm.toList==nm'.toList) with q4 | q4
    ·skip
     have nq4:(nm.toList != nm'.toList)=false:=by simp only [bne,q4];rfl
     rcases Bool.eq_false_or_eq_true (u==u') with q5 | q5
     ·skip
      have nq5:(u != u')=false:=by simp only [bne,q5];rfl
      go_wp2_with fail
      refine(H3.out _ hB (w.heap.size+1+1) (c2_0)).mono ?_
      rintro e w3 ⟨rfl,hb3⟩
      replace hB:=(ai hB hb3)
      have zw3:=hB.size
      go_wp2_with fail
      refine bodyPost_ret (v:=.bool (r3)) (by simp [results,Try.results13,go_sem,bne]) rfl ?_
      exact⟨au ((lG k u k' u' nm nm' r1 r3 Hq1.out q2 Hq3.out q4 q5).trans HT.out),hB⟩
     ·skip
      have nq5:(u != u')=true:=by simp only [bne,q5];rfl
      go_wp2_with fail
      refine bodyPost_ret (v:=.bool (false)) (by simp [results,Try.results13,go_sem,bne]) rfl ?_
      exact⟨au ((nG k u k' u' nm nm' r1 r3 Hq1.out q2 Hq3.out q4 q5).trans HT.out),hB⟩
    ·skip
     have nq4:(nm.toList != nm'.toList)=true:=by simp only [bne,q4];rfl
     go_wp2_with fail
     refine bodyPost_ret (v:=.bool (false)) (by simp [results,Try.results13,go_sem,bne]) rfl ?_
     exact⟨au ((nu k u k' u' nm nm' r1 r3 Hq1.out q2 Hq3.out q4).trans HT.out),hB⟩
   ·(try rw [q3])
    have Hq3:=Lib.hid q3
    clear q3
    go_wp2_with fail
    refine bodyPost_ret (v:=.bool (false)) (by simp [results,Try.results13,go_sem,bne]) rfl ?_
    exact⟨au ((nI k u k' u' nm nm' r1 r3 Hq1.out q2 Hq3.out).trans HT.out),hB⟩
  ·skip
   have nq2:(k != k')=true:=by simp only [bne,q2];rfl
   go_wp2_with fail
   refine(cM k _ _ _ _ _ _ _ _ _ _ _ _ _ _ _).mono ?_
   rintro e w4 ⟨rfl,hb4⟩
   rw [Hq1.out]
   have hB:=(ai bS hb4)
   have zw4:=hB.size
   have c0_0:w4.cell? ⟨w.heap.size,0,none⟩=some (.int .i64 k):=a9 hb4 (a9 ah (a9 ah (aj (by simp) 0)))
   have c1_0:w4.cell? ⟨w.heap.size+1,0,none⟩=some (.int .i64 k'):=a9 hb4 (a9 ah (aj (by simp) 0))
   have d0_w4:=World.block_lt_of_cell? _ _ c0_0
   have d1_w4:=World.block_lt_of_cell? _ _ c1_0
   go_wp2_with fail
   refine bodyPost_ret (v:=.bool (false)) (by simp [results,Try.results13,go_sem,bne]) rfl ?_
   exact⟨au ((lp k u k' u' nm nm' r1 r3 Hq1.out q2).trans HT.out),hB⟩
 ·have Hq1:=Lib.hid q1
  clear q1
  go_wp2_with fail
  refine(cM k _ _ _ _ _ _ _ _ _ _ _ _ _ _ _).mono ?_
  rintro e w5 ⟨rfl,hb5⟩
  rw [Hq1.out]
  have hB:=(ai bS hb5)
  have zw5:=hB.size
  have c0_0:w5.cell? ⟨w.heap.size,0,none⟩=some (.int .i64 k):=a9 hb5 (a9 ah (a9 ah (aj (by simp) 0)))
  have c1_0:w5.cell? ⟨w.heap.size+1,0,none⟩=some (.int .i64 k'):=a9 hb5 (a9 ah (aj (by simp) 0))
  have c0_1:w5.cell? ⟨w.heap.size,1,none⟩=some (.string nm):=a9 hb5 (a9 ah (a9 ah (aj (by simp) 1)))
  have c1_1:w5.cell? ⟨w.heap.size+1,1,none⟩=some (.string nm'):=a9 hb5 (a9 ah (aj (by simp) 1))
  have c0_2:w5.cell? ⟨w.heap.size,2,none⟩=some (.int .i64 u):=a9 hb5 (a9 ah (a9 ah (aj (by simp) 2)))
  have c1_2:w5.cell? ⟨w.heap.size+1,2,none⟩=some (.int .i64 u'):=a9 hb5 (a9 ah (aj (by simp) 2))
  have c0_8:w5.cell? ⟨w.heap.size,8,none⟩=some (.slice c m q):=a9 hb5 (a9 ah (a9 ah (aj (by simp) 8)))
  have c1_8:w5.cell? ⟨w.heap.size+1,8,none⟩=some (.slice c' m' q'):=a9 hb5 (a9 ah (aj (by simp) 8))
  have c2_0:w5.cell? ⟨w.heap.size+1+1,0,none⟩=some (.func (.func 14) #[] #[]):=a9 hb5 (aj (by simp) 0)
  have d0_w5:=World.block_lt_of_cell? _ _ c0_0
  have d1_w5:=World.block_lt_of_cell? _ _ c1_0
  have d2_w5:=World.block_lt_of_cell? _ _ c2_0
  rcases Bool.eq_false_or_eq_true (k==k') with q6 | q6
  ·skip
   have nq6:(k != k')=false:=by simp only [bne,q6];rfl
   rcases Bool.eq_false_or_eq_true (nm.toList==nm'.toList) with q7 | q7
   ·skip
    have nq7:(nm.toList != nm'.toList)=false:=by simp only [bne,q7];rfl
    rcases Bool.eq_false_or_eq_true (u==u') with q8 | q8
    ·skip
     have nq8:(u != u')=false:=by simp only [bne,q8];rfl
     go_wp2_with fail
     refine(H3.out _ hB (w.heap.size+1+1) (c2_0)).mono ?_
     rintro e w6 ⟨rfl,hb6⟩
     replace hB:=(ai hB hb6)
     have zw6:=hB.size
     go_wp2_with fail
     refine bodyPost_ret (v:=.bool (r3)) (by simp [results,Try.results13,go_sem,bne]) rfl ?_
     exact⟨au ((nB k u k' u' nm nm' r1 r3 Hq1.out q6 q7 q8).trans HT.out),hB⟩
    ·skip
     have nq8:(u != u')=true:=by simp only [bne,q8];rfl
     go_wp2_with fail
     refine bodyPost_ret (v:=.bool (false)) (by simp [results,Try.results13,go_sem,bne]) rfl ?_
     exact⟨au ((mU k u k' u' nm nm' r1 r3 Hq1.out q6 q7 q8).trans HT.out),hB⟩
   ·skip
    have nq7:(nm.toList != nm'.toList)=true:=by simp only [bne,q7];rfl
    go_wp2_with fail
    refine bodyPost_ret (v:=.bool (false)) (by simp [results,Try.results13,go_sem,bne]) rfl ?_
    exact⟨au ((n9 k u k' u' nm nm' r1 r3 Hq1.out q6 q7).trans HT.out),hB⟩
  ·skip
   have nq6:(k != k')=true:=by simp only [bne,q6];rfl
   go_wp2_with fail
   refine bodyPost_ret (v:=.bool (false)) (by simp [results,Try.results13,go_sem,bne]) rfl ?_
   exact⟨au ((mc k u k' u' nm nm' r1 r3 Hq1.out q6).trans HT.out),hB⟩
termination_by SizeOf.sizeOf t
decreasing_by exact Tm.kid_lt ht
set_option maxHeartbeats 8000000 in
theorem et (F G:Nat→Prop)(t:Tm) : ∀(v:Tm) (d:Int) (_:t.shape 14 d=true) (_:v.shape 14 d=true) (y z:Value) (w:World),az F w t y→az G w v z →
  Calls Try.prog 16 #[y,z] w fun e w'=>e = .returned (.bool (t.alike v))∧Below w.heap.size w w':=by
 intro v d sh1 sh2 y z w hy hz
 have IH0 : ∀t'∈t.kids,∀v'∈v.kids,∀(d:Int) (_:t'.shape 14 d=true) (_:v'.shape 14 d=true) (W:World) (y z:Value),az F W t' y→az G W v' z→Calls Try.prog 16 #[y,z] W fun e W'=>e = .returned (.bool (t'.alike v'))∧Below W.heap.size W W':=
  fun t' ht v' _ d s1 s2 W y z a b=>et F G t' v' d s1 s2 y z W a b
 obtain⟨k,nm,u,tk,ta,tn,tq,fk,fa,fn,fq,l,c,m,q,rfl⟩:=hy.shape
 obtain⟨k',nm',u',tk',ta',tn',tq',fk',fa',fn',fq',l',c',m',q',rfl⟩:=hz.shape
 obtain⟨r1,r2,r3,r4,r5,r6,r7,r8,r9,rn,rm,rq,hty,hsr,hks⟩:=hy.parts
 obtain⟨s1,s2,s3,s4,s5,s6,s7,s8,s9,sn,sm,sq,hty',hsr',hks'⟩:=hz.parts
 cases t with | mk kk nn uu tt ff ll ts=>cases v with | mk kk' nn' uu' tt' ff' ll' ts'=>
 simp only [Tm.kind,Tm.name,Tm.num,Tm.type,Tm.src,Tm.label,Tm.kids] at *
 subst r1 r2 r3 r8 s1 s2 s3 s8
 obtain⟨-,-,-,o1,p1⟩:=Tm.shape_parts sh1
 obtain⟨-,-,-,o2,p2⟩:=Tm.shape_parts sh2
 have IH:=fun t' ht v' hv=>IH0 t' ht v' hv (d-1)
 have h1:=fun(hk:(k==5)=true∨(k==13)=true) (he:(k==k')=true) W (h:Below w.heap.size w W)=>
  es F G tt tt' _ _ _ _ W (hty.below h) (hty'.below h) (Tm.own_type o1 hk) (Tm.own_type o2 (by rw [←show k=k' from by simpa using he];exact hk))
 unfold Tm.alike
 rw [←Tm.alikes_all2]
 generalize tt.prec tt'=r1 at h1 ⊢
 obtain⟨r3,hr3⟩ : ∃r,bZ Tm.alike ts ts'=r:=⟨_,rfl⟩
 rw [hr3]
 have HR3:=Lib.hid hr3
 have H1:=Lib.hid h1
 have IHH:=Lib.hid IH
 have HN:=Lib.hid r9
 have HL:=Lib.hid s9
 have HSH1:=Lib.hid p1
 have HSH2:=Lib.hid p2
 clear h1 IH IH0 hty hty' hsr hsr' hy hz hr3 o1 o2 p1 p2 sh1 sh2
 clear r4 r5 r6 r7 s4 s5 s6 s7 r9 s9
 unfold maxLen at rn sn rq sq
 obtain⟨rr,hrr⟩ : ∃rr0:Bool,(k==k'&&nm.toList==nm'.toList&&u==u'&&(!(k==5||k==13)||r1)&&r3)=rr0:=⟨_,rfl⟩
 rw [hrr]
 have HT:=Lib.hid hrr
 clear hrr
 go_enter Try.func16,Try.ntmps16
 rcases Bool.eq_false_or_eq_true (k==k') with q1 | q1
 ·skip
  have nq1:(k != k')=false:=by simp only [bne,q1];rfl
  rcases Bool.eq_false_or_eq_true (nm.toList==nm'.toList) with q2 | q2
  ·skip
   have nq2:(nm.toList != nm'.toList)=false:=by simp only [bne,q2];rfl
   rcases Bool.eq_false_or_eq_true (u==u') with q3 | q3
   ·skip
    have nq3:(u != u')=false:=by simp only [bne,q3];rfl
    rcases Bool.eq_false_or_eq_true ((m:Int)==(m':Int)) with q4 | q4
    ·(try rw [q4])
     have nq4:((m:Int) != (m':Int))=false:=by simp only [bne,q4];rfl
     rcases Bool.eq_false_or_eq_true (k==5) with q5 | q5
     ·skip
      have nq5:(k != 5)=false:=by simp only [bne,q5];rfl
      go_wp2_with fail
      refine(H1.out (.inl q5) q1 _ aI).mono ?_
      rintro e w1 ⟨rfl,hb1⟩
      have hB:=(ai aI hb1)
      have zw1:=hB.size
      have c0_8:w1.cell? ⟨w.heap.size,8,none⟩=some (.slice c m q):=a9 hb1 (a9 ah (aj (by simp) 8))
      have c1_8:w1.cell? ⟨w.heap.size+1,8,none⟩=some (.slice c' m' q'):=a9 hb1 (aj (by simp) 8)
      have d0_w1:=World.block_lt_of_cell? _ _ c0_8
      have d1_w1:=World.block_lt_of_cell? _ _ c1_8
      rcases Bool.eq_false_or_eq_true (r1) with q6 | q6
      ·(try rw [q6])
       have Hq6:=Lib.hid q6
       clear q6
       go_wp2_with fail
       obtain rfl:m=m':=by have h:=q4;simp at h;omega
       go_loopw [5] (fun i wr=>∃j:Nat,j≤m∧i = .int .i64 j∧Below w.heap.size w wr∧wr.cell? ⟨w.heap.size,8,none⟩=some (.slice c m q)∧wr.cell? ⟨w.heap.size+1,8,none⟩=some (.slice c' m q')∧Hid (r3=bZ Tm.alike (ts.drop j) (ts'.drop j))) (fun i _=>m-(intOf i).toNat)
       case atStart=>exact⟨0,by omega,rfl,hB,c0_8,c1_8,HR3.out.symm⟩
       case round=>
        obtain⟨j,hj,rfl,hB,x0,x1,hR0⟩:=hrel
        have lx1:=World.block_lt_of_cell? _ _ x0
        have lx2:=World.block_lt_of_cell? _ _ x1
        by_cases hlt:j<m
        ·have hjt:j<ts.length:=by have:=HN.out;omega
         obtain⟨b,off,k0,nm0,u0,tk0,ta0,tn0,tq0,fk0,fa0,fn0,fq0,l0,a0,m0,q0,rfl,lb,e0,e1,e2,e3,e4,e5,e6,e7,e8,ht⟩:=hks.at hB hjt
         have hjt2:j<ts'.length:=by have:=HL.out;omega
         obtain⟨b',off',k0',nm0',u0',tk0',ta0',tn0',tq0',fk0',fa0',fn0',fq0',l0',a0',m0',q0',rfl,lb',e0',e1',e2',e3',e4',e5',e6',e7',e8',hu⟩:=hks'.at hB hjt2
         have hcall:=IHH.out ts[j] (List.getElem_mem hjt) ts'[j] (List.getElem_mem hjt2) (Tm.shapes_mem HSH1.out (List.getElem_mem hjt)) (Tm.shapes_mem HSH2.out (List.getElem_mem hjt2))
         have hstep:=hR0.out.trans (da Tm.alike ts ts' j hjt hjt2)
         generalize ts[j].alike ts'[j]=r at hcall hstep
         have HC:=Lib.hid hcall
         have HS:=Lib.hid hstep
         clear hcall hstep hR0
         go_wp2_with fail
         have hS0:=Lib.hid (show(World.drew wr).cell? ⟨w.heap.size,8,none⟩=some (.slice (some ⟨b,off,none⟩) m q)∧(World.drew wr).cell? ⟨b,off+j*9,none⟩=some (.int .i64 k0)∧(World.drew wr).cell? ⟨b,off+j*9+1,none⟩=some (.string nm0)∧(World.drew wr).cell? ⟨b,off+j*9+2,none⟩=some (.int .i64 u0)∧(World.drew wr).cell? ⟨b,off+j*9+3,none⟩=some (.int .i64 tk0)∧(World.drew wr).cell? ⟨b,off+j*9+4,none⟩=some (.slice ta0 tn0 tq0)∧(World.drew wr).cell? ⟨b,off+j*9+5,none⟩=some (.int .i64 fk0)∧(World.drew wr).cell? ⟨b,off+j*9+6,none⟩=some (.slice fa0 fn0 fq0)∧(World.drew wr).cell? ⟨b,off+j*9+7,none⟩=some (.int .i64 l0)∧(World.drew wr).cell? ⟨b,off+j*9+8,none⟩=some (.slice a0 m0 q0)∧(World.drew wr).cell? ⟨w.heap.size+1,8,none⟩=some (.slice (some ⟨b',off',none⟩) m q')∧(World.drew wr).cell? ⟨b',off'+j*9,none⟩=some (.int .i64 k0')∧(World.drew wr).cell? ⟨b',off'+j*9+1,none⟩=some (.string nm0')∧(World.drew wr).cell? ⟨b',off'+j*9+2,none⟩=some (.int .i64 u0')∧(World.drew wr).cell? ⟨b',off'+j*9+3,none⟩=some (.int .i64 tk0')∧(World.drew wr).cell? ⟨b',off'+j*9+4,none⟩=some (.slice ta0' tn0' tq0')∧(World.drew wr).cell? ⟨b',off'+j*9+5,none⟩=some (.int .i64 fk0')∧(World.drew wr).cell? ⟨b',off'+j*9+6,none⟩=some (.slice fa0' fn0' fq0')∧(World.drew wr).cell? ⟨b',off'+j*9+7,none⟩=some (.int .i64 l0')∧(World.drew wr).cell? ⟨b',off'+j*9+8,none⟩=some (.slice a0' m0' q0') from⟨ay (x0),ay (e0),ay (e1),ay (e2),ay (e3),ay (e4),ay (e5),ay (e6),ay (e7),ay (e8),ay (x1),ay (e0'),ay (e1'),ay (e2'),ay (e3'),ay (e4'),ay (e5'),ay (e6'),ay (e7'),ay (e8')⟩)
         have hSb:=Lib.hid (show ∀X Y:World,Below X.heap.size X Y→(X.cell? ⟨w.heap.size,8,none⟩=some (.slice (some ⟨b,off,none⟩) m q)∧X.cell? ⟨b,off+j*9,none⟩=some (.int .i64 k0)∧X.cell? ⟨b,off+j*9+1,none⟩=some (.string nm0)∧X.cell? ⟨b,off+j*9+2,none⟩=some (.int .i64 u0)∧X.cell? ⟨b,off+j*9+3,none⟩=some (.int .i64 tk0)∧X.cell? ⟨b,off+j*9+4,none⟩=some (.slice ta0 tn0 tq0)∧X.cell? ⟨b,off+j*9+5,none⟩=some (.int .i64 fk0)∧X.cell? ⟨b,off+j*9+6,none⟩=some (.slice fa0 fn0 fq0)∧X.cell? ⟨b,off+j*9+7,none⟩=some (.int .i64 l0)∧X.cell? ⟨b,off+j*9+8,none⟩=some (.slice a0 m0 q0)∧X.cell? ⟨w.heap.size+1,8,none⟩=some (.slice (some ⟨b',off',none⟩) m q')∧X.cell? ⟨b',off'+j*9,none⟩=some (.int .i64 k0')∧X.cell? ⟨b',off'+j*9+1,none⟩=some (.string nm0')∧X.cell? ⟨b',off'+j*9+2,none⟩=some (.int .i64 u0')∧X.cell? ⟨b',off'+j*9+3,none⟩=some (.int .i64 tk0')∧X.cell? ⟨b',off'+j*9+4,none⟩=some (.slice ta0' tn0' tq0')∧X.cell? ⟨b',off'+j*9+5,none⟩=some (.int .i64 fk0')∧X.cell? ⟨b',off'+j*9+6,none⟩=some (.slice fa0' fn0' fq0')∧X.cell? ⟨b',off'+j*9+7,none⟩=some (.int .i64 l0')∧X.cell? ⟨b',off'+j*9+8,none⟩=some (.slice a0' m0' q0'))→(Y.cell? ⟨w.heap.size,8,none⟩=some (.slice (some ⟨b,off,none⟩) m q)∧Y.cell? ⟨b,off+j*9,none⟩=some (.int .i64 k0)∧Y.cell? ⟨b,off+j*9+1,none⟩=some (.string nm0)∧Y.cell? ⟨b,off+j*9+2,none⟩=some (.int .i64 u0)∧Y.cell? ⟨b,off+j*9+3,none⟩=some (.int .i64 tk0)∧Y.cell? ⟨b,off+j*9+4,none⟩=some (.slice ta0 tn0 tq0)∧Y.cell? ⟨b,off+j*9+5,none⟩=some (.int .i64 fk0)∧Y.cell? ⟨b,off+j*9+6,none⟩=some (.slice fa0 fn0 fq0)∧Y.cell? ⟨b,off+j*9+7,none⟩=some (.int .i64 l0)∧Y.cell? ⟨b,off+j*9+8,none⟩=some (.slice a0 m0 q0)∧Y.cell? ⟨w.heap.size+1,8,none⟩=some (.slice (some ⟨b',off',none⟩) m q')∧Y.cell? ⟨b',off'+j*9,none⟩=some (.int .i64 k0')∧Y.cell? ⟨b',off'+j*9+1,none⟩=some (.string nm0')∧Y.cell? ⟨b',off'+j*9+2,none⟩=some (.int .i64 u0')∧Y.cell? ⟨b',off'+j*9+3,none⟩=some (.int .i64 tk0')∧Y.cell? ⟨b',off'+j*9+4,none⟩=some (.slice ta0' tn0' tq0')∧Y.cell? ⟨b',off'+j*9+5,none⟩=some (.int .i64 fk0')∧Y.cell? ⟨b',off'+j*9+6,none⟩=some (.slice fa0' fn0' fq0')∧Y.cell? ⟨b',off'+j*9+7,none⟩=some (.int .i64 l0')∧Y.cell? ⟨b',off'+j*9+8,none⟩=some (.slice a0' m0' q0')) from fun X Y h s=>⟨a9 h s.1,a9 h s.2.1,a9 h s.2.2.1,a9 h s.2.2.2.1,a9 h s.2.2.2.2.1,a9 h s.2.2.2.2.2.1,a9 h s.2.2.2.2.2.2.1,a9 h s.2.2.2.2.2.2.2.1,a9 h s.2.2.2.2.2.2.2.2.1,a9 h s.2.2.2.2.2.2.2.2.2.1,a9 h s.2.2.2.2.2.2.2.2.2.2.1,a9 h s.2.2.2.2.2.2.2.2.2.2.2.1,a9 h s.2.2.2.2.2.2.2.2.2.2.2.2.1,a9 h s.2.2.2.2.2.2.2.2.2.2.2.2.2.1,a9 h s.2.2.2.2.2.2.2.2.2.2.2.2.2.2.1,a9 h s.2.2.2.2.2.2.2.2.2.2.2.2.2.2.2.1,a9 h s.2.2.2.2.2.2.2.2.2.2.2.2.2.2.2.2.1,a9 h s.2.2.2.2.2.2.2.2.2.2.2.2.2.2.2.2.2.1,a9 h s.2.2.2.2.2.2.2.2.2.2.2.2.2.2.2.2.2.2.1,a9 h s.2.2.2.2.2.2.2.2.2.2.2.2.2.2.2.2.2.2.2⟩)
         go_region_held3 (fun w'=>w'.cell? ⟨w.heap.size,8,none⟩=some (.slice (some ⟨b,off,none⟩) m q)∧w'.cell? ⟨b,off+j*9,none⟩=some (.int .i64 k0)∧w'.cell? ⟨b,off+j*9+1,none⟩=some (.string nm0)∧w'.cell? ⟨b,off+j*9+2,none⟩=some (.int .i64 u0)∧w'.cell? ⟨b,off+j*9+3,none⟩=some (.int .i64 tk0)∧w'.cell? ⟨b,off+j*9+4,none⟩=some (.slice ta0 tn0 tq0)∧w'.cell? ⟨b,off+j*9+5,none⟩=some (.int .i64 fk0)∧w'.cell? ⟨b,off+j*9+6,none⟩=some (.slice fa0 fn0 fq0)∧w'.cell? ⟨b,off+j*9+7,none⟩=some (.int .i64 l0)∧w'.cell? ⟨b,off+j*9+8,none⟩=some (.slice a0 m0 q0)∧w'.cell? ⟨w.heap.size+1,8,none⟩=some (.slice (some ⟨b',off',none⟩) m q')∧w'.cell? ⟨b',off'+j*9,none⟩=some (.int .i64 k0')∧w'.cell? ⟨b',off'+j*9+1,none⟩=some (.string nm0')∧w'.cell? ⟨b',off'+j*9+2,none⟩=some (.int .i64 u0')∧w'.cell? ⟨b',off'+j*9+3,none⟩=some (.int .i64 tk0')∧w'.cell? ⟨b',off'+j*9+4,none⟩=some (.slice ta0' tn0' tq0')∧w'.cell? ⟨b',off'+j*9+5,none⟩=some (.int .i64 fk0')∧w'.cell? ⟨b',off'+j*9+6,none⟩=some (.slice fa0' fn0' fq0')∧w'.cell? ⟨b',off'+j*9+7,none⟩=some (.int .i64 l0')∧w'.cell? ⟨b',off'+j*9+8,none⟩=some (.slice a0' m0' q0'))
          (repeat (first | with_reducible refine hSb.out _ _ hb2 ?_ | with_reducible exact hS0.out))
          (first | (go_at_call 16;((with_reducible refine(HC.out _ _ _ (ht.below bdr) (hu.below bdr)).mono ?_);rintro e w2 ⟨rfl,hb2⟩)))
         replace hB:=(ai hB.drew hb2)
         have zw2:=hB.size
         replace x0:w2.cell? ⟨w.heap.size,8,none⟩=some (.slice (some ⟨b,off,none⟩) m q):=a9 hb2 (ay (x0))
         replace x1:w2.cell? ⟨w.heap.size+1,8,none⟩=some (.slice (some ⟨b',off',none⟩) m q'):=a9 hb2 (ay (x1))
         have d0_w2:=World.block_lt_of_cell? _ _ x0
         have d1_w2:=World.block_lt_of_cell? _ _ x1
         rcases Bool.eq_false_or_eq_true (r) with q7 | q7
         ·(try rw [q7])
          have Hq7:=Lib.hid q7
          clear q7
          have hwr:=IntWalk.i64_in ((j:Int)+1) (by omega)
          go_wp2_with fail
          go_roundw
          case rel=>exact⟨j+1,by omega,by go_num,hB,x0,x1,(by rw [Hid,HS.out,Hq7.out];rfl)⟩
          case measure=>simp [intOf];omega
         ·(try rw [q7])
          have Hq7:=Lib.hid q7
          clear q7
          go_wp2_with fail
          refine bodyPost_ret (v:=.bool (false)) (by simp [results,Try.results16,go_sem,bne]) rfl ?_
          exact⟨au ((kQ k u k' u' nm nm' r1 r3 m m q1 q2 q3 q4 q5 Hq6.out (by rw [HS.out,Hq7.out];rfl)).trans HT.out),hB⟩
        ·skip
         have HRK:Hid (r3=true):=Lib.hid (by rw [hR0.out,dh _ _ _ _ (by have:=HN.out;omega) (by have:=HL.out;omega)])
         go_wp2_with fail
         refine bodyPost_ret (v:=.bool (true)) (by simp [results,Try.results16,go_sem,bne]) rfl ?_
         exact⟨au ((kU k u k' u' nm nm' r1 r3 m m q1 q2 q3 q4 q5 Hq6.out HRK.out).trans HT.out),hB⟩
      ·(try rw [q6])
       have Hq6:=Lib.hid q6
       clear q6
       go_wp2_with fail
       refine bodyPost_ret (v:=.bool (false)) (by simp [results,Try.results16,go_sem,bne]) rfl ?_
       exact⟨au ((kZ k u k' u' nm nm' r1 r3 m m' q1 q2 q3 q4 q5 Hq6.out).trans HT.out),hB⟩
     ·skip
      have nq5:(k != 5)=true:=by simp only [bne,q5];rfl
      rcases Bool.eq_false_or_eq_true (k==13) with q8 | q8
      ·skip
       have nq8:(k != 13)=false:=by simp only [bne,q8];rfl
       go_wp2_with fail
       refine(H1.out (.inr q8) q1 _ aI).mono ?_
       rintro e w3 ⟨rfl,hb3⟩
       have hB:=(ai aI hb3)
       have zw3:=hB.size
       have c0_8:w3.cell? ⟨w.heap.size,8,none⟩=some (.slice c m q):=a9 hb3 (a9 ah (aj (by simp) 8))
       have c1_8:w3.cell? ⟨w.heap.size+1,8,none⟩=some (.slice c' m' q'):=a9 hb3 (aj (by simp) 8)
       have d0_w3:=World.block_lt_of_cell? _ _ c0_8
       have d1_w3:=World.block_lt_of_cell? _ _ c1_8
       rcases Bool.eq_false_or_eq_true (r1) with q9 | q9
       ·(try rw [q9])
        have Hq9:=Lib.hid q9
        clear q9
        go_wp2_with fail
        obtain rfl:m=m':=by have h:=q4;simp at h;omega
        go_loopw [5] (fun i wr=>∃j:Nat,j≤m∧i = .int .i64 j∧Below w.heap.size w wr∧wr.cell? ⟨w.heap.size,8,none⟩=some (.slice c m q)∧wr.cell? ⟨w.heap.size+1,8,none⟩=some (.slice c' m q')∧Hid (r3=bZ Tm.alike (ts.drop j) (ts'.drop j))) (fun i _=>m-(intOf i).toNat)
        case atStart=>exact⟨0,by omega,rfl,hB,c0_8,c1_8,HR3.out.symm⟩
        case round=>
         obtain⟨j,hj,rfl,hB,x0,x1,hR0⟩:=hrel
         have lx1:=World.block_lt_of_cell? _ _ x0
         have lx2:=World.block_lt_of_cell? _ _ x1
         by_cases hlt:j<m
         ·have hjt:j<ts.length:=by have:=HN.out;omega
          obtain⟨b,off,k0,nm0,u0,tk0,ta0,tn0,tq0,fk0,fa0,fn0,fq0,l0,a0,m0,q0,rfl,lb,e0,e1,e2,e3,e4,e5,e6,e7,e8,ht⟩:=hks.at hB hjt
          have hjt2:j<ts'.length:=by have:=HL.out;omega
          obtain⟨b',off',k0',nm0',u0',tk0',ta0',tn0',tq0',fk0',fa0',fn0',fq0',l0',a0',m0',q0',rfl,lb',e0',e1',e2',e3',e4',e5',e6',e7',e8',hu⟩:=hks'.at hB hjt2
          have hcall:=IHH.out ts[j] (List.getElem_mem hjt) ts'[j] (List.getElem_mem hjt2) (Tm.shapes_mem HSH1.out (List.getElem_mem hjt)) (Tm.shapes_mem HSH2.out (List.getElem_mem hjt2))
          have hstep:=hR0.out.trans (da Tm.alike ts ts' j hjt hjt2)
          generalize ts[j].alike ts'[j]=r at hcall hstep
          have HC:=Lib.hid hcall
          have HS:=Lib.hid hstep
          clear hcall hstep hR0
          go_wp2_with fail
          have hS0:=Lib.hid (show(World.drew wr).cell? ⟨w.heap.size,8,none⟩=some (.slice (some ⟨b,off,none⟩) m q)∧(World.drew wr).cell? ⟨b,off+j*9,none⟩=some (.int .i64 k0)∧(World.drew wr).cell? ⟨b,off+j*9+1,none⟩=some (.string nm0)∧(World.drew wr).cell? ⟨b,off+j*9+2,none⟩=some (.int .i64 u0)∧(World.drew wr).cell? ⟨b,off+j*9+3,none⟩=some (.int .i64 tk0)∧(World.drew wr).cell? ⟨b,off+j*9+4,none⟩=some (.slice ta0 tn0 tq0)∧(World.drew wr).cell? ⟨b,off+j*9+5,none⟩=some (.int .i64 fk0)∧(World.drew wr).cell? ⟨b,off+j*9+6,none⟩=some (.slice fa0 fn0 fq0)∧(World.drew wr).cell? ⟨b,off+j*9+7,none⟩=some (.int .i64 l0)∧(World.drew wr).cell? ⟨b,off+j*9+8,none⟩=some (.slice a0 m0 q0)∧(World.drew wr).cell? ⟨w.heap.size+1,8,none⟩=some (.slice (some ⟨b',off',none⟩) m q')∧(World.drew wr).cell? ⟨b',off'+j*9,none⟩=some (.int .i64 k0')∧(World.drew wr).cell? ⟨b',off'+j*9+1,none⟩=some (.string nm0')∧(World.drew wr).cell? ⟨b',off'+j*9+2,none⟩=some (.int .i64 u0')∧(World.drew wr).cell? ⟨b',off'+j*9+3,none⟩=some (.int .i64 tk0')∧(World.drew wr).cell? ⟨b',off'+j*9+4,none⟩=some (.slice ta0' tn0' tq0')∧(World.drew wr).cell? ⟨b',off'+j*9+5,none⟩=some (.int .i64 fk0')∧(World.drew wr).cell? ⟨b',off'+j*9+6,none⟩=some (.slice fa0' fn0' fq0')∧(World.drew wr).cell? ⟨b',off'+j*9+7,none⟩=some (.int .i64 l0')∧(World.drew wr).cell? ⟨b',off'+j*9+8,none⟩=some (.slice a0' m0' q0') from⟨ay (x0),ay (e0),ay (e1),ay (e2),ay (e3),ay (e4),ay (e5),ay (e6),ay (e7),ay (e8),ay (x1),ay (e0'),ay (e1'),ay (e2'),ay (e3'),ay (e4'),ay (e5'),ay (e6'),ay (e7'),ay (e8')⟩)
          have hSb:=Lib.hid (show ∀X Y:World,Below X.heap.size X Y→(X.cell? ⟨w.heap.size,8,none⟩=some (.slice (some ⟨b,off,none⟩) m q)∧X.cell? ⟨b,off+j*9,none⟩=some (.int .i64 k0)∧X.cell? ⟨b,off+j*9+1,none⟩=some (.string nm0)∧X.cell? ⟨b,off+j*9+2,none⟩=some (.int .i64 u0)∧X.cell? ⟨b,off+j*9+3,none⟩=some (.int .i64 tk0)∧X.cell? ⟨b,off+j*9+4,none⟩=some (.slice ta0 tn0 tq0)∧X.cell? ⟨b,off+j*9+5,none⟩=some (.int .i64 fk0)∧X.cell? ⟨b,off+j*9+6,none⟩=some (.slice fa0 fn0 fq0)∧X.cell? ⟨b,off+j*9+7,none⟩=some (.int .i64 l0)∧X.cell? ⟨b,off+j*9+8,none⟩=some (.slice a0 m0 q0)∧X.cell? ⟨w.heap.size+1,8,none⟩=some (.slice (some ⟨b',off',none⟩) m q')∧X.cell? ⟨b',off'+j*9,none⟩=some (.int .i64 k0')∧X.cell? ⟨b',off'+j*9+1,none⟩=some (.string nm0')∧X.cell? ⟨b',off'+j*9+2,none⟩=some (.int .i64 u0')∧X.cell? ⟨b',off'+j*9+3,none⟩=some (.int .i64 tk0')∧X.cell? ⟨b',off'+j*9+4,none⟩=some (.slice ta0' tn0' tq0')∧X.cell? ⟨b',off'+j*9+5,none⟩=some (.int .i64 fk0')∧X.cell? ⟨b',off'+j*9+6,none⟩=some (.slice fa0' fn0' fq0')∧X.cell? ⟨b',off'+j*9+7,none⟩=some (.int .i64 l0')∧X.cell? ⟨b',off'+j*9+8,none⟩=some (.slice a0' m0' q0'))→(Y.cell? ⟨w.heap.size,8,none⟩=some (.slice (some ⟨b,off,none⟩) m q)∧Y.cell? ⟨b,off+j*9,none⟩=some (.int .i64 k0)∧Y.cell? ⟨b,off+j*9+1,none⟩=some (.string nm0)∧Y.cell? ⟨b,off+j*9+2,none⟩=some (.int .i64 u0)∧Y.cell? ⟨b,off+j*9+3,none⟩=some (.int .i64 tk0)∧Y.cell? ⟨b,off+j*9+4,none⟩=some (.slice ta0 tn0 tq0)∧Y.cell? ⟨b,off+j*9+5,none⟩=some (.int .i64 fk0)∧Y.cell? ⟨b,off+j*9+6,none⟩=some (.slice fa0 fn0 fq0)∧Y.cell? ⟨b,off+j*9+7,none⟩=some (.int .i64 l0)∧Y.cell? ⟨b,off+j*9+8,none⟩=some (.slice a0 m0 q0)∧Y.cell? ⟨w.heap.size+1,8,none⟩=some (.slice (some ⟨b',off',none⟩) m q')∧Y.cell? ⟨b',off'+j*9,none⟩=some (.int .i64 k0')∧Y.cell? ⟨b',off'+j*9+1,none⟩=some (.string nm0')∧Y.cell? ⟨b',off'+j*9+2,none⟩=some (.int .i64 u0')∧Y.cell? ⟨b',off'+j*9+3,none⟩=some (.int .i64 tk0')∧Y.cell? ⟨b',off'+j*9+4,none⟩=some (.slice ta0' tn0' tq0')∧Y.cell? ⟨b',off'+j*9+5,none⟩=some (.int .i64 fk0')∧Y.cell? ⟨b',off'+j*9+6,none⟩=some (.slice fa0' fn0' fq0')∧Y.cell? ⟨b',off'+j*9+7,none⟩=some (.int .i64 l0')∧Y.cell? ⟨b',off'+j*9+8,none⟩=some (.slice a0' m0' q0')) from fun X Y h s=>⟨a9 h s.1,a9 h s.2.1,a9 h s.2.2.1,a9 h s.2.2.2.1,a9 h s.2.2.2.2.1,a9 h s.2.2.2.2.2.1,a9 h s.2.2.2.2.2.2.1,a9 h s.2.2.2.2.2.2.2.1,a9 h s.2.2.2.2.2.2.2.2.1,a9 h s.2.2.2.2.2.2.2.2.2.1,a9 h s.2.2.2.2.2.2.2.2.2.2.1,a9 h s.2.2.2.2.2.2.2.2.2.2.2.1,a9 h s.2.2.2.2.2.2.2.2.2.2.2.2.1,a9 h s.2.2.2.2.2.2.2.2.2.2.2.2.2.1,a9 h s.2.2.2.2.2.2.2.2.2.2.2.2.2.2.1,a9 h s.2.2.2.2.2.2.2.2.2.2.2.2.2.2.2.1,a9 h s.2.2.2.2.2.2.2.2.2.2.2.2.2.2.2.2.1,a9 h s.2.2.2.2.2.2.2.2.2.2.2.2.2.2.2.2.2.1,a9 h s.2.2.2.2.2.2.2.2.2.2.2.2.2.2.2.2.2.2.1,a9 h s.2.2.2.2.2.2.2.2.2.2.2.2.2.2.2.2.2.2.2⟩)
          go_region_held3 (fun w'=>w'.cell? ⟨w.heap.size,8,none⟩=some (.slice (some ⟨b,off,none⟩) m q)∧w'.cell? ⟨b,off+j*9,none⟩=some (.int .i64 k0)∧w'.cell? ⟨b,off+j*9+1,none⟩=some (.string nm0)∧w'.cell? ⟨b,off+j*9+2,none⟩=some (.int .i64 u0)∧w'.cell? ⟨b,off+j*9+3,none⟩=some (.int .i64 tk0)∧w'.cell? ⟨b,off+j*9+4,none⟩=some (.slice ta0 tn0 tq0)∧w'.cell? ⟨b,off+j*9+5,none⟩=some (.int .i64 fk0)∧w'.cell? ⟨b,off+j*9+6,none⟩=some (.slice fa0 fn0 fq0)∧w'.cell? ⟨b,off+j*9+7,none⟩=some (.int .i64 l0)∧w'.cell? ⟨b,off+j*9+8,none⟩=some (.slice a0 m0 q0)∧w'.cell? ⟨w.heap.size+1,8,none⟩=some (.slice (some ⟨b',off',none⟩) m q')∧w'.cell? ⟨b',off'+j*9,none⟩=some (.int .i64 k0')∧w'.cell? ⟨b',off'+j*9+1,none⟩=some (.string nm0')∧w'.cell? ⟨b',off'+j*9+2,none⟩=some (.int .i64 u0')∧w'.cell? ⟨b',off'+j*9+3,none⟩=some (.int .i64 tk0')∧w'.cell? ⟨b',off'+j*9+4,none⟩=some (.slice ta0' tn0' tq0')∧w'.cell? ⟨b',off'+j*9+5,none⟩=some (.int .i64 fk0')∧w'.cell? ⟨b',off'+j*9+6,none⟩=some (.slice fa0' fn0' fq0')∧w'.cell? ⟨b',off'+j*9+7,none⟩=some (.int .i64 l0')∧w'.cell? ⟨b',off'+j*9+8,none⟩=some (.slice a0' m0' q0'))
           (repeat (first | with_reducible refine hSb.out _ _ hb4 ?_ | with_reducible exact hS0.out))
           (first | (go_at_call 16;((with_reducible refine(HC.out _ _ _ (ht.below bdr) (hu.below bdr)).mono ?_);rintro e w4 ⟨rfl,hb4⟩)))
          replace hB:=(ai hB.drew hb4)
          have zw4:=hB.size
          replace x0:w4.cell? ⟨w.heap.size,8,none⟩=some (.slice (some ⟨b,off,none⟩) m q):=a9 hb4 (ay (x0))
          replace x1:w4.cell? ⟨w.heap.size+1,8,none⟩=some (.slice (some ⟨b',off',none⟩) m q'):=a9 hb4 (ay (x1))
          have d0_w4:=World.block_lt_of_cell? _ _ x0
          have d1_w4:=World.block_lt_of_cell? _ _ x1
          rcases Bool.eq_false_or_eq_true (r) with q10 | q10
          ·(try rw [q10])
           have Hq10:=Lib.hid q10
           clear q10
           have hwr:=IntWalk.i64_in ((j:Int)+1) (by omega)
           go_wp2_with fail
           go_roundw
           case rel=>exact⟨j+1,by omega,by go_num,hB,x0,x1,(by rw [Hid,HS.out,Hq10.out];rfl)⟩
           case measure=>simp [intOf];omega
          ·(try rw [q10])
           have Hq10:=Lib.hid q10
           clear q10
           go_wp2_with fail
           refine bodyPost_ret (v:=.bool (false)) (by simp [results,Try.results16,go_sem,bne]) rfl ?_
           exact⟨au ((kP k u k' u' nm nm' r1 r3 m m q1 q2 q3 q4 q5 q8 Hq9.out (by rw [HS.out,Hq10.out];rfl)).trans HT.out),hB⟩
         ·skip
          have HRK:Hid (r3=true):=Lib.hid (by rw [hR0.out,dh _ _ _ _ (by have:=HN.out;omega) (by have:=HL.out;omega)])
          go_wp2_with fail
          refine bodyPost_ret (v:=.bool (true)) (by simp [results,Try.results16,go_sem,bne]) rfl ?_
          exact⟨au ((kD k u k' u' nm nm' r1 r3 m m q1 q2 q3 q4 q5 q8 Hq9.out HRK.out).trans HT.out),hB⟩
       ·(try rw [q9])
        have Hq9:=Lib.hid q9
        clear q9
        go_wp2_with fail
        refine bodyPost_ret (v:=.bool (false)) (by simp [results,Try.results16,go_sem,bne]) rfl ?_
        exact⟨au ((kG k u k' u' nm nm' r1 r3 m m' q1 q2 q3 q4 q5 q8 Hq9.out).trans HT.out),hB⟩
      ·skip
       have nq8:(k != 13)=true:=by simp only [bne,q8];rfl
       go_wp2_with fail
       obtain rfl:m=m':=by have h:=q4;simp at h;omega
       go_loopw [5] (fun i wr=>∃j:Nat,j≤m∧i = .int .i64 j∧Below w.heap.size w wr∧wr.cell? ⟨w.heap.size,8,none⟩=some (.slice c m q)∧wr.cell? ⟨w.heap.size+1,8,none⟩=some (.slice c' m q')∧Hid (r3=bZ Tm.alike (ts.drop j) (ts'.drop j))) (fun i _=>m-(intOf i).toNat)
       case atStart=>exact⟨0,by omega,rfl,aI,a9 ah (aj (by simp) 8),aj (by simp) 8,HR3.out.symm⟩
       case round=>
        obtain⟨j,hj,rfl,hB,x0,x1,hR0⟩:=hrel
        have lx1:=World.block_lt_of_cell? _ _ x0
        have lx2:=World.block_lt_of_cell? _ _ x1
        by_cases hlt:j<m
        ·have hjt:j<ts.length:=by have:=HN.out;omega
         obtain⟨b,off,k0,nm0,u0,tk0,ta0,tn0,tq0,fk0,fa0,fn0,fq0,l0,a0,m0,q0,rfl,lb,e0,e1,e2,e3,e4,e5,e6,e7,e8,ht⟩:=hks.at hB hjt
         have hjt2:j<ts'.length:=by have:=HL.out;omega
         obtain⟨b',off',k0',nm0',u0',tk0',ta0',tn0',tq0',fk0',fa0',fn0',fq0',l0',a0',m0',q0',rfl,lb',e0',e1',e2',e3',e4',e5',e6',e7',e8',hu⟩:=hks'.at hB hjt2
         have hcall:=IHH.out ts[j] (List.getElem_mem hjt) ts'[j] (List.getElem_mem hjt2) (Tm.shapes_mem HSH1.out (List.getElem_mem hjt)) (Tm.shapes_mem HSH2.out (List.getElem_mem hjt2))
         have hstep:=hR0.out.trans (da Tm.alike ts ts' j hjt hjt2)
         generalize ts[j].alike ts'[j]=r at hcall hstep
         have HC:=Lib.hid hcall
         have HS:=Lib.hid hstep
         clear hcall hstep hR0
         go_wp2_with fail
         have hS0:=Lib.hid (show(World.drew wr).cell? ⟨w.heap.size,8,none⟩=some (.slice (some ⟨b,off,none⟩) m q)∧(World.drew wr).cell? ⟨b,off+j*9,none⟩=some (.int .i64 k0)∧(World.drew wr).cell? ⟨b,off+j*9+1,none⟩=some (.string nm0)∧(World.drew wr).cell? ⟨b,off+j*9+2,none⟩=some (.int .i64 u0)∧(World.drew wr).cell? ⟨b,off+j*9+3,none⟩=some (.int .i64 tk0)∧(World.drew wr).cell? ⟨b,off+j*9+4,none⟩=some (.slice ta0 tn0 tq0)∧(World.drew wr).cell? ⟨b,off+j*9+5,none⟩=some (.int .i64 fk0)∧(World.drew wr).cell? ⟨b,off+j*9+6,none⟩=some (.slice fa0 fn0 fq0)∧(World.drew wr).cell? ⟨b,off+j*9+7,none⟩=some (.int .i64 l0)∧(World.drew wr).cell? ⟨b,off+j*9+8,none⟩=some (.slice a0 m0 q0)∧(World.drew wr).cell? ⟨w.heap.size+1,8,none⟩=some (.slice (some ⟨b',off',none⟩) m q')∧(World.drew wr).cell? ⟨b',off'+j*9,none⟩=some (.int .i64 k0')∧(World.drew wr).cell? ⟨b',off'+j*9+1,none⟩=some (.string nm0')∧(World.drew wr).cell? ⟨b',off'+j*9+2,none⟩=some (.int .i64 u0')∧(World.drew wr).cell? ⟨b',off'+j*9+3,none⟩=some (.int .i64 tk0')∧(World.drew wr).cell? ⟨b',off'+j*9+4,none⟩=some (.slice ta0' tn0' tq0')∧(World.drew wr).cell? ⟨b',off'+j*9+5,none⟩=some (.int .i64 fk0')∧(World.drew wr).cell? ⟨b',off'+j*9+6,none⟩=some (.slice fa0' fn0' fq0')∧(World.drew wr).cell? ⟨b',off'+j*9+7,none⟩=some (.int .i64 l0')∧(World.drew wr).cell? ⟨b',off'+j*9+8,none⟩=some (.slice a0' m0' q0') from⟨ay (x0),ay (e0),ay (e1),ay (e2),ay (e3),ay (e4),ay (e5),ay (e6),ay (e7),ay (e8),ay (x1),ay (e0'),ay (e1'),ay (e2'),ay (e3'),ay (e4'),ay (e5'),ay (e6'),ay (e7'),ay (e8')⟩)
         have hSb:=Lib.hid (show ∀X Y:World,Below X.heap.size X Y→(X.cell? ⟨w.heap.size,8,none⟩=some (.slice (some ⟨b,off,none⟩) m q)∧X.cell? ⟨b,off+j*9,none⟩=some (.int .i64 k0)∧X.cell? ⟨b,off+j*9+1,none⟩=some (.string nm0)∧X.cell? ⟨b,off+j*9+2,none⟩=some (.int .i64 u0)∧X.cell? ⟨b,off+j*9+3,none⟩=some (.int .i64 tk0)∧X.cell? ⟨b,off+j*9+4,none⟩=some (.slice ta0 tn0 tq0)∧X.cell? ⟨b,off+j*9+5,none⟩=some (.int .i64 fk0)∧X.cell? ⟨b,off+j*9+6,none⟩=some (.slice fa0 fn0 fq0)∧X.cell? ⟨b,off+j*9+7,none⟩=some (.int .i64 l0)∧X.cell? ⟨b,off+j*9+8,none⟩=some (.slice a0 m0 q0)∧X.cell? ⟨w.heap.size+1,8,none⟩=some (.slice (some ⟨b',off',none⟩) m q')∧X.cell? ⟨b',off'+j*9,none⟩=some (.int .i64 k0')∧X.cell? ⟨b',off'+j*9+1,none⟩=some (.string nm0')∧X.cell? ⟨b',off'+j*9+2,none⟩=some (.int .i64 u0')∧X.cell? ⟨b',off'+j*9+3,none⟩=some (.int .i64 tk0')∧X.cell? ⟨b',off'+j*9+4,none⟩=some (.slice ta0' tn0' tq0')∧X.cell? ⟨b',off'+j*9+5,none⟩=some (.int .i64 fk0')∧X.cell? ⟨b',off'+j*9+6,none⟩=some (.slice fa0' fn0' fq0')∧X.cell? ⟨b',off'+j*9+7,none⟩=some (.int .i64 l0')∧X.cell? ⟨b',off'+j*9+8,none⟩=some (.slice a0' m0' q0'))→(Y.cell? ⟨w.heap.size,8,none⟩=some (.slice (some ⟨b,off,none⟩) m q)∧Y.cell? ⟨b,off+j*9,none⟩=some (.int .i64 k0)∧Y.cell? ⟨b,off+j*9+1,none⟩=some (.string nm0)∧Y.cell? ⟨b,off+j*9+2,none⟩=some (.int .i64 u0)∧Y.cell? ⟨b,off+j*9+3,none⟩=some (.int .i64 tk0)∧Y.cell? ⟨b,off+j*9+4,none⟩=some (.slice ta0 tn0 tq0)∧Y.cell? ⟨b,off+j*9+5,none⟩=some (.int .i64 fk0)∧Y.cell? ⟨b,off+j*9+6,none⟩=some (.slice fa0 fn0 fq0)∧Y.cell? ⟨b,off+j*9+7,none⟩=some (.int .i64 l0)∧Y.cell? ⟨b,off+j*9+8,none⟩=some (.slice a0 m0 q0)∧Y.cell? ⟨w.heap.size+1,8,none⟩=some (.slice (some ⟨b',off',none⟩) m q')∧Y.cell? ⟨b',off'+j*9,none⟩=some (.int .i64 k0')∧Y.cell? ⟨b',off'+j*9+1,none⟩=some (.string nm0')∧Y.cell? ⟨b',off'+j*9+2,none⟩=some (.int .i64 u0')∧Y.cell? ⟨b',off'+j*9+3,none⟩=some (.int .i64 tk0')∧Y.cell? ⟨b',off'+j*9+4,none⟩=some (.slice ta0' tn0' tq0')∧Y.cell? ⟨b',off'+j*9+5,none⟩=some (.int .i64 fk0')∧Y.cell? ⟨b',off'+j*9+6,none⟩=some (.slice fa0' fn0' fq0')∧Y.cell? ⟨b',off'+j*9+7,none⟩=some (.int .i64 l0')∧Y.cell? ⟨b',off'+j*9+8,none⟩=some (.slice a0' m0' q0')) from fun X Y h s=>⟨a9 h s.1,a9 h s.2.1,a9 h s.2.2.1,a9 h s.2.2.2.1,a9 h s.2.2.2.2.1,a9 h s.2.2.2.2.2.1,a9 h s.2.2.2.2.2.2.1,a9 h s.2.2.2.2.2.2.2.1,a9 h s.2.2.2.2.2.2.2.2.1,a9 h s.2.2.2.2.2.2.2.2.2.1,a9 h s.2.2.2.2.2.2.2.2.2.2.1,a9 h s.2.2.2.2.2.2.2.2.2.2.2.1,a9 h s.2.2.2.2.2.2.2.2.2.2.2.2.1,a9 h s.2.2.2.2.2.2.2.2.2.2.2.2.2.1,a9 h s.2.2.2.2.2.2.2.2.2.2.2.2.2.2.1,a9 h s.2.2.2.2.2.2.2.2.2.2.2.2.2.2.2.1,a9 h s.2.2.2.2.2.2.2.2.2.2.2.2.2.2.2.2.1,a9 h s.2.2.2.2.2.2.2.2.2.2.2.2.2.2.2.2.2.1,a9 h s.2.2.2.2.2.2.2.2.2.2.2.2.2.2.2.2.2.2.1,a9 h s.2.2.2.2.2.2.2.2.2.2.2.2.2.2.2.2.2.2.2⟩)
         go_region_held3 (fun w'=>w'.cell? ⟨w.heap.size,8,none⟩=some (.slice (some ⟨b,off,none⟩) m q)∧w'.cell? ⟨b,off+j*9,none⟩=some (.int .i64 k0)∧w'.cell? ⟨b,off+j*9+1,none⟩=some (.string nm0)∧w'.cell? ⟨b,off+j*9+2,none⟩=some (.int .i64 u0)∧w'.cell? ⟨b,off+j*9+3,none⟩=some (.int .i64 tk0)∧w'.cell? ⟨b,off+j*9+4,none⟩=some (.slice ta0 tn0 tq0)∧w'.cell? ⟨b,off+j*9+5,none⟩=some (.int .i64 fk0)∧w'.cell? ⟨b,off+j*9+6,none⟩=some (.slice fa0 fn0 fq0)∧w'.cell? ⟨b,off+j*9+7,none⟩=some (.int .i64 l0)∧w'.cell? ⟨b,off+j*9+8,none⟩=some (.slice a0 m0 q0)∧w'.cell? ⟨w.heap.size+1,8,none⟩=some (.slice (some ⟨b',off',none⟩) m q')∧w'.cell? ⟨b',off'+j*9,none⟩=some (.int .i64 k0')∧w'.cell? ⟨b',off'+j*9+1,none⟩=some (.string nm0')∧w'.cell? ⟨b',off'+j*9+2,none⟩=some (.int .i64 u0')∧w'.cell? ⟨b',off'+j*9+3,none⟩=some (.int .i64 tk0')∧w'.cell? ⟨b',off'+j*9+4,none⟩=some (.slice ta0' tn0' tq0')∧w'.cell? ⟨b',off'+j*9+5,none⟩=some (.int .i64 fk0')∧w'.cell? ⟨b',off'+j*9+6,none⟩=some (.slice fa0' fn0' fq0')∧w'.cell? ⟨b',off'+j*9+7,none⟩=some (.int .i64 l0')∧w'.cell? ⟨b',off'+j*9+8,none⟩=some (.slice a0' m0' q0'))
          (repeat (first | with_reducible refine hSb.out _ _ hb5 ?_ | with_reducible exact hS0.out))
          (first | (go_at_call 16;((with_reducible refine(HC.out _ _ _ (ht.below bdr) (hu.below bdr)).mono ?_);rintro e w5 ⟨rfl,hb5⟩)))
         replace hB:=(ai hB.drew hb5)
         have zw5:=hB.size
         replace x0:w5.cell? ⟨w.heap.size,8,none⟩=some (.slice (some ⟨b,off,none⟩) m q):=a9 hb5 (ay (x0))
         replace x1:w5.cell? ⟨w.heap.size+1,8,none⟩=some (.slice (some ⟨b',off',none⟩) m q'):=a9 hb5 (ay (x1))
         have d0_w5:=World.block_lt_of_cell? _ _ x0
         have d1_w5:=World.block_lt_of_cell? _ _ x1
         rcases Bool.eq_false_or_eq_true (r) with q11 | q11
         ·(try rw [q11])
          have Hq11:=Lib.hid q11
          clear q11
          have hwr:=IntWalk.i64_in ((j:Int)+1) (by omega)
          go_wp2_with fail
          go_roundw
          case rel=>exact⟨j+1,by omega,by go_num,hB,x0,x1,(by rw [Hid,HS.out,Hq11.out];rfl)⟩
          case measure=>simp [intOf];omega
         ·(try rw [q11])
          have Hq11:=Lib.hid q11
          clear q11
          go_wp2_with fail
          refine bodyPost_ret (v:=.bool (false)) (by simp [results,Try.results16,go_sem,bne]) rfl ?_
          exact⟨au ((kT k u k' u' nm nm' r1 r3 m m q1 q2 q3 q4 q5 q8 (by rw [HS.out,Hq11.out];rfl)).trans HT.out),hB⟩
        ·skip
         have HRK:Hid (r3=true):=Lib.hid (by rw [hR0.out,dh _ _ _ _ (by have:=HN.out;omega) (by have:=HL.out;omega)])
         go_wp2_with fail
         refine bodyPost_ret (v:=.bool (true)) (by simp [results,Try.results16,go_sem,bne]) rfl ?_
         exact⟨au ((l4 k u k' u' nm nm' r1 r3 m m q1 q2 q3 q4 q5 q8 HRK.out).trans HT.out),hB⟩
    ·(try rw [q4])
     have nq4:((m:Int) != (m':Int))=true:=by simp only [bne,q4];rfl
     go_wp2_with fail
     refine bodyPost_ret (v:=.bool (false)) (by simp [results,Try.results16,go_sem,bne]) rfl ?_
     exact⟨au ((kH k u k' u' nm nm' r1 r3 m m' q1 q2 q3 q4 (by rw [←HR3.out];exact dA _ _ _ (by have h:=q4;have:=HN.out;have:=HL.out;simp at h;omega))).trans HT.out),aI⟩
   ·skip
    have nq3:(u != u')=true:=by simp only [bne,q3];rfl
    go_wp2_with fail
    refine bodyPost_ret (v:=.bool (false)) (by simp [results,Try.results16,go_sem,bne]) rfl ?_
    exact⟨au ((kX k u k' u' nm nm' r1 r3 m m' q1 q2 q3).trans HT.out),aI⟩
  ·skip
   have nq2:(nm.toList != nm'.toList)=true:=by simp only [bne,q2];rfl
   go_wp2_with fail
   refine bodyPost_ret (v:=.bool (false)) (by simp [results,Try.results16,go_sem,bne]) rfl ?_
   exact⟨au ((kW k u k' u' nm nm' r1 r3 m m' q1 q2).trans HT.out),aI⟩
 ·skip
  have nq1:(k != k')=true:=by simp only [bne,q1];rfl
  go_wp2_with fail
  refine bodyPost_ret (v:=.bool (false)) (by simp [results,Try.results16,go_sem,bne]) rfl ?_
  exact⟨au ((kL k u k' u' nm nm' r1 r3 m m' q1).trans HT.out),aI⟩
termination_by SizeOf.sizeOf t
decreasing_by exact Tm.kid_lt ht
set_option maxHeartbeats 1000000 in
theorem dy (F G:Nat→Prop)(t v:Tm)(y z:Value)(w:World)(hy:az F w t y)(hz:az G w v z) :
  Calls Try.prog 6 #[y,z] w fun e w'=>e = .returned (.bool (t.precB v))∧Below w.heap.size w w':=by
 have h1:=fun W (h:Below w.heap.size w W)=>ce F t y W (hy.below h)
 have h2:=fun W (h:Below w.heap.size w W)=>ce G v z W (hz.below h)
 have h3:=fun(a:t.valid=true) (b:v.valid=true) W (h:Below w.heap.size w W)=>et F G t v 12 (Tm.valid_shape a) (Tm.valid_shape b) y z W (hy.below h) (hz.below h)
 obtain⟨k,nm,u,tk,ta,tn,tq,fk,fa,fn,fq,l,c,m,q,rfl⟩:=hy.shape
 obtain⟨k',nm',u',tk',ta',tn',tq',fk',fa',fn',fq',l',c',m',q',rfl⟩:=hz.shape
 unfold Tm.precB
 generalize t.alike v=r at *
 generalize t.valid=vv at *
 generalize v.valid=v' at *
 have H1:=Lib.hid h1
 have H2:=Lib.hid h2
 have H3:=Lib.hid h3
 clear h1 h2 h3 hy hz
 obtain⟨rr,hrr⟩ : ∃rr0:Bool,(vv&&v'&&r)=rr0:=⟨_,rfl⟩
 rw [hrr]
 have HT:=Lib.hid hrr
 clear hrr
 go_enter Try.func6,Try.ntmps6
 rcases Bool.eq_false_or_eq_true (vv) with q1 | q1
 ·have Hq1:=Lib.hid q1
  clear q1
  rcases Bool.eq_false_or_eq_true (v') with q2 | q2
  ·have Hq2:=Lib.hid q2
   clear q2
   go_wp2_with fail
   refine(H1.out _ aI).mono ?_
   rintro e w1 ⟨rfl,hb1⟩
   rw [Hq1.out]
   have hB:=(ai aI hb1)
   have zw1:=hB.size
   have c1_0:w1.cell? ⟨w.heap.size+1,0,none⟩=some (.int .i64 k'):=a9 hb1 (aj (by simp) 0)
   have c1_1:w1.cell? ⟨w.heap.size+1,1,none⟩=some (.string nm'):=a9 hb1 (aj (by simp) 1)
   have c1_2:w1.cell? ⟨w.heap.size+1,2,none⟩=some (.int .i64 u'):=a9 hb1 (aj (by simp) 2)
   have c1_3:w1.cell? ⟨w.heap.size+1,3,none⟩=some (.int .i64 tk'):=a9 hb1 (aj (by simp) 3)
   have c1_4:w1.cell? ⟨w.heap.size+1,4,none⟩=some (.slice ta' tn' tq'):=a9 hb1 (aj (by simp) 4)
   have c1_5:w1.cell? ⟨w.heap.size+1,5,none⟩=some (.int .i64 fk'):=a9 hb1 (aj (by simp) 5)
   have c1_6:w1.cell? ⟨w.heap.size+1,6,none⟩=some (.slice fa' fn' fq'):=a9 hb1 (aj (by simp) 6)
   have c1_7:w1.cell? ⟨w.heap.size+1,7,none⟩=some (.int .i64 l'):=a9 hb1 (aj (by simp) 7)
   have c1_8:w1.cell? ⟨w.heap.size+1,8,none⟩=some (.slice c' m' q'):=a9 hb1 (aj (by simp) 8)
   have c0_0:w1.cell? ⟨w.heap.size,0,none⟩=some (.int .i64 k):=a9 hb1 (a9 ah (aj (by simp) 0))
   have c0_1:w1.cell? ⟨w.heap.size,1,none⟩=some (.string nm):=a9 hb1 (a9 ah (aj (by simp) 1))
   have c0_2:w1.cell? ⟨w.heap.size,2,none⟩=some (.int .i64 u):=a9 hb1 (a9 ah (aj (by simp) 2))
   have c0_3:w1.cell? ⟨w.heap.size,3,none⟩=some (.int .i64 tk):=a9 hb1 (a9 ah (aj (by simp) 3))
   have c0_4:w1.cell? ⟨w.heap.size,4,none⟩=some (.slice ta tn tq):=a9 hb1 (a9 ah (aj (by simp) 4))
   have c0_5:w1.cell? ⟨w.heap.size,5,none⟩=some (.int .i64 fk):=a9 hb1 (a9 ah (aj (by simp) 5))
   have c0_6:w1.cell? ⟨w.heap.size,6,none⟩=some (.slice fa fn fq):=a9 hb1 (a9 ah (aj (by simp) 6))
   have c0_7:w1.cell? ⟨w.heap.size,7,none⟩=some (.int .i64 l):=a9 hb1 (a9 ah (aj (by simp) 7))
   have c0_8:w1.cell? ⟨w.heap.size,8,none⟩=some (.slice c m q):=a9 hb1 (a9 ah (aj (by simp) 8))
   have d1_w1:=World.block_lt_of_cell? _ _ c1_0
   have d0_w1:=World.block_lt_of_cell? _ _ c0_0
   go_wp2_with fail
   refine(H2.out _ hB).mono ?_
   rintro e w2 ⟨rfl,hb2⟩
   rw [Hq2.out]
   replace hB:=(ai hB hb2)
   have zw2:=hB.size
   replace c0_0:w2.cell? ⟨w.heap.size,0,none⟩=some (.int .i64 k):=a9 hb2 (c0_0)
   replace c0_1:w2.cell? ⟨w.heap.size,1,none⟩=some (.string nm):=a9 hb2 (c0_1)
   replace c0_2:w2.cell? ⟨w.heap.size,2,none⟩=some (.int .i64 u):=a9 hb2 (c0_2)
   replace c0_3:w2.cell? ⟨w.heap.size,3,none⟩=some (.int .i64 tk):=a9 hb2 (c0_3)
   replace c0_4:w2.cell? ⟨w.heap.size,4,none⟩=some (.slice ta tn tq):=a9 hb2 (c0_4)
   replace c0_5:w2.cell? ⟨w.heap.size,5,none⟩=some (.int .i64 fk):=a9 hb2 (c0_5)
   replace c0_6:w2.cell? ⟨w.heap.size,6,none⟩=some (.slice fa fn fq):=a9 hb2 (c0_6)
   replace c0_7:w2.cell? ⟨w.heap.size,7,none⟩=some (.int .i64 l):=a9 hb2 (c0_7)
   replace c0_8:w2.cell? ⟨w.heap.size,8,none⟩=some (.slice c m q):=a9 hb2 (c0_8)
   replace c1_0:w2.cell? ⟨w.heap.size+1,0,none⟩=some (.int .i64 k'):=a9 hb2 (c1_0)
   replace c1_1:w2.cell? ⟨w.heap.size+1,1,none⟩=some (.string nm'):=a9 hb2 (c1_1)
   replace c1_2:w2.cell? ⟨w.heap.size+1,2,none⟩=some (.int .i64 u'):=a9 hb2 (c1_2)
   replace c1_3:w2.cell? ⟨w.heap.size+1,3,none⟩=some (.int .i64 tk'):=a9 hb2 (c1_3)
   replace c1_4:w2.cell? ⟨w.heap.size+1,4,none⟩=some (.slice ta' tn' tq'):=a9 hb2 (c1_4)
   replace c1_5:w2.cell? ⟨w.heap.size+1,5,none⟩=some (.int .i64 fk'):=a9 hb2 (c1_5)
   replace c1_6:w2.cell? ⟨w.heap.size+1,6,none⟩=some (.slice fa' fn' fq'):=a9 hb2 (c1_6)
   replace c1_7:w2.cell? ⟨w.heap.size+1,7,none⟩=some (.int .i64 l'):=a9 hb2 (c1_7)
   replace c1_8:w2.cell? ⟨w.heap.size+1,8,none⟩=some (.slice c' m' q'):=a9 hb2 (c1_8)
   have d0_w2:=World.block_lt_of_cell? _ _ c0_0
   have d1_w2:=World.block_lt_of_cell? _ _ c1_0
   go_wp2_with fail
   refine(H3.out Hq1.out Hq2.out _ hB).mono ?_
   rintro e w3 ⟨rfl,hb3⟩
   replace hB:=(ai hB hb3)
   have zw3:=hB.size
   go_wp2_with fail
   refine bodyPost_ret (v:=.bool (r)) (by simp [results,Try.results6,go_sem,bne]) rfl ?_
   exact⟨au ((hP vv v' r Hq1.out Hq2.out).trans HT.out),hB⟩
  ·have Hq2:=Lib.hid q2
   clear q2
   go_wp2_with fail
   refine(H1.out _ aI).mono ?_
   rintro e w4 ⟨rfl,hb4⟩
   rw [Hq1.out]
   have hB:=(ai aI hb4)
   have zw4:=hB.size
   have c1_0:w4.cell? ⟨w.heap.size+1,0,none⟩=some (.int .i64 k'):=a9 hb4 (aj (by simp) 0)
   have c1_1:w4.cell? ⟨w.heap.size+1,1,none⟩=some (.string nm'):=a9 hb4 (aj (by simp) 1)
   have c1_2:w4.cell? ⟨w.heap.size+1,2,none⟩=some (.int .i64 u'):=a9 hb4 (aj (by simp) 2)
   have c1_3:w4.cell? ⟨w.heap.size+1,3,none⟩=some (.int .i64 tk'):=a9 hb4 (aj (by simp) 3)
   have c1_4:w4.cell? ⟨w.heap.size+1,4,none⟩=some (.slice ta' tn' tq'):=a9 hb4 (aj (by simp) 4)
   have c1_5:w4.cell? ⟨w.heap.size+1,5,none⟩=some (.int .i64 fk'):=a9 hb4 (aj (by simp) 5)
   have c1_6:w4.cell? ⟨w.heap.size+1,6,none⟩=some (.slice fa' fn' fq'):=a9 hb4 (aj (by simp) 6)
   have c1_7:w4.cell? ⟨w.heap.size+1,7,none⟩=some (.int .i64 l'):=a9 hb4 (aj (by simp) 7)
   have c1_8:w4.cell? ⟨w.heap.size+1,8,none⟩=some (.slice c' m' q'):=a9 hb4 (aj (by simp) 8)
   have d1_w4:=World.block_lt_of_cell? _ _ c1_0
   go_wp2_with fail
   refine(H2.out _ hB).mono ?_
   rintro e w5 ⟨rfl,hb5⟩
   rw [Hq2.out]
   replace hB:=(ai hB hb5)
   have zw5:=hB.size
   go_wp2_with fail
   refine bodyPost_ret (v:=.bool (false)) (by simp [results,Try.results6,go_sem,bne]) rfl ?_
   exact⟨au ((hJ vv v' r Hq1.out Hq2.out).trans HT.out),hB⟩
 ·have Hq1:=Lib.hid q1
  clear q1
  go_wp2_with fail
  refine(H1.out _ aI).mono ?_
  rintro e w6 ⟨rfl,hb6⟩
  rw [Hq1.out]
  have hB:=(ai aI hb6)
  have zw6:=hB.size
  go_wp2_with fail
  refine bodyPost_ret (v:=.bool (false)) (by simp [results,Try.results6,go_sem,bne]) rfl ?_
  exact⟨au ((i3 vv v' r Hq1.out).trans HT.out),hB⟩
set_option maxHeartbeats 1000000 in
theorem cb (F G:Nat→Prop)(t v:Tm)(y z:Value)(w:World)(hy:az F w t y)(hz:az G w v z) :
  Calls Try.prog 5 #[y,z] w fun e w'=>e = .returned (.bool (t.precB v))∧Below w.heap.size w w':=by
 have h1:=fun W (h:Below w.heap.size w W)=>cO F t y W (hy.below h)
 have h2:=fun W (h:Below w.heap.size w W)=>cO G v z W (hz.below h)
 have h3:=fun(a:t.valid=true) (b:v.valid=true) W (h:Below w.heap.size w W)=>kx F G t v y z W (hy.below h) (hz.below h)
 obtain⟨k,nm,u,tk,ta,tn,tq,fk,fa,fn,fq,l,c,m,q,rfl⟩:=hy.shape
 obtain⟨k',nm',u',tk',ta',tn',tq',fk',fa',fn',fq',l',c',m',q',rfl⟩:=hz.shape
 unfold Tm.precB
 generalize t.alike v=r at *
 generalize t.valid=vv at *
 generalize v.valid=v' at *
 have H1:=Lib.hid h1
 have H2:=Lib.hid h2
 have H3:=Lib.hid h3
 clear h1 h2 h3 hy hz
 obtain⟨rr,hrr⟩ : ∃rr0:Bool,(vv&&v'&&r)=rr0:=⟨_,rfl⟩
 rw [hrr]
 have HT:=Lib.hid hrr
 clear hrr
 go_enter Try.func5,Try.ntmps5
 rcases Bool.eq_false_or_eq_true (vv) with q1 | q1
 ·have Hq1:=Lib.hid q1
  clear q1
  rcases Bool.eq_false_or_eq_true (v') with q2 | q2
  ·have Hq2:=Lib.hid q2
   clear q2
   go_wp2_with fail
   refine(H1.out _ aI).mono ?_
   rintro e w1 ⟨rfl,hb1⟩
   rw [Hq1.out]
   have hB:=(ai aI hb1)
   have zw1:=hB.size
   have c1_0:w1.cell? ⟨w.heap.size+1,0,none⟩=some (.int .i64 k'):=a9 hb1 (aj (by simp) 0)
   have c1_1:w1.cell? ⟨w.heap.size+1,1,none⟩=some (.string nm'):=a9 hb1 (aj (by simp) 1)
   have c1_2:w1.cell? ⟨w.heap.size+1,2,none⟩=some (.int .i64 u'):=a9 hb1 (aj (by simp) 2)
   have c1_3:w1.cell? ⟨w.heap.size+1,3,none⟩=some (.int .i64 tk'):=a9 hb1 (aj (by simp) 3)
   have c1_4:w1.cell? ⟨w.heap.size+1,4,none⟩=some (.slice ta' tn' tq'):=a9 hb1 (aj (by simp) 4)
   have c1_5:w1.cell? ⟨w.heap.size+1,5,none⟩=some (.int .i64 fk'):=a9 hb1 (aj (by simp) 5)
   have c1_6:w1.cell? ⟨w.heap.size+1,6,none⟩=some (.slice fa' fn' fq'):=a9 hb1 (aj (by simp) 6)
   have c1_7:w1.cell? ⟨w.heap.size+1,7,none⟩=some (.int .i64 l'):=a9 hb1 (aj (by simp) 7)
   have c1_8:w1.cell? ⟨w.heap.size+1,8,none⟩=some (.slice c' m' q'):=a9 hb1 (aj (by simp) 8)
   have c0_0:w1.cell? ⟨w.heap.size,0,none⟩=some (.int .i64 k):=a9 hb1 (a9 ah (aj (by simp) 0))
   have c0_1:w1.cell? ⟨w.heap.size,1,none⟩=some (.string nm):=a9 hb1 (a9 ah (aj (by simp) 1))
   have c0_2:w1.cell? ⟨w.heap.size,2,none⟩=some (.int .i64 u):=a9 hb1 (a9 ah (aj (by simp) 2))
   have c0_3:w1.cell? ⟨w.heap.size,3,none⟩=some (.int .i64 tk):=a9 hb1 (a9 ah (aj (by simp) 3))
   have c0_4:w1.cell? ⟨w.heap.size,4,none⟩=some (.slice ta tn tq):=a9 hb1 (a9 ah (aj (by simp) 4))
   have c0_5:w1.cell? ⟨w.heap.size,5,none⟩=some (.int .i64 fk):=a9 hb1 (a9 ah (aj (by simp) 5))
   have c0_6:w1.cell? ⟨w.heap.size,6,none⟩=some (.slice fa fn fq):=a9 hb1 (a9 ah (aj (by simp) 6))
   have c0_7:w1.cell? ⟨w.heap.size,7,none⟩=some (.int .i64 l):=a9 hb1 (a9 ah (aj (by simp) 7))
   have c0_8:w1.cell? ⟨w.heap.size,8,none⟩=some (.slice c m q):=a9 hb1 (a9 ah (aj (by simp) 8))
   have d1_w1:=World.block_lt_of_cell? _ _ c1_0
   have d0_w1:=World.block_lt_of_cell? _ _ c0_0
   go_wp2_with fail
   refine(H2.out _ hB).mono ?_
   rintro e w2 ⟨rfl,hb2⟩
   rw [Hq2.out]
   replace hB:=(ai hB hb2)
   have zw2:=hB.size
   replace c0_0:w2.cell? ⟨w.heap.size,0,none⟩=some (.int .i64 k):=a9 hb2 (c0_0)
   replace c0_1:w2.cell? ⟨w.heap.size,1,none⟩=some (.string nm):=a9 hb2 (c0_1)
   replace c0_2:w2.cell? ⟨w.heap.size,2,none⟩=some (.int .i64 u):=a9 hb2 (c0_2)
   replace c0_3:w2.cell? ⟨w.heap.size,3,none⟩=some (.int .i64 tk):=a9 hb2 (c0_3)
   replace c0_4:w2.cell? ⟨w.heap.size,4,none⟩=some (.slice ta tn tq):=a9 hb2 (c0_4)
   replace c0_5:w2.cell? ⟨w.heap.size,5,none⟩=some (.int .i64 fk):=a9 hb2 (c0_5)
   replace c0_6:w2.cell? ⟨w.heap.size,6,none⟩=some (.slice fa fn fq):=a9 hb2 (c0_6)
   replace c0_7:w2.cell? ⟨w.heap.size,7,none⟩=some (.int .i64 l):=a9 hb2 (c0_7)
   replace c0_8:w2.cell? ⟨w.heap.size,8,none⟩=some (.slice c m q):=a9 hb2 (c0_8)
   replace c1_0:w2.cell? ⟨w.heap.size+1,0,none⟩=some (.int .i64 k'):=a9 hb2 (c1_0)
   replace c1_1:w2.cell? ⟨w.heap.size+1,1,none⟩=some (.string nm'):=a9 hb2 (c1_1)
   replace c1_2:w2.cell? ⟨w.heap.size+1,2,none⟩=some (.int .i64 u'):=a9 hb2 (c1_2)
   replace c1_3:w2.cell? ⟨w.heap.size+1,3,none⟩=some (.int .i64 tk'):=a9 hb2 (c1_3)
   replace c1_4:w2.cell? ⟨w.heap.size+1,4,none⟩=some (.slice ta' tn' tq'):=a9 hb2 (c1_4)
   replace c1_5:w2.cell? ⟨w.heap.size+1,5,none⟩=some (.int .i64 fk'):=a9 hb2 (c1_5)
   replace c1_6:w2.cell? ⟨w.heap.size+1,6,none⟩=some (.slice fa' fn' fq'):=a9 hb2 (c1_6)
   replace c1_7:w2.cell? ⟨w.heap.size+1,7,none⟩=some (.int .i64 l'):=a9 hb2 (c1_7)
   replace c1_8:w2.cell? ⟨w.heap.size+1,8,none⟩=some (.slice c' m' q'):=a9 hb2 (c1_8)
   have d0_w2:=World.block_lt_of_cell? _ _ c0_0
   have d1_w2:=World.block_lt_of_cell? _ _ c1_0
   go_wp2_with fail
   refine(H3.out Hq1.out Hq2.out _ hB).mono ?_
   rintro e w3 ⟨rfl,hb3⟩
   replace hB:=(ai hB hb3)
   have zw3:=hB.size
   go_wp2_with fail
   refine bodyPost_ret (v:=.bool (r)) (by simp [results,Try.results5,go_sem,bne]) rfl ?_
   exact⟨au ((gW vv v' r Hq1.out Hq2.out).trans HT.out),hB⟩
  ·have Hq2:=Lib.hid q2
   clear q2
   go_wp2_with fail
   refine(H1.out _ aI).mono ?_
   rintro e w4 ⟨rfl,hb4⟩
   rw [Hq1.out]
   have hB:=(ai aI hb4)
   have zw4:=hB.size
   have c1_0:w4.cell? ⟨w.heap.size+1,0,none⟩=some (.int .i64 k'):=a9 hb4 (aj (by simp) 0)
   have c1_1:w4.cell? ⟨w.heap.size+1,1,none⟩=some (.string nm'):=a9 hb4 (aj (by simp) 1)
   have c1_2:w4.cell? ⟨w.heap.size+1,2,none⟩=some (.int .i64 u'):=a9 hb4 (aj (by simp) 2)
   have c1_3:w4.cell? ⟨w.heap.size+1,3,none⟩=some (.int .i64 tk'):=a9 hb4 (aj (by simp) 3)
   have c1_4:w4.cell? ⟨w.heap.size+1,4,none⟩=some (.slice ta' tn' tq'):=a9 hb4 (aj (by simp) 4)
   have c1_5:w4.cell? ⟨w.heap.size+1,5,none⟩=some (.int .i64 fk'):=a9 hb4 (aj (by simp) 5)
   have c1_6:w4.cell? ⟨w.heap.size+1,6,none⟩=some (.slice fa' fn' fq'):=a9 hb4 (aj (by simp) 6)
   have c1_7:w4.cell? ⟨w.heap.size+1,7,none⟩=some (.int .i64 l'):=a9 hb4 (aj (by simp) 7)
   have c1_8:w4.cell? ⟨w.heap.size+1,8,none⟩=some (.slice c' m' q'):=a9 hb4 (aj (by simp) 8)
   have d1_w4:=World.block_lt_of_cell? _ _ c1_0
   go_wp2_with fail
   refine(H2.out _ hB).mono ?_
   rintro e w5 ⟨rfl,hb5⟩
   rw [Hq2.out]
   replace hB:=(ai hB hb5)
   have zw5:=hB.size
   go_wp2_with fail
   refine bodyPost_ret (v:=.bool (false)) (by simp [results,Try.results5,go_sem,bne]) rfl ?_
   exact⟨au ((gZ vv v' r Hq1.out Hq2.out).trans HT.out),hB⟩
 ·have Hq1:=Lib.hid q1
  clear q1
  go_wp2_with fail
  refine(H1.out _ aI).mono ?_
  rintro e w6 ⟨rfl,hb6⟩
  rw [Hq1.out]
  have hB:=(ai aI hb6)
  have zw6:=hB.size
  go_wp2_with fail
  refine bodyPost_ret (v:=.bool (false)) (by simp [results,Try.results5,go_sem,bne]) rfl ?_
  exact⟨au ((gY vv v' r Hq1.out).trans HT.out),hB⟩
end Go.Proofs.Ytnaoghknnenfoaa

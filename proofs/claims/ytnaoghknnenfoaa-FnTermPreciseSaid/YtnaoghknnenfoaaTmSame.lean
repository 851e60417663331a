/-
  TermSame of the program and of the reference: equality of trees.
-/
import Derived.Test.YtnaoghknnenfoaaRows
import Derived.Test.YtnaoghknnenfoaaB1
import Derived.Test.YtnaoghknnenfoaaB7
import Derived.Test.YtnaoghknnenfoaaB3
import Derived.Test.YtnaoghknnenfoaaB3
import Derived.Deep.RegionHeld3
set_option linter.unusedSimpArgs false
set_option linter.unusedVariables false
set_option maxRecDepth 100000
namespace Go.Proofs.Ytnaoghknnenfoaa
open Go.RowKit
mutual
def Tm.same:Tm→Tm→Bool
 | .mk k s u t f l ts,.mk k' s' u' t' f' l' us=>k==k'&&s.toList==s'.toList&&u==u'&&t.same t'&&f.same f'&&l==l'&&Tm.sames ts us
def Tm.sames:List Tm→List Tm→Bool
 | [],[]=>true
 | t :: ts,u :: us=>t.same u&&Tm.sames ts us
 | _,_=>false
end
def bZ (R:Tm→Tm→Bool):List Tm→List Tm→Bool
 | [],[]=>true
 | t :: ts,u :: us=>R t u&&bZ R ts us
 | _,_=>false
theorem da (R:Tm→Tm→Bool)(ts us:List Tm)(k:Nat)(h:k<ts.length)(h':k<us.length):bZ R (ts.drop k) (us.drop k)=(R ts[k] us[k]&&bZ R (ts.drop (k+1)) (us.drop (k+1))):=by
 rw [List.drop_eq_getElem_cons h,List.drop_eq_getElem_cons h'];rfl
theorem dA (R:Tm→Tm→Bool) : ∀(ts us:List Tm),ts.length≠us.length→bZ R ts us=false
 | [],[],h=>absurd rfl h
 | [],_ :: _,_=>rfl
 | _ :: _,[],_=>rfl
 | t :: ts,u :: us,h=>by
  have:=dA R ts us (fun e=>h (by simp [e]))
  simp [bZ,this]
theorem dh (R:Tm→Tm→Bool)(ts us:List Tm)(k:Nat)(h:ts.length≤k)(h':us.length≤k):bZ R (ts.drop k) (us.drop k)=true:=by
 rw [List.drop_eq_nil_of_le h,List.drop_eq_nil_of_le h'];rfl
theorem Tm.sames_all2 : ∀ts us:List Tm,bZ Tm.same ts us=Tm.sames ts us
 | [],[]=>by unfold Tm.sames;rfl
 | [],_ :: _=>by unfold Tm.sames;rfl
 | _ :: _,[]=>by unfold Tm.sames;rfl
 | t :: ts,u :: us=>by unfold Tm.sames bZ;rw [Tm.sames_all2 ts us]
mutual
theorem Tm.same_refl : ∀t:Tm,t.same t=true
 | .mk k s u t f l ts=>by unfold Tm.same;rw [Tm.sames_refl ts,t.same_refl,f.same_refl];simp
theorem Tm.sames_refl : ∀ts:List Tm,Tm.sames ts ts=true
 | []=>by unfold Tm.sames;rfl
 | t :: ts=>by unfold Tm.sames;rw [Tm.same_refl t,Tm.sames_refl ts];rfl
end
set_option maxHeartbeats 1000000 in
theorem od (g:FuncId)(R:Tm→Tm→Bool)(F G:Nat→Prop)(ts us:List Tm)(ys zs:Value)(w:World)(hy:aV F w ts ys)(hz:aV G w us zs)
  (hcf : ∀xs W,(callFunc g xs).run Try.prog W = .ok (.enter g xs) W)
  (hg : ∀t∈ts,∀u∈us,∀(W:World) (y z:Value),az F W t y→az G W u z→Calls Try.prog g #[y,z] W fun e W'=>e = .returned (.bool (R t u))∧Below W.heap.size W W') :
  Calls Try.prog 23 #[ys,zs,.func (.func g) #[] #[]] w fun e w'=>e = .returned (.bool (bZ R ts us))∧Below w.heap.size w w':=by
 have HG:=Lib.hid hg
 clear hg
 obtain⟨a,cap,rfl,h2,h3,-⟩:=hy.open
 obtain⟨c,cap',rfl,g2,g3,-⟩:=hz.open
 unfold maxLen at h3 g3
 by_cases hl:ts.length=us.length
 ·obtain⟨n,hn⟩ : ∃n,ts.length=n:=⟨_,rfl⟩
  rw [hn] at hl h2 hy
  rw [←hl] at g2 hz
  have HN:=Lib.hid hn
  have HL:=Lib.hid hl
  rw [hn,←hl]
  clear hn hl
  go_enter Try.func23,Try.ntmps23
  go_wp2_with fail
  go_loopw [17] (fun i wr=>∃k:Nat,k≤n∧i = .int .i64 k∧Below w.heap.size w wr∧Hid (bZ R ts us=bZ R (ts.drop k) (us.drop k))) (fun i _=>n-(intOf i).toNat)
  case atStart=>exact⟨0,by omega,rfl,Below.refl _ _,rfl⟩
  case round=>
   obtain⟨j,hk,rfl,hbw,hR⟩:=hrel
   by_cases hlt:j<n
   ·have hkt:j<ts.length:=by rw [HN.out];exact hlt
    have hku:j<us.length:=by rw [←HL.out];exact hlt
    obtain⟨b,off,k0,nm0,u0,tk0,ta0,tn0,tq0,fk0,fa0,fn0,fq0,l0,a0,m0,q0,rfl,lb,e0,e1,e2,e3,e4,e5,e6,e7,e8,ht⟩:=hy.at hbw hkt
    obtain⟨b',off',k0',nm0',u0',tk0',ta0',tn0',tq0',fk0',fa0',fn0',fq0',l0',a0',m0',q0',rfl,lb',e0',e1',e2',e3',e4',e5',e6',e7',e8',hu⟩:=hz.at hbw hku
    have hcall:=HG.out ts[j] (List.getElem_mem hkt) us[j] (List.getElem_mem hku)
    have hstep:=hR.out.trans (da R ts us j hkt hku)
    generalize R ts[j] us[j]=r at hcall hstep
    have HC:=Lib.hid hcall
    have HS:=Lib.hid hstep
    clear hcall hstep hR
    cases r
    all_goals
     go_wp2_with fail
     refine(HC.out _ _ _ (ht.below aI) (hu.below aI)).mono ?_
     rintro e w1 ⟨rfl,hb1⟩
     go_wp2_with fail
    ·go_ret
     exact⟨au (by rw [HS.out];rfl),ai (ai hbw aI) hb1⟩
    ·go_roundw
     case rel=>exact⟨j+1,by omega,by go_num,ai (ai hbw aI) hb1,by rw [Hid,HS.out];rfl⟩
     case measure=>simp [intOf];omega
   ·go_wp2_with fail
    go_ret
    exact⟨au (by rw [hR.out,dh _ _ _ _ (by rw [HN.out];omega) (by rw [←HL.out];omega)]),hbw⟩
 ·have HL:=Lib.hid hl
  go_enter Try.func23,Try.ntmps23
  go_wp2_with fail
  go_ret
  exact⟨au (dA R ts us HL.out).symm,Below.refl _ _⟩
theorem iR (k u l k' u' l':Int)(nm nm':ByteArray)(r1 r2 r3:Bool)(h0:(k==k')=true)(h1:(nm.toList==nm'.toList)=true)(h2:(u==u')=true)(h3:(r1)=true)(h4:(r2)=true)(h5:(l==l')=true):(r3:Bool)=(k==k'&&nm.toList==nm'.toList&&u==u'&&r1&&r2&&l==l'&&r3):=by
 simp_all
theorem iJ (k u l k' u' l':Int)(nm nm':ByteArray)(r1 r2 r3:Bool)(h0:(k==k')=true)(h1:(nm.toList==nm'.toList)=true)(h2:(u==u')=true)(h3:(r1)=true)(h4:(r2)=true)(h5:(l==l')=false):(false:Bool)=(k==k'&&nm.toList==nm'.toList&&u==u'&&r1&&r2&&l==l'&&r3):=by
 simp_all
theorem iC (k u l k' u' l':Int)(nm nm':ByteArray)(r1 r2 r3:Bool)(h0:(k==k')=true)(h1:(nm.toList==nm'.toList)=true)(h2:(u==u')=true)(h3:(r1)=true)(h4:(r2)=false):(false:Bool)=(k==k'&&nm.toList==nm'.toList&&u==u'&&r1&&r2&&l==l'&&r3):=by
 simp_all
theorem iw (k u l k' u' l':Int)(nm nm':ByteArray)(r1 r2 r3:Bool)(h0:(k==k')=true)(h1:(nm.toList==nm'.toList)=true)(h2:(u==u')=true)(h3:(r1)=false):(false:Bool)=(k==k'&&nm.toList==nm'.toList&&u==u'&&r1&&r2&&l==l'&&r3):=by
 simp_all
theorem j7 (k u l k' u' l':Int)(nm nm':ByteArray)(r1 r2 r3:Bool)(h0:(k==k')=true)(h1:(nm.toList==nm'.toList)=true)(h2:(u==u')=false):(false:Bool)=(k==k'&&nm.toList==nm'.toList&&u==u'&&r1&&r2&&l==l'&&r3):=by
 simp_all
theorem ip (k u l k' u' l':Int)(nm nm':ByteArray)(r1 r2 r3:Bool)(h0:(k==k')=true)(h1:(nm.toList==nm'.toList)=false):(false:Bool)=(k==k'&&nm.toList==nm'.toList&&u==u'&&r1&&r2&&l==l'&&r3):=by
 simp_all
theorem iT (k u l k' u' l':Int)(nm nm':ByteArray)(r1 r2 r3:Bool)(h0:(k==k')=false):(false:Bool)=(k==k'&&nm.toList==nm'.toList&&u==u'&&r1&&r2&&l==l'&&r3):=by
 simp_all
set_option maxHeartbeats 2000000 in
theorem fW (F G:Nat→Prop)(t:Tm) : ∀(v:Tm) (y z:Value) (w:World),az F w t y→az G w v z →
  Calls Try.prog 9 #[y,z] w fun e w'=>e = .returned (.bool (t.same v))∧Below w.heap.size w w':=by
 intro v y z w hy hz
 have IH : ∀t'∈t.kids,∀v'∈v.kids,∀(W:World) (y z:Value),az F W t' y→az G W v' z→Calls Try.prog 9 #[y,z] W fun e W'=>e = .returned (.bool (t'.same v'))∧Below W.heap.size W W':=
  fun t' ht v' _ W y z a b=>fW F G t' v' y z W a b
 obtain⟨k,nm,u,tk,ta,tn,tq,fk,fa,fn,fq,l,c,m,q,rfl⟩:=hy.shape
 obtain⟨k',nm',u',tk',ta',tn',tq',fk',fa',fn',fq',l',c',m',q',rfl⟩:=hz.shape
 obtain⟨r1,r2,r3,r4,r5,r6,r7,r8,r9,rn,rm,rq,hty,hsr,hks⟩:=hy.parts
 obtain⟨s1,s2,s3,s4,s5,s6,s7,s8,s9,sn,sm,sq,hty',hsr',hks'⟩:=hz.parts
 cases t with | mk kk nn uu tt ff ll ts=>cases v with | mk kk' nn' uu' tt' ff' ll' ts'=>
 simp only [Tm.kind,Tm.name,Tm.num,Tm.type,Tm.src,Tm.label,Tm.kids] at *
 subst r1 r2 r3 r8 s1 s2 s3 s8
 have h1:=fun W (h:Below w.heap.size w W)=>dr F G tt tt' _ _ W (hty.below h) (hty'.below h)
 have h2:=fun W (h:Below w.heap.size w W)=>dr F G ff ff' _ _ W (hsr.below h) (hsr'.below h)
 have h3:=fun W (h:Below w.heap.size w W)=>od _ _ F G ts ts' _ _ W (hks.below h) (hks'.below h) Try.call9 IH
 simp only [Tm.sames_all2] at h3
 unfold Tm.same
 generalize tt.same tt'=r1 at h1 ⊢
 generalize ff.same ff'=r2 at h2 ⊢
 generalize Tm.sames ts ts'=r3 at h3 ⊢
 have H1:=Lib.hid h1
 have H2:=Lib.hid h2
 have H3:=Lib.hid h3
 clear h1 h2 h3 IH hty hty' hsr hsr' hks hks' hy hz
 clear r9 r4 r5 r6 r7 s4 s5 s6 s7 s9
 obtain⟨rr,hrr⟩ : ∃r:Bool,(k==k'&&nm.toList==nm'.toList&&u==u'&&r1&&r2&&l==l'&&r3)=r:=⟨_,rfl⟩
 rw [hrr]
 have HT:=Lib.hid hrr
 clear hrr
 go_enter Try.func9,Try.ntmps9
 rcases Bool.eq_false_or_eq_true (k==k') with q1 | q1
 ·skip
  have nq1:(k != k')=false:=by simp only [bne,q1];rfl
  rcases Bool.eq_false_or_eq_true (nm.toList==nm'.toList) with q2 | q2
  ·skip
   have nq2:(nm.toList != nm'.toList)=false:=by simp only [bne,q2];rfl
   rcases Bool.eq_false_or_eq_true (u==u') with q3 | q3
   ·skip
    have nq3:(u != u')=false:=by simp only [bne,q3];rfl
    rcases Bool.eq_false_or_eq_true (r1) with q4 | q4
    ·have Hq4:=Lib.hid q4
     clear q4
     rcases Bool.eq_false_or_eq_true (r2) with q5 | q5
     ·have Hq5:=Lib.hid q5
      clear q5
      rcases Bool.eq_false_or_eq_true (l==l') with q6 | q6
      ·skip
       have nq6:(l != l')=false:=by simp only [bne,q6];rfl
       go_wp2_with fail
       refine(H1.out _ aI).mono ?_
       rintro e w1 ⟨rfl,hb1⟩
       rw [Hq4.out]
       have hB:=(ai aI hb1)
       have zw1:=hB.size
       have c0_5:w1.cell? ⟨w.heap.size,5,none⟩=some (.int .i64 fk):=a9 hb1 (a9 ah (aj (by simp) 5))
       have c0_6:w1.cell? ⟨w.heap.size,6,none⟩=some (.slice fa fn fq):=a9 hb1 (a9 ah (aj (by simp) 6))
       have c1_5:w1.cell? ⟨w.heap.size+1,5,none⟩=some (.int .i64 fk'):=a9 hb1 (aj (by simp) 5)
       have c1_6:w1.cell? ⟨w.heap.size+1,6,none⟩=some (.slice fa' fn' fq'):=a9 hb1 (aj (by simp) 6)
       have c0_7:w1.cell? ⟨w.heap.size,7,none⟩=some (.int .i64 l):=a9 hb1 (a9 ah (aj (by simp) 7))
       have c1_7:w1.cell? ⟨w.heap.size+1,7,none⟩=some (.int .i64 l'):=a9 hb1 (aj (by simp) 7)
       have c0_8:w1.cell? ⟨w.heap.size,8,none⟩=some (.slice c m q):=a9 hb1 (a9 ah (aj (by simp) 8))
       have c1_8:w1.cell? ⟨w.heap.size+1,8,none⟩=some (.slice c' m' q'):=a9 hb1 (aj (by simp) 8)
       have d0_w1:=World.block_lt_of_cell? _ _ c0_5
       have d1_w1:=World.block_lt_of_cell? _ _ c1_5
       go_wp2_with fail
       refine(H2.out _ hB).mono ?_
       rintro e w2 ⟨rfl,hb2⟩
       rw [Hq5.out]
       replace hB:=(ai hB hb2)
       have zw2:=hB.size
       replace c0_7:w2.cell? ⟨w.heap.size,7,none⟩=some (.int .i64 l):=a9 hb2 (c0_7)
       replace c1_7:w2.cell? ⟨w.heap.size+1,7,none⟩=some (.int .i64 l'):=a9 hb2 (c1_7)
       replace c0_8:w2.cell? ⟨w.heap.size,8,none⟩=some (.slice c m q):=a9 hb2 (c0_8)
       replace c1_8:w2.cell? ⟨w.heap.size+1,8,none⟩=some (.slice c' m' q'):=a9 hb2 (c1_8)
       have d0_w2:=World.block_lt_of_cell? _ _ c0_7
       have d1_w2:=World.block_lt_of_cell? _ _ c1_7
       go_wp2_with fail
       refine(H3.out _ hB).mono ?_
       rintro e w3 ⟨rfl,hb3⟩
       replace hB:=(ai hB hb3)
       have zw3:=hB.size
       go_wp2_with fail
       refine bodyPost_ret (v:=.bool (r3)) (by simp [results,Try.results9,go_sem,bne]) rfl ?_
       exact⟨au ((iR k u l k' u' l' nm nm' r1 r2 r3 q1 q2 q3 Hq4.out Hq5.out q6).trans HT.out),hB⟩
      ·skip
       have nq6:(l != l')=true:=by simp only [bne,q6];rfl
       go_wp2_with fail
       refine(H1.out _ aI).mono ?_
       rintro e w4 ⟨rfl,hb4⟩
       rw [Hq4.out]
       have hB:=(ai aI hb4)
       have zw4:=hB.size
       have c0_5:w4.cell? ⟨w.heap.size,5,none⟩=some (.int .i64 fk):=a9 hb4 (a9 ah (aj (by simp) 5))
       have c0_6:w4.cell? ⟨w.heap.size,6,none⟩=some (.slice fa fn fq):=a9 hb4 (a9 ah (aj (by simp) 6))
       have c1_5:w4.cell? ⟨w.heap.size+1,5,none⟩=some (.int .i64 fk'):=a9 hb4 (aj (by simp) 5)
       have c1_6:w4.cell? ⟨w.heap.size+1,6,none⟩=some (.slice fa' fn' fq'):=a9 hb4 (aj (by simp) 6)
       have c0_7:w4.cell? ⟨w.heap.size,7,none⟩=some (.int .i64 l):=a9 hb4 (a9 ah (aj (by simp) 7))
       have c1_7:w4.cell? ⟨w.heap.size+1,7,none⟩=some (.int .i64 l'):=a9 hb4 (aj (by simp) 7)
       have d0_w4:=World.block_lt_of_cell? _ _ c0_5
       have d1_w4:=World.block_lt_of_cell? _ _ c1_5
       go_wp2_with fail
       refine(H2.out _ hB).mono ?_
       rintro e w5 ⟨rfl,hb5⟩
       rw [Hq5.out]
       replace hB:=(ai hB hb5)
       have zw5:=hB.size
       replace c0_7:w5.cell? ⟨w.heap.size,7,none⟩=some (.int .i64 l):=a9 hb5 (c0_7)
       replace c1_7:w5.cell? ⟨w.heap.size+1,7,none⟩=some (.int .i64 l'):=a9 hb5 (c1_7)
       have d0_w5:=World.block_lt_of_cell? _ _ c0_7
       have d1_w5:=World.block_lt_of_cell? _ _ c1_7
       go_wp2_with fail
       refine bodyPost_ret (v:=.bool (false)) (by simp [results,Try.results9,go_sem,bne]) rfl ?_
       exact⟨au ((iJ k u l k' u' l' nm nm' r1 r2 r3 q1 q2 q3 Hq4.out Hq5.out q6).trans HT.out),hB⟩
     ·have Hq5:=Lib.hid q5
      clear q5
      go_wp2_with fail
      refine(H1.out _ aI).mono ?_
      rintro e w6 ⟨rfl,hb6⟩
      rw [Hq4.out]
      have hB:=(ai aI hb6)
      have zw6:=hB.size
      have c0_5:w6.cell? ⟨w.heap.size,5,none⟩=some (.int .i64 fk):=a9 hb6 (a9 ah (aj (by simp) 5))
      have c0_6:w6.cell? ⟨w.heap.size,6,none⟩=some (.slice fa fn fq):=a9 hb6 (a9 ah (aj (by simp) 6))
      have c1_5:w6.cell? ⟨w.heap.size+1,5,none⟩=some (.int .i64 fk'):=a9 hb6 (aj (by simp) 5)
      have c1_6:w6.cell? ⟨w.heap.size+1,6,none⟩=some (.slice fa' fn' fq'):=a9 hb6 (aj (by simp) 6)
      have d0_w6:=World.block_lt_of_cell? _ _ c0_5
      have d1_w6:=World.block_lt_of_cell? _ _ c1_5
      go_wp2_with fail
      refine(H2.out _ hB).mono ?_
      rintro e w7 ⟨rfl,hb7⟩
      rw [Hq5.out]
      replace hB:=(ai hB hb7)
      have zw7:=hB.size
      go_wp2_with fail
      refine bodyPost_ret (v:=.bool (false)) (by simp [results,Try.results9,go_sem,bne]) rfl ?_
      exact⟨au ((iC k u l k' u' l' nm nm' r1 r2 r3 q1 q2 q3 Hq4.out Hq5.out).trans HT.out),hB⟩
    ·have Hq4:=Lib.hid q4
     clear q4
     go_wp2_with fail
     refine(H1.out _ aI).mono ?_
     rintro e w8 ⟨rfl,hb8⟩
     rw [Hq4.out]
     have hB:=(ai aI hb8)
     have zw8:=hB.size
     go_wp2_with fail
     refine bodyPost_ret (v:=.bool (false)) (by simp [results,Try.results9,go_sem,bne]) rfl ?_
     exact⟨au ((iw k u l k' u' l' nm nm' r1 r2 r3 q1 q2 q3 Hq4.out).trans HT.out),hB⟩
   ·skip
    have nq3:(u != u')=true:=by simp only [bne,q3];rfl
    go_wp2_with fail
    refine bodyPost_ret (v:=.bool (false)) (by simp [results,Try.results9,go_sem,bne]) rfl ?_
    exact⟨au ((j7 k u l k' u' l' nm nm' r1 r2 r3 q1 q2 q3).trans HT.out),aI⟩
  ·skip
   have nq2:(nm.toList != nm'.toList)=true:=by simp only [bne,q2];rfl
   go_wp2_with fail
   refine bodyPost_ret (v:=.bool (false)) (by simp [results,Try.results9,go_sem,bne]) rfl ?_
   exact⟨au ((ip k u l k' u' l' nm nm' r1 r2 r3 q1 q2).trans HT.out),aI⟩
 ·skip
  have nq1:(k != k')=true:=by simp only [bne,q1];rfl
  go_wp2_with fail
  refine bodyPost_ret (v:=.bool (false)) (by simp [results,Try.results9,go_sem,bne]) rfl ?_
  exact⟨au ((iT k u l k' u' l' nm nm' r1 r2 r3 q1).trans HT.out),aI⟩
termination_by SizeOf.sizeOf t
decreasing_by exact Tm.kid_lt ht
end Go.Proofs.Ytnaoghknnenfoaa

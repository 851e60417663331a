/-
  WithTypes of the reference.
  spec.l3Blur: a term with less precise types.
-/
import Derived.Test.YtnaoghknnenfoaaB18
import Derived.Test.YtnaoghknnenfoaaBlurV
import Derived.Test.YtnaoghknnenfoaaB22
import Derived.Test.YtnaoghknnenfoaaTmDr
import Derived.Test.YtnaoghknnenfoaaB5
set_option linter.unusedSimpArgs false
set_option linter.unusedVariables false
set_option maxRecDepth 100000
namespace Go.Proofs.Ytnaoghknnenfoaa
open Go.RowKit
theorem kO (L:List Ty)(j:Nat)(h:j<L.length):((L.drop j).any fun x=> !x.valid)=(!L[j].valid||((L.drop (j+1)).any fun x=> !x.valid)):=by
 rw [List.drop_eq_getElem_cons h];rfl
set_option maxHeartbeats 4000000 in
theorem kK (F G:Nat→Prop)(t:Tm)(L:List Ty)(y lv:Value)(w:World)(hy:az F w t y)(hl:aF G w L lv)(hcnt:t.cnt≤1048576) :
  Calls Try.prog 31 #[y,lv] w (RetTmB (t.withT L) (t.withB L) w):=by
 have hv:=fun W (h:Below w.heap.size w W)=>ce F t y W (hy.below h)
 have hT:=fun W (h:Below w.heap.size w W)=>l6 F t y W (hy.below h)
 have hty:(t.valid=true→t.types=t.tys)∧(t.valid=false→t.types = []):=⟨fun h=>by unfold Tm.types;rw [if_pos h],fun h=>by unfold Tm.types;rw [if_neg (by simp [h])]⟩
 have hR:=fun(hok:t.valid=true) (hn:t.tys.length=L.length) (ha:L.any (fun x=> !x.valid)=false) W (h:Below w.heap.size w W)=>
  iu F G L t 0 y lv W (hy.below h) (hl.below h) hcnt (fun x hx=>Ty.cnt_valid (by simp at ha;exact ha x hx)) (by omega) (by have:=(Tm.tys_ok hok).1;omega)
 have hVL:=fun(j:Nat) (h:j<L.length) y' W (hr:ap G W L[j] y')=>bW G L[j] y' W hr
 have hAD:=kO L
 obtain⟨k,nm,u,tk,ta,tn,tq,fk,fa,fn,fq,l,c,m,q,rfl⟩:=hy.shape
 obtain⟨la,lq,rfl,hlq,hlm,-⟩:=hl.open
 unfold Tm.withT Tm.withB
 rw [List.drop_zero] at hR
 obtain⟨rr,hrr⟩ : ∃x,(L.any fun x=> !x.valid)=x:=⟨_,rfl⟩
 rw [hrr] at hR ⊢
 have HRR:=Lib.hid hrr
 generalize t.rety L=bt at *
 generalize t.types=us' at *
 generalize t.valid=va at *
 generalize t.tys=us at *
 obtain⟨n,hn⟩ : ∃x,L.length=x:=⟨_,rfl⟩
 rw [hn] at hl hlq hR ⊢
 have HN:=Lib.hid hn
 have HL:=Lib.hid hl
 have HVL:=Lib.hid hVL
 have HAD:=Lib.hid hAD
 have HV:=Lib.hid hv
 have HT:=Lib.hid hT
 have HR:=Lib.hid hR
 have HTY:=Lib.hid hty
 unfold maxLen at hlm
 clear hv hT hR hy hl hcnt hVL hAD hn hty hrr
 obtain⟨n2,hn2⟩ : ∃x,us'.length=x:=⟨_,rfl⟩
 have HN2:=Lib.hid hn2
 have HTx:=Lib.hid (fun W (h:Below w.heap.size w W)=>(HT.out W h).mono (fun e W' (hx:RetTys us' W e W')=>(by
   obtain⟨v,rfl,hv,hb⟩:=hx
   obtain⟨a,q,rfl⟩ : ∃a q,v = .slice a n2 q:=by
     obtain⟨a,q,h,-⟩:=hv.rep.open
     rw [hn2] at h
     exact⟨a,q,h⟩
   exact⟨a,q,rfl,hb⟩ : ∃a q,e = .returned (.slice a n2 q)∧Below W.heap.size W W')))
 clear HT hn2
 have hq5:va=false→n2=0:=fun h=>by rw [←HN2.out,HTY.out.2 h];rfl
 have hq6:va=true→us.length=n2:=fun h=>by rw [←HN2.out,HTY.out.1 h]
 have HQ5:=Lib.hid hq5
 have HQ6:=Lib.hid hq6
 clear hq5 hq6
 by_cases hne:n2=n
 ·subst hne
  cases va
  ·simp only [Bool.false_and,Bool.false_eq_true,if_false]
   go_enter Try.func31,Try.ntmps31
   go_wp2_with fail
   refine(HTx.out _ aI).mono ?_
   rintro e w1 ⟨a2,q2,rfl,hb1⟩
   have HZw1:=Lib.hid hb1
   have g0:w1.cell? ⟨w.heap.size,0,none⟩=some (.int .i64 k):=a9 HZw1.out (a9 ah (ao 0))
   have g1:w1.cell? ⟨w.heap.size,1,none⟩=some (.string nm):=a9 HZw1.out (a9 ah (ao 1))
   have g2:w1.cell? ⟨w.heap.size,2,none⟩=some (.int .i64 u):=a9 HZw1.out (a9 ah (ao 2))
   have g3:w1.cell? ⟨w.heap.size,3,none⟩=some (.int .i64 tk):=a9 HZw1.out (a9 ah (ao 3))
   have g4:w1.cell? ⟨w.heap.size,4,none⟩=some (.slice ta tn tq):=a9 HZw1.out (a9 ah (ao 4))
   have g5:w1.cell? ⟨w.heap.size,5,none⟩=some (.int .i64 fk):=a9 HZw1.out (a9 ah (ao 5))
   have g6:w1.cell? ⟨w.heap.size,6,none⟩=some (.slice fa fn fq):=a9 HZw1.out (a9 ah (ao 6))
   have g7:w1.cell? ⟨w.heap.size,7,none⟩=some (.int .i64 l):=a9 HZw1.out (a9 ah (ao 7))
   have g8:w1.cell? ⟨w.heap.size,8,none⟩=some (.slice c m q):=a9 HZw1.out (a9 ah (ao 8))
   have lg1:=World.block_lt_of_cell? _ _ g0
   clear hb1
   go_wp2_with fail
   refine(HV.out _ (ai aI HZw1.out)).mono ?_
   rintro e w2 ⟨rfl,hb2⟩
   have HZw2:=Lib.hid (ai HZw1.out hb2)
   clear hb2 lg1 g0 g1 g2 g3 g4 g5 g6 g7 g8
   have z0:w2.cell? ⟨w.heap.size+1,0,none⟩=some (.int .i64 0):=a9 HZw2.out (ax 0)
   have y0:w2.frozen? ⟨w.heap.size+1,0,none⟩=false:=aw HZw2.out (ax 0) (aK 0)
   have z1:w2.cell? ⟨w.heap.size+1,1,none⟩=some (.string { data:=#[] }):=a9 HZw2.out (ax 1)
   have y1:w2.frozen? ⟨w.heap.size+1,1,none⟩=false:=aw HZw2.out (ax 1) (aK 1)
   have z2:w2.cell? ⟨w.heap.size+1,2,none⟩=some (.int .i64 0):=a9 HZw2.out (ax 2)
   have y2:w2.frozen? ⟨w.heap.size+1,2,none⟩=false:=aw HZw2.out (ax 2) (aK 2)
   have z3:w2.cell? ⟨w.heap.size+1,3,none⟩=some (.int .i64 0):=a9 HZw2.out (ax 3)
   have y3:w2.frozen? ⟨w.heap.size+1,3,none⟩=false:=aw HZw2.out (ax 3) (aK 3)
   have z4:w2.cell? ⟨w.heap.size+1,4,none⟩=some (.slice none 0 0):=a9 HZw2.out (ax 4)
   have y4:w2.frozen? ⟨w.heap.size+1,4,none⟩=false:=aw HZw2.out (ax 4) (aK 4)
   have z5:w2.cell? ⟨w.heap.size+1,5,none⟩=some (.int .i64 0):=a9 HZw2.out (ax 5)
   have y5:w2.frozen? ⟨w.heap.size+1,5,none⟩=false:=aw HZw2.out (ax 5) (aK 5)
   have z6:w2.cell? ⟨w.heap.size+1,6,none⟩=some (.slice none 0 0):=a9 HZw2.out (ax 6)
   have y6:w2.frozen? ⟨w.heap.size+1,6,none⟩=false:=aw HZw2.out (ax 6) (aK 6)
   have z7:w2.cell? ⟨w.heap.size+1,7,none⟩=some (.int .i64 0):=a9 HZw2.out (ax 7)
   have y7:w2.frozen? ⟨w.heap.size+1,7,none⟩=false:=aw HZw2.out (ax 7) (aK 7)
   have z8:w2.cell? ⟨w.heap.size+1,8,none⟩=some (.slice none 0 0):=a9 HZw2.out (ax 8)
   have y8:w2.frozen? ⟨w.heap.size+1,8,none⟩=false:=aw HZw2.out (ax 8) (aK 8)
   have lz0:=World.block_lt_of_cell? _ _ z0
   have HB6:=Lib.hid (ai aI HZw2.out)
   go_wp2_with fail
   refine bodyPost_ret (v:=.tuple #[.agg #[.int .i64 0,.string { data:=#[] },.int .i64 0,.int .i64 0,.slice none 0 0,.int .i64 0,.slice none 0 0,.int .i64 0,.slice none 0 0],.bool false]) (by simp [results,Try.results31,go_sem,z0,z1,z2,z3,z4,z5,z6,z7,z8]) rfl ?_
   exact⟨_,rfl,b3.nil (by show 0≤_;omega),(((((((((HB6.out).setCell (by show w.heap.size≤w.heap.size+1;omega) _).setCell (by show w.heap.size≤w.heap.size+1;omega) _).setCell (by show w.heap.size≤w.heap.size+1;omega) _).setCell (by show w.heap.size≤w.heap.size+1;omega) _).setCell (by show w.heap.size≤w.heap.size+1;omega) _).setCell (by show w.heap.size≤w.heap.size+1;omega) _).setCell (by show w.heap.size≤w.heap.size+1;omega) _).setCell (by show w.heap.size≤w.heap.size+1;omega) _).setCell (by show w.heap.size≤w.heap.size+1;omega) _⟩
  ·have hul:us.length=n2:=HQ6.out rfl
   simp only [Bool.true_and,decide_eq_true hul]
   generalize hXB:(!rr)=XB
   generalize hXT:(if XB=true then bt else Tm.zero)=XT
   have HX:=Lib.hid (And.intro hXB hXT)
   clear hXB hXT
   have HR2:=Lib.hid (HR.out rfl hul)
   clear HR hul
   go_enter Try.func31,Try.ntmps31
   go_wp2_with fail
   refine(HTx.out _ aI).mono ?_
   rintro e w1 ⟨a2,q2,rfl,hb1⟩
   have HZw1:=Lib.hid hb1
   have g0:w1.cell? ⟨w.heap.size,0,none⟩=some (.int .i64 k):=a9 HZw1.out (a9 ah (ao 0))
   have g1:w1.cell? ⟨w.heap.size,1,none⟩=some (.string nm):=a9 HZw1.out (a9 ah (ao 1))
   have g2:w1.cell? ⟨w.heap.size,2,none⟩=some (.int .i64 u):=a9 HZw1.out (a9 ah (ao 2))
   have g3:w1.cell? ⟨w.heap.size,3,none⟩=some (.int .i64 tk):=a9 HZw1.out (a9 ah (ao 3))
   have g4:w1.cell? ⟨w.heap.size,4,none⟩=some (.slice ta tn tq):=a9 HZw1.out (a9 ah (ao 4))
   have g5:w1.cell? ⟨w.heap.size,5,none⟩=some (.int .i64 fk):=a9 HZw1.out (a9 ah (ao 5))
   have g6:w1.cell? ⟨w.heap.size,6,none⟩=some (.slice fa fn fq):=a9 HZw1.out (a9 ah (ao 6))
   have g7:w1.cell? ⟨w.heap.size,7,none⟩=some (.int .i64 l):=a9 HZw1.out (a9 ah (ao 7))
   have g8:w1.cell? ⟨w.heap.size,8,none⟩=some (.slice c m q):=a9 HZw1.out (a9 ah (ao 8))
   have lg1:=World.block_lt_of_cell? _ _ g0
   clear hb1
   go_wp2_with fail
   refine(HV.out _ (ai aI HZw1.out)).mono ?_
   rintro e w2 ⟨rfl,hb2⟩
   have HZw2:=Lib.hid (ai HZw1.out hb2)
   clear hb2 lg1 g0 g1 g2 g3 g4 g5 g6 g7 g8
   go_wp2_with fail
   go_loopw [6] (fun i wr=>∃j:Nat,j≤n2∧i = .int .i64 j∧Below w2.heap.size w2 wr∧Hid ((L.any fun x=> !x.valid)=((L.drop j).any fun x=> !x.valid))) (fun i _=>n2-(intOf i).toNat)
   case atStart=>exact⟨0,by omega,rfl,Below.refl _ _,rfl⟩
   case round=>
    obtain⟨j,hj,rfl,hbw,hRR⟩:=hrel
    by_cases hlt:j<n2
    ·have hjt:j<L.length:=by have:=HN.out;omega
     have hz2:=ai (ai aI HZw2.out) hbw
     obtain⟨b,off,k0,a0,m0,q0,rfl,lb,e0,e1,ht⟩:=HL.out.at hz2 hjt
     have hcall:=HVL.out j hjt _ wr ht
     have hstep:=hRR.out.trans (HAD.out j hjt)
     generalize L[j].valid=z at hcall hstep
     have HC:=Lib.hid hcall
     have HS:=Lib.hid hstep
     clear hcall hstep hRR ht hz2
     cases z
     ·go_wp2_with fail
      refine HC.out.mono ?_
      rintro e w3 ⟨rfl,hb3⟩
      have HZw3:=Lib.hid (ai (ai HZw2.out hbw) hb3)
      clear hb3 hbw
      have z0:w3.cell? ⟨w.heap.size+1,0,none⟩=some (.int .i64 0):=a9 HZw3.out (ax 0)
      have y0:w3.frozen? ⟨w.heap.size+1,0,none⟩=false:=aw HZw3.out (ax 0) (aK 0)
      have z1:w3.cell? ⟨w.heap.size+1,1,none⟩=some (.string { data:=#[] }):=a9 HZw3.out (ax 1)
      have y1:w3.frozen? ⟨w.heap.size+1,1,none⟩=false:=aw HZw3.out (ax 1) (aK 1)
      have z2:w3.cell? ⟨w.heap.size+1,2,none⟩=some (.int .i64 0):=a9 HZw3.out (ax 2)
      have y2:w3.frozen? ⟨w.heap.size+1,2,none⟩=false:=aw HZw3.out (ax 2) (aK 2)
      have z3:w3.cell? ⟨w.heap.size+1,3,none⟩=some (.int .i64 0):=a9 HZw3.out (ax 3)
      have y3:w3.frozen? ⟨w.heap.size+1,3,none⟩=false:=aw HZw3.out (ax 3) (aK 3)
      have z4:w3.cell? ⟨w.heap.size+1,4,none⟩=some (.slice none 0 0):=a9 HZw3.out (ax 4)
      have y4:w3.frozen? ⟨w.heap.size+1,4,none⟩=false:=aw HZw3.out (ax 4) (aK 4)
      have z5:w3.cell? ⟨w.heap.size+1,5,none⟩=some (.int .i64 0):=a9 HZw3.out (ax 5)
      have y5:w3.frozen? ⟨w.heap.size+1,5,none⟩=false:=aw HZw3.out (ax 5) (aK 5)
      have z6:w3.cell? ⟨w.heap.size+1,6,none⟩=some (.slice none 0 0):=a9 HZw3.out (ax 6)
      have y6:w3.frozen? ⟨w.heap.size+1,6,none⟩=false:=aw HZw3.out (ax 6) (aK 6)
      have z7:w3.cell? ⟨w.heap.size+1,7,none⟩=some (.int .i64 0):=a9 HZw3.out (ax 7)
      have y7:w3.frozen? ⟨w.heap.size+1,7,none⟩=false:=aw HZw3.out (ax 7) (aK 7)
      have z8:w3.cell? ⟨w.heap.size+1,8,none⟩=some (.slice none 0 0):=a9 HZw3.out (ax 8)
      have y8:w3.frozen? ⟨w.heap.size+1,8,none⟩=false:=aw HZw3.out (ax 8) (aK 8)
      have lz0:=World.block_lt_of_cell? _ _ z0
      have HB6:=Lib.hid (ai aI HZw3.out)
      have hrf:rr=true:=by have:=HS.out;rw [HRR.out] at this;rw [this];rfl
      subst hrf
      obtain rfl:XB=false:=HX.out.1.symm
      obtain rfl:XT=Tm.zero:=HX.out.2.symm
      go_wp2_with fail
      refine bodyPost_ret (v:=.tuple #[.agg #[.int .i64 0,.string { data:=#[] },.int .i64 0,.int .i64 0,.slice none 0 0,.int .i64 0,.slice none 0 0,.int .i64 0,.slice none 0 0],.bool false]) (by simp [results,Try.results31,go_sem,z0,z1,z2,z3,z4,z5,z6,z7,z8]) rfl ?_
      exact⟨_,rfl,b3.nil (by show 0≤_;omega),(((((((((HB6.out).setCell (by show w.heap.size≤w.heap.size+1;omega) _).setCell (by show w.heap.size≤w.heap.size+1;omega) _).setCell (by show w.heap.size≤w.heap.size+1;omega) _).setCell (by show w.heap.size≤w.heap.size+1;omega) _).setCell (by show w.heap.size≤w.heap.size+1;omega) _).setCell (by show w.heap.size≤w.heap.size+1;omega) _).setCell (by show w.heap.size≤w.heap.size+1;omega) _).setCell (by show w.heap.size≤w.heap.size+1;omega) _).setCell (by show w.heap.size≤w.heap.size+1;omega) _⟩
     ·go_wp2_with fail
      refine HC.out.mono ?_
      rintro e w3 ⟨rfl,hb3⟩
      go_wp2_with fail
      go_roundw
      case rel=>exact⟨j+1,by omega,by go_num,ai hbw hb3,by rw [Hid,HS.out];rfl⟩
      case measure=>simp [intOf];omega
    ·have hrf:rr=false:=by rw [←HRR.out,hRR.out,List.drop_eq_nil_of_le (by have:=HN.out;omega)];rfl
     subst hrf
     have HZw3:=Lib.hid (ai HZw2.out hbw)
     clear hRR hbw
     obtain rfl:XB=true:=HX.out.1.symm
     obtain rfl:bt=XT:=HX.out.2
     have g0:wr.cell? ⟨w.heap.size,0,none⟩=some (.int .i64 k):=a9 HZw3.out (a9 ah (ao 0))
     have g1:wr.cell? ⟨w.heap.size,1,none⟩=some (.string nm):=a9 HZw3.out (a9 ah (ao 1))
     have g2:wr.cell? ⟨w.heap.size,2,none⟩=some (.int .i64 u):=a9 HZw3.out (a9 ah (ao 2))
     have g3:wr.cell? ⟨w.heap.size,3,none⟩=some (.int .i64 tk):=a9 HZw3.out (a9 ah (ao 3))
     have g4:wr.cell? ⟨w.heap.size,4,none⟩=some (.slice ta tn tq):=a9 HZw3.out (a9 ah (ao 4))
     have g5:wr.cell? ⟨w.heap.size,5,none⟩=some (.int .i64 fk):=a9 HZw3.out (a9 ah (ao 5))
     have g6:wr.cell? ⟨w.heap.size,6,none⟩=some (.slice fa fn fq):=a9 HZw3.out (a9 ah (ao 6))
     have g7:wr.cell? ⟨w.heap.size,7,none⟩=some (.int .i64 l):=a9 HZw3.out (a9 ah (ao 7))
     have g8:wr.cell? ⟨w.heap.size,8,none⟩=some (.slice c m q):=a9 HZw3.out (a9 ah (ao 8))
     have lg3:=World.block_lt_of_cell? _ _ g0
     go_wp2_with fail
     refine(HR2.out (by simp) _ (ai aI HZw3.out)).mono ?_
     rintro e w4 ⟨v1,rfl,hv1,hb4⟩
     obtain⟨k5,nm5,u5',tk5,ta5,tn5,tq5,fk5,fa5,fn5,fq5,l5,c5',m5,q5,rfl⟩:=hv1.shape
     have HZw4:=Lib.hid (ai (ai HZw3.out hb4) (ah (o:=.cells #[.int .i64 k5,.string nm5,.int .i64 u5',.int .i64 tk5,.slice ta5 tn5 tq5,.int .i64 fk5,.slice fa5 fn5 fq5,.int .i64 l5,.slice c5' m5 q5] 28)))
     have hsz:=HZw3.out.size
     simp at hsz
     have HV5:=Lib.hid (show b3 (w.heap.size+1+1) (w4.alloc (.cells #[.int .i64 k5,.string nm5,.int .i64 u5',.int .i64 tk5,.slice ta5 tn5 tq5,.int .i64 fk5,.slice fa5 fn5 fq5,.int .i64 l5,.slice c5' m5 q5] 28)) bt _ from(hv1.below ah).mono (by omega))
     clear lg3 g0 g1 g2 g3 g4 g5 g6 g7 g8 hv1
     have z0:(w4.alloc (.cells #[.int .i64 k5,.string nm5,.int .i64 u5',.int .i64 tk5,.slice ta5 tn5 tq5,.int .i64 fk5,.slice fa5 fn5 fq5,.int .i64 l5,.slice c5' m5 q5] 28)).cell? ⟨w.heap.size+1,0,none⟩=some (.int .i64 0):=a9 HZw4.out (ax 0)
     have y0:(w4.alloc (.cells #[.int .i64 k5,.string nm5,.int .i64 u5',.int .i64 tk5,.slice ta5 tn5 tq5,.int .i64 fk5,.slice fa5 fn5 fq5,.int .i64 l5,.slice c5' m5 q5] 28)).frozen? ⟨w.heap.size+1,0,none⟩=false:=aw HZw4.out (ax 0) (aK 0)
     have z1:(w4.alloc (.cells #[.int .i64 k5,.string nm5,.int .i64 u5',.int .i64 tk5,.slice ta5 tn5 tq5,.int .i64 fk5,.slice fa5 fn5 fq5,.int .i64 l5,.slice c5' m5 q5] 28)).cell? ⟨w.heap.size+1,1,none⟩=some (.string { data:=#[] }):=a9 HZw4.out (ax 1)
     have y1:(w4.alloc (.cells #[.int .i64 k5,.string nm5,.int .i64 u5',.int .i64 tk5,.slice ta5 tn5 tq5,.int .i64 fk5,.slice fa5 fn5 fq5,.int .i64 l5,.slice c5' m5 q5] 28)).frozen? ⟨w.heap.size+1,1,none⟩=false:=aw HZw4.out (ax 1) (aK 1)
     have z2:(w4.alloc (.cells #[.int .i64 k5,.string nm5,.int .i64 u5',.int .i64 tk5,.slice ta5 tn5 tq5,.int .i64 fk5,.slice fa5 fn5 fq5,.int .i64 l5,.slice c5' m5 q5] 28)).cell? ⟨w.heap.size+1,2,none⟩=some (.int .i64 0):=a9 HZw4.out (ax 2)
     have y2:(w4.alloc (.cells #[.int .i64 k5,.string nm5,.int .i64 u5',.int .i64 tk5,.slice ta5 tn5 tq5,.int .i64 fk5,.slice fa5 fn5 fq5,.int .i64 l5,.slice c5' m5 q5] 28)).frozen? ⟨w.heap.size+1,2,none⟩=false:=aw HZw4.out (ax 2) (aK 2)
     have z3:(w4.alloc (.cells #[.int .i64 k5,.string nm5,.int .i64 u5',.int .i64 tk5,.slice ta5 tn5 tq5,.int .i64 fk5,.slice fa5 fn5 fq5,.int .i64 l5,.slice c5' m5 q5] 28)).cell? ⟨w.heap.size+1,3,none⟩=some (.int .i64 0):=a9 HZw4.out (ax 3)
     have y3:(w4.alloc (.cells #[.int .i64 k5,.string nm5,.int .i64 u5',.int .i64 tk5,.slice ta5 tn5 tq5,.int .i64 fk5,.slice fa5 fn5 fq5,.int .i64 l5,.slice c5' m5 q5] 28)).frozen? ⟨w.heap.size+1,3,none⟩=false:=aw HZw4.out (ax 3) (aK 3)
     have z4:(w4.alloc (.cells #[.int .i64 k5,.string nm5,.int .i64 u5',.int .i64 tk5,.slice ta5 tn5 tq5,.int .i64 fk5,.slice fa5 fn5 fq5,.int .i64 l5,.slice c5' m5 q5] 28)).cell? ⟨w.heap.size+1,4,none⟩=some (.slice none 0 0):=a9 HZw4.out (ax 4)
     have y4:(w4.alloc (.cells #[.int .i64 k5,.string nm5,.int .i64 u5',.int .i64 tk5,.slice ta5 tn5 tq5,.int .i64 fk5,.slice fa5 fn5 fq5,.int .i64 l5,.slice c5' m5 q5] 28)).frozen? ⟨w.heap.size+1,4,none⟩=false:=aw HZw4.out (ax 4) (aK 4)
     have z5:(w4.alloc (.cells #[.int .i64 k5,.string nm5,.int .i64 u5',.int .i64 tk5,.slice ta5 tn5 tq5,.int .i64 fk5,.slice fa5 fn5 fq5,.int .i64 l5,.slice c5' m5 q5] 28)).cell? ⟨w.heap.size+1,5,none⟩=some (.int .i64 0):=a9 HZw4.out (ax 5)
     have y5:(w4.alloc (.cells #[.int .i64 k5,.string nm5,.int .i64 u5',.int .i64 tk5,.slice ta5 tn5 tq5,.int .i64 fk5,.slice fa5 fn5 fq5,.int .i64 l5,.slice c5' m5 q5] 28)).frozen? ⟨w.heap.size+1,5,none⟩=false:=aw HZw4.out (ax 5) (aK 5)
     have z6:(w4.alloc (.cells #[.int .i64 k5,.string nm5,.int .i64 u5',.int .i64 tk5,.slice ta5 tn5 tq5,.int .i64 fk5,.slice fa5 fn5 fq5,.int .i64 l5,.slice c5' m5 q5] 28)).cell? ⟨w.heap.size+1,6,none⟩=some (.slice none 0 0):=a9 HZw4.out (ax 6)
     have y6:(w4.alloc (.cells #[.int .i64 k5,.string nm5,.int .i64 u5',.int .i64 tk5,.slice ta5 tn5 tq5,.int .i64 fk5,.slice fa5 fn5 fq5,.int .i64 l5,.slice c5' m5 q5] 28)).frozen? ⟨w.heap.size+1,6,none⟩=false:=aw HZw4.out (ax 6) (aK 6)
     have z7:(w4.alloc (.cells #[.int .i64 k5,.string nm5,.int .i64 u5',.int .i64 tk5,.slice ta5 tn5 tq5,.int .i64 fk5,.slice fa5 fn5 fq5,.int .i64 l5,.slice c5' m5 q5] 28)).cell? ⟨w.heap.size+1,7,none⟩=some (.int .i64 0):=a9 HZw4.out (ax 7)
     have y7:(w4.alloc (.cells #[.int .i64 k5,.string nm5,.int .i64 u5',.int .i64 tk5,.slice ta5 tn5 tq5,.int .i64 fk5,.slice fa5 fn5 fq5,.int .i64 l5,.slice c5' m5 q5] 28)).frozen? ⟨w.heap.size+1,7,none⟩=false:=aw HZw4.out (ax 7) (aK 7)
     have z8:(w4.alloc (.cells #[.int .i64 k5,.string nm5,.int .i64 u5',.int .i64 tk5,.slice ta5 tn5 tq5,.int .i64 fk5,.slice fa5 fn5 fq5,.int .i64 l5,.slice c5' m5 q5] 28)).cell? ⟨w.heap.size+1,8,none⟩=some (.slice none 0 0):=a9 HZw4.out (ax 8)
     have y8:(w4.alloc (.cells #[.int .i64 k5,.string nm5,.int .i64 u5',.int .i64 tk5,.slice ta5 tn5 tq5,.int .i64 fk5,.slice fa5 fn5 fq5,.int .i64 l5,.slice c5' m5 q5] 28)).frozen? ⟨w.heap.size+1,8,none⟩=false:=aw HZw4.out (ax 8) (aK 8)
     have lz0:=World.block_lt_of_cell? _ _ z0
     simp only [World.size_alloc] at lz0
     have HB6:=Lib.hid (ai aI HZw4.out)
     have hz4:w.heap.size+1+1≤w4.heap.size:=by have:=(ai HZw3.out hb4).size;simp at this;omega
     clear hb4
     go_wp2_with fail
     refine bodyPost_ret (v:=.tuple #[.agg #[.int .i64 k5,.string nm5,.int .i64 u5',.int .i64 tk5,.slice ta5 tn5 tq5,.int .i64 fk5,.slice fa5 fn5 fq5,.int .i64 l5,.slice c5' m5 q5],.bool true]) (by simp [results,Try.results31,go_sem,z0,z1,z2,z3,z4,z5,z6,z7,z8]) rfl ?_
     exact⟨_,rfl,b3.mono ((((((((((HV5.out).setCell (by show w.heap.size+1<w.heap.size+1+1;omega) _).setCell (by show w.heap.size+1<w.heap.size+1+1;omega) _).setCell (by show w.heap.size+1<w.heap.size+1+1;omega) _).setCell (by show w.heap.size+1<w.heap.size+1+1;omega) _).setCell (by show w.heap.size+1<w.heap.size+1+1;omega) _).setCell (by show w.heap.size+1<w.heap.size+1+1;omega) _).setCell (by show w.heap.size+1<w.heap.size+1+1;omega) _).setCell (by show w.heap.size+1<w.heap.size+1+1;omega) _).setCell (by show w.heap.size+1<w.heap.size+1+1;omega) _) (by omega),(((((((((HB6.out).setCell (by show w.heap.size≤w.heap.size+1;omega) _).setCell (by show w.heap.size≤w.heap.size+1;omega) _).setCell (by show w.heap.size≤w.heap.size+1;omega) _).setCell (by show w.heap.size≤w.heap.size+1;omega) _).setCell (by show w.heap.size≤w.heap.size+1;omega) _).setCell (by show w.heap.size≤w.heap.size+1;omega) _).setCell (by show w.heap.size≤w.heap.size+1;omega) _).setCell (by show w.heap.size≤w.heap.size+1;omega) _).setCell (by show w.heap.size≤w.heap.size+1;omega) _⟩
 ·have hb:(va&&(decide (us.length=n) && !rr))=false:=by
   cases va
   ·rfl
   ·have:=HQ6.out rfl
    rw [decide_eq_false (by omega)];rfl
  rw [hb]
  simp only [Bool.false_eq_true,if_false]
  have hne1:((n2:Int)==(n:Int))=false:=by simp;omega
  have hne2:((n2:Int) != (n:Int))=true:=by simp only [bne,hne1];rfl
  have hne3 : ¬((n2:Int)=(n:Int)):=by omega
  clear hb hne
  go_enter Try.func31,Try.ntmps31
  go_wp2_with fail
  refine(HTx.out _ aI).mono ?_
  rintro e w1 ⟨a2,q2,rfl,hb1⟩
  have HZw1:=Lib.hid hb1
  clear hb1
  have HZw2:=HZw1
  have z0:w1.cell? ⟨w.heap.size+1,0,none⟩=some (.int .i64 0):=a9 HZw1.out (ax 0)
  have y0:w1.frozen? ⟨w.heap.size+1,0,none⟩=false:=aw HZw1.out (ax 0) (aK 0)
  have z1:w1.cell? ⟨w.heap.size+1,1,none⟩=some (.string { data:=#[] }):=a9 HZw1.out (ax 1)
  have y1:w1.frozen? ⟨w.heap.size+1,1,none⟩=false:=aw HZw1.out (ax 1) (aK 1)
  have z2:w1.cell? ⟨w.heap.size+1,2,none⟩=some (.int .i64 0):=a9 HZw1.out (ax 2)
  have y2:w1.frozen? ⟨w.heap.size+1,2,none⟩=false:=aw HZw1.out (ax 2) (aK 2)
  have z3:w1.cell? ⟨w.heap.size+1,3,none⟩=some (.int .i64 0):=a9 HZw1.out (ax 3)
  have y3:w1.frozen? ⟨w.heap.size+1,3,none⟩=false:=aw HZw1.out (ax 3) (aK 3)
  have z4:w1.cell? ⟨w.heap.size+1,4,none⟩=some (.slice none 0 0):=a9 HZw1.out (ax 4)
  have y4:w1.frozen? ⟨w.heap.size+1,4,none⟩=false:=aw HZw1.out (ax 4) (aK 4)
  have z5:w1.cell? ⟨w.heap.size+1,5,none⟩=some (.int .i64 0):=a9 HZw1.out (ax 5)
  have y5:w1.frozen? ⟨w.heap.size+1,5,none⟩=false:=aw HZw1.out (ax 5) (aK 5)
  have z6:w1.cell? ⟨w.heap.size+1,6,none⟩=some (.slice none 0 0):=a9 HZw1.out (ax 6)
  have y6:w1.frozen? ⟨w.heap.size+1,6,none⟩=false:=aw HZw1.out (ax 6) (aK 6)
  have z7:w1.cell? ⟨w.heap.size+1,7,none⟩=some (.int .i64 0):=a9 HZw1.out (ax 7)
  have y7:w1.frozen? ⟨w.heap.size+1,7,none⟩=false:=aw HZw1.out (ax 7) (aK 7)
  have z8:w1.cell? ⟨w.heap.size+1,8,none⟩=some (.slice none 0 0):=a9 HZw1.out (ax 8)
  have y8:w1.frozen? ⟨w.heap.size+1,8,none⟩=false:=aw HZw1.out (ax 8) (aK 8)
  have lz0:=World.block_lt_of_cell? _ _ z0
  have HB6:=Lib.hid (ai aI HZw2.out)
  go_wp2_with fail
  refine bodyPost_ret (v:=.tuple #[.agg #[.int .i64 0,.string { data:=#[] },.int .i64 0,.int .i64 0,.slice none 0 0,.int .i64 0,.slice none 0 0,.int .i64 0,.slice none 0 0],.bool false]) (by simp [results,Try.results31,go_sem,z0,z1,z2,z3,z4,z5,z6,z7,z8]) rfl ?_
  exact⟨_,rfl,b3.nil (by show 0≤_;omega),(((((((((HB6.out).setCell (by show w.heap.size≤w.heap.size+1;omega) _).setCell (by show w.heap.size≤w.heap.size+1;omega) _).setCell (by show w.heap.size≤w.heap.size+1;omega) _).setCell (by show w.heap.size≤w.heap.size+1;omega) _).setCell (by show w.heap.size≤w.heap.size+1;omega) _).setCell (by show w.heap.size≤w.heap.size+1;omega) _).setCell (by show w.heap.size≤w.heap.size+1;omega) _).setCell (by show w.heap.size≤w.heap.size+1;omega) _).setCell (by show w.heap.size≤w.heap.size+1;omega) _⟩
end Go.Proofs.Ytnaoghknnenfoaa
namespace Go.Proofs.Ytnaoghknnenfoaa
open Go.RowKit
theorem az.setFB {F:Nat→Prop}{w:World}{t:Tm}{y:Value}(h:az F w t y){p:Addr}(hp : ¬F p.block)(v:Value):az F (w.setCell p v) t y:=
 h.move ⟨by simp [World.setCell],fun _ h _=>h,fun b hb _=>Below.heap_setCell w p v b (fun e=>hp (e▸hb))⟩
theorem bA.tysB {B n:Nat}{e:TypeId}{w:World}{v:Value}{L:List Ty}(h:bA B e 2 w v n (Ty.rows L)):aF (B ≤ ·) w L v:=h.rep
theorem Tm.types_small (t:Tm):t.types.length≤30∧∀x∈t.types,x.cnt≤14:=by
 unfold Tm.types
 split
 ·rename_i h
  refine⟨(Tm.tys_ok h).1,fun x hx=>kB ?_⟩
  unfold Tm.valid at h
  simp only [Bool.and_eq_true] at h
  exact Tm.tys_valid t 12 h.1 x hx
 ·simp
theorem Tm.withT_cnt (t:Tm)(L:List Ty):(t.withT L).cnt≤510:=by
 by_cases h:t.withB L=true
 ·exact Tm.cnt_valid30 (Tm.with_law h).1
 ·unfold Tm.withT
  rw [if_neg h]
  decide
set_option maxHeartbeats 8000000 in
theorem j8 (r p:Nat)(t:Tm)(y:Value)(w:World)(hrd:aW w r p)(hy:az (· ≠ r) w t y)(hcnt:t.cnt≤5120)(hp:p≤990000000) :
  Calls Try.prog 12 #[.pointer (some ⟨r,0,none⟩),y] w (DTm r p 1000 5120 w):=by
 have hrl:=hrd.1
 obtain⟨k3,nm3,u3,tk3,ta3,tn3,tq3,fk3,fa3,fn3,fq3,l3,c3,m3,qq3,rfl⟩:=hy.shape
 have HRD:=Lib.hid hrd
 have HY:=Lib.hid hy
 have hNL:=Tm.types_small t
 have HWC:=Lib.hid (fun L=>Tm.withT_cnt t L)
 obtain⟨n,hn⟩ : ∃n,t.types.length=n:=⟨_,rfl⟩
 rw [hn] at hNL
 have hn30:=hNL.1
 have HSM:=Lib.hid hNL.2
 have HN:=Lib.hid hn
 clear hrd hy hNL hn
 go_enter Try.func12,Try.ntmps12
 go_wp2_with fail
 refine(jL _ t _ _ (HY.out.below aI)).mono ?_
 rintro e w4 ⟨lv,BL,rfl,hBL1,hBL2,hrow,hb4⟩
 simp only [World.size_alloc] at hBL1
 rw [HN.out] at hrow
 obtain⟨la,lq,rfl⟩:=hrow.shape
 have HB4:=Lib.hid (Chg.of_below (fp:= [r]) (ai aI hb4))
 have HR4:=Lib.hid (af (aD (w:=w.alloc (.cells #[.int .i64 k3,.string nm3,.int .i64 u3,.int .i64 tk3,.slice ta3 tn3 tq3,.int .i64 fk3,.slice fa3 fn3 fq3,.int .i64 l3,.slice c3 m3 qq3] 28)) (b:=w.heap.size+1) (by simp)) hb4)
 have HE4:Hid (w4.heap[w.heap.size]?=some (.cells #[.int .i64 k3,.string nm3,.int .i64 u3,.int .i64 tk3,.slice ta3 tn3 tq3,.int .i64 fk3,.slice fa3 fn3 fq3,.int .i64 l3,.slice c3 m3 qq3] 28 (0,0))):=Lib.hid (af (af (aD rfl) ah) hb4)
 have HT4:Hid (az (fun b=>b≠r∧b<w.heap.size) w4 t (.agg #[.int .i64 k3,.string nm3,.int .i64 u3,.int .i64 tk3,.slice ta3 tn3 tq3,.int .i64 fk3,.slice fa3 fn3 fq3,.int .i64 l3,.slice c3 m3 qq3])):=Lib.hid (((HY.out.move (G:=(fun b=>b≠r∧b<w.heap.size)) (.weaken fun b hb hl=>⟨hb,hl⟩)).below aI).below hb4)
 have HROW:=Lib.hid hrow
 have HRD4:=Lib.hid ((HRD.out.below aI).below hb4)
 have hBB:BL≤w4.heap.size:=hBL2
 clear hb4 hrow hBL2 HY HRD
 go_wp2_with fail
 go_loopw [6] (fun i wr=>∃(j q:Nat) (L:List Ty),j≤n∧i = .int .i64 (j:Int)∧q≤p+j*15∧BL≤wr.heap.size∧Hid (Chg [r] w wr)∧Hid (aW wr r q)∧Hid (wr.heap[w.heap.size+1]?=some (.cells #[.int .i64 0,.string { data:=#[] },.int .i64 0,.int .i64 0,.slice none 0 0,.int .i64 0,.slice none 0 0,.int .i64 0,.slice none 0 0] 28 (0,0)))∧Hid (wr.heap[w.heap.size]?=some (.cells #[.int .i64 k3,.string nm3,.int .i64 u3,.int .i64 tk3,.slice ta3 tn3 tq3,.int .i64 fk3,.slice fa3 fn3 fq3,.int .i64 l3,.slice c3 m3 qq3] 28 (0,0)))∧Hid (az (fun b=>b≠r∧b<w.heap.size) wr t (.agg #[.int .i64 k3,.string nm3,.int .i64 u3,.int .i64 tk3,.slice ta3 tn3 tq3,.int .i64 fk3,.slice fa3 fn3 fq3,.int .i64 l3,.slice c3 m3 qq3]))∧Hid (bA BL 25 2 wr (.slice la n lq) n (Ty.rows L))∧Hid (L.length=n)∧Hid (∀x∈L,x.cnt≤14)) (fun i _=>n-(intOf i).toNat)
 case atStart=>exact⟨0,p,t.types,by omega,rfl,by omega,hBB,HB4,HRD4,HR4,HE4,HT4,HROW,HN,HSM⟩
 case round=>
  obtain⟨j,q,L,hj,rfl,hq,hsz,fC,rd,hRr,hEr,hTr,hLr,hLn,hLc⟩:=hrel
  clear HB4 HR4 HE4 HT4 HRD4 HROW hBB HSM HN
  by_cases hlt:j<n
  ·obtain⟨g,lq',he,hg1,hg2,hnq,hlq⟩:=hLr.out.form (by omega)
   simp only [Value.slice.injEq,true_and] at he
   obtain⟨rfl,rfl⟩:=he
   unfold maxLen at hlq
   have hjn:(j:Int)<(n:Int):=by omega
   have hjl:j<L.length:=by rw [hLn.out];exact hlt
   obtain⟨b1,off1,k5,c5,m5,q5,he1,-,e0,e1,ht5⟩:=hLr.out.tysB.at (Below.refl _ _) hjl
   simp only [Option.some.injEq,Addr.mk.injEq,and_true] at he1
   obtain⟨rfl,rfl⟩:=he1
   simp only [Nat.zero_add] at e0 e1
   have hc14:=hLc.out _ (List.getElem_mem hjl)
   have ht5':=ht5.move (G:=(· ≠ r)) (.weaken fun b hb _=>by have h1:BL≤b:=hb;omega)
   have HBL:=Lib.hid (dH L[j] r q _ _ rd.out ht5' (by omega) (by omega))
   obtain⟨tj,htj⟩ : ∃x,L[j]=x:=⟨_,rfl⟩
   rw [htj] at HBL hc14
   clear ht5 ht5' htj
   go_wp2_with fail
   refine HBL.out.mono ?_
   rintro e w5 ⟨t6,v6,q6,rfl,hn6,hv6,hq6,hrd6,hc6⟩
   obtain⟨k6,a6,n6,cc6,rfl⟩:=hv6.shape
   have hs6:=hc6.size
   have hL6:=hLr.out.chg hc6 (by omega)
   obtain⟨⟨u0,x0⟩,f0⟩:=hL6.cell (o:=j*2) (by omega)
   obtain⟨⟨u1,x1⟩,f1⟩:=hL6.cell (o:=j*2+1) (by omega)
   have hv6':ap (fun b=>BL≤b∧b≠g) w5 t6 _:=hv6.rep.move (.weaken fun b hb _=>by have:wr.heap.size≤b:=hb;exact⟨by omega,by omega⟩)
   have HL6:=Lib.hid (hL6.setTy hlt hv6')
   have HC6:=Lib.hid (Chg.trans fC.out hc6)
   have HR6:=Lib.hid (aB hRr.out hc6 (by omega))
   have HE6:=Lib.hid (aB hEr.out hc6 (by omega))
   have HT6:=Lib.hid (az.chg hc6 (fun b hb=>by have:=hb.1;simpa using this) hTr.out)
   have HRD6:=Lib.hid hrd6
   have HLN6:Hid ((L.set j t6).length=n):=Lib.hid (by rw [List.length_set];exact hLn.out)
   have HLC6:Hid (∀x∈L.set j t6,x.cnt≤14):=Lib.hid (fun x hx=>by
     rcases List.mem_or_eq_of_mem_set hx with h | h
     · exact hLc.out x h
     · rw [h];have:=hn6.1;omega)
   have lg6:g<w5.heap.size:=by omega
   clear hL6 hv6 hv6' hc6 fC rd hRr hEr hTr hLr hLn hLc hrd6 HBL hn6 hjl e0 e1
   go_wp2_with fail
   go_roundw
   case rel=>
    exact⟨j+1,q6,L.set j t6,by omega,by go_num,by omega,by simp [World.setCell];omega,Lib.hid ((HC6.out.trans' (by show w.heap.size≤g;omega) _).trans' (by show w.heap.size≤g;omega) _),Lib.hid ((HRD6.out.setCell (a:=⟨g,j*2,none⟩) (by show r<g;omega) _).setCell (a:=⟨g,j*2+1,none⟩) (by show r<g;omega) _),Lib.hid (di (di HR6.out (by show w.heap.size+1≠g;omega)) (by show w.heap.size+1≠g;omega)),Lib.hid (di (di HE6.out (by show w.heap.size≠g;omega)) (by show w.heap.size≠g;omega)),
      Lib.hid ((HT6.out.setFB (p:=⟨g,j*2,none⟩) (fun h=>by have:=h.2;simp at this;omega) _).setFB (p:=⟨g,j*2+1,none⟩) (fun h=>by have:=h.2;simp at this;omega) _),HL6,HLN6,HLC6⟩
   case measure=>simp [intOf];omega
  ·have hjn : ¬((j:Int)<(n:Int)):=by omega
   have hWT:=Lib.hid (kK _ _ t L _ _ _ hTr.out hLr.out.tysB (by omega))
   have hE:=hEr.out
   obtain⟨y0,y1,y2,y3,y4,y5,y6,y7,y8⟩:=blk9 hE
   have lyE:=al hE
   clear hE
   go_wp2_with fail
   refine hWT.out.mono ?_
   rintro e w5 ⟨v,rfl,hv,hb⟩
   obtain⟨kt2,nm2,ut2,tk2,ta2,tn2,tq2,fk2,fa2,fn2,fq2,lt2,ct2,mt2,qt2,rfl⟩:=hv.shape
   clear y0 y1 y2 y3 y4 y5 y6 y7 y8 hWT
   have hs5:=hb.size
   have hbw:=ah (w:=w5) (o:=.cells #[.int .i64 kt2,.string nm2,.int .i64 ut2,.int .i64 tk2,.slice ta2 tn2 tq2,.int .i64 fk2,.slice fa2 fn2 fq2,.int .i64 lt2,.slice ct2 mt2 qt2] 28)
   have fC5:=Lib.hid ((fC.out.trans (Chg.of_below hb)).trans (Chg.of_below hbw))
   have rd5:=Lib.hid ((rd.out.below hb).below hbw)
   have fR:=af (af hRr.out hb) hbw
   have HV5:=Lib.hid (hv.rep.below hbw)
   obtain⟨bb,hbb⟩ : ∃b,t.withB L=b:=⟨_,rfl⟩
   rw [hbb]
   clear hb hv hbw hRr hEr hTr hLr fC rd hbb
   obtain⟨x0,f0,x1,f1,x2,f2,x3,f3,x4,f4,x5,f5,x6,f6,x7,f7,x8,f8⟩:=blk9f fR
   have lxR:=al fR
   have hcc:=HWC.out L
   have hRR:=HV5.out.move (G:=(w.heap.size+2 ≤ ·)) (.weaken fun b h _=>by have h1:wr.heap.size≤b:=h;show w.heap.size+2≤b;omega)
   have HEND:=Lib.hid (DTm.stored (p:=p) (r:=r) (w:=w) (R:=w.heap.size+1) (B:=w.heap.size+2) (c:=1000) (m:=5120) (v0:=.int .i64 kt2) (v1:=.string nm2) (v2:=.int .i64 ut2) (v3:=.int .i64 tk2) (v4:=.slice ta2 tn2 tq2) (v5:=.int .i64 fk2) (v6:=.slice fa2 fn2 fq2) (v7:=.int .i64 lt2) (v8:=.slice ct2 mt2 qt2) hRR (by omega) (by omega) (by omega) rd5.out fC5.out (by omega) (by omega) (by omega))
   clear hRR hcc HV5 HWC
   go_wp2_with fail
   refine bodyPost_ret (v:=.agg #[.int .i64 kt2,.string nm2,.int .i64 ut2,.int .i64 tk2,.slice ta2 tn2 tq2,.int .i64 fk2,.slice fa2 fn2 fq2,.int .i64 lt2,.slice ct2 mt2 qt2]) (by simp [results,Try.results12,go_sem,x0,x1,x2,x3,x4,x5,x6,x7,x8]) rfl ?_
   exact HEND.out
end Go.Proofs.Ytnaoghknnenfoaa

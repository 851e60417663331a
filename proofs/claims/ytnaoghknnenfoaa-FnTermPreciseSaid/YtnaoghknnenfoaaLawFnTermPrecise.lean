/-
  The law FnTermPrecise.
-/
import Derived.Test.YtnaoghknnenfoaaDrTri
import Derived.Test.YtnaoghknnenfoaaB18
import Derived.Test.YtnaoghknnenfoaaTmPrec
import Derived.Test.YtnaoghknnenfoaaB18
import Derived.Test.YtnaoghknnenfoaaTmSame
set_option linter.unusedSimpArgs false
set_option linter.unusedVariables false
set_option maxRecDepth 100000
namespace Go.Proofs.Ytnaoghknnenfoaa
open Go.RowKit
set_option maxHeartbeats 8000000 in
theorem walk_FnTermPrecise (y0:Value)(w:World)(r0:cj w w.heap.size y0):Calls Try.prog 3 #[y0] w fun e w'=>e = .returned (.bool true)∧Below w.heap.size w w':=by
 have HD:=Lib.hid (jK y0 w r0)
 obtain⟨a0,n0,q0,rfl⟩:=r0.shape
 clear r0
 rcases Bool.eq_false_or_eq_true (decide ((n0:Int)>1048576)) with hq | hq
 ·go_enter Try.func3,Try.ntmps3
  go_wp2_with fail
  go_ret
  exact⟨rfl,Below.refl _ _⟩
 go_enter Try.func3,Try.ntmps3
 go_wp2_with fail
 refine HD.out.mono ?_
 rintro e w1 ⟨t1,t2,t3,v1,v2,v3,rfl,hc1,hc2,hc3,hv1,hv2,hv3,hb1⟩
 obtain⟨kt1,nm1,ut1,tk1,ta1,tn1,tq1,fk1,fa1,fn1,fq1,lt1,ct1,mt1,qt1,rfl⟩:=hv1.shape
 obtain⟨kt2,nm2,ut2,tk2,ta2,tn2,tq2,fk2,fa2,fn2,fq2,lt2,ct2,mt2,qt2,rfl⟩:=hv2.shape
 obtain⟨kt3,nm3,ut3,tk3,ta3,tn3,tq3,fk3,fa3,fn3,fq3,lt3,ct3,mt3,qt3,rfl⟩:=hv3.shape
 have HB1:=Lib.hid hb1
 have HV:=Lib.hid (fun W (k:Below w1.heap.size w1 W)=>cO _ t1 _ W (hv1.below k))
 have HE:=Lib.hid (fun W (k:Below w1.heap.size w1 W)=>kS _ t1 _ W (hv1.below k) (by omega))
 have HSM:=Lib.hid (fun W (k:Below w1.heap.size w1 W)=>fW _ _ t1 t2 _ _ W (hv1.below k) (hv2.below k))
 have HI12:=Lib.hid (fun W (k:Below w1.heap.size w1 W)=>cb _ _ t1 t2 _ _ W (hv1.below k) (hv2.below k))
 have HI23:=Lib.hid (fun W (k:Below w1.heap.size w1 W)=>cb _ _ t2 t3 _ _ W (hv2.below k) (hv3.below k))
 have HI11:=Lib.hid (fun W (k:Below w1.heap.size w1 W)=>cb _ _ t1 t1 _ _ W (hv1.below k) (hv1.below k))
 have HI13:=Lib.hid (fun W (k:Below w1.heap.size w1 W)=>cb _ _ t1 t3 _ _ W (hv1.below k) (hv3.below k))
 have HI21:=Lib.hid (fun W (k:Below w1.heap.size w1 W)=>cb _ _ t2 t1 _ _ W (hv2.below k) (hv1.below k))
 have HS12:=Lib.hid (fun W (k:Below w1.heap.size w1 W)=>dy _ _ t1 t2 _ _ W (hv1.below k) (hv2.below k))
 have HS23:=Lib.hid (fun W (k:Below w1.heap.size w1 W)=>dy _ _ t2 t3 _ _ W (hv2.below k) (hv3.below k))
 have HAX:=Lib.hid (fun W F v (k:Below w1.heap.size w1 W) (h:az F W t1.eraseT v)=>cb _ _ t1 t1.eraseT _ v W (hv1.below k) h)
 have hlaw:=Tm.prec_law t1 t2 t3
 have hEr:=hv1
 clear hEr hv1 hv2 hv3 hb1 hq HD hc1 hc2 hc3
 generalize t1.valid=va at HV HE hlaw
 generalize t1.precB t2=p at HI12 HS12 hlaw
 generalize t2.precB t3=q at HI23 HS23 hlaw
 generalize t1.precB t1=paa at HI11 hlaw
 generalize t1.precB t3=pac at HI13 hlaw
 generalize t2.precB t1=pba at HI21 hlaw
 generalize t1.same t2=sm at HSM hlaw
 generalize t1.precB t1.eraseT=pax at HAX hlaw
 generalize t1.eraseT=te at HAX HE
 have HLAW:=Lib.hid hlaw
 clear hlaw
 have fA:(((w1.alloc (.cells #[.int .i64 kt1,.string nm1,.int .i64 ut1,.int .i64 tk1,.slice ta1 tn1 tq1,.int .i64 fk1,.slice fa1 fn1 fq1,.int .i64 lt1,.slice ct1 mt1 qt1] 28)).alloc (.cells #[.int .i64 kt2,.string nm2,.int .i64 ut2,.int .i64 tk2,.slice ta2 tn2 tq2,.int .i64 fk2,.slice fa2 fn2 fq2,.int .i64 lt2,.slice ct2 mt2 qt2] 28)).alloc (.cells #[.int .i64 kt3,.string nm3,.int .i64 ut3,.int .i64 tk3,.slice ta3 tn3 tq3,.int .i64 fk3,.slice fa3 fn3 fq3,.int .i64 lt3,.slice ct3 mt3 qt3] 28)).heap[w1.heap.size]?=some (.cells #[.int .i64 kt1,.string nm1,.int .i64 ut1,.int .i64 tk1,.slice ta1 tn1 tq1,.int .i64 fk1,.slice fa1 fn1 fq1,.int .i64 lt1,.slice ct1 mt1 qt1] 28 (0,0)):=af (af (aD rfl) ah) ah
 have fB:(((w1.alloc (.cells #[.int .i64 kt1,.string nm1,.int .i64 ut1,.int .i64 tk1,.slice ta1 tn1 tq1,.int .i64 fk1,.slice fa1 fn1 fq1,.int .i64 lt1,.slice ct1 mt1 qt1] 28)).alloc (.cells #[.int .i64 kt2,.string nm2,.int .i64 ut2,.int .i64 tk2,.slice ta2 tn2 tq2,.int .i64 fk2,.slice fa2 fn2 fq2,.int .i64 lt2,.slice ct2 mt2 qt2] 28)).alloc (.cells #[.int .i64 kt3,.string nm3,.int .i64 ut3,.int .i64 tk3,.slice ta3 tn3 tq3,.int .i64 fk3,.slice fa3 fn3 fq3,.int .i64 lt3,.slice ct3 mt3 qt3] 28)).heap[w1.heap.size+1]?=some (.cells #[.int .i64 kt2,.string nm2,.int .i64 ut2,.int .i64 tk2,.slice ta2 tn2 tq2,.int .i64 fk2,.slice fa2 fn2 fq2,.int .i64 lt2,.slice ct2 mt2 qt2] 28 (0,0)):=af (aD (by simp)) ah
 have fC:(((w1.alloc (.cells #[.int .i64 kt1,.string nm1,.int .i64 ut1,.int .i64 tk1,.slice ta1 tn1 tq1,.int .i64 fk1,.slice fa1 fn1 fq1,.int .i64 lt1,.slice ct1 mt1 qt1] 28)).alloc (.cells #[.int .i64 kt2,.string nm2,.int .i64 ut2,.int .i64 tk2,.slice ta2 tn2 tq2,.int .i64 fk2,.slice fa2 fn2 fq2,.int .i64 lt2,.slice ct2 mt2 qt2] 28)).alloc (.cells #[.int .i64 kt3,.string nm3,.int .i64 ut3,.int .i64 tk3,.slice ta3 tn3 tq3,.int .i64 fk3,.slice fa3 fn3 fq3,.int .i64 lt3,.slice ct3 mt3 qt3] 28)).heap[w1.heap.size+1+1]?=some (.cells #[.int .i64 kt3,.string nm3,.int .i64 ut3,.int .i64 tk3,.slice ta3 tn3 tq3,.int .i64 fk3,.slice fa3 fn3 fq3,.int .i64 lt3,.slice ct3 mt3 qt3] 28 (0,0)):=aD (by simp)
 have hB:Below w1.heap.size w1 (((w1.alloc (.cells #[.int .i64 kt1,.string nm1,.int .i64 ut1,.int .i64 tk1,.slice ta1 tn1 tq1,.int .i64 fk1,.slice fa1 fn1 fq1,.int .i64 lt1,.slice ct1 mt1 qt1] 28)).alloc (.cells #[.int .i64 kt2,.string nm2,.int .i64 ut2,.int .i64 tk2,.slice ta2 tn2 tq2,.int .i64 fk2,.slice fa2 fn2 fq2,.int .i64 lt2,.slice ct2 mt2 qt2] 28)).alloc (.cells #[.int .i64 kt3,.string nm3,.int .i64 ut3,.int .i64 tk3,.slice ta3 tn3 tq3,.int .i64 fk3,.slice fa3 fn3 fq3,.int .i64 lt3,.slice ct3 mt3 qt3] 28)):=bS
 cases va with
 | false=>
  clear HE HSM HI11 HI13 HI21 HAX HLAW
  cases p with
  | false=>
   cases q with
   | false=>
    go_wp2_with fail
    refine(HI12.out _ hB).mono ?_
    rintro e w2 ⟨rfl,hb⟩
    replace fA:=af fA hb;replace fB:=af fB hb;replace fC:=af fC hb
    replace hB:=ai hB hb
    clear hb
    obtain⟨xa0,xa1,xa2,xa3,xa4,xa5,xa6,xa7,xa8⟩:=blk9 fA
    have la:=al fA
    obtain⟨xb0,xb1,xb2,xb3,xb4,xb5,xb6,xb7,xb8⟩:=blk9 fB
    have lb:=al fB
    obtain⟨xc0,xc1,xc2,xc3,xc4,xc5,xc6,xc7,xc8⟩:=blk9 fC
    have lc:=al fC
    go_wp2_with fail
    refine(HI23.out _ hB).mono ?_
    rintro e w3 ⟨rfl,hb⟩
    clear xa0 xa1 xa2 xa3 xa4 xa5 xa6 xa7 xa8 xb0 xb1 xb2 xb3 xb4 xb5 xb6 xb7 xb8 xc0 xc1 xc2 xc3 xc4 xc5 xc6 xc7 xc8 la lb lc
    replace fA:=af fA hb;replace fB:=af fB hb;replace fC:=af fC hb
    replace hB:=ai hB hb
    clear hb
    obtain⟨xa0,xa1,xa2,xa3,xa4,xa5,xa6,xa7,xa8⟩:=blk9 fA
    have la:=al fA
    obtain⟨xb0,xb1,xb2,xb3,xb4,xb5,xb6,xb7,xb8⟩:=blk9 fB
    have lb:=al fB
    obtain⟨xc0,xc1,xc2,xc3,xc4,xc5,xc6,xc7,xc8⟩:=blk9 fC
    have lc:=al fC
    go_wp2_with fail
    refine(HS12.out _ hB).mono ?_
    rintro e w4 ⟨rfl,hb⟩
    clear xa0 xa1 xa2 xa3 xa4 xa5 xa6 xa7 xa8 xb0 xb1 xb2 xb3 xb4 xb5 xb6 xb7 xb8 xc0 xc1 xc2 xc3 xc4 xc5 xc6 xc7 xc8 la lb lc
    replace fA:=af fA hb;replace fB:=af fB hb;replace fC:=af fC hb
    replace hB:=ai hB hb
    clear hb
    obtain⟨xa0,xa1,xa2,xa3,xa4,xa5,xa6,xa7,xa8⟩:=blk9 fA
    have la:=al fA
    obtain⟨xb0,xb1,xb2,xb3,xb4,xb5,xb6,xb7,xb8⟩:=blk9 fB
    have lb:=al fB
    obtain⟨xc0,xc1,xc2,xc3,xc4,xc5,xc6,xc7,xc8⟩:=blk9 fC
    have lc:=al fC
    go_wp2_with fail
    refine(HS23.out _ hB).mono ?_
    rintro e w5 ⟨rfl,hb⟩
    clear xa0 xa1 xa2 xa3 xa4 xa5 xa6 xa7 xa8 xb0 xb1 xb2 xb3 xb4 xb5 xb6 xb7 xb8 xc0 xc1 xc2 xc3 xc4 xc5 xc6 xc7 xc8 la lb lc
    replace fA:=af fA hb;replace fB:=af fB hb;replace fC:=af fC hb
    replace hB:=ai hB hb
    clear hb
    obtain⟨xa0,xa1,xa2,xa3,xa4,xa5,xa6,xa7,xa8⟩:=blk9 fA
    have la:=al fA
    obtain⟨xb0,xb1,xb2,xb3,xb4,xb5,xb6,xb7,xb8⟩:=blk9 fB
    have lb:=al fB
    obtain⟨xc0,xc1,xc2,xc3,xc4,xc5,xc6,xc7,xc8⟩:=blk9 fC
    have lc:=al fC
    go_wp2_with fail
    refine(HV.out _ hB).mono ?_
    rintro e w6 ⟨rfl,hb⟩
    clear xa0 xa1 xa2 xa3 xa4 xa5 xa6 xa7 xa8 xb0 xb1 xb2 xb3 xb4 xb5 xb6 xb7 xb8 xc0 xc1 xc2 xc3 xc4 xc5 xc6 xc7 xc8 la lb lc
    replace fA:=af fA hb;replace fB:=af fB hb;replace fC:=af fC hb
    replace hB:=ai hB hb
    clear hb
    obtain⟨xa0,xa1,xa2,xa3,xa4,xa5,xa6,xa7,xa8⟩:=blk9 fA
    have la:=al fA
    obtain⟨xb0,xb1,xb2,xb3,xb4,xb5,xb6,xb7,xb8⟩:=blk9 fB
    have lb:=al fB
    obtain⟨xc0,xc1,xc2,xc3,xc4,xc5,xc6,xc7,xc8⟩:=blk9 fC
    have lc:=al fC
    go_wp2_with fail
    refine(HS12.out _ hB).mono ?_
    rintro e w7 ⟨rfl,hb⟩
    clear xa0 xa1 xa2 xa3 xa4 xa5 xa6 xa7 xa8 xb0 xb1 xb2 xb3 xb4 xb5 xb6 xb7 xb8 xc0 xc1 xc2 xc3 xc4 xc5 xc6 xc7 xc8 la lb lc
    replace fA:=af fA hb;replace fB:=af fB hb;replace fC:=af fC hb
    replace hB:=ai hB hb
    clear hb
    obtain⟨xa0,xa1,xa2,xa3,xa4,xa5,xa6,xa7,xa8⟩:=blk9 fA
    have la:=al fA
    obtain⟨xb0,xb1,xb2,xb3,xb4,xb5,xb6,xb7,xb8⟩:=blk9 fB
    have lb:=al fB
    obtain⟨xc0,xc1,xc2,xc3,xc4,xc5,xc6,xc7,xc8⟩:=blk9 fC
    have lc:=al fC
    go_wp2_with fail
    refine(HS23.out _ hB).mono ?_
    rintro e w8 ⟨rfl,hb⟩
    clear xa0 xa1 xa2 xa3 xa4 xa5 xa6 xa7 xa8 xb0 xb1 xb2 xb3 xb4 xb5 xb6 xb7 xb8 xc0 xc1 xc2 xc3 xc4 xc5 xc6 xc7 xc8 la lb lc
    replace fA:=af fA hb;replace fB:=af fB hb;replace fC:=af fC hb
    replace hB:=ai hB hb
    clear hb
    go_wp2_with fail
    go_ret
    exact⟨rfl,ai HB1.out hB⟩
   | true=>
    go_wp2_with fail
    refine(HI12.out _ hB).mono ?_
    rintro e w2 ⟨rfl,hb⟩
    replace fA:=af fA hb;replace fB:=af fB hb;replace fC:=af fC hb
    replace hB:=ai hB hb
    clear hb
    obtain⟨xa0,xa1,xa2,xa3,xa4,xa5,xa6,xa7,xa8⟩:=blk9 fA
    have la:=al fA
    obtain⟨xb0,xb1,xb2,xb3,xb4,xb5,xb6,xb7,xb8⟩:=blk9 fB
    have lb:=al fB
    obtain⟨xc0,xc1,xc2,xc3,xc4,xc5,xc6,xc7,xc8⟩:=blk9 fC
    have lc:=al fC
    go_wp2_with fail
    refine(HI23.out _ hB).mono ?_
    rintro e w3 ⟨rfl,hb⟩
    clear xa0 xa1 xa2 xa3 xa4 xa5 xa6 xa7 xa8 xb0 xb1 xb2 xb3 xb4 xb5 xb6 xb7 xb8 xc0 xc1 xc2 xc3 xc4 xc5 xc6 xc7 xc8 la lb lc
    replace fA:=af fA hb;replace fB:=af fB hb;replace fC:=af fC hb
    replace hB:=ai hB hb
    clear hb
    obtain⟨xa0,xa1,xa2,xa3,xa4,xa5,xa6,xa7,xa8⟩:=blk9 fA
    have la:=al fA
    obtain⟨xb0,xb1,xb2,xb3,xb4,xb5,xb6,xb7,xb8⟩:=blk9 fB
    have lb:=al fB
    obtain⟨xc0,xc1,xc2,xc3,xc4,xc5,xc6,xc7,xc8⟩:=blk9 fC
    have lc:=al fC
    go_wp2_with fail
    refine(HS12.out _ hB).mono ?_
    rintro e w4 ⟨rfl,hb⟩
    clear xa0 xa1 xa2 xa3 xa4 xa5 xa6 xa7 xa8 xb0 xb1 xb2 xb3 xb4 xb5 xb6 xb7 xb8 xc0 xc1 xc2 xc3 xc4 xc5 xc6 xc7 xc8 la lb lc
    replace fA:=af fA hb;replace fB:=af fB hb;replace fC:=af fC hb
    replace hB:=ai hB hb
    clear hb
    obtain⟨xa0,xa1,xa2,xa3,xa4,xa5,xa6,xa7,xa8⟩:=blk9 fA
    have la:=al fA
    obtain⟨xb0,xb1,xb2,xb3,xb4,xb5,xb6,xb7,xb8⟩:=blk9 fB
    have lb:=al fB
    obtain⟨xc0,xc1,xc2,xc3,xc4,xc5,xc6,xc7,xc8⟩:=blk9 fC
    have lc:=al fC
    go_wp2_with fail
    refine(HS23.out _ hB).mono ?_
    rintro e w5 ⟨rfl,hb⟩
    clear xa0 xa1 xa2 xa3 xa4 xa5 xa6 xa7 xa8 xb0 xb1 xb2 xb3 xb4 xb5 xb6 xb7 xb8 xc0 xc1 xc2 xc3 xc4 xc5 xc6 xc7 xc8 la lb lc
    replace fA:=af fA hb;replace fB:=af fB hb;replace fC:=af fC hb
    replace hB:=ai hB hb
    clear hb
    obtain⟨xa0,xa1,xa2,xa3,xa4,xa5,xa6,xa7,xa8⟩:=blk9 fA
    have la:=al fA
    obtain⟨xb0,xb1,xb2,xb3,xb4,xb5,xb6,xb7,xb8⟩:=blk9 fB
    have lb:=al fB
    obtain⟨xc0,xc1,xc2,xc3,xc4,xc5,xc6,xc7,xc8⟩:=blk9 fC
    have lc:=al fC
    go_wp2_with fail
    refine(HV.out _ hB).mono ?_
    rintro e w6 ⟨rfl,hb⟩
    clear xa0 xa1 xa2 xa3 xa4 xa5 xa6 xa7 xa8 xb0 xb1 xb2 xb3 xb4 xb5 xb6 xb7 xb8 xc0 xc1 xc2 xc3 xc4 xc5 xc6 xc7 xc8 la lb lc
    replace fA:=af fA hb;replace fB:=af fB hb;replace fC:=af fC hb
    replace hB:=ai hB hb
    clear hb
    obtain⟨xa0,xa1,xa2,xa3,xa4,xa5,xa6,xa7,xa8⟩:=blk9 fA
    have la:=al fA
    obtain⟨xb0,xb1,xb2,xb3,xb4,xb5,xb6,xb7,xb8⟩:=blk9 fB
    have lb:=al fB
    obtain⟨xc0,xc1,xc2,xc3,xc4,xc5,xc6,xc7,xc8⟩:=blk9 fC
    have lc:=al fC
    go_wp2_with fail
    refine(HS12.out _ hB).mono ?_
    rintro e w7 ⟨rfl,hb⟩
    clear xa0 xa1 xa2 xa3 xa4 xa5 xa6 xa7 xa8 xb0 xb1 xb2 xb3 xb4 xb5 xb6 xb7 xb8 xc0 xc1 xc2 xc3 xc4 xc5 xc6 xc7 xc8 la lb lc
    replace fA:=af fA hb;replace fB:=af fB hb;replace fC:=af fC hb
    replace hB:=ai hB hb
    clear hb
    obtain⟨xa0,xa1,xa2,xa3,xa4,xa5,xa6,xa7,xa8⟩:=blk9 fA
    have la:=al fA
    obtain⟨xb0,xb1,xb2,xb3,xb4,xb5,xb6,xb7,xb8⟩:=blk9 fB
    have lb:=al fB
    obtain⟨xc0,xc1,xc2,xc3,xc4,xc5,xc6,xc7,xc8⟩:=blk9 fC
    have lc:=al fC
    go_wp2_with fail
    refine(HS23.out _ hB).mono ?_
    rintro e w8 ⟨rfl,hb⟩
    clear xa0 xa1 xa2 xa3 xa4 xa5 xa6 xa7 xa8 xb0 xb1 xb2 xb3 xb4 xb5 xb6 xb7 xb8 xc0 xc1 xc2 xc3 xc4 xc5 xc6 xc7 xc8 la lb lc
    replace fA:=af fA hb;replace fB:=af fB hb;replace fC:=af fC hb
    replace hB:=ai hB hb
    clear hb
    go_wp2_with fail
    go_ret
    exact⟨rfl,ai HB1.out hB⟩
  | true=>
   cases q with
   | false=>
    go_wp2_with fail
    refine(HI12.out _ hB).mono ?_
    rintro e w2 ⟨rfl,hb⟩
    replace fA:=af fA hb;replace fB:=af fB hb;replace fC:=af fC hb
    replace hB:=ai hB hb
    clear hb
    obtain⟨xa0,xa1,xa2,xa3,xa4,xa5,xa6,xa7,xa8⟩:=blk9 fA
    have la:=al fA
    obtain⟨xb0,xb1,xb2,xb3,xb4,xb5,xb6,xb7,xb8⟩:=blk9 fB
    have lb:=al fB
    obtain⟨xc0,xc1,xc2,xc3,xc4,xc5,xc6,xc7,xc8⟩:=blk9 fC
    have lc:=al fC
    go_wp2_with fail
    refine(HI23.out _ hB).mono ?_
    rintro e w3 ⟨rfl,hb⟩
    clear xa0 xa1 xa2 xa3 xa4 xa5 xa6 xa7 xa8 xb0 xb1 xb2 xb3 xb4 xb5 xb6 xb7 xb8 xc0 xc1 xc2 xc3 xc4 xc5 xc6 xc7 xc8 la lb lc
    replace fA:=af fA hb;replace fB:=af fB hb;replace fC:=af fC hb
    replace hB:=ai hB hb
    clear hb
    obtain⟨xa0,xa1,xa2,xa3,xa4,xa5,xa6,xa7,xa8⟩:=blk9 fA
    have la:=al fA
    obtain⟨xb0,xb1,xb2,xb3,xb4,xb5,xb6,xb7,xb8⟩:=blk9 fB
    have lb:=al fB
    obtain⟨xc0,xc1,xc2,xc3,xc4,xc5,xc6,xc7,xc8⟩:=blk9 fC
    have lc:=al fC
    go_wp2_with fail
    refine(HS12.out _ hB).mono ?_
    rintro e w4 ⟨rfl,hb⟩
    clear xa0 xa1 xa2 xa3 xa4 xa5 xa6 xa7 xa8 xb0 xb1 xb2 xb3 xb4 xb5 xb6 xb7 xb8 xc0 xc1 xc2 xc3 xc4 xc5 xc6 xc7 xc8 la lb lc
    replace fA:=af fA hb;replace fB:=af fB hb;replace fC:=af fC hb
    replace hB:=ai hB hb
    clear hb
    obtain⟨xa0,xa1,xa2,xa3,xa4,xa5,xa6,xa7,xa8⟩:=blk9 fA
    have la:=al fA
    obtain⟨xb0,xb1,xb2,xb3,xb4,xb5,xb6,xb7,xb8⟩:=blk9 fB
    have lb:=al fB
    obtain⟨xc0,xc1,xc2,xc3,xc4,xc5,xc6,xc7,xc8⟩:=blk9 fC
    have lc:=al fC
    go_wp2_with fail
    refine(HS23.out _ hB).mono ?_
    rintro e w5 ⟨rfl,hb⟩
    clear xa0 xa1 xa2 xa3 xa4 xa5 xa6 xa7 xa8 xb0 xb1 xb2 xb3 xb4 xb5 xb6 xb7 xb8 xc0 xc1 xc2 xc3 xc4 xc5 xc6 xc7 xc8 la lb lc
    replace fA:=af fA hb;replace fB:=af fB hb;replace fC:=af fC hb
    replace hB:=ai hB hb
    clear hb
    obtain⟨xa0,xa1,xa2,xa3,xa4,xa5,xa6,xa7,xa8⟩:=blk9 fA
    have la:=al fA
    obtain⟨xb0,xb1,xb2,xb3,xb4,xb5,xb6,xb7,xb8⟩:=blk9 fB
    have lb:=al fB
    obtain⟨xc0,xc1,xc2,xc3,xc4,xc5,xc6,xc7,xc8⟩:=blk9 fC
    have lc:=al fC
    go_wp2_with fail
    refine(HV.out _ hB).mono ?_
    rintro e w6 ⟨rfl,hb⟩
    clear xa0 xa1 xa2 xa3 xa4 xa5 xa6 xa7 xa8 xb0 xb1 xb2 xb3 xb4 xb5 xb6 xb7 xb8 xc0 xc1 xc2 xc3 xc4 xc5 xc6 xc7 xc8 la lb lc
    replace fA:=af fA hb;replace fB:=af fB hb;replace fC:=af fC hb
    replace hB:=ai hB hb
    clear hb
    obtain⟨xa0,xa1,xa2,xa3,xa4,xa5,xa6,xa7,xa8⟩:=blk9 fA
    have la:=al fA
    obtain⟨xb0,xb1,xb2,xb3,xb4,xb5,xb6,xb7,xb8⟩:=blk9 fB
    have lb:=al fB
    obtain⟨xc0,xc1,xc2,xc3,xc4,xc5,xc6,xc7,xc8⟩:=blk9 fC
    have lc:=al fC
    go_wp2_with fail
    refine(HS12.out _ hB).mono ?_
    rintro e w7 ⟨rfl,hb⟩
    clear xa0 xa1 xa2 xa3 xa4 xa5 xa6 xa7 xa8 xb0 xb1 xb2 xb3 xb4 xb5 xb6 xb7 xb8 xc0 xc1 xc2 xc3 xc4 xc5 xc6 xc7 xc8 la lb lc
    replace fA:=af fA hb;replace fB:=af fB hb;replace fC:=af fC hb
    replace hB:=ai hB hb
    clear hb
    obtain⟨xa0,xa1,xa2,xa3,xa4,xa5,xa6,xa7,xa8⟩:=blk9 fA
    have la:=al fA
    obtain⟨xb0,xb1,xb2,xb3,xb4,xb5,xb6,xb7,xb8⟩:=blk9 fB
    have lb:=al fB
    obtain⟨xc0,xc1,xc2,xc3,xc4,xc5,xc6,xc7,xc8⟩:=blk9 fC
    have lc:=al fC
    go_wp2_with fail
    refine(HS23.out _ hB).mono ?_
    rintro e w8 ⟨rfl,hb⟩
    clear xa0 xa1 xa2 xa3 xa4 xa5 xa6 xa7 xa8 xb0 xb1 xb2 xb3 xb4 xb5 xb6 xb7 xb8 xc0 xc1 xc2 xc3 xc4 xc5 xc6 xc7 xc8 la lb lc
    replace fA:=af fA hb;replace fB:=af fB hb;replace fC:=af fC hb
    replace hB:=ai hB hb
    clear hb
    go_wp2_with fail
    go_ret
    exact⟨rfl,ai HB1.out hB⟩
   | true=>
    go_wp2_with fail
    refine(HI12.out _ hB).mono ?_
    rintro e w2 ⟨rfl,hb⟩
    replace fA:=af fA hb;replace fB:=af fB hb;replace fC:=af fC hb
    replace hB:=ai hB hb
    clear hb
    obtain⟨xa0,xa1,xa2,xa3,xa4,xa5,xa6,xa7,xa8⟩:=blk9 fA
    have la:=al fA
    obtain⟨xb0,xb1,xb2,xb3,xb4,xb5,xb6,xb7,xb8⟩:=blk9 fB
    have lb:=al fB
    obtain⟨xc0,xc1,xc2,xc3,xc4,xc5,xc6,xc7,xc8⟩:=blk9 fC
    have lc:=al fC
    go_wp2_with fail
    refine(HI23.out _ hB).mono ?_
    rintro e w3 ⟨rfl,hb⟩
    clear xa0 xa1 xa2 xa3 xa4 xa5 xa6 xa7 xa8 xb0 xb1 xb2 xb3 xb4 xb5 xb6 xb7 xb8 xc0 xc1 xc2 xc3 xc4 xc5 xc6 xc7 xc8 la lb lc
    replace fA:=af fA hb;replace fB:=af fB hb;replace fC:=af fC hb
    replace hB:=ai hB hb
    clear hb
    obtain⟨xa0,xa1,xa2,xa3,xa4,xa5,xa6,xa7,xa8⟩:=blk9 fA
    have la:=al fA
    obtain⟨xb0,xb1,xb2,xb3,xb4,xb5,xb6,xb7,xb8⟩:=blk9 fB
    have lb:=al fB
    obtain⟨xc0,xc1,xc2,xc3,xc4,xc5,xc6,xc7,xc8⟩:=blk9 fC
    have lc:=al fC
    go_wp2_with fail
    refine(HS12.out _ hB).mono ?_
    rintro e w4 ⟨rfl,hb⟩
    clear xa0 xa1 xa2 xa3 xa4 xa5 xa6 xa7 xa8 xb0 xb1 xb2 xb3 xb4 xb5 xb6 xb7 xb8 xc0 xc1 xc2 xc3 xc4 xc5 xc6 xc7 xc8 la lb lc
    replace fA:=af fA hb;replace fB:=af fB hb;replace fC:=af fC hb
    replace hB:=ai hB hb
    clear hb
    obtain⟨xa0,xa1,xa2,xa3,xa4,xa5,xa6,xa7,xa8⟩:=blk9 fA
    have la:=al fA
    obtain⟨xb0,xb1,xb2,xb3,xb4,xb5,xb6,xb7,xb8⟩:=blk9 fB
    have lb:=al fB
    obtain⟨xc0,xc1,xc2,xc3,xc4,xc5,xc6,xc7,xc8⟩:=blk9 fC
    have lc:=al fC
    go_wp2_with fail
    refine(HS23.out _ hB).mono ?_
    rintro e w5 ⟨rfl,hb⟩
    clear xa0 xa1 xa2 xa3 xa4 xa5 xa6 xa7 xa8 xb0 xb1 xb2 xb3 xb4 xb5 xb6 xb7 xb8 xc0 xc1 xc2 xc3 xc4 xc5 xc6 xc7 xc8 la lb lc
    replace fA:=af fA hb;replace fB:=af fB hb;replace fC:=af fC hb
    replace hB:=ai hB hb
    clear hb
    obtain⟨xa0,xa1,xa2,xa3,xa4,xa5,xa6,xa7,xa8⟩:=blk9 fA
    have la:=al fA
    obtain⟨xb0,xb1,xb2,xb3,xb4,xb5,xb6,xb7,xb8⟩:=blk9 fB
    have lb:=al fB
    obtain⟨xc0,xc1,xc2,xc3,xc4,xc5,xc6,xc7,xc8⟩:=blk9 fC
    have lc:=al fC
    go_wp2_with fail
    refine(HV.out _ hB).mono ?_
    rintro e w6 ⟨rfl,hb⟩
    clear xa0 xa1 xa2 xa3 xa4 xa5 xa6 xa7 xa8 xb0 xb1 xb2 xb3 xb4 xb5 xb6 xb7 xb8 xc0 xc1 xc2 xc3 xc4 xc5 xc6 xc7 xc8 la lb lc
    replace fA:=af fA hb;replace fB:=af fB hb;replace fC:=af fC hb
    replace hB:=ai hB hb
    clear hb
    obtain⟨xa0,xa1,xa2,xa3,xa4,xa5,xa6,xa7,xa8⟩:=blk9 fA
    have la:=al fA
    obtain⟨xb0,xb1,xb2,xb3,xb4,xb5,xb6,xb7,xb8⟩:=blk9 fB
    have lb:=al fB
    obtain⟨xc0,xc1,xc2,xc3,xc4,xc5,xc6,xc7,xc8⟩:=blk9 fC
    have lc:=al fC
    go_wp2_with fail
    refine(HS12.out _ hB).mono ?_
    rintro e w7 ⟨rfl,hb⟩
    clear xa0 xa1 xa2 xa3 xa4 xa5 xa6 xa7 xa8 xb0 xb1 xb2 xb3 xb4 xb5 xb6 xb7 xb8 xc0 xc1 xc2 xc3 xc4 xc5 xc6 xc7 xc8 la lb lc
    replace fA:=af fA hb;replace fB:=af fB hb;replace fC:=af fC hb
    replace hB:=ai hB hb
    clear hb
    obtain⟨xa0,xa1,xa2,xa3,xa4,xa5,xa6,xa7,xa8⟩:=blk9 fA
    have la:=al fA
    obtain⟨xb0,xb1,xb2,xb3,xb4,xb5,xb6,xb7,xb8⟩:=blk9 fB
    have lb:=al fB
    obtain⟨xc0,xc1,xc2,xc3,xc4,xc5,xc6,xc7,xc8⟩:=blk9 fC
    have lc:=al fC
    go_wp2_with fail
    refine(HS23.out _ hB).mono ?_
    rintro e w8 ⟨rfl,hb⟩
    clear xa0 xa1 xa2 xa3 xa4 xa5 xa6 xa7 xa8 xb0 xb1 xb2 xb3 xb4 xb5 xb6 xb7 xb8 xc0 xc1 xc2 xc3 xc4 xc5 xc6 xc7 xc8 la lb lc
    replace fA:=af fA hb;replace fB:=af fB hb;replace fC:=af fC hb
    replace hB:=ai hB hb
    clear hb
    go_wp2_with fail
    go_ret
    exact⟨rfl,ai HB1.out hB⟩
 | true=>
  obtain⟨rfl,h1,h2,rfl⟩:=HLAW.out rfl
  clear HLAW
  cases p with
  | false=>
   clear h1 h2
   cases q with
   | false=>
    go_wp2_with fail
    refine(HI12.out _ hB).mono ?_
    rintro e w2 ⟨rfl,hb⟩
    replace fA:=af fA hb;replace fB:=af fB hb;replace fC:=af fC hb
    replace hB:=ai hB hb
    clear hb
    obtain⟨xa0,xa1,xa2,xa3,xa4,xa5,xa6,xa7,xa8⟩:=blk9 fA
    have la:=al fA
    obtain⟨xb0,xb1,xb2,xb3,xb4,xb5,xb6,xb7,xb8⟩:=blk9 fB
    have lb:=al fB
    obtain⟨xc0,xc1,xc2,xc3,xc4,xc5,xc6,xc7,xc8⟩:=blk9 fC
    have lc:=al fC
    go_wp2_with fail
    refine(HI23.out _ hB).mono ?_
    rintro e w3 ⟨rfl,hb⟩
    clear xa0 xa1 xa2 xa3 xa4 xa5 xa6 xa7 xa8 xb0 xb1 xb2 xb3 xb4 xb5 xb6 xb7 xb8 xc0 xc1 xc2 xc3 xc4 xc5 xc6 xc7 xc8 la lb lc
    replace fA:=af fA hb;replace fB:=af fB hb;replace fC:=af fC hb
    replace hB:=ai hB hb
    clear hb
    obtain⟨xa0,xa1,xa2,xa3,xa4,xa5,xa6,xa7,xa8⟩:=blk9 fA
    have la:=al fA
    obtain⟨xb0,xb1,xb2,xb3,xb4,xb5,xb6,xb7,xb8⟩:=blk9 fB
    have lb:=al fB
    obtain⟨xc0,xc1,xc2,xc3,xc4,xc5,xc6,xc7,xc8⟩:=blk9 fC
    have lc:=al fC
    go_wp2_with fail
    refine(HS12.out _ hB).mono ?_
    rintro e w4 ⟨rfl,hb⟩
    clear xa0 xa1 xa2 xa3 xa4 xa5 xa6 xa7 xa8 xb0 xb1 xb2 xb3 xb4 xb5 xb6 xb7 xb8 xc0 xc1 xc2 xc3 xc4 xc5 xc6 xc7 xc8 la lb lc
    replace fA:=af fA hb;replace fB:=af fB hb;replace fC:=af fC hb
    replace hB:=ai hB hb
    clear hb
    obtain⟨xa0,xa1,xa2,xa3,xa4,xa5,xa6,xa7,xa8⟩:=blk9 fA
    have la:=al fA
    obtain⟨xb0,xb1,xb2,xb3,xb4,xb5,xb6,xb7,xb8⟩:=blk9 fB
    have lb:=al fB
    obtain⟨xc0,xc1,xc2,xc3,xc4,xc5,xc6,xc7,xc8⟩:=blk9 fC
    have lc:=al fC
    go_wp2_with fail
    refine(HS23.out _ hB).mono ?_
    rintro e w5 ⟨rfl,hb⟩
    clear xa0 xa1 xa2 xa3 xa4 xa5 xa6 xa7 xa8 xb0 xb1 xb2 xb3 xb4 xb5 xb6 xb7 xb8 xc0 xc1 xc2 xc3 xc4 xc5 xc6 xc7 xc8 la lb lc
    replace fA:=af fA hb;replace fB:=af fB hb;replace fC:=af fC hb
    replace hB:=ai hB hb
    clear hb
    obtain⟨xa0,xa1,xa2,xa3,xa4,xa5,xa6,xa7,xa8⟩:=blk9 fA
    have la:=al fA
    obtain⟨xb0,xb1,xb2,xb3,xb4,xb5,xb6,xb7,xb8⟩:=blk9 fB
    have lb:=al fB
    obtain⟨xc0,xc1,xc2,xc3,xc4,xc5,xc6,xc7,xc8⟩:=blk9 fC
    have lc:=al fC
    go_wp2_with fail
    refine(HV.out _ hB).mono ?_
    rintro e w6 ⟨rfl,hb⟩
    clear xa0 xa1 xa2 xa3 xa4 xa5 xa6 xa7 xa8 xb0 xb1 xb2 xb3 xb4 xb5 xb6 xb7 xb8 xc0 xc1 xc2 xc3 xc4 xc5 xc6 xc7 xc8 la lb lc
    replace fA:=af fA hb;replace fB:=af fB hb;replace fC:=af fC hb
    replace hB:=ai hB hb
    clear hb
    obtain⟨xa0,xa1,xa2,xa3,xa4,xa5,xa6,xa7,xa8⟩:=blk9 fA
    have la:=al fA
    obtain⟨xb0,xb1,xb2,xb3,xb4,xb5,xb6,xb7,xb8⟩:=blk9 fB
    have lb:=al fB
    obtain⟨xc0,xc1,xc2,xc3,xc4,xc5,xc6,xc7,xc8⟩:=blk9 fC
    have lc:=al fC
    go_wp2_with fail
    refine(HE.out _ hB).mono ?_
    rintro e w7 ⟨v,rfl,hv,hb⟩
    obtain⟨kt4,nm4,ut4,tk4,ta4,tn4,tq4,fk4,fa4,fn4,fq4,lt4,ct4,mt4,qt4,rfl⟩:=hv.shape
    clear xa0 xa1 xa2 xa3 xa4 xa5 xa6 xa7 xa8 xb0 xb1 xb2 xb3 xb4 xb5 xb6 xb7 xb8 xc0 xc1 xc2 xc3 xc4 xc5 xc6 xc7 xc8 la lb lc
    have hb':=ah (w:=w7) (o:=.cells #[.int .i64 kt4,.string nm4,.int .i64 ut4,.int .i64 tk4,.slice ta4 tn4 tq4,.int .i64 fk4,.slice fa4 fn4 fq4,.int .i64 lt4,.slice ct4 mt4 qt4] 28)
    replace fA:=af (af fA hb) hb';replace fB:=af (af fB hb) hb';replace fC:=af (af fC hb) hb'
    replace hB:=ai (ai hB hb) hb'
    have fX:=aD (w:=w7) (o:=.cells #[.int .i64 kt4,.string nm4,.int .i64 ut4,.int .i64 tk4,.slice ta4 tn4 tq4,.int .i64 fk4,.slice fa4 fn4 fq4,.int .i64 lt4,.slice ct4 mt4 qt4] 28) (b:=w7.heap.size) rfl
    have HX:=Lib.hid (hv.rep.below hb')
    have HXB:=Lib.hid hB
    clear hb hb' hv
    have HXW:=Lib.hid (fun W' (k:Below (w7.alloc (.cells #[.int .i64 kt4,.string nm4,.int .i64 ut4,.int .i64 tk4,.slice ta4 tn4 tq4,.int .i64 fk4,.slice fa4 fn4 fq4,.int .i64 lt4,.slice ct4 mt4 qt4] 28)).heap.size (w7.alloc (.cells #[.int .i64 kt4,.string nm4,.int .i64 ut4,.int .i64 tk4,.slice ta4 tn4 tq4,.int .i64 fk4,.slice fa4 fn4 fq4,.int .i64 lt4,.slice ct4 mt4 qt4] 28)) W')=>HX.out.below k)
    clear HX HXB
    have hY:=Below.refl (w7.alloc (.cells #[.int .i64 kt4,.string nm4,.int .i64 ut4,.int .i64 tk4,.slice ta4 tn4 tq4,.int .i64 fk4,.slice fa4 fn4 fq4,.int .i64 lt4,.slice ct4 mt4 qt4] 28)).heap.size (w7.alloc (.cells #[.int .i64 kt4,.string nm4,.int .i64 ut4,.int .i64 tk4,.slice ta4 tn4 tq4,.int .i64 fk4,.slice fa4 fn4 fq4,.int .i64 lt4,.slice ct4 mt4 qt4] 28))
    obtain⟨xa0,xa1,xa2,xa3,xa4,xa5,xa6,xa7,xa8⟩:=blk9 fA
    have la:=al fA
    obtain⟨xb0,xb1,xb2,xb3,xb4,xb5,xb6,xb7,xb8⟩:=blk9 fB
    have lb:=al fB
    obtain⟨xc0,xc1,xc2,xc3,xc4,xc5,xc6,xc7,xc8⟩:=blk9 fC
    have lc:=al fC
    obtain⟨xd0,xd1,xd2,xd3,xd4,xd5,xd6,xd7,xd8⟩:=blk9 fX
    have ld:=al fX
    go_wp2_with fail
    refine(HI11.out _ hB).mono ?_
    rintro e w8 ⟨rfl,hb⟩
    clear xa0 xa1 xa2 xa3 xa4 xa5 xa6 xa7 xa8 xb0 xb1 xb2 xb3 xb4 xb5 xb6 xb7 xb8 xc0 xc1 xc2 xc3 xc4 xc5 xc6 xc7 xc8 xd0 xd1 xd2 xd3 xd4 xd5 xd6 xd7 xd8 la lb lc ld
    replace fA:=af fA hb;replace fB:=af fB hb;replace fC:=af fC hb;replace fX:=af fX hb
    replace hB:=ai hB hb
    replace hY:=ai hY hb
    clear hb
    obtain⟨xa0,xa1,xa2,xa3,xa4,xa5,xa6,xa7,xa8⟩:=blk9 fA
    have la:=al fA
    obtain⟨xb0,xb1,xb2,xb3,xb4,xb5,xb6,xb7,xb8⟩:=blk9 fB
    have lb:=al fB
    obtain⟨xc0,xc1,xc2,xc3,xc4,xc5,xc6,xc7,xc8⟩:=blk9 fC
    have lc:=al fC
    obtain⟨xd0,xd1,xd2,xd3,xd4,xd5,xd6,xd7,xd8⟩:=blk9 fX
    have ld:=al fX
    go_wp2_with fail
    refine(HAX.out _ _ _ hB (HXW.out _ hY)).mono ?_
    rintro e w9 ⟨rfl,hb⟩
    clear xa0 xa1 xa2 xa3 xa4 xa5 xa6 xa7 xa8 xb0 xb1 xb2 xb3 xb4 xb5 xb6 xb7 xb8 xc0 xc1 xc2 xc3 xc4 xc5 xc6 xc7 xc8 xd0 xd1 xd2 xd3 xd4 xd5 xd6 xd7 xd8 la lb lc ld
    replace fA:=af fA hb;replace fB:=af fB hb;replace fC:=af fC hb;replace fX:=af fX hb
    replace hB:=ai hB hb
    replace hY:=ai hY hb
    clear hb
    go_wp2_with fail
    go_ret
    exact⟨rfl,ai HB1.out hB⟩
   | true=>
    go_wp2_with fail
    refine(HI12.out _ hB).mono ?_
    rintro e w2 ⟨rfl,hb⟩
    replace fA:=af fA hb;replace fB:=af fB hb;replace fC:=af fC hb
    replace hB:=ai hB hb
    clear hb
    obtain⟨xa0,xa1,xa2,xa3,xa4,xa5,xa6,xa7,xa8⟩:=blk9 fA
    have la:=al fA
    obtain⟨xb0,xb1,xb2,xb3,xb4,xb5,xb6,xb7,xb8⟩:=blk9 fB
    have lb:=al fB
    obtain⟨xc0,xc1,xc2,xc3,xc4,xc5,xc6,xc7,xc8⟩:=blk9 fC
    have lc:=al fC
    go_wp2_with fail
    refine(HI23.out _ hB).mono ?_
    rintro e w3 ⟨rfl,hb⟩
    clear xa0 xa1 xa2 xa3 xa4 xa5 xa6 xa7 xa8 xb0 xb1 xb2 xb3 xb4 xb5 xb6 xb7 xb8 xc0 xc1 xc2 xc3 xc4 xc5 xc6 xc7 xc8 la lb lc
    replace fA:=af fA hb;replace fB:=af fB hb;replace fC:=af fC hb
    replace hB:=ai hB hb
    clear hb
    obtain⟨xa0,xa1,xa2,xa3,xa4,xa5,xa6,xa7,xa8⟩:=blk9 fA
    have la:=al fA
    obtain⟨xb0,xb1,xb2,xb3,xb4,xb5,xb6,xb7,xb8⟩:=blk9 fB
    have lb:=al fB
    obtain⟨xc0,xc1,xc2,xc3,xc4,xc5,xc6,xc7,xc8⟩:=blk9 fC
    have lc:=al fC
    go_wp2_with fail
    refine(HS12.out _ hB).mono ?_
    rintro e w4 ⟨rfl,hb⟩
    clear xa0 xa1 xa2 xa3 xa4 xa5 xa6 xa7 xa8 xb0 xb1 xb2 xb3 xb4 xb5 xb6 xb7 xb8 xc0 xc1 xc2 xc3 xc4 xc5 xc6 xc7 xc8 la lb lc
    replace fA:=af fA hb;replace fB:=af fB hb;replace fC:=af fC hb
    replace hB:=ai hB hb
    clear hb
    obtain⟨xa0,xa1,xa2,xa3,xa4,xa5,xa6,xa7,xa8⟩:=blk9 fA
    have la:=al fA
    obtain⟨xb0,xb1,xb2,xb3,xb4,xb5,xb6,xb7,xb8⟩:=blk9 fB
    have lb:=al fB
    obtain⟨xc0,xc1,xc2,xc3,xc4,xc5,xc6,xc7,xc8⟩:=blk9 fC
    have lc:=al fC
    go_wp2_with fail
    refine(HS23.out _ hB).mono ?_
    rintro e w5 ⟨rfl,hb⟩
    clear xa0 xa1 xa2 xa3 xa4 xa5 xa6 xa7 xa8 xb0 xb1 xb2 xb3 xb4 xb5 xb6 xb7 xb8 xc0 xc1 xc2 xc3 xc4 xc5 xc6 xc7 xc8 la lb lc
    replace fA:=af fA hb;replace fB:=af fB hb;replace fC:=af fC hb
    replace hB:=ai hB hb
    clear hb
    obtain⟨xa0,xa1,xa2,xa3,xa4,xa5,xa6,xa7,xa8⟩:=blk9 fA
    have la:=al fA
    obtain⟨xb0,xb1,xb2,xb3,xb4,xb5,xb6,xb7,xb8⟩:=blk9 fB
    have lb:=al fB
    obtain⟨xc0,xc1,xc2,xc3,xc4,xc5,xc6,xc7,xc8⟩:=blk9 fC
    have lc:=al fC
    go_wp2_with fail
    refine(HV.out _ hB).mono ?_
    rintro e w6 ⟨rfl,hb⟩
    clear xa0 xa1 xa2 xa3 xa4 xa5 xa6 xa7 xa8 xb0 xb1 xb2 xb3 xb4 xb5 xb6 xb7 xb8 xc0 xc1 xc2 xc3 xc4 xc5 xc6 xc7 xc8 la lb lc
    replace fA:=af fA hb;replace fB:=af fB hb;replace fC:=af fC hb
    replace hB:=ai hB hb
    clear hb
    obtain⟨xa0,xa1,xa2,xa3,xa4,xa5,xa6,xa7,xa8⟩:=blk9 fA
    have la:=al fA
    obtain⟨xb0,xb1,xb2,xb3,xb4,xb5,xb6,xb7,xb8⟩:=blk9 fB
    have lb:=al fB
    obtain⟨xc0,xc1,xc2,xc3,xc4,xc5,xc6,xc7,xc8⟩:=blk9 fC
    have lc:=al fC
    go_wp2_with fail
    refine(HE.out _ hB).mono ?_
    rintro e w7 ⟨v,rfl,hv,hb⟩
    obtain⟨kt4,nm4,ut4,tk4,ta4,tn4,tq4,fk4,fa4,fn4,fq4,lt4,ct4,mt4,qt4,rfl⟩:=hv.shape
    clear xa0 xa1 xa2 xa3 xa4 xa5 xa6 xa7 xa8 xb0 xb1 xb2 xb3 xb4 xb5 xb6 xb7 xb8 xc0 xc1 xc2 xc3 xc4 xc5 xc6 xc7 xc8 la lb lc
    have hb':=ah (w:=w7) (o:=.cells #[.int .i64 kt4,.string nm4,.int .i64 ut4,.int .i64 tk4,.slice ta4 tn4 tq4,.int .i64 fk4,.slice fa4 fn4 fq4,.int .i64 lt4,.slice ct4 mt4 qt4] 28)
    replace fA:=af (af fA hb) hb';replace fB:=af (af fB hb) hb';replace fC:=af (af fC hb) hb'
    replace hB:=ai (ai hB hb) hb'
    have fX:=aD (w:=w7) (o:=.cells #[.int .i64 kt4,.string nm4,.int .i64 ut4,.int .i64 tk4,.slice ta4 tn4 tq4,.int .i64 fk4,.slice fa4 fn4 fq4,.int .i64 lt4,.slice ct4 mt4 qt4] 28) (b:=w7.heap.size) rfl
    have HX:=Lib.hid (hv.rep.below hb')
    have HXB:=Lib.hid hB
    clear hb hb' hv
    have HXW:=Lib.hid (fun W' (k:Below (w7.alloc (.cells #[.int .i64 kt4,.string nm4,.int .i64 ut4,.int .i64 tk4,.slice ta4 tn4 tq4,.int .i64 fk4,.slice fa4 fn4 fq4,.int .i64 lt4,.slice ct4 mt4 qt4] 28)).heap.size (w7.alloc (.cells #[.int .i64 kt4,.string nm4,.int .i64 ut4,.int .i64 tk4,.slice ta4 tn4 tq4,.int .i64 fk4,.slice fa4 fn4 fq4,.int .i64 lt4,.slice ct4 mt4 qt4] 28)) W')=>HX.out.below k)
    clear HX HXB
    have hY:=Below.refl (w7.alloc (.cells #[.int .i64 kt4,.string nm4,.int .i64 ut4,.int .i64 tk4,.slice ta4 tn4 tq4,.int .i64 fk4,.slice fa4 fn4 fq4,.int .i64 lt4,.slice ct4 mt4 qt4] 28)).heap.size (w7.alloc (.cells #[.int .i64 kt4,.string nm4,.int .i64 ut4,.int .i64 tk4,.slice ta4 tn4 tq4,.int .i64 fk4,.slice fa4 fn4 fq4,.int .i64 lt4,.slice ct4 mt4 qt4] 28))
    obtain⟨xa0,xa1,xa2,xa3,xa4,xa5,xa6,xa7,xa8⟩:=blk9 fA
    have la:=al fA
    obtain⟨xb0,xb1,xb2,xb3,xb4,xb5,xb6,xb7,xb8⟩:=blk9 fB
    have lb:=al fB
    obtain⟨xc0,xc1,xc2,xc3,xc4,xc5,xc6,xc7,xc8⟩:=blk9 fC
    have lc:=al fC
    obtain⟨xd0,xd1,xd2,xd3,xd4,xd5,xd6,xd7,xd8⟩:=blk9 fX
    have ld:=al fX
    go_wp2_with fail
    refine(HI11.out _ hB).mono ?_
    rintro e w8 ⟨rfl,hb⟩
    clear xa0 xa1 xa2 xa3 xa4 xa5 xa6 xa7 xa8 xb0 xb1 xb2 xb3 xb4 xb5 xb6 xb7 xb8 xc0 xc1 xc2 xc3 xc4 xc5 xc6 xc7 xc8 xd0 xd1 xd2 xd3 xd4 xd5 xd6 xd7 xd8 la lb lc ld
    replace fA:=af fA hb;replace fB:=af fB hb;replace fC:=af fC hb;replace fX:=af fX hb
    replace hB:=ai hB hb
    replace hY:=ai hY hb
    clear hb
    obtain⟨xa0,xa1,xa2,xa3,xa4,xa5,xa6,xa7,xa8⟩:=blk9 fA
    have la:=al fA
    obtain⟨xb0,xb1,xb2,xb3,xb4,xb5,xb6,xb7,xb8⟩:=blk9 fB
    have lb:=al fB
    obtain⟨xc0,xc1,xc2,xc3,xc4,xc5,xc6,xc7,xc8⟩:=blk9 fC
    have lc:=al fC
    obtain⟨xd0,xd1,xd2,xd3,xd4,xd5,xd6,xd7,xd8⟩:=blk9 fX
    have ld:=al fX
    go_wp2_with fail
    refine(HAX.out _ _ _ hB (HXW.out _ hY)).mono ?_
    rintro e w9 ⟨rfl,hb⟩
    clear xa0 xa1 xa2 xa3 xa4 xa5 xa6 xa7 xa8 xb0 xb1 xb2 xb3 xb4 xb5 xb6 xb7 xb8 xc0 xc1 xc2 xc3 xc4 xc5 xc6 xc7 xc8 xd0 xd1 xd2 xd3 xd4 xd5 xd6 xd7 xd8 la lb lc ld
    replace fA:=af fA hb;replace fB:=af fB hb;replace fC:=af fC hb;replace fX:=af fX hb
    replace hB:=ai hB hb
    replace hY:=ai hY hb
    clear hb
    go_wp2_with fail
    go_ret
    exact⟨rfl,ai HB1.out hB⟩
  | true=>
   cases pba with
   | false=>
    clear h2
    cases q with
    | false=>
     clear h1
     go_wp2_with fail
     refine(HI12.out _ hB).mono ?_
     rintro e w2 ⟨rfl,hb⟩
     replace fA:=af fA hb;replace fB:=af fB hb;replace fC:=af fC hb
     replace hB:=ai hB hb
     clear hb
     obtain⟨xa0,xa1,xa2,xa3,xa4,xa5,xa6,xa7,xa8⟩:=blk9 fA
     have la:=al fA
     obtain⟨xb0,xb1,xb2,xb3,xb4,xb5,xb6,xb7,xb8⟩:=blk9 fB
     have lb:=al fB
     obtain⟨xc0,xc1,xc2,xc3,xc4,xc5,xc6,xc7,xc8⟩:=blk9 fC
     have lc:=al fC
     go_wp2_with fail
     refine(HI23.out _ hB).mono ?_
     rintro e w3 ⟨rfl,hb⟩
     clear xa0 xa1 xa2 xa3 xa4 xa5 xa6 xa7 xa8 xb0 xb1 xb2 xb3 xb4 xb5 xb6 xb7 xb8 xc0 xc1 xc2 xc3 xc4 xc5 xc6 xc7 xc8 la lb lc
     replace fA:=af fA hb;replace fB:=af fB hb;replace fC:=af fC hb
     replace hB:=ai hB hb
     clear hb
     obtain⟨xa0,xa1,xa2,xa3,xa4,xa5,xa6,xa7,xa8⟩:=blk9 fA
     have la:=al fA
     obtain⟨xb0,xb1,xb2,xb3,xb4,xb5,xb6,xb7,xb8⟩:=blk9 fB
     have lb:=al fB
     obtain⟨xc0,xc1,xc2,xc3,xc4,xc5,xc6,xc7,xc8⟩:=blk9 fC
     have lc:=al fC
     go_wp2_with fail
     refine(HS12.out _ hB).mono ?_
     rintro e w4 ⟨rfl,hb⟩
     clear xa0 xa1 xa2 xa3 xa4 xa5 xa6 xa7 xa8 xb0 xb1 xb2 xb3 xb4 xb5 xb6 xb7 xb8 xc0 xc1 xc2 xc3 xc4 xc5 xc6 xc7 xc8 la lb lc
     replace fA:=af fA hb;replace fB:=af fB hb;replace fC:=af fC hb
     replace hB:=ai hB hb
     clear hb
     obtain⟨xa0,xa1,xa2,xa3,xa4,xa5,xa6,xa7,xa8⟩:=blk9 fA
     have la:=al fA
     obtain⟨xb0,xb1,xb2,xb3,xb4,xb5,xb6,xb7,xb8⟩:=blk9 fB
     have lb:=al fB
     obtain⟨xc0,xc1,xc2,xc3,xc4,xc5,xc6,xc7,xc8⟩:=blk9 fC
     have lc:=al fC
     go_wp2_with fail
     refine(HS23.out _ hB).mono ?_
     rintro e w5 ⟨rfl,hb⟩
     clear xa0 xa1 xa2 xa3 xa4 xa5 xa6 xa7 xa8 xb0 xb1 xb2 xb3 xb4 xb5 xb6 xb7 xb8 xc0 xc1 xc2 xc3 xc4 xc5 xc6 xc7 xc8 la lb lc
     replace fA:=af fA hb;replace fB:=af fB hb;replace fC:=af fC hb
     replace hB:=ai hB hb
     clear hb
     obtain⟨xa0,xa1,xa2,xa3,xa4,xa5,xa6,xa7,xa8⟩:=blk9 fA
     have la:=al fA
     obtain⟨xb0,xb1,xb2,xb3,xb4,xb5,xb6,xb7,xb8⟩:=blk9 fB
     have lb:=al fB
     obtain⟨xc0,xc1,xc2,xc3,xc4,xc5,xc6,xc7,xc8⟩:=blk9 fC
     have lc:=al fC
     go_wp2_with fail
     refine(HV.out _ hB).mono ?_
     rintro e w6 ⟨rfl,hb⟩
     clear xa0 xa1 xa2 xa3 xa4 xa5 xa6 xa7 xa8 xb0 xb1 xb2 xb3 xb4 xb5 xb6 xb7 xb8 xc0 xc1 xc2 xc3 xc4 xc5 xc6 xc7 xc8 la lb lc
     replace fA:=af fA hb;replace fB:=af fB hb;replace fC:=af fC hb
     replace hB:=ai hB hb
     clear hb
     obtain⟨xa0,xa1,xa2,xa3,xa4,xa5,xa6,xa7,xa8⟩:=blk9 fA
     have la:=al fA
     obtain⟨xb0,xb1,xb2,xb3,xb4,xb5,xb6,xb7,xb8⟩:=blk9 fB
     have lb:=al fB
     obtain⟨xc0,xc1,xc2,xc3,xc4,xc5,xc6,xc7,xc8⟩:=blk9 fC
     have lc:=al fC
     go_wp2_with fail
     refine(HE.out _ hB).mono ?_
     rintro e w7 ⟨v,rfl,hv,hb⟩
     obtain⟨kt4,nm4,ut4,tk4,ta4,tn4,tq4,fk4,fa4,fn4,fq4,lt4,ct4,mt4,qt4,rfl⟩:=hv.shape
     clear xa0 xa1 xa2 xa3 xa4 xa5 xa6 xa7 xa8 xb0 xb1 xb2 xb3 xb4 xb5 xb6 xb7 xb8 xc0 xc1 xc2 xc3 xc4 xc5 xc6 xc7 xc8 la lb lc
     have hb':=ah (w:=w7) (o:=.cells #[.int .i64 kt4,.string nm4,.int .i64 ut4,.int .i64 tk4,.slice ta4 tn4 tq4,.int .i64 fk4,.slice fa4 fn4 fq4,.int .i64 lt4,.slice ct4 mt4 qt4] 28)
     replace fA:=af (af fA hb) hb';replace fB:=af (af fB hb) hb';replace fC:=af (af fC hb) hb'
     replace hB:=ai (ai hB hb) hb'
     have fX:=aD (w:=w7) (o:=.cells #[.int .i64 kt4,.string nm4,.int .i64 ut4,.int .i64 tk4,.slice ta4 tn4 tq4,.int .i64 fk4,.slice fa4 fn4 fq4,.int .i64 lt4,.slice ct4 mt4 qt4] 28) (b:=w7.heap.size) rfl
     have HX:=Lib.hid (hv.rep.below hb')
     have HXB:=Lib.hid hB
     clear hb hb' hv
     have HXW:=Lib.hid (fun W' (k:Below (w7.alloc (.cells #[.int .i64 kt4,.string nm4,.int .i64 ut4,.int .i64 tk4,.slice ta4 tn4 tq4,.int .i64 fk4,.slice fa4 fn4 fq4,.int .i64 lt4,.slice ct4 mt4 qt4] 28)).heap.size (w7.alloc (.cells #[.int .i64 kt4,.string nm4,.int .i64 ut4,.int .i64 tk4,.slice ta4 tn4 tq4,.int .i64 fk4,.slice fa4 fn4 fq4,.int .i64 lt4,.slice ct4 mt4 qt4] 28)) W')=>HX.out.below k)
     clear HX HXB
     have hY:=Below.refl (w7.alloc (.cells #[.int .i64 kt4,.string nm4,.int .i64 ut4,.int .i64 tk4,.slice ta4 tn4 tq4,.int .i64 fk4,.slice fa4 fn4 fq4,.int .i64 lt4,.slice ct4 mt4 qt4] 28)).heap.size (w7.alloc (.cells #[.int .i64 kt4,.string nm4,.int .i64 ut4,.int .i64 tk4,.slice ta4 tn4 tq4,.int .i64 fk4,.slice fa4 fn4 fq4,.int .i64 lt4,.slice ct4 mt4 qt4] 28))
     obtain⟨xa0,xa1,xa2,xa3,xa4,xa5,xa6,xa7,xa8⟩:=blk9 fA
     have la:=al fA
     obtain⟨xb0,xb1,xb2,xb3,xb4,xb5,xb6,xb7,xb8⟩:=blk9 fB
     have lb:=al fB
     obtain⟨xc0,xc1,xc2,xc3,xc4,xc5,xc6,xc7,xc8⟩:=blk9 fC
     have lc:=al fC
     obtain⟨xd0,xd1,xd2,xd3,xd4,xd5,xd6,xd7,xd8⟩:=blk9 fX
     have ld:=al fX
     go_wp2_with fail
     refine(HI11.out _ hB).mono ?_
     rintro e w8 ⟨rfl,hb⟩
     clear xa0 xa1 xa2 xa3 xa4 xa5 xa6 xa7 xa8 xb0 xb1 xb2 xb3 xb4 xb5 xb6 xb7 xb8 xc0 xc1 xc2 xc3 xc4 xc5 xc6 xc7 xc8 xd0 xd1 xd2 xd3 xd4 xd5 xd6 xd7 xd8 la lb lc ld
     replace fA:=af fA hb;replace fB:=af fB hb;replace fC:=af fC hb;replace fX:=af fX hb
     replace hB:=ai hB hb
     replace hY:=ai hY hb
     clear hb
     obtain⟨xa0,xa1,xa2,xa3,xa4,xa5,xa6,xa7,xa8⟩:=blk9 fA
     have la:=al fA
     obtain⟨xb0,xb1,xb2,xb3,xb4,xb5,xb6,xb7,xb8⟩:=blk9 fB
     have lb:=al fB
     obtain⟨xc0,xc1,xc2,xc3,xc4,xc5,xc6,xc7,xc8⟩:=blk9 fC
     have lc:=al fC
     obtain⟨xd0,xd1,xd2,xd3,xd4,xd5,xd6,xd7,xd8⟩:=blk9 fX
     have ld:=al fX
     go_wp2_with fail
     refine(HI21.out _ hB).mono ?_
     rintro e w9 ⟨rfl,hb⟩
     clear xa0 xa1 xa2 xa3 xa4 xa5 xa6 xa7 xa8 xb0 xb1 xb2 xb3 xb4 xb5 xb6 xb7 xb8 xc0 xc1 xc2 xc3 xc4 xc5 xc6 xc7 xc8 xd0 xd1 xd2 xd3 xd4 xd5 xd6 xd7 xd8 la lb lc ld
     replace fA:=af fA hb;replace fB:=af fB hb;replace fC:=af fC hb;replace fX:=af fX hb
     replace hB:=ai hB hb
     replace hY:=ai hY hb
     clear hb
     obtain⟨xa0,xa1,xa2,xa3,xa4,xa5,xa6,xa7,xa8⟩:=blk9 fA
     have la:=al fA
     obtain⟨xb0,xb1,xb2,xb3,xb4,xb5,xb6,xb7,xb8⟩:=blk9 fB
     have lb:=al fB
     obtain⟨xc0,xc1,xc2,xc3,xc4,xc5,xc6,xc7,xc8⟩:=blk9 fC
     have lc:=al fC
     obtain⟨xd0,xd1,xd2,xd3,xd4,xd5,xd6,xd7,xd8⟩:=blk9 fX
     have ld:=al fX
     go_wp2_with fail
     refine(HAX.out _ _ _ hB (HXW.out _ hY)).mono ?_
     rintro e w10 ⟨rfl,hb⟩
     clear xa0 xa1 xa2 xa3 xa4 xa5 xa6 xa7 xa8 xb0 xb1 xb2 xb3 xb4 xb5 xb6 xb7 xb8 xc0 xc1 xc2 xc3 xc4 xc5 xc6 xc7 xc8 xd0 xd1 xd2 xd3 xd4 xd5 xd6 xd7 xd8 la lb lc ld
     replace fA:=af fA hb;replace fB:=af fB hb;replace fC:=af fC hb;replace fX:=af fX hb
     replace hB:=ai hB hb
     replace hY:=ai hY hb
     clear hb
     go_wp2_with fail
     go_ret
     exact⟨rfl,ai HB1.out hB⟩
    | true=>
     obtain rfl:pac=true:=h1 (by simp) (by simp)
     clear h1
     go_wp2_with fail
     refine(HI12.out _ hB).mono ?_
     rintro e w2 ⟨rfl,hb⟩
     replace fA:=af fA hb;replace fB:=af fB hb;replace fC:=af fC hb
     replace hB:=ai hB hb
     clear hb
     obtain⟨xa0,xa1,xa2,xa3,xa4,xa5,xa6,xa7,xa8⟩:=blk9 fA
     have la:=al fA
     obtain⟨xb0,xb1,xb2,xb3,xb4,xb5,xb6,xb7,xb8⟩:=blk9 fB
     have lb:=al fB
     obtain⟨xc0,xc1,xc2,xc3,xc4,xc5,xc6,xc7,xc8⟩:=blk9 fC
     have lc:=al fC
     go_wp2_with fail
     refine(HI23.out _ hB).mono ?_
     rintro e w3 ⟨rfl,hb⟩
     clear xa0 xa1 xa2 xa3 xa4 xa5 xa6 xa7 xa8 xb0 xb1 xb2 xb3 xb4 xb5 xb6 xb7 xb8 xc0 xc1 xc2 xc3 xc4 xc5 xc6 xc7 xc8 la lb lc
     replace fA:=af fA hb;replace fB:=af fB hb;replace fC:=af fC hb
     replace hB:=ai hB hb
     clear hb
     obtain⟨xa0,xa1,xa2,xa3,xa4,xa5,xa6,xa7,xa8⟩:=blk9 fA
     have la:=al fA
     obtain⟨xb0,xb1,xb2,xb3,xb4,xb5,xb6,xb7,xb8⟩:=blk9 fB
     have lb:=al fB
     obtain⟨xc0,xc1,xc2,xc3,xc4,xc5,xc6,xc7,xc8⟩:=blk9 fC
     have lc:=al fC
     go_wp2_with fail
     refine(HS12.out _ hB).mono ?_
     rintro e w4 ⟨rfl,hb⟩
     clear xa0 xa1 xa2 xa3 xa4 xa5 xa6 xa7 xa8 xb0 xb1 xb2 xb3 xb4 xb5 xb6 xb7 xb8 xc0 xc1 xc2 xc3 xc4 xc5 xc6 xc7 xc8 la lb lc
     replace fA:=af fA hb;replace fB:=af fB hb;replace fC:=af fC hb
     replace hB:=ai hB hb
     clear hb
     obtain⟨xa0,xa1,xa2,xa3,xa4,xa5,xa6,xa7,xa8⟩:=blk9 fA
     have la:=al fA
     obtain⟨xb0,xb1,xb2,xb3,xb4,xb5,xb6,xb7,xb8⟩:=blk9 fB
     have lb:=al fB
     obtain⟨xc0,xc1,xc2,xc3,xc4,xc5,xc6,xc7,xc8⟩:=blk9 fC
     have lc:=al fC
     go_wp2_with fail
     refine(HS23.out _ hB).mono ?_
     rintro e w5 ⟨rfl,hb⟩
     clear xa0 xa1 xa2 xa3 xa4 xa5 xa6 xa7 xa8 xb0 xb1 xb2 xb3 xb4 xb5 xb6 xb7 xb8 xc0 xc1 xc2 xc3 xc4 xc5 xc6 xc7 xc8 la lb lc
     replace fA:=af fA hb;replace fB:=af fB hb;replace fC:=af fC hb
     replace hB:=ai hB hb
     clear hb
     obtain⟨xa0,xa1,xa2,xa3,xa4,xa5,xa6,xa7,xa8⟩:=blk9 fA
     have la:=al fA
     obtain⟨xb0,xb1,xb2,xb3,xb4,xb5,xb6,xb7,xb8⟩:=blk9 fB
     have lb:=al fB
     obtain⟨xc0,xc1,xc2,xc3,xc4,xc5,xc6,xc7,xc8⟩:=blk9 fC
     have lc:=al fC
     go_wp2_with fail
     refine(HV.out _ hB).mono ?_
     rintro e w6 ⟨rfl,hb⟩
     clear xa0 xa1 xa2 xa3 xa4 xa5 xa6 xa7 xa8 xb0 xb1 xb2 xb3 xb4 xb5 xb6 xb7 xb8 xc0 xc1 xc2 xc3 xc4 xc5 xc6 xc7 xc8 la lb lc
     replace fA:=af fA hb;replace fB:=af fB hb;replace fC:=af fC hb
     replace hB:=ai hB hb
     clear hb
     obtain⟨xa0,xa1,xa2,xa3,xa4,xa5,xa6,xa7,xa8⟩:=blk9 fA
     have la:=al fA
     obtain⟨xb0,xb1,xb2,xb3,xb4,xb5,xb6,xb7,xb8⟩:=blk9 fB
     have lb:=al fB
     obtain⟨xc0,xc1,xc2,xc3,xc4,xc5,xc6,xc7,xc8⟩:=blk9 fC
     have lc:=al fC
     go_wp2_with fail
     refine(HE.out _ hB).mono ?_
     rintro e w7 ⟨v,rfl,hv,hb⟩
     obtain⟨kt4,nm4,ut4,tk4,ta4,tn4,tq4,fk4,fa4,fn4,fq4,lt4,ct4,mt4,qt4,rfl⟩:=hv.shape
     clear xa0 xa1 xa2 xa3 xa4 xa5 xa6 xa7 xa8 xb0 xb1 xb2 xb3 xb4 xb5 xb6 xb7 xb8 xc0 xc1 xc2 xc3 xc4 xc5 xc6 xc7 xc8 la lb lc
     have hb':=ah (w:=w7) (o:=.cells #[.int .i64 kt4,.string nm4,.int .i64 ut4,.int .i64 tk4,.slice ta4 tn4 tq4,.int .i64 fk4,.slice fa4 fn4 fq4,.int .i64 lt4,.slice ct4 mt4 qt4] 28)
     replace fA:=af (af fA hb) hb';replace fB:=af (af fB hb) hb';replace fC:=af (af fC hb) hb'
     replace hB:=ai (ai hB hb) hb'
     have fX:=aD (w:=w7) (o:=.cells #[.int .i64 kt4,.string nm4,.int .i64 ut4,.int .i64 tk4,.slice ta4 tn4 tq4,.int .i64 fk4,.slice fa4 fn4 fq4,.int .i64 lt4,.slice ct4 mt4 qt4] 28) (b:=w7.heap.size) rfl
     have HX:=Lib.hid (hv.rep.below hb')
     have HXB:=Lib.hid hB
     clear hb hb' hv
     have HXW:=Lib.hid (fun W' (k:Below (w7.alloc (.cells #[.int .i64 kt4,.string nm4,.int .i64 ut4,.int .i64 tk4,.slice ta4 tn4 tq4,.int .i64 fk4,.slice fa4 fn4 fq4,.int .i64 lt4,.slice ct4 mt4 qt4] 28)).heap.size (w7.alloc (.cells #[.int .i64 kt4,.string nm4,.int .i64 ut4,.int .i64 tk4,.slice ta4 tn4 tq4,.int .i64 fk4,.slice fa4 fn4 fq4,.int .i64 lt4,.slice ct4 mt4 qt4] 28)) W')=>HX.out.below k)
     clear HX HXB
     have hY:=Below.refl (w7.alloc (.cells #[.int .i64 kt4,.string nm4,.int .i64 ut4,.int .i64 tk4,.slice ta4 tn4 tq4,.int .i64 fk4,.slice fa4 fn4 fq4,.int .i64 lt4,.slice ct4 mt4 qt4] 28)).heap.size (w7.alloc (.cells #[.int .i64 kt4,.string nm4,.int .i64 ut4,.int .i64 tk4,.slice ta4 tn4 tq4,.int .i64 fk4,.slice fa4 fn4 fq4,.int .i64 lt4,.slice ct4 mt4 qt4] 28))
     obtain⟨xa0,xa1,xa2,xa3,xa4,xa5,xa6,xa7,xa8⟩:=blk9 fA
     have la:=al fA
     obtain⟨xb0,xb1,xb2,xb3,xb4,xb5,xb6,xb7,xb8⟩:=blk9 fB
     have lb:=al fB
     obtain⟨xc0,xc1,xc2,xc3,xc4,xc5,xc6,xc7,xc8⟩:=blk9 fC
     have lc:=al fC
     obtain⟨xd0,xd1,xd2,xd3,xd4,xd5,xd6,xd7,xd8⟩:=blk9 fX
     have ld:=al fX
     go_wp2_with fail
     refine(HI11.out _ hB).mono ?_
     rintro e w8 ⟨rfl,hb⟩
     clear xa0 xa1 xa2 xa3 xa4 xa5 xa6 xa7 xa8 xb0 xb1 xb2 xb3 xb4 xb5 xb6 xb7 xb8 xc0 xc1 xc2 xc3 xc4 xc5 xc6 xc7 xc8 xd0 xd1 xd2 xd3 xd4 xd5 xd6 xd7 xd8 la lb lc ld
     replace fA:=af fA hb;replace fB:=af fB hb;replace fC:=af fC hb;replace fX:=af fX hb
     replace hB:=ai hB hb
     replace hY:=ai hY hb
     clear hb
     obtain⟨xa0,xa1,xa2,xa3,xa4,xa5,xa6,xa7,xa8⟩:=blk9 fA
     have la:=al fA
     obtain⟨xb0,xb1,xb2,xb3,xb4,xb5,xb6,xb7,xb8⟩:=blk9 fB
     have lb:=al fB
     obtain⟨xc0,xc1,xc2,xc3,xc4,xc5,xc6,xc7,xc8⟩:=blk9 fC
     have lc:=al fC
     obtain⟨xd0,xd1,xd2,xd3,xd4,xd5,xd6,xd7,xd8⟩:=blk9 fX
     have ld:=al fX
     go_wp2_with fail
     refine(HI13.out _ hB).mono ?_
     rintro e w9 ⟨rfl,hb⟩
     clear xa0 xa1 xa2 xa3 xa4 xa5 xa6 xa7 xa8 xb0 xb1 xb2 xb3 xb4 xb5 xb6 xb7 xb8 xc0 xc1 xc2 xc3 xc4 xc5 xc6 xc7 xc8 xd0 xd1 xd2 xd3 xd4 xd5 xd6 xd7 xd8 la lb lc ld
     replace fA:=af fA hb;replace fB:=af fB hb;replace fC:=af fC hb;replace fX:=af fX hb
     replace hB:=ai hB hb
     replace hY:=ai hY hb
     clear hb
     obtain⟨xa0,xa1,xa2,xa3,xa4,xa5,xa6,xa7,xa8⟩:=blk9 fA
     have la:=al fA
     obtain⟨xb0,xb1,xb2,xb3,xb4,xb5,xb6,xb7,xb8⟩:=blk9 fB
     have lb:=al fB
     obtain⟨xc0,xc1,xc2,xc3,xc4,xc5,xc6,xc7,xc8⟩:=blk9 fC
     have lc:=al fC
     obtain⟨xd0,xd1,xd2,xd3,xd4,xd5,xd6,xd7,xd8⟩:=blk9 fX
     have ld:=al fX
     go_wp2_with fail
     refine(HI21.out _ hB).mono ?_
     rintro e w10 ⟨rfl,hb⟩
     clear xa0 xa1 xa2 xa3 xa4 xa5 xa6 xa7 xa8 xb0 xb1 xb2 xb3 xb4 xb5 xb6 xb7 xb8 xc0 xc1 xc2 xc3 xc4 xc5 xc6 xc7 xc8 xd0 xd1 xd2 xd3 xd4 xd5 xd6 xd7 xd8 la lb lc ld
     replace fA:=af fA hb;replace fB:=af fB hb;replace fC:=af fC hb;replace fX:=af fX hb
     replace hB:=ai hB hb
     replace hY:=ai hY hb
     clear hb
     obtain⟨xa0,xa1,xa2,xa3,xa4,xa5,xa6,xa7,xa8⟩:=blk9 fA
     have la:=al fA
     obtain⟨xb0,xb1,xb2,xb3,xb4,xb5,xb6,xb7,xb8⟩:=blk9 fB
     have lb:=al fB
     obtain⟨xc0,xc1,xc2,xc3,xc4,xc5,xc6,xc7,xc8⟩:=blk9 fC
     have lc:=al fC
     obtain⟨xd0,xd1,xd2,xd3,xd4,xd5,xd6,xd7,xd8⟩:=blk9 fX
     have ld:=al fX
     go_wp2_with fail
     refine(HAX.out _ _ _ hB (HXW.out _ hY)).mono ?_
     rintro e w11 ⟨rfl,hb⟩
     clear xa0 xa1 xa2 xa3 xa4 xa5 xa6 xa7 xa8 xb0 xb1 xb2 xb3 xb4 xb5 xb6 xb7 xb8 xc0 xc1 xc2 xc3 xc4 xc5 xc6 xc7 xc8 xd0 xd1 xd2 xd3 xd4 xd5 xd6 xd7 xd8 la lb lc ld
     replace fA:=af fA hb;replace fB:=af fB hb;replace fC:=af fC hb;replace fX:=af fX hb
     replace hB:=ai hB hb
     replace hY:=ai hY hb
     clear hb
     go_wp2_with fail
     go_ret
     exact⟨rfl,ai HB1.out hB⟩
   | true=>
    obtain rfl:sm=true:=h2 (by simp) (by simp)
    clear h2
    cases q with
    | false=>
     clear h1
     go_wp2_with fail
     refine(HI12.out _ hB).mono ?_
     rintro e w2 ⟨rfl,hb⟩
     replace fA:=af fA hb;replace fB:=af fB hb;replace fC:=af fC hb
     replace hB:=ai hB hb
     clear hb
     obtain⟨xa0,xa1,xa2,xa3,xa4,xa5,xa6,xa7,xa8⟩:=blk9 fA
     have la:=al fA
     obtain⟨xb0,xb1,xb2,xb3,xb4,xb5,xb6,xb7,xb8⟩:=blk9 fB
     have lb:=al fB
     obtain⟨xc0,xc1,xc2,xc3,xc4,xc5,xc6,xc7,xc8⟩:=blk9 fC
     have lc:=al fC
     go_wp2_with fail
     refine(HI23.out _ hB).mono ?_
     rintro e w3 ⟨rfl,hb⟩
     clear xa0 xa1 xa2 xa3 xa4 xa5 xa6 xa7 xa8 xb0 xb1 xb2 xb3 xb4 xb5 xb6 xb7 xb8 xc0 xc1 xc2 xc3 xc4 xc5 xc6 xc7 xc8 la lb lc
     replace fA:=af fA hb;replace fB:=af fB hb;replace fC:=af fC hb
     replace hB:=ai hB hb
     clear hb
     obtain⟨xa0,xa1,xa2,xa3,xa4,xa5,xa6,xa7,xa8⟩:=blk9 fA
     have la:=al fA
     obtain⟨xb0,xb1,xb2,xb3,xb4,xb5,xb6,xb7,xb8⟩:=blk9 fB
     have lb:=al fB
     obtain⟨xc0,xc1,xc2,xc3,xc4,xc5,xc6,xc7,xc8⟩:=blk9 fC
     have lc:=al fC
     go_wp2_with fail
     refine(HS12.out _ hB).mono ?_
     rintro e w4 ⟨rfl,hb⟩
     clear xa0 xa1 xa2 xa3 xa4 xa5 xa6 xa7 xa8 xb0 xb1 xb2 xb3 xb4 xb5 xb6 xb7 xb8 xc0 xc1 xc2 xc3 xc4 xc5 xc6 xc7 xc8 la lb lc
     replace fA:=af fA hb;replace fB:=af fB hb;replace fC:=af fC hb
     replace hB:=ai hB hb
     clear hb
     obtain⟨xa0,xa1,xa2,xa3,xa4,xa5,xa6,xa7,xa8⟩:=blk9 fA
     have la:=al fA
     obtain⟨xb0,xb1,xb2,xb3,xb4,xb5,xb6,xb7,xb8⟩:=blk9 fB
     have lb:=al fB
     obtain⟨xc0,xc1,xc2,xc3,xc4,xc5,xc6,xc7,xc8⟩:=blk9 fC
     have lc:=al fC
     go_wp2_with fail
     refine(HS23.out _ hB).mono ?_
     rintro e w5 ⟨rfl,hb⟩
     clear xa0 xa1 xa2 xa3 xa4 xa5 xa6 xa7 xa8 xb0 xb1 xb2 xb3 xb4 xb5 xb6 xb7 xb8 xc0 xc1 xc2 xc3 xc4 xc5 xc6 xc7 xc8 la lb lc
     replace fA:=af fA hb;replace fB:=af fB hb;replace fC:=af fC hb
     replace hB:=ai hB hb
     clear hb
     obtain⟨xa0,xa1,xa2,xa3,xa4,xa5,xa6,xa7,xa8⟩:=blk9 fA
     have la:=al fA
     obtain⟨xb0,xb1,xb2,xb3,xb4,xb5,xb6,xb7,xb8⟩:=blk9 fB
     have lb:=al fB
     obtain⟨xc0,xc1,xc2,xc3,xc4,xc5,xc6,xc7,xc8⟩:=blk9 fC
     have lc:=al fC
     go_wp2_with fail
     refine(HV.out _ hB).mono ?_
     rintro e w6 ⟨rfl,hb⟩
     clear xa0 xa1 xa2 xa3 xa4 xa5 xa6 xa7 xa8 xb0 xb1 xb2 xb3 xb4 xb5 xb6 xb7 xb8 xc0 xc1 xc2 xc3 xc4 xc5 xc6 xc7 xc8 la lb lc
     replace fA:=af fA hb;replace fB:=af fB hb;replace fC:=af fC hb
     replace hB:=ai hB hb
     clear hb
     obtain⟨xa0,xa1,xa2,xa3,xa4,xa5,xa6,xa7,xa8⟩:=blk9 fA
     have la:=al fA
     obtain⟨xb0,xb1,xb2,xb3,xb4,xb5,xb6,xb7,xb8⟩:=blk9 fB
     have lb:=al fB
     obtain⟨xc0,xc1,xc2,xc3,xc4,xc5,xc6,xc7,xc8⟩:=blk9 fC
     have lc:=al fC
     go_wp2_with fail
     refine(HE.out _ hB).mono ?_
     rintro e w7 ⟨v,rfl,hv,hb⟩
     obtain⟨kt4,nm4,ut4,tk4,ta4,tn4,tq4,fk4,fa4,fn4,fq4,lt4,ct4,mt4,qt4,rfl⟩:=hv.shape
     clear xa0 xa1 xa2 xa3 xa4 xa5 xa6 xa7 xa8 xb0 xb1 xb2 xb3 xb4 xb5 xb6 xb7 xb8 xc0 xc1 xc2 xc3 xc4 xc5 xc6 xc7 xc8 la lb lc
     have hb':=ah (w:=w7) (o:=.cells #[.int .i64 kt4,.string nm4,.int .i64 ut4,.int .i64 tk4,.slice ta4 tn4 tq4,.int .i64 fk4,.slice fa4 fn4 fq4,.int .i64 lt4,.slice ct4 mt4 qt4] 28)
     replace fA:=af (af fA hb) hb';replace fB:=af (af fB hb) hb';replace fC:=af (af fC hb) hb'
     replace hB:=ai (ai hB hb) hb'
     have fX:=aD (w:=w7) (o:=.cells #[.int .i64 kt4,.string nm4,.int .i64 ut4,.int .i64 tk4,.slice ta4 tn4 tq4,.int .i64 fk4,.slice fa4 fn4 fq4,.int .i64 lt4,.slice ct4 mt4 qt4] 28) (b:=w7.heap.size) rfl
     have HX:=Lib.hid (hv.rep.below hb')
     have HXB:=Lib.hid hB
     clear hb hb' hv
     have HXW:=Lib.hid (fun W' (k:Below (w7.alloc (.cells #[.int .i64 kt4,.string nm4,.int .i64 ut4,.int .i64 tk4,.slice ta4 tn4 tq4,.int .i64 fk4,.slice fa4 fn4 fq4,.int .i64 lt4,.slice ct4 mt4 qt4] 28)).heap.size (w7.alloc (.cells #[.int .i64 kt4,.string nm4,.int .i64 ut4,.int .i64 tk4,.slice ta4 tn4 tq4,.int .i64 fk4,.slice fa4 fn4 fq4,.int .i64 lt4,.slice ct4 mt4 qt4] 28)) W')=>HX.out.below k)
     clear HX HXB
     have hY:=Below.refl (w7.alloc (.cells #[.int .i64 kt4,.string nm4,.int .i64 ut4,.int .i64 tk4,.slice ta4 tn4 tq4,.int .i64 fk4,.slice fa4 fn4 fq4,.int .i64 lt4,.slice ct4 mt4 qt4] 28)).heap.size (w7.alloc (.cells #[.int .i64 kt4,.string nm4,.int .i64 ut4,.int .i64 tk4,.slice ta4 tn4 tq4,.int .i64 fk4,.slice fa4 fn4 fq4,.int .i64 lt4,.slice ct4 mt4 qt4] 28))
     obtain⟨xa0,xa1,xa2,xa3,xa4,xa5,xa6,xa7,xa8⟩:=blk9 fA
     have la:=al fA
     obtain⟨xb0,xb1,xb2,xb3,xb4,xb5,xb6,xb7,xb8⟩:=blk9 fB
     have lb:=al fB
     obtain⟨xc0,xc1,xc2,xc3,xc4,xc5,xc6,xc7,xc8⟩:=blk9 fC
     have lc:=al fC
     obtain⟨xd0,xd1,xd2,xd3,xd4,xd5,xd6,xd7,xd8⟩:=blk9 fX
     have ld:=al fX
     go_wp2_with fail
     refine(HI11.out _ hB).mono ?_
     rintro e w8 ⟨rfl,hb⟩
     clear xa0 xa1 xa2 xa3 xa4 xa5 xa6 xa7 xa8 xb0 xb1 xb2 xb3 xb4 xb5 xb6 xb7 xb8 xc0 xc1 xc2 xc3 xc4 xc5 xc6 xc7 xc8 xd0 xd1 xd2 xd3 xd4 xd5 xd6 xd7 xd8 la lb lc ld
     replace fA:=af fA hb;replace fB:=af fB hb;replace fC:=af fC hb;replace fX:=af fX hb
     replace hB:=ai hB hb
     replace hY:=ai hY hb
     clear hb
     obtain⟨xa0,xa1,xa2,xa3,xa4,xa5,xa6,xa7,xa8⟩:=blk9 fA
     have la:=al fA
     obtain⟨xb0,xb1,xb2,xb3,xb4,xb5,xb6,xb7,xb8⟩:=blk9 fB
     have lb:=al fB
     obtain⟨xc0,xc1,xc2,xc3,xc4,xc5,xc6,xc7,xc8⟩:=blk9 fC
     have lc:=al fC
     obtain⟨xd0,xd1,xd2,xd3,xd4,xd5,xd6,xd7,xd8⟩:=blk9 fX
     have ld:=al fX
     go_wp2_with fail
     refine(HI21.out _ hB).mono ?_
     rintro e w9 ⟨rfl,hb⟩
     clear xa0 xa1 xa2 xa3 xa4 xa5 xa6 xa7 xa8 xb0 xb1 xb2 xb3 xb4 xb5 xb6 xb7 xb8 xc0 xc1 xc2 xc3 xc4 xc5 xc6 xc7 xc8 xd0 xd1 xd2 xd3 xd4 xd5 xd6 xd7 xd8 la lb lc ld
     replace fA:=af fA hb;replace fB:=af fB hb;replace fC:=af fC hb;replace fX:=af fX hb
     replace hB:=ai hB hb
     replace hY:=ai hY hb
     clear hb
     obtain⟨xa0,xa1,xa2,xa3,xa4,xa5,xa6,xa7,xa8⟩:=blk9 fA
     have la:=al fA
     obtain⟨xb0,xb1,xb2,xb3,xb4,xb5,xb6,xb7,xb8⟩:=blk9 fB
     have lb:=al fB
     obtain⟨xc0,xc1,xc2,xc3,xc4,xc5,xc6,xc7,xc8⟩:=blk9 fC
     have lc:=al fC
     obtain⟨xd0,xd1,xd2,xd3,xd4,xd5,xd6,xd7,xd8⟩:=blk9 fX
     have ld:=al fX
     go_wp2_with fail
     refine(HSM.out _ hB).mono ?_
     rintro e w10 ⟨rfl,hb⟩
     clear xa0 xa1 xa2 xa3 xa4 xa5 xa6 xa7 xa8 xb0 xb1 xb2 xb3 xb4 xb5 xb6 xb7 xb8 xc0 xc1 xc2 xc3 xc4 xc5 xc6 xc7 xc8 xd0 xd1 xd2 xd3 xd4 xd5 xd6 xd7 xd8 la lb lc ld
     replace fA:=af fA hb;replace fB:=af fB hb;replace fC:=af fC hb;replace fX:=af fX hb
     replace hB:=ai hB hb
     replace hY:=ai hY hb
     clear hb
     obtain⟨xa0,xa1,xa2,xa3,xa4,xa5,xa6,xa7,xa8⟩:=blk9 fA
     have la:=al fA
     obtain⟨xb0,xb1,xb2,xb3,xb4,xb5,xb6,xb7,xb8⟩:=blk9 fB
     have lb:=al fB
     obtain⟨xc0,xc1,xc2,xc3,xc4,xc5,xc6,xc7,xc8⟩:=blk9 fC
     have lc:=al fC
     obtain⟨xd0,xd1,xd2,xd3,xd4,xd5,xd6,xd7,xd8⟩:=blk9 fX
     have ld:=al fX
     go_wp2_with fail
     refine(HAX.out _ _ _ hB (HXW.out _ hY)).mono ?_
     rintro e w11 ⟨rfl,hb⟩
     clear xa0 xa1 xa2 xa3 xa4 xa5 xa6 xa7 xa8 xb0 xb1 xb2 xb3 xb4 xb5 xb6 xb7 xb8 xc0 xc1 xc2 xc3 xc4 xc5 xc6 xc7 xc8 xd0 xd1 xd2 xd3 xd4 xd5 xd6 xd7 xd8 la lb lc ld
     replace fA:=af fA hb;replace fB:=af fB hb;replace fC:=af fC hb;replace fX:=af fX hb
     replace hB:=ai hB hb
     replace hY:=ai hY hb
     clear hb
     go_wp2_with fail
     go_ret
     exact⟨rfl,ai HB1.out hB⟩
    | true=>
     obtain rfl:pac=true:=h1 (by simp) (by simp)
     clear h1
     go_wp2_with fail
     refine(HI12.out _ hB).mono ?_
     rintro e w2 ⟨rfl,hb⟩
     replace fA:=af fA hb;replace fB:=af fB hb;replace fC:=af fC hb
     replace hB:=ai hB hb
     clear hb
     obtain⟨xa0,xa1,xa2,xa3,xa4,xa5,xa6,xa7,xa8⟩:=blk9 fA
     have la:=al fA
     obtain⟨xb0,xb1,xb2,xb3,xb4,xb5,xb6,xb7,xb8⟩:=blk9 fB
     have lb:=al fB
     obtain⟨xc0,xc1,xc2,xc3,xc4,xc5,xc6,xc7,xc8⟩:=blk9 fC
     have lc:=al fC
     go_wp2_with fail
     refine(HI23.out _ hB).mono ?_
     rintro e w3 ⟨rfl,hb⟩
     clear xa0 xa1 xa2 xa3 xa4 xa5 xa6 xa7 xa8 xb0 xb1 xb2 xb3 xb4 xb5 xb6 xb7 xb8 xc0 xc1 xc2 xc3 xc4 xc5 xc6 xc7 xc8 la lb lc
     replace fA:=af fA hb;replace fB:=af fB hb;replace fC:=af fC hb
     replace hB:=ai hB hb
     clear hb
     obtain⟨xa0,xa1,xa2,xa3,xa4,xa5,xa6,xa7,xa8⟩:=blk9 fA
     have la:=al fA
     obtain⟨xb0,xb1,xb2,xb3,xb4,xb5,xb6,xb7,xb8⟩:=blk9 fB
     have lb:=al fB
     obtain⟨xc0,xc1,xc2,xc3,xc4,xc5,xc6,xc7,xc8⟩:=blk9 fC
     have lc:=al fC
     go_wp2_with fail
     refine(HS12.out _ hB).mono ?_
     rintro e w4 ⟨rfl,hb⟩
     clear xa0 xa1 xa2 xa3 xa4 xa5 xa6 xa7 xa8 xb0 xb1 xb2 xb3 xb4 xb5 xb6 xb7 xb8 xc0 xc1 xc2 xc3 xc4 xc5 xc6 xc7 xc8 la lb lc
     replace fA:=af fA hb;replace fB:=af fB hb;replace fC:=af fC hb
     replace hB:=ai hB hb
     clear hb
     obtain⟨xa0,xa1,xa2,xa3,xa4,xa5,xa6,xa7,xa8⟩:=blk9 fA
     have la:=al fA
     obtain⟨xb0,xb1,xb2,xb3,xb4,xb5,xb6,xb7,xb8⟩:=blk9 fB
     have lb:=al fB
     obtain⟨xc0,xc1,xc2,xc3,xc4,xc5,xc6,xc7,xc8⟩:=blk9 fC
     have lc:=al fC
     go_wp2_with fail
     refine(HS23.out _ hB).mono ?_
     rintro e w5 ⟨rfl,hb⟩
     clear xa0 xa1 xa2 xa3 xa4 xa5 xa6 xa7 xa8 xb0 xb1 xb2 xb3 xb4 xb5 xb6 xb7 xb8 xc0 xc1 xc2 xc3 xc4 xc5 xc6 xc7 xc8 la lb lc
     replace fA:=af fA hb;replace fB:=af fB hb;replace fC:=af fC hb
     replace hB:=ai hB hb
     clear hb
     obtain⟨xa0,xa1,xa2,xa3,xa4,xa5,xa6,xa7,xa8⟩:=blk9 fA
     have la:=al fA
     obtain⟨xb0,xb1,xb2,xb3,xb4,xb5,xb6,xb7,xb8⟩:=blk9 fB
     have lb:=al fB
     obtain⟨xc0,xc1,xc2,xc3,xc4,xc5,xc6,xc7,xc8⟩:=blk9 fC
     have lc:=al fC
     go_wp2_with fail
     refine(HV.out _ hB).mono ?_
     rintro e w6 ⟨rfl,hb⟩
     clear xa0 xa1 xa2 xa3 xa4 xa5 xa6 xa7 xa8 xb0 xb1 xb2 xb3 xb4 xb5 xb6 xb7 xb8 xc0 xc1 xc2 xc3 xc4 xc5 xc6 xc7 xc8 la lb lc
     replace fA:=af fA hb;replace fB:=af fB hb;replace fC:=af fC hb
     replace hB:=ai hB hb
     clear hb
     obtain⟨xa0,xa1,xa2,xa3,xa4,xa5,xa6,xa7,xa8⟩:=blk9 fA
     have la:=al fA
     obtain⟨xb0,xb1,xb2,xb3,xb4,xb5,xb6,xb7,xb8⟩:=blk9 fB
     have lb:=al fB
     obtain⟨xc0,xc1,xc2,xc3,xc4,xc5,xc6,xc7,xc8⟩:=blk9 fC
     have lc:=al fC
     go_wp2_with fail
     refine(HE.out _ hB).mono ?_
     rintro e w7 ⟨v,rfl,hv,hb⟩
     obtain⟨kt4,nm4,ut4,tk4,ta4,tn4,tq4,fk4,fa4,fn4,fq4,lt4,ct4,mt4,qt4,rfl⟩:=hv.shape
     clear xa0 xa1 xa2 xa3 xa4 xa5 xa6 xa7 xa8 xb0 xb1 xb2 xb3 xb4 xb5 xb6 xb7 xb8 xc0 xc1 xc2 xc3 xc4 xc5 xc6 xc7 xc8 la lb lc
     have hb':=ah (w:=w7) (o:=.cells #[.int .i64 kt4,.string nm4,.int .i64 ut4,.int .i64 tk4,.slice ta4 tn4 tq4,.int .i64 fk4,.slice fa4 fn4 fq4,.int .i64 lt4,.slice ct4 mt4 qt4] 28)
     replace fA:=af (af fA hb) hb';replace fB:=af (af fB hb) hb';replace fC:=af (af fC hb) hb'
     replace hB:=ai (ai hB hb) hb'
     have fX:=aD (w:=w7) (o:=.cells #[.int .i64 kt4,.string nm4,.int .i64 ut4,.int .i64 tk4,.slice ta4 tn4 tq4,.int .i64 fk4,.slice fa4 fn4 fq4,.int .i64 lt4,.slice ct4 mt4 qt4] 28) (b:=w7.heap.size) rfl
     have HX:=Lib.hid (hv.rep.below hb')
     have HXB:=Lib.hid hB
     clear hb hb' hv
     have HXW:=Lib.hid (fun W' (k:Below (w7.alloc (.cells #[.int .i64 kt4,.string nm4,.int .i64 ut4,.int .i64 tk4,.slice ta4 tn4 tq4,.int .i64 fk4,.slice fa4 fn4 fq4,.int .i64 lt4,.slice ct4 mt4 qt4] 28)).heap.size (w7.alloc (.cells #[.int .i64 kt4,.string nm4,.int .i64 ut4,.int .i64 tk4,.slice ta4 tn4 tq4,.int .i64 fk4,.slice fa4 fn4 fq4,.int .i64 lt4,.slice ct4 mt4 qt4] 28)) W')=>HX.out.below k)
     clear HX HXB
     have hY:=Below.refl (w7.alloc (.cells #[.int .i64 kt4,.string nm4,.int .i64 ut4,.int .i64 tk4,.slice ta4 tn4 tq4,.int .i64 fk4,.slice fa4 fn4 fq4,.int .i64 lt4,.slice ct4 mt4 qt4] 28)).heap.size (w7.alloc (.cells #[.int .i64 kt4,.string nm4,.int .i64 ut4,.int .i64 tk4,.slice ta4 tn4 tq4,.int .i64 fk4,.slice fa4 fn4 fq4,.int .i64 lt4,.slice ct4 mt4 qt4] 28))
     obtain⟨xa0,xa1,xa2,xa3,xa4,xa5,xa6,xa7,xa8⟩:=blk9 fA
     have la:=al fA
     obtain⟨xb0,xb1,xb2,xb3,xb4,xb5,xb6,xb7,xb8⟩:=blk9 fB
     have lb:=al fB
     obtain⟨xc0,xc1,xc2,xc3,xc4,xc5,xc6,xc7,xc8⟩:=blk9 fC
     have lc:=al fC
     obtain⟨xd0,xd1,xd2,xd3,xd4,xd5,xd6,xd7,xd8⟩:=blk9 fX
     have ld:=al fX
     go_wp2_with fail
     refine(HI11.out _ hB).mono ?_
     rintro e w8 ⟨rfl,hb⟩
     clear xa0 xa1 xa2 xa3 xa4 xa5 xa6 xa7 xa8 xb0 xb1 xb2 xb3 xb4 xb5 xb6 xb7 xb8 xc0 xc1 xc2 xc3 xc4 xc5 xc6 xc7 xc8 xd0 xd1 xd2 xd3 xd4 xd5 xd6 xd7 xd8 la lb lc ld
     replace fA:=af fA hb;replace fB:=af fB hb;replace fC:=af fC hb;replace fX:=af fX hb
     replace hB:=ai hB hb
     replace hY:=ai hY hb
     clear hb
     obtain⟨xa0,xa1,xa2,xa3,xa4,xa5,xa6,xa7,xa8⟩:=blk9 fA
     have la:=al fA
     obtain⟨xb0,xb1,xb2,xb3,xb4,xb5,xb6,xb7,xb8⟩:=blk9 fB
     have lb:=al fB
     obtain⟨xc0,xc1,xc2,xc3,xc4,xc5,xc6,xc7,xc8⟩:=blk9 fC
     have lc:=al fC
     obtain⟨xd0,xd1,xd2,xd3,xd4,xd5,xd6,xd7,xd8⟩:=blk9 fX
     have ld:=al fX
     go_wp2_with fail
     refine(HI13.out _ hB).mono ?_
     rintro e w9 ⟨rfl,hb⟩
     clear xa0 xa1 xa2 xa3 xa4 xa5 xa6 xa7 xa8 xb0 xb1 xb2 xb3 xb4 xb5 xb6 xb7 xb8 xc0 xc1 xc2 xc3 xc4 xc5 xc6 xc7 xc8 xd0 xd1 xd2 xd3 xd4 xd5 xd6 xd7 xd8 la lb lc ld
     replace fA:=af fA hb;replace fB:=af fB hb;replace fC:=af fC hb;replace fX:=af fX hb
     replace hB:=ai hB hb
     replace hY:=ai hY hb
     clear hb
     obtain⟨xa0,xa1,xa2,xa3,xa4,xa5,xa6,xa7,xa8⟩:=blk9 fA
     have la:=al fA
     obtain⟨xb0,xb1,xb2,xb3,xb4,xb5,xb6,xb7,xb8⟩:=blk9 fB
     have lb:=al fB
     obtain⟨xc0,xc1,xc2,xc3,xc4,xc5,xc6,xc7,xc8⟩:=blk9 fC
     have lc:=al fC
     obtain⟨xd0,xd1,xd2,xd3,xd4,xd5,xd6,xd7,xd8⟩:=blk9 fX
     have ld:=al fX
     go_wp2_with fail
     refine(HI21.out _ hB).mono ?_
     rintro e w10 ⟨rfl,hb⟩
     clear xa0 xa1 xa2 xa3 xa4 xa5 xa6 xa7 xa8 xb0 xb1 xb2 xb3 xb4 xb5 xb6 xb7 xb8 xc0 xc1 xc2 xc3 xc4 xc5 xc6 xc7 xc8 xd0 xd1 xd2 xd3 xd4 xd5 xd6 xd7 xd8 la lb lc ld
     replace fA:=af fA hb;replace fB:=af fB hb;replace fC:=af fC hb;replace fX:=af fX hb
     replace hB:=ai hB hb
     replace hY:=ai hY hb
     clear hb
     obtain⟨xa0,xa1,xa2,xa3,xa4,xa5,xa6,xa7,xa8⟩:=blk9 fA
     have la:=al fA
     obtain⟨xb0,xb1,xb2,xb3,xb4,xb5,xb6,xb7,xb8⟩:=blk9 fB
     have lb:=al fB
     obtain⟨xc0,xc1,xc2,xc3,xc4,xc5,xc6,xc7,xc8⟩:=blk9 fC
     have lc:=al fC
     obtain⟨xd0,xd1,xd2,xd3,xd4,xd5,xd6,xd7,xd8⟩:=blk9 fX
     have ld:=al fX
     go_wp2_with fail
     refine(HSM.out _ hB).mono ?_
     rintro e w11 ⟨rfl,hb⟩
     clear xa0 xa1 xa2 xa3 xa4 xa5 xa6 xa7 xa8 xb0 xb1 xb2 xb3 xb4 xb5 xb6 xb7 xb8 xc0 xc1 xc2 xc3 xc4 xc5 xc6 xc7 xc8 xd0 xd1 xd2 xd3 xd4 xd5 xd6 xd7 xd8 la lb lc ld
     replace fA:=af fA hb;replace fB:=af fB hb;replace fC:=af fC hb;replace fX:=af fX hb
     replace hB:=ai hB hb
     replace hY:=ai hY hb
     clear hb
     obtain⟨xa0,xa1,xa2,xa3,xa4,xa5,xa6,xa7,xa8⟩:=blk9 fA
     have la:=al fA
     obtain⟨xb0,xb1,xb2,xb3,xb4,xb5,xb6,xb7,xb8⟩:=blk9 fB
     have lb:=al fB
     obtain⟨xc0,xc1,xc2,xc3,xc4,xc5,xc6,xc7,xc8⟩:=blk9 fC
     have lc:=al fC
     obtain⟨xd0,xd1,xd2,xd3,xd4,xd5,xd6,xd7,xd8⟩:=blk9 fX
     have ld:=al fX
     go_wp2_with fail
     refine(HAX.out _ _ _ hB (HXW.out _ hY)).mono ?_
     rintro e w12 ⟨rfl,hb⟩
     clear xa0 xa1 xa2 xa3 xa4 xa5 xa6 xa7 xa8 xb0 xb1 xb2 xb3 xb4 xb5 xb6 xb7 xb8 xc0 xc1 xc2 xc3 xc4 xc5 xc6 xc7 xc8 xd0 xd1 xd2 xd3 xd4 xd5 xd6 xd7 xd8 la lb lc ld
     replace fA:=af fA hb;replace fB:=af fB hb;replace fC:=af fC hb;replace fX:=af fX hb
     replace hB:=ai hB hb
     replace hY:=ai hY hb
     clear hb
     go_wp2_with fail
     go_ret
     exact⟨rfl,ai HB1.out hB⟩
end Go.Proofs.Ytnaoghknnenfoaa

/-
  spec.l3Make: the way of the kind any.
-/
import Derived.Test.YtnaoghknnenfoaaMkH
set_option linter.unusedSimpArgs false
set_option linter.unusedVariables false
set_option maxRecDepth 100000
namespace Go.Proofs.Ytnaoghknnenfoaa
open Go.RowKit
set_option maxHeartbeats 16000000 in
theorem mkWany (dd:Int)(r p:Nat)(l:List Bd)(w:World)(kt:Int)(ta:Option Addr)(tn tq:Nat)(xa:Option Addr)(xn xq:Nat):(cL dd S.any r p l w kt ta tn tq xa xn xq).1.2.2.2.2:=by
 intro hd5 hdlo hnl hrl HN hx60 hwn hwd HWK HX0 HT0 HCNT HNL HCV HOK HSV HIH HRD0 HKT HL60 MB hmb hp HMB i1_ wr u10 u11 i2_ i3_ i4_ i5_ i6_ i7_ i8_ i9_ i10_ i11_ i12_ i13_ i14_ i15_ i16_ i17_ i18_ i19_ i20_ i21_ i22_ i23_ i24_ i25_ i26_ i27_ i28_ i29_ i30_ i31_ i32_ i33_ i34_ i35_ i36_ i37_ i38_ i39_ wc u12 u13 u14 u15 u16 u17 u18 u19 u20 u21 u22 u23 u24 u25 u26 u27 u28 u29 u30 u31 u32 u33 u34 u35 u36 u37 u38 u39 u40 u41 u42 u43 u44 u45 u46 u47 u48 u49 u50 u51 u52 u53 u54 u55 u56 u57 u58 u59 u60 u61 u62 u63 u64 u65 u66 u67 u68 u69 u70 u71 u72 u73 u74 u75 u76 u77 u78 u79 u80 u81 u82 u83 u84 u85 u86 u87 u88 u89 u90 u91 u92 u93 u94 u95 u96 u97 u98 u99 u100 u101 u102 u103 u104 u105 u106 u107 u108 u109 u110 u111 u112 u113 u114 u115 u116 u117 u118 u119 u120 u121 u122 u125 u126 u127 u128 u129 u130 u131 u132 u133 u134 u135 u136 u137 u138 u139 u140 u141 u142 u143 u144 u145 u146 u147 u149 u150 u151 u152 u153 u154 u155 u156 u157 u158 u159 u160 u161 u162 u164 u165 u166 u167 u168 u169 u170 u171 u172 u173 u174 u175 u176 u177 u178 u179 u180 u181 u182 u183 u184 u186 u187 u188 u189 u190 u191 u192 u193 u194 u195 u196 u197 u198 u199 u200 u201 u202 u203 u204 u205 u206 u207 u208 u209 u210 u211 u212 u213 u214 u215 u216 u217 u218 u219 u220 u221 u222 u223 u224 u225 u226 u227 u228 u229 u230 u231 u232 u233 u234 q hq hsz fC rd fT fR hX hT
 obtain rfl:kt=1:=HKT.out
 obtain⟨y0,y1⟩:=blk2 fT;have lyT:=al fT
 by_cases hd1:1<dd
 ·have hdb:decide (dd>1)=true:=by simpa using hd1
  have HD2:=Lib.hid (show 2≤dd by omega)
  have hU4:MB=4*mkU dd:=HMB.out.symm.trans (dt _ (by omega))
  have hU0:=dm dd
  obtain⟨U,hU⟩ : ∃U,mkU dd=U:=⟨_,rfl⟩
  rw [hU] at hU4 hU0
  have HUU:=Lib.hid hU
  have hMB1:4*U≤MB:=by omega
  have hMB2:MB≤4*U:=by omega
  clear hU hU4
  have HLB:=Lib.hid (bv (s:=S.bool) HD2.out rfl)
  have HLI:=Lib.hid (bv (s:=S.int) HD2.out rfl)
  have HLS:=Lib.hid (bv HD2.out HSV.out)
  go_wp2_with fail
  refine(bE r (q) 3 _ rd.out (by omega) (by omega)).mono ?_
  rintro e m1 ⟨jx,rfl,hjk0,hjk1,hrd,hb⟩
  have zm1:=hb.size
  (try simp only [World.size_alloc] at zm1)
  replace fT:=aB fT hb (by omega);replace fR:=aB fR hb (by omega);replace fC:=Lib.hid (fC.out.trans hb);replace hX:=Lib.hid (hX.out.move (kpN hb (fun b hb=>hb.1)))
  replace hT:=Lib.hid (hT.out.move (kpN hb (fun b hb=>hb.1)))
  replace rd:=Lib.hid hrd
  clear hrd
  clear hb
  clear hjk0 hjk1
  rcases Bool.eq_false_or_eq_true (jx==0) with hx0 | hx0
  ·go_wp2_with fail
   refine(fi 2 r _ _ (by omega) (by omega) rd.out (by omega)).mono ?_
   rintro e m2 ⟨s2,v,qs,rfl,hvs2,hv,hqs,hrd,hb⟩
   obtain⟨kb,ab,nb,qb,rfl⟩:=hv.shape
   have hB_':Hid (ap (fun b=>m1.heap.size≤b∧b<m2.heap.size) m2 s2.ty (.agg #[.int .i64 kb,.slice ab nb qb])):=Lib.hid (hv.move (.weaken fun b h1 h2=>⟨h1,h2⟩))
   clear hv
   have zm2:=hb.size
   (try simp only [World.size_alloc] at zm2)
   replace fT:=aB fT hb (by omega);replace fR:=aB fR hb (by omega);replace fC:=Lib.hid (fC.out.trans hb);replace hX:=Lib.hid (hX.out.move (kpN hb (fun b hb=>hb.1)))
   replace hT:=Lib.hid (hT.out.move (kpN hb (fun b hb=>hb.1)))
   replace rd:=Lib.hid hrd
   clear hrd
   clear hb
   have hB_:=hB_'
   clear hB_'
   go_wp2_with fail
   refine(HIH.out (s2) l (cu HD2.out HSV.out hvs2) hvs2 HOK.out (by omega) HNL.out _ _ _ _ rd.out (hX.out.move (.weaken fun b h _=>h.1)) HCV.out (hB_.out.move (.weaken fun b h _=>by have h1:=h.1;intro e;omega)) (by have h1:=bv HD2.out hvs2;have h0:=HUU.out;omega)).mono ?_
   rintro e m3 ⟨t2,v,q2,rfl,hcn2,hv,hq2,hrd,hb⟩
   obtain⟨kt2,nm2,ut2,tk2,ta2,tn2,tq2,fk2,fa2,fn2,fq2,lt2,ct2,mt2,qt2,rfl⟩:=hv.shape
   have HC2:=Lib.hid hcn2
   have h2_':Hid (az (fun b=>m2.heap.size≤b∧b<m3.heap.size) m3 t2 (.agg #[.int .i64 kt2,.string nm2,.int .i64 ut2,.int .i64 tk2,.slice ta2 tn2 tq2,.int .i64 fk2,.slice fa2 fn2 fq2,.int .i64 lt2,.slice ct2 mt2 qt2])):=Lib.hid (hv.move (.weaken fun b h1 h2=>⟨h1,h2⟩))
   clear hv hcn2
   have zm3:=hb.size
   (try simp only [World.size_alloc] at zm3)
   replace fT:=aB fT hb (by omega);replace fR:=aB fR hb (by omega);replace fC:=Lib.hid (fC.out.trans hb);replace hX:=Lib.hid (hX.out.move (kpN hb (fun b hb=>hb.1)))
   replace hT:=Lib.hid (hT.out.move (kpN hb (fun b hb=>hb.1)));replace hB_:=Lib.hid (hB_.out.move (kpN hb (fun b hb=>by have h1:=hb.1;have h2:=hb.2;omega)))
   replace rd:=Lib.hid hrd
   clear hrd
   clear hb
   have h2_:=h2_'
   clear h2_'
   obtain⟨x0,f0,x1,f1,x2,f2,x3,f3,x4,f4,x5,f5,x6,f6,x7,f7,x8,f8⟩:=blk9f fR
   have lxR:=al fR
   have h1:=bv HD2.out hvs2
   have h0:=HUU.out
   have hRR:az (w.heap.size+1+1 ≤ ·) m3 (t2) (.agg #[.int .i64 kt2,.string nm2,.int .i64 ut2,.int .i64 tk2,.slice ta2 tn2 tq2,.int .i64 fk2,.slice fa2 fn2 fq2,.int .i64 lt2,.slice ct2 mt2 qt2]):=h2_.out.move (.weaken fun b h _=>by have h1:=h.1;show w.heap.size+1+1≤b;omega)
   have hcc:(t2).cnt≤MB:=by
    have g1:=HC2.out
    (try simp only [Tm.cnt,Tm.cnts,Ty.cnt,Ty.cnts,List.length_cons,List.length_nil,show({ data:=#[] }:ByteArray).size=0 from rfl])
    omega
   have HEND:=Lib.hid (DTm.stored (p:=p) (r:=r) (w:=w) (R:=w.heap.size+1) (B:=w.heap.size+1+1) (c:=MB) (m:=MB) (v0:=.int .i64 kt2) (v1:=.string nm2) (v2:=.int .i64 ut2) (v3:=.int .i64 tk2) (v4:=.slice ta2 tn2 tq2) (v5:=.int .i64 fk2) (v6:=.slice fa2 fn2 fq2) (v7:=.int .i64 lt2) (v8:=.slice ct2 mt2 qt2) hRR hcc (by omega) (by omega) rd.out fC.out (by omega) (by omega) (by omega))
   clear hRR hcc
   (try clear hks)
   (try clear hN)
   (try clear fL)
   go_wp2_with fail
   refine bodyPost_ret (v:=.agg #[.int .i64 kt2,.string nm2,.int .i64 ut2,.int .i64 tk2,.slice ta2 tn2 tq2,.int .i64 fk2,.slice fa2 fn2 fq2,.int .i64 lt2,.slice ct2 mt2 qt2]) (by simp [results,Try.results24,go_sem,x0,x1,x2,x3,x4,x5,x6,x7,x8]) rfl ?_
   exact HEND.out
  ·go_wp2_with fail
   refine(bE r (q+1) 3 _ rd.out (by omega) (by omega)).mono ?_
   rintro e m9 ⟨jy,rfl,hjk0,hjk1,hrd,hb⟩
   have zm9:=hb.size
   (try simp only [World.size_alloc] at zm9)
   replace fT:=aB fT hb (by omega);replace fR:=aB fR hb (by omega);replace fC:=Lib.hid (fC.out.trans hb);replace hX:=Lib.hid (hX.out.move (kpN hb (fun b hb=>hb.1)))
   replace hT:=Lib.hid (hT.out.move (kpN hb (fun b hb=>hb.1)))
   replace rd:=Lib.hid hrd
   clear hrd
   clear hb
   clear hjk0 hjk1
   rcases Bool.eq_false_or_eq_true (jy==0) with hy0 | hy0
   ·go_wp2_with fail
    refine(dg _).mono ?_
    rintro e m10 ⟨v,rfl,hv,hb⟩
    obtain⟨kc,ac,nc,qc,rfl⟩:=hv.shape
    have hN':Hid (ap (fun b=>m9.heap.size≤b∧b<m10.heap.size) m10 (.mk 1 []) (.agg #[.int .i64 kc,.slice ac nc qc])):=Lib.hid (hv.rep.move (.weaken fun b h1 h2=>⟨h1,h2⟩))
    clear hv
    have zm10:=hb.size
    (try simp only [World.size_alloc] at zm10)
    replace fT:=af fT hb;replace fR:=af fR hb;replace fC:=Lib.hid (fC.out.trans (Chg.of_below hb));replace rd:=Lib.hid (rd.out.below hb)
    replace hX:=Lib.hid (hX.out.below hb);replace hT:=Lib.hid (hT.out.below hb)
    clear hb
    have hN:=hN'
    clear hN'
    have hba:=ah (w:=m10) (o:=.cells #[.int .i64 4,.string { data:=#[] },.int .i64 0,.int .i64 0,.slice none 0 0,.int .i64 0,.slice none 0 0,.int .i64 0,.slice none 0 0] 28)
    have fL:=aD (w:=m10) (o:=.cells #[.int .i64 4,.string { data:=#[] },.int .i64 0,.int .i64 0,.slice none 0 0,.int .i64 0,.slice none 0 0,.int .i64 0,.slice none 0 0] 28) (b:=m10.heap.size) rfl
    replace fT:=af fT hba;replace fR:=af fR hba;replace fC:=Lib.hid (fC.out.trans (Chg.of_below hba));replace rd:=Lib.hid (rd.out.below hba)
    replace hX:=Lib.hid (hX.out.below hba);replace hT:=Lib.hid (hT.out.below hba);replace hN:=Lib.hid (hN.out.below hba)
    clear hba
    have hks:aV (w.heap.size+1+1 ≤ ·) (m10.alloc (.cells #[.int .i64 4,.string { data:=#[] },.int .i64 0,.int .i64 0,.slice none 0 0,.int .i64 0,.slice none 0 0,.int .i64 0,.slice none 0 0] 28)) [Tm.mk 4 { data:=#[] } 0 (.mk 0 []) (.mk 0 []) 0 []] (.slice (some ⟨m10.heap.size,0,none⟩) 1 1):=aV.blk (by show w.heap.size+1+1≤_;omega) fL rfl (by unfold maxLen;omega) (b4.c1 (az.leaf0 (F:=(w.heap.size+1+1 ≤ ·)) (w:=(m10.alloc (.cells #[.int .i64 4,.string { data:=#[] },.int .i64 0,.int .i64 0,.slice none 0 0,.int .i64 0,.slice none 0 0,.int .i64 0,.slice none 0 0] 28))) 4 0 bp).srep)
    obtain⟨x0,f0,x1,f1,x2,f2,x3,f3,x4,f4,x5,f5,x6,f6,x7,f7,x8,f8⟩:=blk9f fR
    have lxR:=al fR
    have hRR:az (w.heap.size+1+1 ≤ ·) (m10.alloc (.cells #[.int .i64 4,.string { data:=#[] },.int .i64 0,.int .i64 0,.slice none 0 0,.int .i64 0,.slice none 0 0,.int .i64 0,.slice none 0 0] 28)) (Tm.mk 13 { data:=#[] } 0 (.mk 1 []) (.mk 0 []) 0 [Tm.mk 4 { data:=#[] } 0 (.mk 0 []) (.mk 0 []) 0 []]) (.agg #[.int .i64 13,.string { data:=#[] },.int .i64 0,.int .i64 kc,.slice ac nc qc,.int .i64 0,.slice none 0 0,.int .i64 0,.slice (some ⟨m10.heap.size,0,none⟩) 1 1]):=az.mk bp (hN.out.move (.weaken fun b h _=>by have h1:=h.1;show w.heap.size+1+1≤b;omega)) ⟨_,rfl,aF.nil0⟩ hks
    have hcc:(Tm.mk 13 { data:=#[] } 0 (.mk 1 []) (.mk 0 []) 0 [Tm.mk 4 { data:=#[] } 0 (.mk 0 []) (.mk 0 []) 0 []]).cnt≤MB:=by
     (try simp only [Tm.cnt,Tm.cnts,Ty.cnt,Ty.cnts,List.length_cons,List.length_nil,show({ data:=#[] }:ByteArray).size=0 from rfl])
     omega
    have HEND:=Lib.hid (DTm.stored (p:=p) (r:=r) (w:=w) (R:=w.heap.size+1) (B:=w.heap.size+1+1) (c:=MB) (m:=MB) (v0:=.int .i64 13) (v1:=.string { data:=#[] }) (v2:=.int .i64 0) (v3:=.int .i64 kc) (v4:=.slice ac nc qc) (v5:=.int .i64 0) (v6:=.slice none 0 0) (v7:=.int .i64 0) (v8:=.slice (some ⟨m10.heap.size,0,none⟩) 1 1) hRR hcc (by omega) (by omega) rd.out fC.out (by omega) (by omega) (by omega))
    clear hRR hcc
    (try clear hks)
    (try clear hN)
    (try clear fL)
    go_wp2_with fail
    refine bodyPost_ret (v:=.agg #[.int .i64 13,.string { data:=#[] },.int .i64 0,.int .i64 kc,.slice ac nc qc,.int .i64 0,.slice none 0 0,.int .i64 0,.slice (some ⟨m10.heap.size,0,none⟩) 1 1]) (by simp [results,Try.results24,go_sem,x0,x1,x2,x3,x4,x5,x6,x7,x8]) rfl ?_
    exact HEND.out
   ·skip
    go_wp2_with fail
    refine(bE r (q+1+1) 2 _ rd.out (by omega) (by omega)).mono ?_
    rintro e v1 ⟨jz,rfl,hjk0,hjk1,hrd,hb⟩
    have zv1:=hb.size
    (try simp only [World.size_alloc] at zv1)
    replace fT:=aB fT hb (by omega);replace fR:=aB fR hb (by omega);replace fC:=Lib.hid (fC.out.trans hb);replace hX:=Lib.hid (hX.out.move (kpN hb (fun b hb=>hb.1)))
    replace hT:=Lib.hid (hT.out.move (kpN hb (fun b hb=>hb.1)))
    replace rd:=Lib.hid hrd
    clear hrd
    clear hb
    clear hjk0 hjk1
    rcases Bool.eq_false_or_eq_true (jz==0) with hz0 | hz0
    ·go_wp2_with fail
     refine(bw _).mono ?_
     rintro e v2 ⟨rfl,hb⟩
     have zv2:=hb.size
     (try simp only [World.size_alloc] at zv2)
     replace fT:=af fT hb;replace fR:=af fR hb;replace fC:=Lib.hid (fC.out.trans (Chg.of_below hb));replace rd:=Lib.hid (rd.out.below hb)
     replace hX:=Lib.hid (hX.out.below hb);replace hT:=Lib.hid (hT.out.below hb)
     clear hb
     go_wp2_with fail
     refine(dC r _ S.int _ _ rd.out (ap.leafG 2) rfl (by omega)).mono ?_
     rintro e v3 ⟨s2,v,qs,rfl,hvs2,hv,hqs,hrd,hb⟩
     obtain⟨kb,ab,nb,qb,rfl⟩:=hv.shape
     have hB_':Hid (ap (fun b=>v2.heap.size≤b∧b<v3.heap.size) v3 s2.ty (.agg #[.int .i64 kb,.slice ab nb qb])):=Lib.hid (hv.move (.weaken fun b h1 h2=>⟨h1,h2⟩))
     clear hv
     have zv3:=hb.size
     (try simp only [World.size_alloc] at zv3)
     replace fT:=aB fT hb (by omega);replace fR:=aB fR hb (by omega);replace fC:=Lib.hid (fC.out.trans hb);replace hX:=Lib.hid (hX.out.move (kpN hb (fun b hb=>hb.1)))
     replace hT:=Lib.hid (hT.out.move (kpN hb (fun b hb=>hb.1)))
     replace rd:=Lib.hid hrd
     clear hrd
     clear hb
     have hB_:=hB_'
     clear hB_'
     have HL2:=Lib.hid (bv HD2.out hvs2)
     go_wp2_with fail
     refine(HIH.out (s2) l (cu HD2.out HSV.out hvs2) hvs2 HOK.out (by omega) HNL.out _ _ _ _ rd.out (hX.out.move (.weaken fun b h _=>h.1)) HCV.out (hB_.out.move (.weaken fun b h _=>by have h1:=h.1;intro e;omega)) (by have h1:=HL2.out;have h0:=HUU.out;omega)).mono ?_
     rintro e v4 ⟨t2,v,q2,rfl,hcn2,hv,hq2,hrd,hb⟩
     obtain⟨kt2,nm2,ut2,tk2,ta2,tn2,tq2,fk2,fa2,fn2,fq2,lt2,ct2,mt2,qt2,rfl⟩:=hv.shape
     have HC2:=Lib.hid hcn2
     have h2_':Hid (az (fun b=>v3.heap.size≤b∧b<v4.heap.size) v4 t2 (.agg #[.int .i64 kt2,.string nm2,.int .i64 ut2,.int .i64 tk2,.slice ta2 tn2 tq2,.int .i64 fk2,.slice fa2 fn2 fq2,.int .i64 lt2,.slice ct2 mt2 qt2])):=Lib.hid (hv.move (.weaken fun b h1 h2=>⟨h1,h2⟩))
     clear hv hcn2
     have zv4:=hb.size
     (try simp only [World.size_alloc] at zv4)
     replace fT:=aB fT hb (by omega);replace fR:=aB fR hb (by omega);replace fC:=Lib.hid (fC.out.trans hb);replace hX:=Lib.hid (hX.out.move (kpN hb (fun b hb=>hb.1)))
     replace hT:=Lib.hid (hT.out.move (kpN hb (fun b hb=>hb.1)));replace hB_:=Lib.hid (hB_.out.move (kpN hb (fun b hb=>by have h1:=hb.1;have h2:=hb.2;omega)))
     replace rd:=Lib.hid hrd
     clear hrd
     clear hb
     have h2_:=h2_'
     clear h2_'
     go_wp2_with fail
     refine(bw _).mono ?_
     rintro e v5 ⟨rfl,hb⟩
     have zv5:=hb.size
     (try simp only [World.size_alloc] at zv5)
     replace fT:=af fT hb;replace fR:=af fR hb;replace fC:=Lib.hid (fC.out.trans (Chg.of_below hb));replace rd:=Lib.hid (rd.out.below hb)
     replace hX:=Lib.hid (hX.out.below hb);replace hT:=Lib.hid (hT.out.below hb);replace hB_:=Lib.hid (hB_.out.below hb);replace h2_:=Lib.hid (h2_.out.below hb)
     clear hb
     go_wp2_with fail
     refine(HIH.out (S.int) l (cu HD2.out HSV.out rfl) rfl HOK.out (by omega) HNL.out _ _ _ _ rd.out (hX.out.move (.weaken fun b h _=>h.1)) HCV.out (ap.leafG 2) (by have h1:=HLB.out;have h2:=HLS.out;have h3:=HLI.out;have h0:=HUU.out;have h4:=HL2.out;omega)).mono ?_
     rintro e v6 ⟨t3,v,q3,rfl,hcn3,hv,hq3,hrd,hb⟩
     obtain⟨kt3,nm3,ut3,tk3,ta3,tn3,tq3,fk3,fa3,fn3,fq3,lt3,ct3,mt3,qt3,rfl⟩:=hv.shape
     have HC3:=Lib.hid hcn3
     have h3_':Hid (az (fun b=>v5.heap.size≤b∧b<v6.heap.size) v6 t3 (.agg #[.int .i64 kt3,.string nm3,.int .i64 ut3,.int .i64 tk3,.slice ta3 tn3 tq3,.int .i64 fk3,.slice fa3 fn3 fq3,.int .i64 lt3,.slice ct3 mt3 qt3])):=Lib.hid (hv.move (.weaken fun b h1 h2=>⟨h1,h2⟩))
     clear hv hcn3
     have zv6:=hb.size
     (try simp only [World.size_alloc] at zv6)
     replace fT:=aB fT hb (by omega);replace fR:=aB fR hb (by omega);replace fC:=Lib.hid (fC.out.trans hb);replace hX:=Lib.hid (hX.out.move (kpN hb (fun b hb=>hb.1)))
     replace hT:=Lib.hid (hT.out.move (kpN hb (fun b hb=>hb.1)));replace hB_:=Lib.hid (hB_.out.move (kpN hb (fun b hb=>by have h1:=hb.1;have h2:=hb.2;omega)));replace h2_:=Lib.hid (h2_.out.move (kpN hb (fun b hb=>by have h1:=hb.1;have h2:=hb.2;omega)))
     replace rd:=Lib.hid hrd
     clear hrd
     clear hb
     have h3_:=h3_'
     clear h3_'
     go_wp2_with fail
     obtain⟨v7,hXq,hb,fL,zv7a,zv7b⟩:=bM v6 (.cells #[.int .i64 kt2,.string nm2,.int .i64 ut2,.int .i64 tk2,.slice ta2 tn2 tq2,.int .i64 fk2,.slice fa2 fn2 fq2,.int .i64 lt2,.slice ct2 mt2 qt2,.int .i64 kt3,.string nm3,.int .i64 ut3,.int .i64 tk3,.slice ta3 tn3 tq3,.int .i64 fk3,.slice fa3 fn3 fq3,.int .i64 lt3,.slice ct3 mt3 qt3] 28)
     rw [hXq]
     replace fT:=af fT hb;replace fR:=af fR hb;replace fC:=Lib.hid (fC.out.trans (Chg.of_below hb));replace rd:=Lib.hid (rd.out.below hb)
     replace hX:=Lib.hid (hX.out.below hb);replace hT:=Lib.hid (hT.out.below hb);replace hB_:=Lib.hid (hB_.out.below hb);replace h2_:=Lib.hid (h2_.out.below hb)
     replace h3_:=Lib.hid (h3_.out.below hb)
     clear hb hXq
     refine(cw 7 _ _ _ _).mono ?_
     rintro e v8 ⟨rfl,hb⟩
     have zv8:=hb.size
     (try simp only [World.size_alloc] at zv8)
     replace fT:=af fT hb;replace fR:=af fR hb;replace fC:=Lib.hid (fC.out.trans (Chg.of_below hb));replace rd:=Lib.hid (rd.out.below hb)
     replace hX:=Lib.hid (hX.out.below hb);replace hT:=Lib.hid (hT.out.below hb);replace hB_:=Lib.hid (hB_.out.below hb);replace h2_:=Lib.hid (h2_.out.below hb)
     replace h3_:=Lib.hid (h3_.out.below hb);replace fL:=af fL hb
     clear hb
     obtain⟨x0,f0,x1,f1,x2,f2,x3,f3,x4,f4,x5,f5,x6,f6,x7,f7,x8,f8⟩:=blk9f fR
     have lxR:=al fR
     have h1:=HLB.out
     have h2:=HLS.out
     have h3:=HLI.out
     have h0:=HUU.out
     have h5:=HL2.out
     have hks:aV (w.heap.size+1+1 ≤ ·) v8 [t2,t3] (.slice (some ⟨v6.heap.size,0,none⟩) 2 2):=aV.blk (by show w.heap.size+1+1≤_;omega) fL rfl (by unfold maxLen;omega) (b4.c2 (h2_.out.move (.weaken fun b h _=>by have h1:=h.1;show w.heap.size+1+1≤b;omega)).srep (h3_.out.move (.weaken fun b h _=>by have h1:=h.1;show w.heap.size+1+1≤b;omega)).srep)
     have hRR:az (w.heap.size+1+1 ≤ ·) v8 (Tm.mk 7 { data:=#[] } 0 (.mk 0 []) (.mk 0 []) 0 [t2,t3]) (.agg #[.int .i64 7,.string { data:=#[] },.int .i64 0,.int .i64 0,.slice none 0 0,.int .i64 0,.slice none 0 0,.int .i64 0,.slice (some ⟨v6.heap.size,0,none⟩) 2 2]):=az.mk bp ⟨_,rfl,aF.nil0⟩ ⟨_,rfl,aF.nil0⟩ hks
     have hcc:(Tm.mk 7 { data:=#[] } 0 (.mk 0 []) (.mk 0 []) 0 [t2,t3]).cnt≤MB:=by
      have g1:=HC2.out
      have g2:=HC3.out
      (try simp only [Tm.cnt,Tm.cnts,Ty.cnt,Ty.cnts,List.length_cons,List.length_nil,show({ data:=#[] }:ByteArray).size=0 from rfl])
      omega
     have HEND:=Lib.hid (DTm.stored (p:=p) (r:=r) (w:=w) (R:=w.heap.size+1) (B:=w.heap.size+1+1) (c:=MB) (m:=MB) (v0:=.int .i64 7) (v1:=.string { data:=#[] }) (v2:=.int .i64 0) (v3:=.int .i64 0) (v4:=.slice none 0 0) (v5:=.int .i64 0) (v6:=.slice none 0 0) (v7:=.int .i64 0) (v8:=.slice (some ⟨v6.heap.size,0,none⟩) 2 2) hRR hcc (by omega) (by omega) rd.out fC.out (by omega) (by omega) (by omega))
     clear hRR hcc
     (try clear hks)
     (try clear hN)
     (try clear fL)
     go_wp2_with fail
     refine bodyPost_ret (v:=.agg #[.int .i64 7,.string { data:=#[] },.int .i64 0,.int .i64 0,.slice none 0 0,.int .i64 0,.slice none 0 0,.int .i64 0,.slice (some ⟨v6.heap.size,0,none⟩) 2 2]) (by simp [results,Try.results24,go_sem,x0,x1,x2,x3,x4,x5,x6,x7,x8]) rfl ?_
     exact HEND.out
    ·go_wp2_with fail
     refine(cn (fun _=>True) r (q+1+1+1) _ 5 5 _ (rd.out.below ah) (by omega) (by omega) (by omega) (Nat.le_refl _) (by omega) (bQ [1,2,0,999,5] rfl _ (fun _ _=>trivial))).mono ?_
     rintro e v9 ⟨nn,rfl,-,hrd,hb0⟩
     have hb:=Chg.trans (Chg.of_below (ah (w:=v1))) hb0
     clear hb0
     have zv9:=hb.size
     (try simp only [World.size_alloc] at zv9)
     replace fT:=aB fT hb (by omega);replace fR:=aB fR hb (by omega);replace fC:=Lib.hid (fC.out.trans hb);replace hX:=Lib.hid (hX.out.move (kpN hb (fun b hb=>hb.1)))
     replace hT:=Lib.hid (hT.out.move (kpN hb (fun b hb=>hb.1)))
     replace rd:=Lib.hid hrd
     clear hrd
     clear hb
     go_wp2_with fail
     refine(cA nn _).mono ?_
     rintro e v9n ⟨rfl,hb⟩
     have zv9n:=hb.size
     (try simp only [World.size_alloc] at zv9n)
     replace fT:=af fT hb;replace fR:=af fR hb;replace fC:=Lib.hid (fC.out.trans (Chg.of_below hb));replace rd:=Lib.hid (rd.out.below hb)
     replace hX:=Lib.hid (hX.out.below hb);replace hT:=Lib.hid (hT.out.below hb)
     clear hb
     obtain⟨x0,f0,x1,f1,x2,f2,x3,f3,x4,f4,x5,f5,x6,f6,x7,f7,x8,f8⟩:=blk9f fR
     have lxR:=al fR
     have hRR:az (w.heap.size+1+1 ≤ ·) v9n (Tm.mk 2 { data:=#[] } nn (.mk 0 []) (.mk 0 []) 0 []) (.agg #[.int .i64 2,.string { data:=#[] },.int .i64 nn,.int .i64 0,.slice none 0 0,.int .i64 0,.slice none 0 0,.int .i64 0,.slice none 0 0]):=az.leaf0 2 nn bp
     have hcc:(Tm.mk 2 { data:=#[] } nn (.mk 0 []) (.mk 0 []) 0 []).cnt≤MB:=by
      (try simp only [Tm.cnt,Tm.cnts,Ty.cnt,Ty.cnts,List.length_cons,List.length_nil,show({ data:=#[] }:ByteArray).size=0 from rfl])
      omega
     have HEND:=Lib.hid (DTm.stored (p:=p) (r:=r) (w:=w) (R:=w.heap.size+1) (B:=w.heap.size+1+1) (c:=MB) (m:=MB) (v0:=.int .i64 2) (v1:=.string { data:=#[] }) (v2:=.int .i64 nn) (v3:=.int .i64 0) (v4:=.slice none 0 0) (v5:=.int .i64 0) (v6:=.slice none 0 0) (v7:=.int .i64 0) (v8:=.slice none 0 0) hRR hcc (by omega) (by omega) rd.out fC.out (by omega) (by omega) (by omega))
     clear hRR hcc
     (try clear hks)
     (try clear hN)
     (try clear fL)
     go_wp2_with fail
     refine bodyPost_ret (v:=.agg #[.int .i64 2,.string { data:=#[] },.int .i64 nn,.int .i64 0,.slice none 0 0,.int .i64 0,.slice none 0 0,.int .i64 0,.slice none 0 0]) (by simp [results,Try.results24,go_sem,x0,x1,x2,x3,x4,x5,x6,x7,x8]) rfl ?_
     exact HEND.out
 ·have hdb:decide (dd>1)=false:=by simpa using hd1
  go_wp2_with fail
  refine(bE r (q) 3 _ rd.out (by omega) (by omega)).mono ?_
  rintro e m9 ⟨jy,rfl,hjk0,hjk1,hrd,hb⟩
  have zm9:=hb.size
  (try simp only [World.size_alloc] at zm9)
  replace fT:=aB fT hb (by omega);replace fR:=aB fR hb (by omega);replace fC:=Lib.hid (fC.out.trans hb);replace hX:=Lib.hid (hX.out.move (kpN hb (fun b hb=>hb.1)))
  replace hT:=Lib.hid (hT.out.move (kpN hb (fun b hb=>hb.1)))
  replace rd:=Lib.hid hrd
  clear hrd
  clear hb
  clear hjk0 hjk1
  rcases Bool.eq_false_or_eq_true (jy==0) with hy0 | hy0
  ·go_wp2_with fail
   refine(dg _).mono ?_
   rintro e m10 ⟨v,rfl,hv,hb⟩
   obtain⟨kc,ac,nc,qc,rfl⟩:=hv.shape
   have hN':Hid (ap (fun b=>m9.heap.size≤b∧b<m10.heap.size) m10 (.mk 1 []) (.agg #[.int .i64 kc,.slice ac nc qc])):=Lib.hid (hv.rep.move (.weaken fun b h1 h2=>⟨h1,h2⟩))
   clear hv
   have zm10:=hb.size
   (try simp only [World.size_alloc] at zm10)
   replace fT:=af fT hb;replace fR:=af fR hb;replace fC:=Lib.hid (fC.out.trans (Chg.of_below hb));replace rd:=Lib.hid (rd.out.below hb)
   replace hX:=Lib.hid (hX.out.below hb);replace hT:=Lib.hid (hT.out.below hb)
   clear hb
   have hN:=hN'
   clear hN'
   have hba:=ah (w:=m10) (o:=.cells #[.int .i64 4,.string { data:=#[] },.int .i64 0,.int .i64 0,.slice none 0 0,.int .i64 0,.slice none 0 0,.int .i64 0,.slice none 0 0] 28)
   have fL:=aD (w:=m10) (o:=.cells #[.int .i64 4,.string { data:=#[] },.int .i64 0,.int .i64 0,.slice none 0 0,.int .i64 0,.slice none 0 0,.int .i64 0,.slice none 0 0] 28) (b:=m10.heap.size) rfl
   replace fT:=af fT hba;replace fR:=af fR hba;replace fC:=Lib.hid (fC.out.trans (Chg.of_below hba));replace rd:=Lib.hid (rd.out.below hba)
   replace hX:=Lib.hid (hX.out.below hba);replace hT:=Lib.hid (hT.out.below hba);replace hN:=Lib.hid (hN.out.below hba)
   clear hba
   have hks:aV (w.heap.size+1+1 ≤ ·) (m10.alloc (.cells #[.int .i64 4,.string { data:=#[] },.int .i64 0,.int .i64 0,.slice none 0 0,.int .i64 0,.slice none 0 0,.int .i64 0,.slice none 0 0] 28)) [Tm.mk 4 { data:=#[] } 0 (.mk 0 []) (.mk 0 []) 0 []] (.slice (some ⟨m10.heap.size,0,none⟩) 1 1):=aV.blk (by show w.heap.size+1+1≤_;omega) fL rfl (by unfold maxLen;omega) (b4.c1 (az.leaf0 (F:=(w.heap.size+1+1 ≤ ·)) (w:=(m10.alloc (.cells #[.int .i64 4,.string { data:=#[] },.int .i64 0,.int .i64 0,.slice none 0 0,.int .i64 0,.slice none 0 0,.int .i64 0,.slice none 0 0] 28))) 4 0 bp).srep)
   obtain⟨x0,f0,x1,f1,x2,f2,x3,f3,x4,f4,x5,f5,x6,f6,x7,f7,x8,f8⟩:=blk9f fR
   have lxR:=al fR
   have hRR:az (w.heap.size+1+1 ≤ ·) (m10.alloc (.cells #[.int .i64 4,.string { data:=#[] },.int .i64 0,.int .i64 0,.slice none 0 0,.int .i64 0,.slice none 0 0,.int .i64 0,.slice none 0 0] 28)) (Tm.mk 13 { data:=#[] } 0 (.mk 1 []) (.mk 0 []) 0 [Tm.mk 4 { data:=#[] } 0 (.mk 0 []) (.mk 0 []) 0 []]) (.agg #[.int .i64 13,.string { data:=#[] },.int .i64 0,.int .i64 kc,.slice ac nc qc,.int .i64 0,.slice none 0 0,.int .i64 0,.slice (some ⟨m10.heap.size,0,none⟩) 1 1]):=az.mk bp (hN.out.move (.weaken fun b h _=>by have h1:=h.1;show w.heap.size+1+1≤b;omega)) ⟨_,rfl,aF.nil0⟩ hks
   have hcc:(Tm.mk 13 { data:=#[] } 0 (.mk 1 []) (.mk 0 []) 0 [Tm.mk 4 { data:=#[] } 0 (.mk 0 []) (.mk 0 []) 0 []]).cnt≤MB:=by
    (try simp only [Tm.cnt,Tm.cnts,Ty.cnt,Ty.cnts,List.length_cons,List.length_nil,show({ data:=#[] }:ByteArray).size=0 from rfl])
    omega
   have HEND:=Lib.hid (DTm.stored (p:=p) (r:=r) (w:=w) (R:=w.heap.size+1) (B:=w.heap.size+1+1) (c:=MB) (m:=MB) (v0:=.int .i64 13) (v1:=.string { data:=#[] }) (v2:=.int .i64 0) (v3:=.int .i64 kc) (v4:=.slice ac nc qc) (v5:=.int .i64 0) (v6:=.slice none 0 0) (v7:=.int .i64 0) (v8:=.slice (some ⟨m10.heap.size,0,none⟩) 1 1) hRR hcc (by omega) (by omega) rd.out fC.out (by omega) (by omega) (by omega))
   clear hRR hcc
   (try clear hks)
   (try clear hN)
   (try clear fL)
   go_wp2_with fail
   refine bodyPost_ret (v:=.agg #[.int .i64 13,.string { data:=#[] },.int .i64 0,.int .i64 kc,.slice ac nc qc,.int .i64 0,.slice none 0 0,.int .i64 0,.slice (some ⟨m10.heap.size,0,none⟩) 1 1]) (by simp [results,Try.results24,go_sem,x0,x1,x2,x3,x4,x5,x6,x7,x8]) rfl ?_
   exact HEND.out
  ·skip
   go_wp2_with fail
   refine(cn (fun _=>True) r (q+1) _ 5 5 _ (rd.out.below ah) (by omega) (by omega) (by omega) (Nat.le_refl _) (by omega) (bQ [1,2,0,999,5] rfl _ (fun _ _=>trivial))).mono ?_
   rintro e v9 ⟨nn,rfl,-,hrd,hb0⟩
   have hb:=Chg.trans (Chg.of_below (ah (w:=m9))) hb0
   clear hb0
   have zv9:=hb.size
   (try simp only [World.size_alloc] at zv9)
   replace fT:=aB fT hb (by omega);replace fR:=aB fR hb (by omega);replace fC:=Lib.hid (fC.out.trans hb);replace hX:=Lib.hid (hX.out.move (kpN hb (fun b hb=>hb.1)))
   replace hT:=Lib.hid (hT.out.move (kpN hb (fun b hb=>hb.1)))
   replace rd:=Lib.hid hrd
   clear hrd
   clear hb
   go_wp2_with fail
   refine(cA nn _).mono ?_
   rintro e v9n ⟨rfl,hb⟩
   have zv9n:=hb.size
   (try simp only [World.size_alloc] at zv9n)
   replace fT:=af fT hb;replace fR:=af fR hb;replace fC:=Lib.hid (fC.out.trans (Chg.of_below hb));replace rd:=Lib.hid (rd.out.below hb)
   replace hX:=Lib.hid (hX.out.below hb);replace hT:=Lib.hid (hT.out.below hb)
   clear hb
   obtain⟨x0,f0,x1,f1,x2,f2,x3,f3,x4,f4,x5,f5,x6,f6,x7,f7,x8,f8⟩:=blk9f fR
   have lxR:=al fR
   have hRR:az (w.heap.size+1+1 ≤ ·) v9n (Tm.mk 2 { data:=#[] } nn (.mk 0 []) (.mk 0 []) 0 []) (.agg #[.int .i64 2,.string { data:=#[] },.int .i64 nn,.int .i64 0,.slice none 0 0,.int .i64 0,.slice none 0 0,.int .i64 0,.slice none 0 0]):=az.leaf0 2 nn bp
   have hcc:(Tm.mk 2 { data:=#[] } nn (.mk 0 []) (.mk 0 []) 0 []).cnt≤MB:=by
    (try simp only [Tm.cnt,Tm.cnts,Ty.cnt,Ty.cnts,List.length_cons,List.length_nil,show({ data:=#[] }:ByteArray).size=0 from rfl])
    omega
   have HEND:=Lib.hid (DTm.stored (p:=p) (r:=r) (w:=w) (R:=w.heap.size+1) (B:=w.heap.size+1+1) (c:=MB) (m:=MB) (v0:=.int .i64 2) (v1:=.string { data:=#[] }) (v2:=.int .i64 nn) (v3:=.int .i64 0) (v4:=.slice none 0 0) (v5:=.int .i64 0) (v6:=.slice none 0 0) (v7:=.int .i64 0) (v8:=.slice none 0 0) hRR hcc (by omega) (by omega) rd.out fC.out (by omega) (by omega) (by omega))
   clear hRR hcc
   (try clear hks)
   (try clear hN)
   (try clear fL)
   go_wp2_with fail
   refine bodyPost_ret (v:=.agg #[.int .i64 2,.string { data:=#[] },.int .i64 nn,.int .i64 0,.slice none 0 0,.int .i64 0,.slice none 0 0,.int .i64 0,.slice none 0 0]) (by simp [results,Try.results24,go_sem,x0,x1,x2,x3,x4,x5,x6,x7,x8]) rfl ?_
   exact HEND.out
end Go.Proofs.Ytnaoghknnenfoaa

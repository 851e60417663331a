/- Copies of terms, by the reference. And what else its parts name. -/
import Derived.Test.YtfahhonmiimmdaaGreatB16
import Derived.Test.YtfahhonmiimmdaaGreatB42
set_option linter.unusedSimpArgs false
set_option linter.unusedVariables false
set_option maxRecDepth 100000
set_option maxHeartbeats 16000000
namespace Go.Proofs.YtfahhonmiimmdaaGreat
open Go.RowKit
def jM (t:Tm)(w:World)(e:Ending)(w':World):Prop:=∃v,e = .returned v∧ax (w.heap.size ≤ ·) w' t v∧Below w.heap.size w w'
theorem jM.stored {w w1:World}{t:Tm}{v:Value}{B R:Nat}{v0 v1 v2 v3 v4 v5 v6 v7 v8:Value}(hv:ax (B ≤ ·) w1 t v)(hB:w.heap.size≤B)(hb:Below w.heap.size w w1)(hR:w.heap.size≤R)(hRB:R<B):jM t w (.returned v) (set9 w1 R v0 v1 v2 v3 v4 v5 v6 v7 v8):=by
 unfold set9
 exact⟨v,rfl,((((((((((hv.setB (by show R<B;omega) _).setB (by show R<B;omega) _).setB (by show R<B;omega) _).setB (by show R<B;omega) _).setB (by show R<B;omega) _).setB (by show R<B;omega) _).setB (by show R<B;omega) _).setB (by show R<B;omega) _).setB (by show R<B;omega) _)).lower hB,(((((((((hb.setCell (by show w.heap.size≤R;omega) _).setCell (by show w.heap.size≤R;omega) _).setCell (by show w.heap.size≤R;omega) _).setCell (by show w.heap.size≤R;omega) _).setCell (by show w.heap.size≤R;omega) _).setCell (by show w.heap.size≤R;omega) _).setCell (by show w.heap.size≤R;omega) _).setCell (by show w.heap.size≤R;omega) _).setCell (by show w.heap.size≤R;omega) _)⟩
theorem nO (F:Nat→Prop)(t:Tm)(y:Value)(w:World)(hy:ax F w t y)(hcnt:t.cnt≤1048576)(IH : ∀t'∈t.kids,∀(y:Value) (W:World),ax F W t' y→Calls Tryz.prog 45 #[y] W (jM t' W)):Calls Tryz.prog 45 #[y] w (jM t w):=by
 obtain⟨k,nm,u,tk,ta,tn,tq,fk,fa,fn,fq,l,c,m,q,rfl⟩:=hy.shape;obtain⟨r1,r2,r3,r4,r5,r6,r7,r8,r9,rn,rm,rq,hty,hsr,hks⟩:=hy.parts;obtain⟨i0,hi,hz0,hz1,hz2⟩:=info_parts Tryz.infoTm2
 cases t with | mk kk nn uu tt ff ll ts=>
 simp only[Tm.kind,Tm.name,Tm.num,Tm.type,Tm.src,Tm.label,Tm.kids] at *;subst r1 r2 r3 r8;have hparts:=(Tm.mk k nm u tt ff l ts).cnt_parts;simp only[Tm.name,Tm.type,Tm.src,Tm.kids] at hparts;have HT:=zq (fun W (h:Below w.heap.size w W)=>be F tt _ W (hty.below h) (by omega));have HF:=zq (fun W (h:Below w.heap.size w W)=>be F ff _ W (hsr.below h) (by omega));have HN:=zq r9;have HRN:=zq rn;have HCL:=zq (show m≤1048576 by omega);have IHH:=zq IH;have Z0:=zq hz0;have Z1:=zq hz1;have Z2:=zq hz2;have HI:=zq hi;have HKS:=zq hks;unfold maxLen at rq;have hmq:=rm;clear IH hy r9 r4 r5 r6 r7 rn hz0 hz1 hz2 hi hty hsr hparts hcnt hks
 go_enter Tryz.func45,Tryz.ntmps45
 go_wp2_with fail
 refine(HT.out _ cB).mono ?_;rintro e w1 ⟨v1,rfl,hv1,hb1⟩;obtain⟨k1,a1,n1,q1,rfl⟩:=hv1.shape;have hw1:=hb1.size;simp only[World.size_alloc] at hw1;have hX1:w1.heap[w.heap.size]?=some (.cells #[.int .i64 k,.string nm,.int .i64 u,.int .i64 tk,.slice ta tn tq,.int .i64 fk,.slice fa fn fq,.int .i64 l,.slice c m q] 28 (0,0)):=af (af (af (aB rfl) ai) ai) hb1;have hR1:w1.heap[w.heap.size+1]?=some (.cells #[.int .i64 0,.string {data:=#[]},.int .i64 0,.int .i64 0,.slice none 0 0,.int .i64 0,.slice none 0 0,.int .i64 0,.slice none 0 0] 28 (0,0)):=af (af (aB (by simp)) ai) hb1;have hO1:w1.heap[w.heap.size+1+1]?=some (.cells #[.int .i64 k,.string nm,.int .i64 u,.int .i64 tk,.slice ta tn tq,.int .i64 fk,.slice fa fn fq,.int .i64 l,.slice c m q] 28 (0,0)):=af (aB (by simp)) hb1;have hB1:=aj cB hb1;have hr1:ao (w.heap.size+1+1+1 ≤ ·) w1 tt _:=hv1.rep.lower (by simp);clear hv1 hb1;have x5:=ag hX1 (o:=5) rfl;have x6:=ag hX1 (o:=6) rfl;have o3:=ag hO1 (o:=3) rfl;have o4:=ag hO1 (o:=4) rfl;have p3:=al hO1 3;have p4:=al hO1 4;have HB1:=zq hB1;have HX1:=zq hX1;have HR1:=zq hR1;have HO1:=zq hO1;have HTY1:=zq hr1;clear hB1 hX1 hR1 hO1 hr1
 go_wp2_with fail
 refine(HF.out _ ((HB1.out.setCell (by show w.heap.size≤w.heap.size+1+1;omega) _).setCell (by show w.heap.size≤w.heap.size+1+1;omega) _)).mono ?_;rintro e w2 ⟨v2,rfl,hv2,hb2⟩;obtain⟨k2,a2,n2,q2,rfl⟩:=hv2.shape;have hw2:=hb2.size;have hX2:w2.heap[w.heap.size]?=some (.cells #[.int .i64 k,.string nm,.int .i64 u,.int .i64 tk,.slice ta tn tq,.int .i64 fk,.slice fa fn fq,.int .i64 l,.slice c m q] 28 (0,0)):=af (cy (cy HX1.out (by show w.heap.size≠w.heap.size+1+1;omega)) (by show w.heap.size≠w.heap.size+1+1;omega)) hb2;have hR2:w2.heap[w.heap.size+1]?=some (.cells #[.int .i64 0,.string {data:=#[]},.int .i64 0,.int .i64 0,.slice none 0 0,.int .i64 0,.slice none 0 0,.int .i64 0,.slice none 0 0] 28 (0,0)):=af (cy (cy HR1.out (by show w.heap.size+1≠w.heap.size+1+1;omega)) (by show w.heap.size+1≠w.heap.size+1+1;omega)) hb2;have hO2:w2.heap[w.heap.size+1+1]?=some (.cells #[.int .i64 k,.string nm,.int .i64 u,.int .i64 k1,.slice a1 n1 q1,.int .i64 fk,.slice fa fn fq,.int .i64 l,.slice c m q] 28 (0,0)):=af (aI (aI HO1.out rfl) rfl) hb2;have hB2:=aj ((HB1.out.setCell (p:=⟨w.heap.size+1+1,3,none⟩) (by show w.heap.size≤w.heap.size+1+1;omega) (.int .i64 k1)).setCell (p:=⟨w.heap.size+1+1,4,none⟩) (by show w.heap.size≤w.heap.size+1+1;omega) (.slice a1 n1 q1)) hb2;have hty2:=((HTY1.out.setB (p:=⟨w.heap.size+1+1,3,none⟩) (by show w.heap.size+1+1<_;omega) (.int .i64 k1)).setB (p:=⟨w.heap.size+1+1,4,none⟩) (by show w.heap.size+1+1<_;omega) (.slice a1 n1 q1)).below hb2;have hsr2:ao (w.heap.size+1+1+1 ≤ ·) w2 ff _:=hv2.rep.lower (by simp[World.setCell];omega);have hs2:w.heap.size+1+1+1≤w2.heap.size:=by simp[World.setCell] at hw2;omega
 clear hv2 hb2 x5 x6 o3 o4 p3 p4 HB1 HX1 HR1 HO1 HTY1 hw1 hw2;have o5:=ag hO2 (o:=5) rfl;have o6:=ag hO2 (o:=6) rfl;have o8:=ag hO2 (o:=8) rfl;have p5:=al hO2 5;have p6:=al hO2 6;have p8:=al hO2 8;have HX2:=zq hX2;have HR2:=zq hR2;have HO2:=zq hO2;have HB2:=zq hB2;have HTY2:=zq hty2;have HSR2:=zq hsr2;clear hX2 hR2 hO2 hB2 hty2 hsr2
 go_wp2_with fail
 obtain⟨B2,hB2⟩ : ∃x,w2.heap.size=x:=⟨_,rfl⟩
 rw[hB2] at hs2;have K0 : ∀(t:Ty) (v:Value),ao (w.heap.size+1+1+1 ≤ ·) w2 t v→ao (fun b=>w.heap.size+1+1+1≤b∧b<B2) (((w2.setCell ⟨w.heap.size+1+1,5,none⟩ (.int .i64 k2)).setCell ⟨w.heap.size+1+1,6,none⟩ (.slice a2 n2 q2)).setCell ⟨w.heap.size+1+1,8,none⟩ (.slice none 0 0)) t v:=fun t v h=>
  (((h.setB (by show w.heap.size+1+1<_;omega) _).setB (by show w.heap.size+1+1<_;omega) _).setB (by show w.heap.size+1+1<_;omega) _).move (.weaken fun b hb hl=>⟨hb,by simp[World.setCell] at hl;omega⟩)
 have HK0:=zq K0;have hBle:B2≤w2.heap.size:=by omega
 clear K0 hB2
 go_loopw [4] (fun i wr=>∃j:Nat,j≤m∧i = .int .i64 j∧Hid (Below w.heap.size w wr)∧B2≤wr.heap.size∧Hid (wr.heap[w.heap.size]?=some (.cells #[.int .i64 k,.string nm,.int .i64 u,.int .i64 tk,.slice ta tn tq,.int .i64 fk,.slice fa fn fq,.int .i64 l,.slice c m q] 28 (0,0)))∧Hid (wr.heap[w.heap.size+1]?=some (.cells #[.int .i64 0,.string {data:=#[]},.int .i64 0,.int .i64 0,.slice none 0 0,.int .i64 0,.slice none 0 0,.int .i64 0,.slice none 0 0] 28 (0,0)))∧Hid (ao (fun b=>w.heap.size+1+1+1≤b∧b<B2) wr tt (.agg #[.int .i64 k1,.slice a1 n1 q1]))∧Hid (ao (fun b=>w.heap.size+1+1+1≤b∧b<B2) wr ff (.agg #[.int .i64 k2,.slice a2 n2 q2])) ∧
     ∃(cv:Option Addr) (qv:Nat),Hid (wr.heap[w.heap.size+1+1]?=some (.cells #[.int .i64 k,.string nm,.int .i64 u,.int .i64 k1,.slice a1 n1 q1,.int .i64 k2,.slice a2 n2 q2,.int .i64 l,.slice cv j qv] 28 (0,0)))∧Hid (bG B2 28 9 wr (.slice cv j qv) j (Tm.rows (ts.take j)))) (fun i _=>m-(intOf i).toNat)
 case atStart=>exact⟨0,by omega,rfl,((HB2.out.setCell (by show w.heap.size≤w.heap.size+1+1;omega) _).setCell (by show w.heap.size≤w.heap.size+1+1;omega) _).setCell (by show w.heap.size≤w.heap.size+1+1;omega) _,by simp[World.setCell];omega,
     cy (cy (cy HX2.out (by show w.heap.size≠w.heap.size+1+1;omega)) (by show w.heap.size≠w.heap.size+1+1;omega)) (by show w.heap.size≠w.heap.size+1+1;omega),cy (cy (cy HR2.out (by show w.heap.size+1≠w.heap.size+1+1;omega)) (by show w.heap.size+1≠w.heap.size+1+1;omega)) (by show w.heap.size+1≠w.heap.size+1+1;omega),
     HK0.out _ _ HTY2.out,HK0.out _ _ HSR2.out,none,0,aI (aI (aI HO2.out rfl) rfl) rfl,by unfold Hid;rw[List.take_zero,Tm.rows];exact bG.nil⟩
 case round=>
  obtain⟨j,hj,rfl,hbw,hsz,hX,hR,hTY,hSR,cv,qv,hO,hrow⟩:=hrel;clear HB2 HX2 HR2 HO2 HTY2 HSR2 o5 o6 o8 p5 p6 p8 HK0;have x8:=ag hX.out (o:=8) rfl;have v8:=ag hO.out (o:=8) rfl;have f8:=al hO.out 8;have lx8:w.heap.size<wr.heap.size:=by omega
  have lv8:w.heap.size+1+1<wr.heap.size:=by omega
  by_cases hlt:j<m
  ·have hjt:j<ts.length:=by rw[←HN.out];exact hlt
   obtain⟨b,off,kk0,nn0,uu0,tk0,ta0,tn0,tq0,fk0,fa0,fn0,fq0,ll0,a0,m0,q0,rfl,lb,e0,e1,e2,e3,e4,e5,e6,e7,e8,ht⟩:=HKS.out.at hbw.out hjt;have HC:=zq (fun W (h:Below wr.heap.size wr W)=>IHH.out ts[j] (List.getElem_mem hjt) _ W (ht.below h));have hts:Tm.rows (ts.take (j+1))=Tm.rows (ts.take j) ++ [ts[j].row]:=by rw[List.take_succ_eq_append_getElem hjt,Tm.rows_eq,List.map_append,←Tm.rows_eq];rfl
   generalize ts[j]=gt at HC hts;have HTS:=zq hts;obtain⟨hlen,xs,ho,hvals⟩:=hrow.out;have HLEN:=zq hlen;have HOW:=zq ho;have HV:=zq hvals;clear hlen ho hvals ht hrow hts;have hdum:True:=trivial
   go_upto_region 8 with fail
   clear hdum
   go_region_law (first
     | (go_simp;go_at_call 45;(with_reducible refine(HC.out _ bdr).mono ?_);rintro e wc1 ⟨vk,rfl,hvk,hbk⟩;obtain⟨kt,nm0,ut,tkt,tat,tnt,tqt,fkt,fat,fnt,fqt,lt,ct,mt,qt,rfl⟩:=hvk.shape;have hq1:wc1.cell? ⟨w.heap.size+1+1,8,none⟩=some (.slice cv j qv):=ah (aj bdr hbk) v8;have hbz:wr.heap.size≤wc1.heap.size:=hbk.size;have hl1:w.heap.size+1+1<wc1.heap.size:=World.block_lt_of_cell? _ _ hq1)
     | (refine step_append_lies _ (by rfl) (.tmp 23) (.tmp 30) 26 (by rfl) B2 28 i0 _ 9 128 Tryz.underlying26 HI.out Z0.out Z1.out Z2.out rfl (by omega) (.slice cv j qv) j xs (by rfl) (aP HOW.out (aj (aj bdr hbk) ai))
         ⟨wc1.heap.size,0,none⟩ 1 1 [.int .i64 kt,.string nm0,.int .i64 ut,.int .i64 tkt,.slice tat tnt tqt,.int .i64 fkt,.slice fat fnt fqt,.int .i64 lt,.slice ct mt qt] (by rfl) (by rfl) (World.news_of_block (cs:=#[.int .i64 kt,.string nm0,.int .i64 ut,.int .i64 tkt,.slice tat tnt tqt,.int .i64 fkt,.slice fat fnt fqt,.int .i64 lt,.slice ct mt qt]) (t:=28) (fr:=(0,0)) (heap_alloc_new wc1 _)) (by simp[Value.oneCell'])
         (by omega) (by have:=HCL.out;unfold maxLen;omega) (by have:=HCL.out;omega) (by simp;omega) _ rfl ?_
        intro gg cap2 w6 hown2 hgrow hat hlt2;have hW:=aj (aj bdr hbk) (ai (o:=.cells #[.int .i64 kt,.string nm0,.int .i64 ut,.int .i64 tkt,.slice tat tnt tqt,.int .i64 fkt,.slice fat fnt fqt,.int .i64 lt,.slice ct mt qt] 28));have hfar:=cr hW HOW.out hgrow;have hq:w6.cell? ⟨w.heap.size+1+1,8,none⟩=some (.slice cv j qv):=(World.cell?_of_block (a:=⟨w.heap.size+1+1,8,none⟩) (hfar (w.heap.size+1+1) (by omega) (by omega))).trans v8;have hqf:w6.frozen? ⟨w.heap.size+1+1,8,none⟩=false:=(World.frozen?_of_block (a:=⟨w.heap.size+1+1,8,none⟩) (hfar (w.heap.size+1+1) (by omega) (by omega))).trans f8;have HFAR:=zq hfar;have HROW:=zq (bG.push (r:=w.heap.size) HLEN.out HOW.out HV.out (by omega) (Chg.of_below hW) (ax.srep ((hvk.lower (by simp)).below (ai (o:=.cells #[.int .i64 kt,.string nm0,.int .i64 ut,.int .i64 tkt,.slice tat tnt tqt,.int .i64 fkt,.slice fat fnt fqt,.int .i64 lt,.slice ct mt qt] 28)))) hsz hown2 hgrow (by simpa using hat));have HBEL:=zq (bj hbw.out hW HOW.out (by omega) hgrow);have hsz6:wr.heap.size≤w6.heap.size:=Nat.le_trans hW.size hgrow.size;clear hfar hown2 hgrow hat hq1 hvk hbk hW))
   all_goals
    go_wp2_with fail
    go_roundw
    case rel=>
     have K:bl (fun b=>w.heap.size+1+1+1≤b∧b<B2) (fun b=>w.heap.size+1+1+1≤b∧b<B2) wr (w6.setCell ⟨w.heap.size+1+1,8,none⟩ (.slice (some ⟨gg,0,none⟩) (j+1) cap2)):=
      ⟨by simp[World.setCell];exact hsz6,fun _ h _=>h,fun b hb hl=>(Below.heap_setCell w6 ⟨w.heap.size+1+1,8,none⟩ _ b (by show b≠w.heap.size+1+1;omega)).trans (HFAR.out b hl hb.2)⟩
     exact⟨j+1,by omega,by go_num,HBEL.out.setCell (by show w.heap.size≤w.heap.size+1+1;omega) _,by simp[World.setCell];omega,cy ((HFAR.out w.heap.size (by omega) (by omega)).trans hX.out) (by show w.heap.size≠w.heap.size+1+1;omega),cy ((HFAR.out (w.heap.size+1) (by omega) (by omega)).trans hR.out) (by show w.heap.size+1≠w.heap.size+1+1;omega),
       hTY.out.move K,hSR.out.move K,some ⟨gg,0,none⟩,cap2,aI ((HFAR.out (w.heap.size+1+1) (by omega) (by omega)).trans hO.out) rfl,by
         unfold Hid;rw[HTS.out]
         exact HROW.out.setCell (p:=⟨w.heap.size+1+1,8,none⟩) (by show w.heap.size+1+1<B2;omega) (.slice (some ⟨gg,0,none⟩) (j+1) cap2)⟩
    case measure=>simp[intOf];omega
  ·have hje:ts.take j=ts:=by rw[List.take_of_length_le (by have:=HN.out;omega)]
   have e0:=ag hO.out (o:=0) rfl;have e1:=ag hO.out (o:=1) rfl;have e2:=ag hO.out (o:=2) rfl;have e3:=ag hO.out (o:=3) rfl;have e4:=ag hO.out (o:=4) rfl;have e5:=ag hO.out (o:=5) rfl;have e6:=ag hO.out (o:=6) rfl;have e7:=ag hO.out (o:=7) rfl;have x0:=ag hR.out (o:=0) rfl;have f0:=al hR.out 0;have x1:=ag hR.out (o:=1) rfl;have f1:=al hR.out 1;have x2:=ag hR.out (o:=2) rfl;have f2:=al hR.out 2;have x3:=ag hR.out (o:=3) rfl;have f3:=al hR.out 3;have x4:=ag hR.out (o:=4) rfl;have f4:=al hR.out 4;have x5:=ag hR.out (o:=5) rfl;have f5:=al hR.out 5;have x6:=ag hR.out (o:=6) rfl;have f6:=al hR.out 6;have x7:=ag hR.out (o:=7) rfl;have f7:=al hR.out 7;have y8:=ag hR.out (o:=8) rfl;have f8:=al hR.out 8;have hrow':=hrow.out;rw[hje] at hrow';have hrep:=ax.mk (k:=k) (u:=u) (l:=l) (nm:=nm) (F:=(w.heap.size+1+1+1 ≤ ·)) HRN.out (hTY.out.move (.weaken fun b hb _=>hb.1)) (hSR.out.move (.weaken fun b hb _=>hb.1)) (show aN (w.heap.size+1+1+1 ≤ ·) wr ts (.slice cv j qv) from aH.move (.weaken fun b hb _=>by have:B2≤b:=hb;omega) _ _ hrow'.rep);have HEND:=zq (jM.stored (w:=w) (R:=w.heap.size+1) (v0:=.int .i64 k) (v1:=.string nm) (v2:=.int .i64 u) (v3:=.int .i64 k1) (v4:=.slice a1 n1 q1) (v5:=.int .i64 k2) (v6:=.slice a2 n2 q2) (v7:=.int .i64 l) (v8:=.slice cv j qv) hrep (by omega) hbw.out (by omega) (by omega));clear hrep hrow' hrow hTY hSR hje
   go_upto_region 9 with fail
   clear x8 hbw hX hR hO
   go_wp2_with fail
   refine bodyPost_ret (v:=.agg #[.int .i64 k,.string nm,.int .i64 u,.int .i64 k1,.slice a1 n1 q1,.int .i64 k2,.slice a2 n2 q2,.int .i64 l,.slice cv j qv]) (by simp[results,Tryz.results45,go_sem,x0,x1,x2,x3,x4,x5,x6,x7,y8]) rfl ?_
   exact HEND.out
theorem i5 (F:Nat→Prop)(t:Tm) : ∀(y:Value) (w:World),ax F w t y→t.cnt≤1048576→Calls Tryz.prog 45 #[y] w (jM t w):=
 fun y w hy hcnt=>nO F t y w hy hcnt fun t' ht y W h=>i5 F t' y W h (by have:=Tm.cnt_kid ht;omega)
termination_by SizeOf.sizeOf t
decreasing_by exact Tm.kid_lt ht
theorem lX (G1 G2 G3:Nat→Prop)(nm:ByteArray)(u lb tk fk:Int)(ty src:Ty)(ta fa ca:Option Addr)(tn tq fn fq cm cq:Nat)(w:World)(hty:ao G1 w ty (.agg #[.int .i64 tk,.slice ta tn tq]))(hsrc:ao G2 w src (.agg #[.int .i64 fk,.slice fa fn fq]))(y:Value)(h1:S)(hv1:h1.vd=true)(hy:aA G3 w [h1.ty] y) :
  Calls Tryz.prog 118 #[.agg #[.int .i64 11,.string nm,.int .i64 u,.int .i64 tk,.slice ta tn tq,.int .i64 fk,.slice fa fn fq,.int .i64 lb,.slice ca cm cq],y] w (bH ((aZ 11 ty [h1]).map S.ty) w):=by
 obtain⟨b,off,cap,k1,c1,m1,q1,rfl,hlb,e1a,e1b,ht1⟩:=hy.one;obtain⟨O,hOO⟩ : ∃O:Option Ty,O=((aZ 11 ty [h1]).map S.ty):=⟨_,rfl⟩
 rw[←hOO];have HO:=zq hOO;clear hOO;have HOO:=zq (uj (k:=11) (ty:=ty) (h:=h1) (by omega));have H1:=zq ht1.old;have HC1:=zq (ee hv1);have HM:=zq (fun W (h:Below w.heap.size w W)=>dM _ h1 5 (.inr rfl) HC1.out _ W (H1.out.below h));generalize h1.mat 5=mm at HOO HM;obtain⟨ma,mb,okk⟩:=mm;simp only at HOO HM;have fR0:=aB (w:=w.alloc (.cells #[.int .i64 11,.string nm,.int .i64 u,.int .i64 tk,.slice ta tn tq,.int .i64 fk,.slice fa fn fq,.int .i64 lb,.slice ca cm cq] 28)) (o:=.cells #[.int .i64 0,.slice none 0 0] 25) (b:=w.heap.size+1) (by simp);have HBV:=zq (show Below w.heap.size w ((w.alloc (.cells #[.int .i64 11,.string nm,.int .i64 u,.int .i64 tk,.slice ta tn tq,.int .i64 fk,.slice fa fn fq,.int .i64 lb,.slice ca cm cq] 28)).alloc (.cells #[.int .i64 0,.slice none 0 0] 25)) from aj ai ai);have m0:=ah (ai (o:=.cells #[.int .i64 11,.string nm,.int .i64 u,.int .i64 tk,.slice ta tn tq,.int .i64 fk,.slice fa fn fq,.int .i64 lb,.slice ca cm cq] 28)) e1a;have m1:=ah (ai (o:=.cells #[.int .i64 11,.string nm,.int .i64 u,.int .i64 tk,.slice ta tn tq,.int .i64 fk,.slice fa fn fq,.int .i64 lb,.slice ca cm cq] 28)) e1b;have lb1:b<w.heap.size+1:=by omega
 have lb2:b<w.heap.size+1+1:=by omega
 clear hty hsrc hy ht1 hv1
 go_enter Tryz.func118,Tryz.ntmps118
 go_wp2_with fail
 refine(HM.out _ HBV.out).mono ?_;rintro e w3 ⟨ya,yb,rfl,hab,hst⟩;obtain⟨k3,a3,n3,q3,k4,a4,n4,q4,rfl,rfl⟩:=hab.shape;obtain⟨fa_,fb_,oa_,ob_,-,hBB⟩:=hab;have HYA:=zq (oa_.rep.move (.weaken (G:=fun x=>((w.alloc (.cells #[.int .i64 11,.string nm,.int .i64 u,.int .i64 tk,.slice ta tn tq,.int .i64 fk,.slice fa fn fq,.int .i64 lb,.slice ca cm cq] 28)).alloc (.cells #[.int .i64 0,.slice none 0 0] 25)).heap.size≤x∧x<w3.heap.size) fun b h hl=>⟨hBB b (by simp[h]),hl⟩));have HYB:=zq (ob_.rep.move (.weaken (G:=fun x=>((w.alloc (.cells #[.int .i64 11,.string nm,.int .i64 u,.int .i64 tk,.slice ta tn tq,.int .i64 fk,.slice fa fn fq,.int .i64 lb,.slice ca cm cq] 28)).alloc (.cells #[.int .i64 0,.slice none 0 0] 25)).heap.size≤x∧x<w3.heap.size) fun b h hl=>⟨hBB b (by simp[h]),hl⟩));have fR3:=af fR0 hst;have fC3:=zq (aj HBV.out hst);have z3:=hst.size;simp only[World.size_alloc] at z3;clear oa_ ob_ hBB hst;obtain⟨r0,r1⟩:=blk2 fR3;have rf0:=al fR3 0;have rf1:=al fR3 1;have lR:=aC fR3;have lR1:w.heap.size+1<w3.heap.size+1:=by omega
 have lR2:w.heap.size+1<w3.heap.size+1+1:=by omega
 clear m0 m1
 go_wp2_with fail
 have hY:((((w3.setCell ⟨w.heap.size+1,0,none⟩ (.int .i64 k3)).setCell ⟨w.heap.size+1,1,none⟩ (.slice a3 n3 q3)).alloc (.cells #[.int .i64 k3,.slice a3 n3 q3] 25)).alloc (.cells #[.int .i64 k4,.slice a4 n4 q4] 25)).heap[w.heap.size+1]?=some (.cells #[.int .i64 k3,.slice a3 n3 q3] 25 (0,0)):=af (af (aI (aI fR3 rfl) rfl) ai) ai;obtain⟨rc0,rc1⟩:=blk2 hY;refine bodyPost_ret (v:=.tuple #[.agg #[.int .i64 k3,.slice a3 n3 q3],.bool okk]) (by simp[results,Tryz.results118,go_sem,rc0,rc1]) rfl ?_;have HN:O=if okk=true then some ma.ty else none:=by rw[HO.out,HOO.out];cases okk<;>rfl
 have hne : ∀b,(((w.alloc (.cells #[.int .i64 11,.string nm,.int .i64 u,.int .i64 tk,.slice ta tn tq,.int .i64 fk,.slice fa fn fq,.int .i64 lb,.slice ca cm cq] 28)).alloc (.cells #[.int .i64 0,.slice none 0 0] 25)).heap.size≤b∧b<w3.heap.size)→b≠w.heap.size+1:=fun b h=>by have:=h.1;simp at this;omega
 exact⟨_,_,_,_,_,ma.ty,rfl,by rw[HN];cases okk<;>rfl,(((ao.setN (ao.setN HYA.out hne) hne).below ai).below ai).move (.weaken fun b h _=>.inr (by have h1:=h.1;simp at h1;omega)),(by rw[HN];intro s h;cases okk with | false=>cases h | true=>exact Option.some.inj h),aj (aj ((fC3.out.setCell (p:=⟨w.heap.size+1,0,none⟩) (by show w.heap.size≤w.heap.size+1;omega) _).setCell (p:=⟨w.heap.size+1,1,none⟩) (by show w.heap.size≤w.heap.size+1;omega) _) ai) ai⟩
theorem lY (G1 G2 G3:Nat→Prop)(nm:ByteArray)(u lb tk fk:Int)(ty src:Ty)(ta fa ca:Option Addr)(tn tq fn fq cm cq:Nat)(w:World)(hty:ao G1 w ty (.agg #[.int .i64 tk,.slice ta tn tq]))(hsrc:ao G2 w src (.agg #[.int .i64 fk,.slice fa fn fq]))(y:Value)(h1:S)(hv1:h1.vd=true)(hy:aA G3 w [h1.ty] y) :
  Calls Tryz.prog 118 #[.agg #[.int .i64 12,.string nm,.int .i64 u,.int .i64 tk,.slice ta tn tq,.int .i64 fk,.slice fa fn fq,.int .i64 lb,.slice ca cm cq],y] w (bH ((aZ 12 ty [h1]).map S.ty) w):=by
 obtain⟨b,off,cap,k1,c1,m1,q1,rfl,hlb,e1a,e1b,ht1⟩:=hy.one;obtain⟨O,hOO⟩ : ∃O:Option Ty,O=((aZ 12 ty [h1]).map S.ty):=⟨_,rfl⟩
 rw[←hOO];have HO:=zq hOO;clear hOO;have HOO:=zq (uj (k:=12) (ty:=ty) (h:=h1) (by omega));have H1:=zq ht1.old;have HC1:=zq (ee hv1);have HM:=zq (fun W (h:Below w.heap.size w W)=>dM _ h1 5 (.inr rfl) HC1.out _ W (H1.out.below h));generalize h1.mat 5=mm at HOO HM;obtain⟨ma,mb,okk⟩:=mm;simp only at HOO HM;have fR0:=aB (w:=w.alloc (.cells #[.int .i64 12,.string nm,.int .i64 u,.int .i64 tk,.slice ta tn tq,.int .i64 fk,.slice fa fn fq,.int .i64 lb,.slice ca cm cq] 28)) (o:=.cells #[.int .i64 0,.slice none 0 0] 25) (b:=w.heap.size+1) (by simp);have HBV:=zq (show Below w.heap.size w ((w.alloc (.cells #[.int .i64 12,.string nm,.int .i64 u,.int .i64 tk,.slice ta tn tq,.int .i64 fk,.slice fa fn fq,.int .i64 lb,.slice ca cm cq] 28)).alloc (.cells #[.int .i64 0,.slice none 0 0] 25)) from aj ai ai);have m0:=ah (ai (o:=.cells #[.int .i64 12,.string nm,.int .i64 u,.int .i64 tk,.slice ta tn tq,.int .i64 fk,.slice fa fn fq,.int .i64 lb,.slice ca cm cq] 28)) e1a;have m1:=ah (ai (o:=.cells #[.int .i64 12,.string nm,.int .i64 u,.int .i64 tk,.slice ta tn tq,.int .i64 fk,.slice fa fn fq,.int .i64 lb,.slice ca cm cq] 28)) e1b;have lb1:b<w.heap.size+1:=by omega
 have lb2:b<w.heap.size+1+1:=by omega
 clear hty hsrc hy ht1 hv1
 go_enter Tryz.func118,Tryz.ntmps118
 go_wp2_with fail
 refine(HM.out _ HBV.out).mono ?_;rintro e w3 ⟨ya,yb,rfl,hab,hst⟩;obtain⟨k3,a3,n3,q3,k4,a4,n4,q4,rfl,rfl⟩:=hab.shape;obtain⟨fa_,fb_,oa_,ob_,-,hBB⟩:=hab;have HYA:=zq (oa_.rep.move (.weaken (G:=fun x=>((w.alloc (.cells #[.int .i64 12,.string nm,.int .i64 u,.int .i64 tk,.slice ta tn tq,.int .i64 fk,.slice fa fn fq,.int .i64 lb,.slice ca cm cq] 28)).alloc (.cells #[.int .i64 0,.slice none 0 0] 25)).heap.size≤x∧x<w3.heap.size) fun b h hl=>⟨hBB b (by simp[h]),hl⟩));have HYB:=zq (ob_.rep.move (.weaken (G:=fun x=>((w.alloc (.cells #[.int .i64 12,.string nm,.int .i64 u,.int .i64 tk,.slice ta tn tq,.int .i64 fk,.slice fa fn fq,.int .i64 lb,.slice ca cm cq] 28)).alloc (.cells #[.int .i64 0,.slice none 0 0] 25)).heap.size≤x∧x<w3.heap.size) fun b h hl=>⟨hBB b (by simp[h]),hl⟩));have fR3:=af fR0 hst;have fC3:=zq (aj HBV.out hst);have z3:=hst.size;simp only[World.size_alloc] at z3;clear oa_ ob_ hBB hst;obtain⟨r0,r1⟩:=blk2 fR3;have rf0:=al fR3 0;have rf1:=al fR3 1;have lR:=aC fR3;have lR1:w.heap.size+1<w3.heap.size+1:=by omega
 have lR2:w.heap.size+1<w3.heap.size+1+1:=by omega
 clear m0 m1
 go_wp2_with fail
 have hY:((((w3.setCell ⟨w.heap.size+1,0,none⟩ (.int .i64 k4)).setCell ⟨w.heap.size+1,1,none⟩ (.slice a4 n4 q4)).alloc (.cells #[.int .i64 k3,.slice a3 n3 q3] 25)).alloc (.cells #[.int .i64 k4,.slice a4 n4 q4] 25)).heap[w.heap.size+1]?=some (.cells #[.int .i64 k4,.slice a4 n4 q4] 25 (0,0)):=af (af (aI (aI fR3 rfl) rfl) ai) ai;obtain⟨rc0,rc1⟩:=blk2 hY;refine bodyPost_ret (v:=.tuple #[.agg #[.int .i64 k4,.slice a4 n4 q4],.bool okk]) (by simp[results,Tryz.results118,go_sem,rc0,rc1]) rfl ?_;have HN:O=if okk=true then some mb.ty else none:=by rw[HO.out,HOO.out];cases okk<;>rfl
 have hne : ∀b,(((w.alloc (.cells #[.int .i64 12,.string nm,.int .i64 u,.int .i64 tk,.slice ta tn tq,.int .i64 fk,.slice fa fn fq,.int .i64 lb,.slice ca cm cq] 28)).alloc (.cells #[.int .i64 0,.slice none 0 0] 25)).heap.size≤b∧b<w3.heap.size)→b≠w.heap.size+1:=fun b h=>by have:=h.1;simp at this;omega
 exact⟨_,_,_,_,_,mb.ty,rfl,by rw[HN];cases okk<;>rfl,(((ao.setN (ao.setN HYB.out hne) hne).below ai).below ai).move (.weaken fun b h _=>.inr (by have h1:=h.1;simp at h1;omega)),(by rw[HN];intro s h;cases okk with | false=>cases h | true=>exact Option.some.inj h),aj (aj ((fC3.out.setCell (p:=⟨w.heap.size+1,0,none⟩) (by show w.heap.size≤w.heap.size+1;omega) _).setCell (p:=⟨w.heap.size+1,1,none⟩) (by show w.heap.size≤w.heap.size+1;omega) _) ai) ai⟩
def jS:Oper:=⟨some 27,.load 25 (.tmp 7),25,"l3_typing.go:74",#[],none⟩
def jT:Oper:=⟨some 28,.move (.tmp 8),4,"l3_typing.go:74",#[],none⟩
def jU:Oper:=⟨some 29,.move (.tmp 28),4,"l3_typing.go:74",#[⟨1,.data⟩],none⟩
def lw:Oper:=⟨some 30,.move (.tmp 1),23,"l3_typing.go:74",#[⟨2,.guard⟩],some (2,true)⟩
def ly:Oper:=⟨some 31,.indexAddr 23 (.tmp 30) (.const (.int .i64 1)),0,"l3_typing.go:74",#[⟨3,.data⟩,⟨2,.guard⟩],some (2,true)⟩
def lA:Oper:=⟨some 32,.load 25 (.tmp 31),25,"l3_typing.go:74",#[⟨4,.data⟩,⟨2,.guard⟩],some (2,true)⟩
def lB:Oper:=⟨some 33,.load 25 (.tmp 6),25,"l3_typing.go:74",#[⟨2,.guard⟩],some (2,true)⟩
def lC:Oper:=⟨some 34,.call {callee:=.value (.func 58),args:=#[.tmp 32,.tmp 33],argTypes:=#[25,25]},4,"l3_typing.go:74",#[⟨5,.data⟩,⟨6,.data⟩,⟨2,.chain⟩,⟨2,.guard⟩],some (2,true)⟩
def jV:Oper:=⟨some 35,.pick (.tmp 29) (.tmp 34) (.const (.bool false)),4,"l3_typing.go:74",#[⟨2,.data⟩,⟨7,.data⟩,⟨9,.gcOnly .lateStores⟩],none⟩
def jW:Oper:=⟨none,.store 25 (.tmp 4) (.tmp 27),0,"l3_typing.go:74",#[⟨0,.data⟩,⟨7,.chain⟩,⟨0,.phase⟩,⟨1,.textOnly .lateStores⟩,⟨2,.textOnly .lateStores⟩,⟨3,.textOnly .lateStores⟩,⟨4,.textOnly .lateStores⟩,⟨5,.textOnly .lateStores⟩,⟨6,.textOnly .lateStores⟩,⟨7,.textOnly .lateStoresUnsure⟩,⟨8,.textOnly .lateStores⟩],none⟩
def gD:Oper:=⟨some 5,.assign (.tmp 35),4,"l3_typing.go:74",#[⟨8,.data⟩,⟨9,.chain⟩,⟨0,.phase⟩,⟨1,.phase⟩,⟨2,.phase⟩,⟨3,.phase⟩,⟨4,.phase⟩,⟨5,.phase⟩,⟨6,.phase⟩,⟨7,.phase⟩,⟨8,.phase⟩,⟨9,.phase⟩],none⟩
theorem kW (G1 G2 G3:Nat→Prop)(nm:ByteArray)(u lb tk fk:Int)(ty src:Ty)(ta fa ca:Option Addr)(tn tq fn fq cm cq:Nat)(w:World)(hty:ao G1 w ty (.agg #[.int .i64 tk,.slice ta tn tq]))(hsrc:ao G2 w src (.agg #[.int .i64 fk,.slice fa fn fq]))(y:Value)(h1 h2:S)(hd:(h1.mat 4).2.2=false)(hv1:h1.vd=true)(hv2:h2.vd=true)(hy:aA G3 w [h1.ty,h2.ty] y) :
  Calls Tryz.prog 118 #[.agg #[.int .i64 6,.string nm,.int .i64 u,.int .i64 tk,.slice ta tn tq,.int .i64 fk,.slice fa fn fq,.int .i64 lb,.slice ca cm cq],y] w (bH ((aZ 6 ty [h1,h2]).map S.ty) w):=by
 obtain⟨b,off,cap,k1,c1,m1,q1,k2,c2,m2,q2,rfl,-,-,hlb,e1a,e1b,e2a,e2b,ht1,ht2⟩:=hy.two;obtain⟨O,hOO⟩ : ∃O:Option Ty,O=((aZ 6 ty [h1,h2]).map S.ty):=⟨_,rfl⟩
 rw[←hOO];have HO:=zq hOO;clear hOO;have HOO:=zq (show aZ 6 ty [h1,h2]=if ((h1.mat 4).2.2&&h2.cons (h1.mat 4).1)=true then some (h1.mat 4).2.1 else none from by simp only[aZ,if_true]);have H1:=zq ht1.old;have H2:=zq ht2.old;have HC1:=zq (ee hv1);have HM:=zq (fun W (h:Below w.heap.size w W)=>dM _ h1 4 (.inl rfl) HC1.out _ W (H1.out.below h));have HMV:=zq (ls (k:=4) hv1);have V2:=zq hv2;generalize h1.mat 4=mm at HOO HM hd HMV;obtain⟨ma,mb,okk⟩:=mm;simp only at HOO HM hd HMV;subst hd;obtain⟨d2,hd2⟩ : ∃d2,h2.cons ma=d2:=⟨_,rfl⟩
 have HD2:=zq hd2;have fR0:=aB (w:=w.alloc (.cells #[.int .i64 6,.string nm,.int .i64 u,.int .i64 tk,.slice ta tn tq,.int .i64 fk,.slice fa fn fq,.int .i64 lb,.slice ca cm cq] 28)) (o:=.cells #[.int .i64 0,.slice none 0 0] 25) (b:=w.heap.size+1) (by simp);have HBV:=zq (show Below w.heap.size w ((w.alloc (.cells #[.int .i64 6,.string nm,.int .i64 u,.int .i64 tk,.slice ta tn tq,.int .i64 fk,.slice fa fn fq,.int .i64 lb,.slice ca cm cq] 28)).alloc (.cells #[.int .i64 0,.slice none 0 0] 25)) from aj ai ai);have m0:=ah (ai (o:=.cells #[.int .i64 6,.string nm,.int .i64 u,.int .i64 tk,.slice ta tn tq,.int .i64 fk,.slice fa fn fq,.int .i64 lb,.slice ca cm cq] 28)) e1a;have m1:=ah (ai (o:=.cells #[.int .i64 6,.string nm,.int .i64 u,.int .i64 tk,.slice ta tn tq,.int .i64 fk,.slice fa fn fq,.int .i64 lb,.slice ca cm cq] 28)) e1b;have lb1:b<w.heap.size+1:=by omega
 have lb2:b<w.heap.size+1+1:=by omega
 clear hty hsrc hy ht1 ht2 hv1 hv2 hd2
 go_enter Tryz.func118,Tryz.ntmps118
 go_wp2_with fail
 refine(HM.out _ HBV.out).mono ?_;rintro e w3 ⟨ya,yb,rfl,hab,hst⟩;obtain⟨k3,a3,n3,q3,k4,a4,n4,q4,rfl,rfl⟩:=hab.shape;obtain⟨fa_,fb_,oa_,ob_,-,hBB⟩:=hab;have HYA:=zq (oa_.rep.move (.weaken (G:=fun x=>((w.alloc (.cells #[.int .i64 6,.string nm,.int .i64 u,.int .i64 tk,.slice ta tn tq,.int .i64 fk,.slice fa fn fq,.int .i64 lb,.slice ca cm cq] 28)).alloc (.cells #[.int .i64 0,.slice none 0 0] 25)).heap.size≤x∧x<w3.heap.size) fun b h hl=>⟨hBB b (by simp[h]),hl⟩));have HYB:=zq (ob_.rep.move (.weaken (G:=fun x=>((w.alloc (.cells #[.int .i64 6,.string nm,.int .i64 u,.int .i64 tk,.slice ta tn tq,.int .i64 fk,.slice fa fn fq,.int .i64 lb,.slice ca cm cq] 28)).alloc (.cells #[.int .i64 0,.slice none 0 0] 25)).heap.size≤x∧x<w3.heap.size) fun b h hl=>⟨hBB b (by simp[h]),hl⟩));have fR3:=af fR0 hst;have fC3:=zq (aj HBV.out hst);have z3:=hst.size;simp only[World.size_alloc] at z3;clear oa_ ob_ hBB hst;simp only[World.size_alloc] at HYA HYB;clear m0 m1
 go_wp2_with fail
 obtain⟨VV,hVV⟩ : ∃X,X=((w3.alloc (.cells #[.int .i64 k3,.slice a3 n3 q3] 25)).alloc (.cells #[.int .i64 k4,.slice a4 n4 q4] 25)):=⟨_,rfl⟩
 have fR:VV.heap[w.heap.size+1]?=some (.cells #[.int .i64 0,.slice none 0 0] 25 (0,0)):=by rw[hVV];exact af (af fR3 ai) ai
 have fA:VV.heap[w3.heap.size]?=some (.cells #[.int .i64 k3,.slice a3 n3 q3] 25 (0,0)):=by rw[hVV];exact af (aB rfl) ai
 have fB:VV.heap[w3.heap.size+1]?=some (.cells #[.int .i64 k4,.slice a4 n4 q4] 25 (0,0)):=by rw[hVV];exact aB (by simp)
 have fC:Hid (Below w.heap.size w VV):=by rw[hVV];exact zq (aj (aj fC3.out ai) ai)
 have hA:Hid (ao (fun x=>w.heap.size+1+1≤x∧x<w3.heap.size) VV ma.ty (.agg #[.int .i64 k3,.slice a3 n3 q3])):=by rw[hVV];exact zq ((HYA.out.below ai).below ai)
 have hB_:Hid (ao (fun x=>w.heap.size+1+1≤x∧x<w3.heap.size) VV mb.ty (.agg #[.int .i64 k4,.slice a4 n4 q4])):=by rw[hVV];exact zq ((HYB.out.below ai).below ai)
 rw[←hVV];have zV:VV.heap.size=_:=congrArg (fun X:World=>X.heap.size) hVV;simp only[World.size_alloc] at zV;refine wp_region_noPanic ?_;refine wp_region_held_drew (S:=fun w'=>w'.cell? ⟨w3.heap.size,0,none⟩=some (.int .i64 k3)∧w'.cell? ⟨w3.heap.size,1,none⟩=some (.slice a3 n3 q3)∧w'.cell? ⟨w3.heap.size+1,0,none⟩=some (.int .i64 k4)∧w'.cell? ⟨w3.heap.size+1,1,none⟩=some (.slice a4 n4 q4)) (by kernel_rfl) ?_ (fun hH0=>?_)
 ·exact⟨ag fA rfl,ag fA rfl,ag fB rfl,ag fB rfl⟩
 obtain⟨U7,hU,hb,zU7a,zU7b⟩:=bD VV;rw[hU] at hH0 ⊢;replace fR:=af fR hb;replace fA:=af fA hb;replace fB:=af fB hb;replace fC:=zq (aj fC.out hb);replace hA:=zq (hA.out.below hb);replace hB_:=zq (hB_.out.below hb);rw[zV] at zU7a zU7b;clear hU hb hVV zV;refine hwt 0 jS (.agg #[.int .i64 k4,.slice a4 n4 q4]) hH0 ?_ ?_
 ·intro w' hSw;dsimp only[jS];go_simp
 try simp only[jS,hwA]
 refine hwt 1 jT (.bool false) hH0 ?_ ?_
 ·intro w' hSw;dsimp only[jT];go_simp
 try simp only[jT,hwA]
 refine hwt 2 jU (.bool false) hH0 ?_ ?_
 ·intro w' hSw;dsimp only[jU];go_simp
 try simp only[jU,hwA]
 refine hwn 3 lw hH0 ?_
 try simp only[lw,hwA]
 refine hwn 4 ly hH0 ?_
 try simp only[ly,hwA]
 refine hwn 5 lA hH0 ?_
 try simp only[lA,hwA]
 refine hwn 6 lB hH0 ?_
 try simp only[lB,hwA]
 refine hwn 7 lC hH0 ?_
 try simp only[lC,hwA]
 refine hwt 8 jV (.bool false) hH0 ?_ ?_
 ·intro w' hSw;dsimp only[jV];go_simp
 try simp only[jV,hwA]
 refine hwr 9 jW (fun K hK=>?_);obtain⟨r0,r1,rf0,rf1⟩:=co fR
 dsimp only[jW];go_simp
 (try go_wp2_with fail);have hQq:=bw fR (.int .i64 k4) (.slice a4 n4 q4);clear fR r0 rf0 r1 rf1;obtain⟨X1,hXq,hsq,fR,zX1a,zX1b⟩:=hQq;rw[hXq];replace fA:=hsq.blk (by omega) fA;replace fB:=hsq.blk (by omega) fB;replace fC:=zq (hsq.bel fC.out (by omega));replace hA:=zq (hsq.rep (fun b hb=>by have h1:=hb.1;have h2:=hb.2;omega) hA.out);replace hB_:=zq (hsq.rep (fun b hb=>by have h1:=hb.1;have h2:=hb.2;omega) hB_.out);refine hK.out _ _ ⟨ag fA rfl,ag fA rfl,ag fB rfl,ag fB rfl⟩ (fun hH1=>?_);clear hK K hH0 hsq hXq
 try simp only[jW,hwA]
 refine hwt 10 gD (.bool false) hH1 ?_ ?_
 ·intro w' hSw;dsimp only[gD];go_simp
 try simp only[gD,hwA]
 refine wpAnyH_done (by kernel_rfl) ?_ _;refine NoPanic.normal ?_;clear hH1;have HN:O=none:=by rw[HO.out,HOO.out];rfl
 obtain⟨rc0,rc1⟩:=blk2 fR
 go_wp2_with fail
 refine bodyPost_ret (v:=.tuple #[.agg #[.int .i64 k4,.slice a4 n4 q4],.bool false]) (by simp[results,Tryz.results118,go_sem,rc0,rc1]) rfl ?_
 exact⟨_,_,_,_,_,mb.ty,rfl,by rw[HN];rfl,hB_.out.move (.weaken fun b h _=>.inr (by have h1:=h.1;omega)),(by rw[HN];intro s h;cases h),fC.out⟩
theorem kX (G1 G2 G3:Nat→Prop)(nm:ByteArray)(u lb tk fk:Int)(ty src:Ty)(ta fa ca:Option Addr)(tn tq fn fq cm cq:Nat)(w:World)(hty:ao G1 w ty (.agg #[.int .i64 tk,.slice ta tn tq]))(hsrc:ao G2 w src (.agg #[.int .i64 fk,.slice fa fn fq]))(y:Value)(h1 h2:S)(hd:(h1.mat 4).2.2=true)(hv1:h1.vd=true)(hv2:h2.vd=true)(hy:aA G3 w [h1.ty,h2.ty] y) :
  Calls Tryz.prog 118 #[.agg #[.int .i64 6,.string nm,.int .i64 u,.int .i64 tk,.slice ta tn tq,.int .i64 fk,.slice fa fn fq,.int .i64 lb,.slice ca cm cq],y] w (bH ((aZ 6 ty [h1,h2]).map S.ty) w):=by
 obtain⟨b,off,cap,k1,c1,m1,q1,k2,c2,m2,q2,rfl,-,-,hlb,e1a,e1b,e2a,e2b,ht1,ht2⟩:=hy.two;obtain⟨O,hOO⟩ : ∃O:Option Ty,O=((aZ 6 ty [h1,h2]).map S.ty):=⟨_,rfl⟩
 rw[←hOO];have HO:=zq hOO;clear hOO;have HOO:=zq (show aZ 6 ty [h1,h2]=if ((h1.mat 4).2.2&&h2.cons (h1.mat 4).1)=true then some (h1.mat 4).2.1 else none from by simp only[aZ,if_true]);have H1:=zq ht1.old;have H2:=zq ht2.old;have HC1:=zq (ee hv1);have HM:=zq (fun W (h:Below w.heap.size w W)=>dM _ h1 4 (.inl rfl) HC1.out _ W (H1.out.below h));have HMV:=zq (ls (k:=4) hv1);have V2:=zq hv2;generalize h1.mat 4=mm at HOO HM hd HMV;obtain⟨ma,mb,okk⟩:=mm;simp only at HOO HM hd HMV;subst hd;obtain⟨d2,hd2⟩ : ∃d2,h2.cons ma=d2:=⟨_,rfl⟩
 have HD2:=zq hd2;have fR0:=aB (w:=w.alloc (.cells #[.int .i64 6,.string nm,.int .i64 u,.int .i64 tk,.slice ta tn tq,.int .i64 fk,.slice fa fn fq,.int .i64 lb,.slice ca cm cq] 28)) (o:=.cells #[.int .i64 0,.slice none 0 0] 25) (b:=w.heap.size+1) (by simp);have HBV:=zq (show Below w.heap.size w ((w.alloc (.cells #[.int .i64 6,.string nm,.int .i64 u,.int .i64 tk,.slice ta tn tq,.int .i64 fk,.slice fa fn fq,.int .i64 lb,.slice ca cm cq] 28)).alloc (.cells #[.int .i64 0,.slice none 0 0] 25)) from aj ai ai);have m0:=ah (ai (o:=.cells #[.int .i64 6,.string nm,.int .i64 u,.int .i64 tk,.slice ta tn tq,.int .i64 fk,.slice fa fn fq,.int .i64 lb,.slice ca cm cq] 28)) e1a;have m1:=ah (ai (o:=.cells #[.int .i64 6,.string nm,.int .i64 u,.int .i64 tk,.slice ta tn tq,.int .i64 fk,.slice fa fn fq,.int .i64 lb,.slice ca cm cq] 28)) e1b;have lb1:b<w.heap.size+1:=by omega
 have lb2:b<w.heap.size+1+1:=by omega
 clear hty hsrc hy ht1 ht2 hv1 hv2 hd2
 go_enter Tryz.func118,Tryz.ntmps118
 go_wp2_with fail
 refine(HM.out _ HBV.out).mono ?_;rintro e w3 ⟨ya,yb,rfl,hab,hst⟩;obtain⟨k3,a3,n3,q3,k4,a4,n4,q4,rfl,rfl⟩:=hab.shape;obtain⟨fa_,fb_,oa_,ob_,-,hBB⟩:=hab;have HYA:=zq (oa_.rep.move (.weaken (G:=fun x=>((w.alloc (.cells #[.int .i64 6,.string nm,.int .i64 u,.int .i64 tk,.slice ta tn tq,.int .i64 fk,.slice fa fn fq,.int .i64 lb,.slice ca cm cq] 28)).alloc (.cells #[.int .i64 0,.slice none 0 0] 25)).heap.size≤x∧x<w3.heap.size) fun b h hl=>⟨hBB b (by simp[h]),hl⟩));have HYB:=zq (ob_.rep.move (.weaken (G:=fun x=>((w.alloc (.cells #[.int .i64 6,.string nm,.int .i64 u,.int .i64 tk,.slice ta tn tq,.int .i64 fk,.slice fa fn fq,.int .i64 lb,.slice ca cm cq] 28)).alloc (.cells #[.int .i64 0,.slice none 0 0] 25)).heap.size≤x∧x<w3.heap.size) fun b h hl=>⟨hBB b (by simp[h]),hl⟩));have fR3:=af fR0 hst;have fC3:=zq (aj HBV.out hst);have z3:=hst.size;simp only[World.size_alloc] at z3;clear oa_ ob_ hBB hst;simp only[World.size_alloc] at HYA HYB;clear m0 m1
 go_wp2_with fail
 obtain⟨VV,hVV⟩ : ∃X,X=((w3.alloc (.cells #[.int .i64 k3,.slice a3 n3 q3] 25)).alloc (.cells #[.int .i64 k4,.slice a4 n4 q4] 25)):=⟨_,rfl⟩
 have fR:VV.heap[w.heap.size+1]?=some (.cells #[.int .i64 0,.slice none 0 0] 25 (0,0)):=by rw[hVV];exact af (af fR3 ai) ai
 have fA:VV.heap[w3.heap.size]?=some (.cells #[.int .i64 k3,.slice a3 n3 q3] 25 (0,0)):=by rw[hVV];exact af (aB rfl) ai
 have fB:VV.heap[w3.heap.size+1]?=some (.cells #[.int .i64 k4,.slice a4 n4 q4] 25 (0,0)):=by rw[hVV];exact aB (by simp)
 have fC:Hid (Below w.heap.size w VV):=by rw[hVV];exact zq (aj (aj fC3.out ai) ai)
 have hA:Hid (ao (fun x=>w.heap.size+1+1≤x∧x<w3.heap.size) VV ma.ty (.agg #[.int .i64 k3,.slice a3 n3 q3])):=by rw[hVV];exact zq ((HYA.out.below ai).below ai)
 have hB_:Hid (ao (fun x=>w.heap.size+1+1≤x∧x<w3.heap.size) VV mb.ty (.agg #[.int .i64 k4,.slice a4 n4 q4])):=by rw[hVV];exact zq ((HYB.out.below ai).below ai)
 have c2a_:VV.cell? ⟨b,off+2,none⟩=some (.int .i64 k2):=by rw[hVV];exact ah ai (ah ai (ah fC3.out e2a))
 have c2b_:VV.cell? ⟨b,off+3,none⟩=some (.slice c2 m2 q2):=by rw[hVV];exact ah ai (ah ai (ah fC3.out e2b))
 have h2_:Hid (ao (· < w.heap.size) VV h2.ty (.agg #[.int .i64 k2,.slice c2 m2 q2])):=by rw[hVV];exact zq (((H2.out.below fC3.out).below ai).below ai)
 rw[←hVV];have zV:VV.heap.size=_:=congrArg (fun X:World=>X.heap.size) hVV;simp only[World.size_alloc] at zV;refine wp_region_noPanic ?_;refine wp_region_held_drew (S:=fun w'=>w'.cell? ⟨w3.heap.size,0,none⟩=some (.int .i64 k3)∧w'.cell? ⟨w3.heap.size,1,none⟩=some (.slice a3 n3 q3)∧w'.cell? ⟨w3.heap.size+1,0,none⟩=some (.int .i64 k4)∧w'.cell? ⟨w3.heap.size+1,1,none⟩=some (.slice a4 n4 q4)∧w'.cell? ⟨b,off+2,none⟩=some (.int .i64 k2)∧w'.cell? ⟨b,off+3,none⟩=some (.slice c2 m2 q2)) (by kernel_rfl) ?_ (fun hH0=>?_)
 ·exact⟨ag fA rfl,ag fA rfl,ag fB rfl,ag fB rfl,c2a_,c2b_⟩
 obtain⟨U8,hU,hb,zU8a,zU8b⟩:=bD VV;rw[hU] at hH0 ⊢;replace fR:=af fR hb;replace fA:=af fA hb;replace fB:=af fB hb;replace fC:=zq (aj fC.out hb);replace hA:=zq (hA.out.below hb);replace hB_:=zq (hB_.out.below hb);replace c2a_:=ah hb c2a_;replace c2b_:=ah hb c2b_;replace h2_:=zq (h2_.out.below hb);rw[zV] at zU8a zU8b;clear hU hb hVV zV;refine hwt 0 jS (.agg #[.int .i64 k4,.slice a4 n4 q4]) hH0 ?_ ?_
 ·intro w' hSw;dsimp only[jS];go_simp
 try simp only[jS,hwA]
 refine hwt 1 jT (.bool true) hH0 ?_ ?_
 ·intro w' hSw;dsimp only[jT];go_simp
 try simp only[jT,hwA]
 refine hwt 2 jU (.bool true) hH0 ?_ ?_
 ·intro w' hSw;dsimp only[jU];go_simp
 try simp only[jU,hwA]
 refine hwt 3 lw (.slice (some ⟨b,off,none⟩) 2 cap) hH0 ?_ ?_
 ·intro w' hSw;dsimp only[lw];go_simp
 try simp only[lw,hwA]
 refine hwt 4 ly (.pointer (some ⟨b,off+2,none⟩)) hH0 ?_ ?_
 ·intro w' hSw;dsimp only[ly];go_simp
 try simp only[ly,hwA]
 refine hwt 5 lA (.agg #[.int .i64 k2,.slice c2 m2 q2]) hH0 ?_ ?_
 ·intro w' hSw;dsimp only[lA];go_simp
 try simp only[lA,hwA]
 refine hwt 6 lB (.agg #[.int .i64 k3,.slice a3 n3 q3]) hH0 ?_ ?_
 ·intro w' hSw;dsimp only[lB];go_simp
 try simp only[lB,hwA]
 refine hwr 7 lC (fun K hK=>?_)
 dsimp only[lC];go_simp
 go_at_call 58
 refine(bY _ _ _ _ _ _ _ h2_.out hA.out V2.out (HMV.out (by simp)).1).mono ?_;rintro e X1 ⟨rfl,hb⟩;rw[HD2.out]
 go_wp2_with fail
 have zX1:U8.heap.size≤X1.heap.size:=hb.size;replace fR:=af fR hb;replace fA:=af fA hb;replace fB:=af fB hb;replace fC:=zq (aj fC.out hb);replace hA:=zq (hA.out.below hb);replace hB_:=zq (hB_.out.below hb);replace c2a_:=ah hb c2a_;replace c2b_:=ah hb c2b_;replace h2_:=zq (h2_.out.below hb);refine hK.out _ _ ⟨ag fA rfl,ag fA rfl,ag fB rfl,ag fB rfl,c2a_,c2b_⟩ (fun hH1=>?_);clear hK K hH0 hb
 try simp only[lC,hwA]
 refine hwt 8 jV (.bool d2) hH1 ?_ ?_
 ·intro w' hSw;dsimp only[jV];go_simp
 try simp only[jV,hwA]
 refine hwr 9 jW (fun K hK=>?_);obtain⟨r0,r1,rf0,rf1⟩:=co fR
 dsimp only[jW];go_simp
 (try go_wp2_with fail);have hQq:=bw fR (.int .i64 k4) (.slice a4 n4 q4);clear fR r0 rf0 r1 rf1;obtain⟨X2,hXq,hsq,fR,zX2a,zX2b⟩:=hQq;rw[hXq];replace fA:=hsq.blk (by omega) fA;replace fB:=hsq.blk (by omega) fB;replace fC:=zq (hsq.bel fC.out (by omega));replace hA:=zq (hsq.rep (fun b hb=>by have h1:=hb.1;have h2:=hb.2;omega) hA.out);replace hB_:=zq (hsq.rep (fun b hb=>by have h1:=hb.1;have h2:=hb.2;omega) hB_.out);replace c2a_:=hsq.cell (by show b≠w.heap.size+1;omega) c2a_;replace c2b_:=hsq.cell (by show b≠w.heap.size+1;omega) c2b_;replace h2_:=zq (hsq.rep (fun b hb=>by have:b<w.heap.size:=hb;omega) h2_.out);refine hK.out _ _ ⟨ag fA rfl,ag fA rfl,ag fB rfl,ag fB rfl,c2a_,c2b_⟩ (fun hH2=>?_);clear hK K hH1 hsq hXq
 try simp only[jW,hwA]
 refine hwt 10 gD (.bool d2) hH2 ?_ ?_
 ·intro w' hSw;dsimp only[gD];go_simp
 try simp only[gD,hwA]
 refine wpAnyH_done (by kernel_rfl) ?_ _;refine NoPanic.normal ?_;clear hH2;have HN:O=if d2=true then some mb.ty else none:=by rw[HO.out,HOO.out];rw[HD2.out];cases d2<;>rfl
 obtain⟨rc0,rc1⟩:=blk2 fR
 go_wp2_with fail
 refine bodyPost_ret (v:=.tuple #[.agg #[.int .i64 k4,.slice a4 n4 q4],.bool d2]) (by simp[results,Tryz.results118,go_sem,rc0,rc1]) rfl ?_
 exact⟨_,_,_,_,_,mb.ty,rfl,by rw[HN];cases d2<;>rfl,hB_.out.move (.weaken fun b h _=>.inr (by have h1:=h.1;omega)),(by rw[HN];intro s h;cases d2 with | false=>cases h | true=>exact Option.some.inj h),fC.out⟩
theorem sL (r p:Nat)(w:World)(h:aQ w r p)(hp:p≤1000000000):Calls Tryz.prog 54 #[.pointer (some ⟨r,0,none⟩)] w (DTm r p 5121 5120 w):=by
 have hrl:=h.1
 go_enter Tryz.func54,Tryz.ntmps54
 go_wp2_with fail
 refine(bJ (fun k=>2≤k∧k≤5) r (p) _ 5 5 _ (h.below aT) (by omega) (by omega) (by omega) (Nat.le_refl _) (by omega) (bp [4,3,5,4,2] (by simp) _ (by decide))).mono ?_;rintro e w2 ⟨kz,rfl,⟨z1,z2⟩,hrd2,hc2⟩;have hw2:=hc2.size;simp only[World.size_alloc] at hw2;have hch2:=(Chg.of_below (aT (w:=w))).trans hc2;have hR2:w2.heap[w.heap.size]?=some (.cells #[.int .i64 0,.string {data:=#[]},.int .i64 0,.int .i64 0,.slice none 0 0,.int .i64 0,.slice none 0 0,.int .i64 0,.slice none 0 0] 28 (0,0)):=aw (af (aB rfl) ai) hc2 (by omega);clear hc2;obtain⟨d,rfl⟩:=Int.eq_ofNat_of_zero_le (show 0≤kz by omega);have hd4:4 ^ d≤4 ^ 5:=Nat.pow_le_pow_right (by omega) (by omega);have HD4:=zq (show 4 ^ d≤1024 by simpa using hd4);clear hd4
 go_wp2_with fail
 refine(lP d r (p+1) [] _ (by omega) (by omega) (by simp;omega) hrd2 (by have:=HD4.out;omega)).mono ?_;rintro e w3 ⟨t,v,q,rfl,hcn,hv,hq,hrd3,hc3⟩;obtain⟨kt,nm0,ut,tkt,tat,tnt,tqt,fkt,fat,fnt,fqt,lt,ct,mt,qt,rfl⟩:=hv.shape;have hw3:=hc3.size;have hch3:=hch2.trans hc3;have hR3:=aw hR2 hc3;clear hc3 hch2 hR2 hrd2;have hval:=fun W (h:Below w3.heap.size w3 W)=>ib _ t _ W (hv.below h);generalize t.valid=vv at hval;have HVAL:=zq hval;have HCN:=zq (show t.cnt≤5120 by have:=HD4.out;omega);have HQ:=zq (show q≤p+5121 by have:=HD4.out;omega);clear hval hcn hq
 go_wp2_with fail
 refine(HVAL.out _ ai).mono ?_;rintro e w4 ⟨rfl,hb4⟩;have hw4:=hb4.size;simp only[World.size_alloc] at hw4;have hrd4:=(hrd3.below (ai (o:=(.cells #[.int .i64 kt,.string nm0,.int .i64 ut,.int .i64 tkt,.slice tat tnt tqt,.int .i64 fkt,.slice fat fnt fqt,.int .i64 lt,.slice ct mt qt] 28)))).below hb4;have hv4:=(hv.below (ai (o:=(.cells #[.int .i64 kt,.string nm0,.int .i64 ut,.int .i64 tkt,.slice tat tnt tqt,.int .i64 fkt,.slice fat fnt fqt,.int .i64 lt,.slice ct mt qt] 28)))).below hb4;have hch4:=(hch3.trans (Chg.of_below (ai (o:=(.cells #[.int .i64 kt,.string nm0,.int .i64 ut,.int .i64 tkt,.slice tat tnt tqt,.int .i64 fkt,.slice fat fnt fqt,.int .i64 lt,.slice ct mt qt] 28))))).trans (Chg.of_below hb4);have hR4:=af (af hR3 (ai (o:=(.cells #[.int .i64 kt,.string nm0,.int .i64 ut,.int .i64 tkt,.slice tat tnt tqt,.int .i64 fkt,.slice fat fnt fqt,.int .i64 lt,.slice ct mt qt] 28)))) hb4;have hE4:w4.heap[w3.heap.size]?=some (.cells #[.int .i64 kt,.string nm0,.int .i64 ut,.int .i64 tkt,.slice tat tnt tqt,.int .i64 fkt,.slice fat fnt fqt,.int .i64 lt,.slice ct mt qt] 28 (0,0)):=af (aB rfl) hb4;clear HVAL hrd3 hv hch3 hR3 hb4;have x0:=ag hR4 (o:=0) rfl;have f0:=al hR4 0;have x1:=ag hR4 (o:=1) rfl;have f1:=al hR4 1;have x2:=ag hR4 (o:=2) rfl;have f2:=al hR4 2;have x3:=ag hR4 (o:=3) rfl;have f3:=al hR4 3;have x4:=ag hR4 (o:=4) rfl;have f4:=al hR4 4;have x5:=ag hR4 (o:=5) rfl;have f5:=al hR4 5;have x6:=ag hR4 (o:=6) rfl;have f6:=al hR4 6;have x7:=ag hR4 (o:=7) rfl;have f7:=al hR4 7;have x8:=ag hR4 (o:=8) rfl;have f8:=al hR4 8;obtain⟨e0,e1,e2,e3,e4,e5,e6,e7,e8⟩:=blk9 hE4;have lx:=aC hR4;have lE:=aC hE4
 cases vv
 ·go_wp2_with fail
  refine(cS 3 _).mono ?_;rintro e w5 ⟨rfl,hb5⟩;have hw5:=hb5.size;have hrd5:=hrd4.below hb5;have hch5:=hch4.trans (Chg.of_below hb5);have hR5:=af hR4 hb5;clear x0 f0 e0 x1 f1 e1 x2 f2 e2 x3 f3 e3 x4 f4 e4 x5 f5 e5 x6 f6 e6 x7 f7 e7 x8 f8 e8;have x0:=ag hR5 (o:=0) rfl;have f0:=al hR5 0;have x1:=ag hR5 (o:=1) rfl;have f1:=al hR5 1;have x2:=ag hR5 (o:=2) rfl;have f2:=al hR5 2;have x3:=ag hR5 (o:=3) rfl;have f3:=al hR5 3;have x4:=ag hR5 (o:=4) rfl;have f4:=al hR5 4;have x5:=ag hR5 (o:=5) rfl;have f5:=al hR5 5;have x6:=ag hR5 (o:=6) rfl;have f6:=al hR5 6;have x7:=ag hR5 (o:=7) rfl;have f7:=al hR5 7;have x8:=ag hR5 (o:=8) rfl;have f8:=al hR5 8;have HEND:=zq (DTm.stored (r:=r) (p:=p) (c:=5121) (m:=5120) (w:=w) (q:=q) (R:=w.heap.size) (B:=w.heap.size+1) (v0:=.int .i64 2) (v1:=.string {data:=#[]}) (v2:=.int .i64 3) (v3:=.int .i64 0) (v4:=.slice none 0 0) (v5:=.int .i64 0) (v6:=.slice none 0 0) (v7:=.int .i64 0) (v8:=.slice none 0 0) (ax.leaf0 (nm:={data:=#[]}) 2 3 (by unfold maxLen;decide)) (by simp[Tm.cnt,Tm.cnts,Ty.cnt,Ty.cnts,ByteArray.size]) (by omega) HQ.out hrd5 hch5 (Nat.le_refl _) (by omega) hrl)
  go_wp2_with fail
  refine bodyPost_ret (v:=.agg #[.int .i64 2,.string {data:=#[]},.int .i64 3,.int .i64 0,.slice none 0 0,.int .i64 0,.slice none 0 0,.int .i64 0,.slice none 0 0]) (by simp[results,Tryz.results54,go_sem,x0,x1,x2,x3,x4,x5,x6,x7,x8]) rfl ?_
  exact HEND.out
 ·have HEND:=zq (DTm.stored (r:=r) (p:=p) (c:=5121) (m:=5120) (w:=w) (q:=q) (R:=w.heap.size) (B:=w2.heap.size) (v0:=.int .i64 kt) (v1:=.string nm0) (v2:=.int .i64 ut) (v3:=.int .i64 tkt) (v4:=.slice tat tnt tqt) (v5:=.int .i64 fkt) (v6:=.slice fat fnt fqt) (v7:=.int .i64 lt) (v8:=.slice ct mt qt) hv4 HCN.out (by omega) HQ.out hrd4 hch4 (Nat.le_refl _) (by omega) hrl)
  go_wp2_with fail
  refine bodyPost_ret (v:=.agg #[.int .i64 kt,.string nm0,.int .i64 ut,.int .i64 tkt,.slice tat tnt tqt,.int .i64 fkt,.slice fat fnt fqt,.int .i64 lt,.slice ct mt qt]) (by simp[results,Tryz.results54,go_sem,x0,x1,x2,x3,x4,x5,x6,x7,x8]) rfl ?_
  exact HEND.out
end Go.Proofs.YtfahhonmiimmdaaGreat

/- Types are drawn. -/
import Derived.Test.YtfhglkmjibjjoaaB4
set_option linter.unusedSimpArgs false
set_option linter.unusedVariables false
set_option maxRecDepth 100000
set_option maxHeartbeats 16000000
namespace Go.Proofs.Ytfhglkmjibjjoaa
open Go.RowKit
theorem eB (d:Nat) : ∀(r p:Nat) (w:World),1<=d->d<=8->aR w r p->p+2 ^ d<=1125899906842000 ->
  Calls Try.prog 48 #[.pointer (some ⟨r,0,none⟩),.int .i64 (d:Int)] w (iM r p (2 ^ d-1) (2 ^ d) w):=by
 intro r p w hd1 hd8 hrd0 hp;have IH:2<=d->∀(p:Nat) (W:World),aR W r p->p+2 ^ (d-1)<=1125899906842000->Calls Try.prog 48 #[.pointer (some ⟨r,0,none⟩),.int .i64 ((d:Int)-1)] W (iM r p (2 ^ (d-1)-1) (2 ^ (d-1)) W):=by
  intro h2 p W a b;have h:=eB (d-1) r p W (by omega) (by omega) a b;rw[show((d-1:Nat):Int)=(d:Int)-1 from by omega] at h
  exact h
 have hpw:2<=d->2 ^ d=2*2 ^ (d-1):=fun h=>by
  obtain⟨e,rfl⟩ : ∃e,d=e+1:=⟨d-1,by omega⟩
  simp[Nat.pow_succ];omega
 have hp1:1<=2 ^ (d-1):=Nat.one_le_two_pow;have hp2:2<=2 ^ d:=by have:2 ^ 1<=2 ^ d:=Nat.pow_le_pow_right (by omega) hd1;omega
 have hp8:2 ^ (d-1)<=128:=by have:2 ^ (d-1)<=2 ^ 7:=Nat.pow_le_pow_right (by omega) (by omega);omega
 generalize 2 ^ (d-1)=m at *;generalize 2 ^ d=M at *;obtain⟨c,rfl⟩ : ∃c,m=c+1:=⟨m-1,by omega⟩
 have IHH:=zq IH;have HPW:=zq hpw;clear IH hpw;obtain⟨i0,hi,hz0,hz1,hz2⟩:=info_parts Try.infoTy;have Z0:=zq hz0;have Z1:=zq hz1;have Z2:=zq hz2;have HI:=zq hi;clear hz0 hz1 hz2 hi;have hrl0:=hrd0.1
 go_enter Try.func48,Try.ntmps48
 go_wp2_with fail
 refine(bY (fun k=>1<=k∧k<=5) r p _ 7 7 _ (hrd0.below aZ) (by omega) (by omega) (by omega) (Nat.le_refl _) (by omega) (bJ [2,1,4,3,5,2,4] (by simp) _ (by decide))).mono ?_;rintro e w1 ⟨k,rfl,⟨k1,k5⟩,hrd1,hch1⟩;have hw1:w.heap.size+2<=w1.heap.size:=by have:=hch1.size;simp at this;omega
 have hch0:Chg [r] w w1:=(Chg.of_below aZ).trans hch1;have x0:w1.cell? ⟨w.heap.size,0,none⟩=some (.int .i64 0):=hch1.cellne (by show w.heap.size≠r;omega) (af ag (aF 0));have x1:w1.cell? ⟨w.heap.size,1,none⟩=some (.slice none 0 0):=hch1.cellne (by show w.heap.size≠r;omega) (af ag (aF 1));have xf : ∀o,w1.frozen? ⟨w.heap.size,o,none⟩=false:=fun o=>(hch1.frone (by omega) (by simp;omega)).trans (cG ag (by simp) (b9 o));have HXF:=zq xf;clear xf
 by_cases hA:d<2∧4<=k
 ·have hc1:decide ((d:Int)<2)=true:=by simp;omega
  have hc2:decide (k≥4)=true:=by simp;omega
  have HTK:=zq (show bK 1=((0:Nat):Int) by rfl);have HCAP:=zq (show(0:Nat)<=2 by omega)
  go_wp2_with fail
  go_loopw [7] (fun i wr=>∃j:Nat,j<=0∧i = .int .i64 j∧Chg [r] w wr∧w1.heap.size<wr.heap.size∧(∃u,wr.cell? ⟨w.heap.size,0,none⟩=some u)∧(∃u,wr.cell? ⟨w.heap.size,1,none⟩=some u) ∧
      (∀o,wr.frozen? ⟨w.heap.size,o,none⟩=false)∧(∀o,wr.frozen? ⟨w1.heap.size,o,none⟩=false)∧wr.cell? ⟨w1.heap.size,0,none⟩=some (.int .i64 1) ∧
      ∃(ts:List Ty) (q:Nat),ts.length=j∧Hid (Ty.cnts ts+2*j<=j*(c+1))∧q<=p+1+j*c∧aR wr r q∧∃v,wr.cell? ⟨w1.heap.size,1,none⟩=some v∧aS (w1.heap.size+1) 25 2 wr v j (Ty.rows ts)) (fun i _=>0-(intOf i).toNat)
  case atStart=>exact⟨0,by omega,rfl,hch0.trans (Chg.of_below ag),by simp,⟨_,af ag x0⟩,⟨_,af ag x1⟩,fun o=>cG ag (by omega) (HXF.out o),fun o=>b9 o,aF 0,[],_,rfl,by simp[Hid,Ty.cnts],by first | omega | (simp[Ty.cnts];omega),hrd1.below ag,.slice none 0 0,aF 1,by simpa [Ty.rows] using aS.nil _ _ _ _⟩
  case round=>
   obtain⟨j,hj,rfl,hbw,hsz,⟨u0,hu0⟩,⟨u1,hu1⟩,hf1,hf2,hk0,ts,q,hts,hbs,hq,hrd,v,hv,hacc⟩:=hrel;have hrl:=hrd.1;have hj0:j=0:=by omega
   have hlt : ¬j<0:=by omega
   ·obtain⟨cv,qv,rfl⟩:=hacc.shape
    have f0:=hf1 0;have f1:=hf1 1
    go_wp2_with fail
    refine(cd 1 _).mono ?_;rintro e w' ⟨rfl,rfl⟩;rw[HTK.out]
    go_wp2_with fail
    refine bq (.agg #[.int .i64 1,.slice cv j qv]) (by simp[results,Try.results48,go_sem,hu0,hu1];omega) ?_;have hjn:j=0:=by omega
    rw[hjn] at hts hbs hq;have hb0:=hbs.out;refine⟨.mk 1 ts,_,q,rfl,?_,bp.mono (bx.ty ((hacc.tys.setCell (by show w.heap.size<w1.heap.size+1;omega) _).setCell (by show w.heap.size<w1.heap.size+1;omega) _)) (by omega),?_,(hrd.setCell (by show r<w.heap.size;omega) _).setCell (by show r<w.heap.size;omega) _,(hbw.trans' (Nat.le_refl _) _).trans' (Nat.le_refl _) _⟩
    ·simp only[Ty.cnt,hts]
     simp at hb0 hq ⊢;omega
    ·simp at hb0 hq ⊢;omega
 ·obtain⟨n,hn⟩ : ∃n:Nat,bK k=n:=⟨(bK k).toNat,by unfold bK;split;rfl;split;rfl;omega⟩
  have hn2:n<=2:=by have:=iK k;omega
  have hd2:0<n->2<=d:=by intro h;unfold bK at hn;split at hn;omega;omega
  have HTK:=zq hn;have HCAP:=zq hn2;clear hn
  by_cases hc:d<2
  ·have hc1:decide ((d:Int)<2)=true:=by simp;omega
   have hc2:decide (k≥4)=false:=by simp;omega
   go_wp2_with fail
   go_loopw [7] (fun i wr=>∃j:Nat,j<=n∧i = .int .i64 j∧Chg [r] w wr∧w1.heap.size<wr.heap.size∧(∃u,wr.cell? ⟨w.heap.size,0,none⟩=some u)∧(∃u,wr.cell? ⟨w.heap.size,1,none⟩=some u) ∧
       (∀o,wr.frozen? ⟨w.heap.size,o,none⟩=false)∧(∀o,wr.frozen? ⟨w1.heap.size,o,none⟩=false)∧wr.cell? ⟨w1.heap.size,0,none⟩=some (.int .i64 k) ∧
       ∃(ts:List Ty) (q:Nat),ts.length=j∧Hid (Ty.cnts ts+2*j<=j*(c+1))∧q<=p+1+j*c∧aR wr r q∧∃v,wr.cell? ⟨w1.heap.size,1,none⟩=some v∧aS (w1.heap.size+1) 25 2 wr v j (Ty.rows ts)) (fun i _=>n-(intOf i).toNat)
   case atStart=>exact⟨0,by omega,rfl,hch0.trans (Chg.of_below ag),by simp,⟨_,af ag x0⟩,⟨_,af ag x1⟩,fun o=>cG ag (by omega) (HXF.out o),fun o=>b9 o,aF 0,[],_,rfl,by simp[Hid,Ty.cnts],by first | omega | (simp[Ty.cnts];omega),hrd1.below ag,.slice none 0 0,aF 1,by simpa [Ty.rows] using aS.nil _ _ _ _⟩
   case round=>
    obtain⟨j,hj,rfl,hbw,hsz,⟨u0,hu0⟩,⟨u1,hu1⟩,hf1,hf2,hk0,ts,q,hts,hbs,hq,hrd,v,hv,hacc⟩:=hrel;have hrl:=hrd.1
    by_cases hlt:j<n
    ·have HD2:=zq (hd2 (by omega))
     have HQB:=zq (show q+(c+1)<=1125899906842000 by have:=HPW.out HD2.out;have:j*c<=1*c:=Nat.mul_le_mul_right _ (by omega);omega);have hwr:IntKind.i64.wrap ((d:Int)-1)=(d:Int)-1:=IntWalk.i64_in _ (by omega);obtain⟨xs,fps,ho,hl,hs,hd,hfp⟩:=hacc;have HO:=zq ho;have HS:=zq hs;have HD:=zq hd;have HFP:=zq hfp;have HL:=zq hl;have HTS:=zq hts;clear ho hs hd hfp hl hts;obtain⟨cv,qv,rfl⟩ : ∃c q,v = .slice c j q:=by
      rcases HO.out.2 with ⟨h,h0⟩ | ⟨g,cap,cur,h,_⟩
      ·exact⟨none,0,by rw[h,h0]⟩
      ·exact⟨_,cap,h⟩
     go_wp2_with fail
     refine(cd k _).mono ?_;rintro e w' ⟨rfl,rfl⟩;rw[HTK.out]
     go_wp2_with fail
     have hB3:w1.heap.size+1<=wr.heap.size:=by omega
     go_region_law (first
       | (go_simp;go_at_call 48;(with_reducible refine(IHH.out HD2.out q _ (hrd.below bdr) HQB.out).mono ?_);rintro e wc1 ⟨s1,v1,q1,rfl,hsc,hv1,hq1,hrd1,hch1⟩;obtain⟨k1,c1,m1,qq1,fp1,rfl,-,-,hs1,hd1,hx1⟩:=hv1.open;have hC1:=(Chg.of_below bdr).trans hch1;have hbz:=hch1.size;have hq1c:wc1.cell? ⟨w1.heap.size,1,none⟩=some (.slice cv j qv):=hC1.cellne (by show w1.heap.size≠r;omega) hv;have hl1:w1.heap.size<wc1.heap.size:=World.block_lt_of_cell? _ _ hq1c)
       | (refine step_append_lies _ (by rfl) (.tmp 26) (.tmp 31) 23 (by rfl) (w1.heap.size+1) 25 i0 _ 2 32 Try.underlying23 HI.out Z0.out Z1.out Z2.out rfl (by omega) (.slice cv j qv) j xs (by rfl) (ck HO.out (hC1.trans (Chg.of_below ag)) (by omega))
           ⟨wc1.heap.size,0,none⟩ 1 1 [.int .i64 k1,.slice c1 m1 qq1] (by rfl) (by rfl) (World.news_of_block (cs:=#[.int .i64 k1,.slice c1 m1 qq1]) (t:=25) (fr:=(0,0)) (heap_alloc_new wc1 _)) (by simp[Value.oneCell'])
           (by omega) (by have:=HCAP.out;unfold maxLen;omega) (by have:=HCAP.out;omega) (by simp at hbz ⊢;omega) _ rfl ?_
          intro gg cap2 w2 hown2 hgrow hat hlt2;have hC2:=hC1.trans (Chg.of_below (ag (o:=.cells #[.int .i64 k1,.slice c1 m1 qq1] 25)));have hfar:=dk hC2 HO.out hgrow;have hq:w2.cell? ⟨w1.heap.size,1,none⟩=some (.slice cv j qv):=(World.cell?_of_block (a:=⟨w1.heap.size,1,none⟩) (hfar (w1.heap.size) (by omega) (by omega) (by omega))).trans hv;have hqf:w2.frozen? ⟨w1.heap.size,1,none⟩=false:=(World.frozen?_of_block (a:=⟨w1.heap.size,1,none⟩) (hfar (w1.heap.size) (by omega) (by omega) (by omega))).trans (hf2 _);have HFAR:=zq hfar;have hacc2:=aS.pushC HL.out HO.out HS.out HD.out HFP.out hB3 (by omega) hC2 (by simp) (hs1.move _ _ _ fun b hb=>heap_alloc_old wc1 _ (bL.lt _ _ _ hs1 b hb)) hd1 hx1 hown2 hgrow hat;have HACC:=zq hacc2;have HBEL:=zq (dg hbw hC2 HO.out (by have:=hbw.size;omega) hgrow);have HRD:=zq (aR.grown (hrd1.below ag) HO.out (by omega) hgrow);have hsz2:wr.heap.size<=w2.heap.size:=Nat.le_trans hC2.size hgrow.size;clear hfar hacc2 hown2 hgrow hat hq1c hC1 hC2 hrd1))
     all_goals
      go_wp2_with fail
      go_roundw
      case rel=>
       have c1:(w2.setCell ⟨w1.heap.size,1,none⟩ (.slice (some ⟨gg,0,none⟩) (j+1) cap2)).heap[w.heap.size]?=wr.heap[w.heap.size]?:=
        (Below.heap_setCell w2 ⟨w1.heap.size,1,none⟩ _ _ (by show w.heap.size≠w1.heap.size;omega)).trans (HFAR.out (w.heap.size) (by omega) (by omega) (by omega))
       have hk2:=(World.cell?_of_block (a:=⟨w1.heap.size,0,none⟩) (HFAR.out (w1.heap.size) (by omega) (by omega) (by omega))).trans hk0;have hf4:=fun o=>(World.frozen?_of_block (a:=⟨w1.heap.size,o,none⟩) (HFAR.out (w1.heap.size) (by omega) (by omega) (by omega))).trans (hf2 o);have hbel2:Chg [r] w (w2.setCell ⟨w1.heap.size,1,none⟩ (.slice (some ⟨gg,0,none⟩) (j+1) cap2)):=
        HBEL.out.trans' (by show w.heap.size<=w1.heap.size;omega) _
       refine⟨j+1,by omega,by go_num,hbel2,by simp[World.setCell];omega,⟨u0,(World.cell?_of_block (a:=⟨w.heap.size,0,none⟩) c1).trans hu0⟩,⟨u1,(World.cell?_of_block (a:=⟨w.heap.size,1,none⟩) c1).trans hu1⟩,
         fun o=>(World.frozen?_of_block (a:=⟨w.heap.size,o,none⟩) c1).trans (hf1 o),fun o=>(dh _ _ _ _).trans (hf4 o),cF hk2 (by simp),ts ++ [s1],q1,by simp[HTS.out],by have:=hbs.out;rw[Ty.cnts_append,Nat.add_mul];simp only[Ty.cnts];show _<=_;omega,by rw[Nat.add_mul];omega,HRD.out.setCell (by show r<w1.heap.size;omega) _,_,bP hq,?_⟩
       have h:=HACC.out.setCell (p:=⟨w1.heap.size,1,none⟩) (by show w1.heap.size<w1.heap.size+1;omega) (.slice (some ⟨gg,0,none⟩) (j+1) cap2);rw[Ty.rows_eq] at h ⊢;simp only[List.map_append,List.map_cons,List.map_nil]
       exact h
      case measure=>simp[intOf];omega
    ·obtain⟨cv,qv,rfl⟩:=hacc.shape
     have f0:=hf1 0;have f1:=hf1 1
     go_wp2_with fail
     refine(cd k _).mono ?_;rintro e w' ⟨rfl,rfl⟩;rw[HTK.out]
     go_wp2_with fail
     refine bq (.agg #[.int .i64 k,.slice cv j qv]) (by simp[results,Try.results48,go_sem,hu0,hu1]) ?_;have hjn:j=n:=by omega
     rw[hjn] at hts hbs hq;have hb0:=hbs.out;refine⟨.mk k ts,_,q,rfl,?_,bp.mono (bx.ty ((hacc.tys.setCell (by show w.heap.size<w1.heap.size+1;omega) _).setCell (by show w.heap.size<w1.heap.size+1;omega) _)) (by omega),?_,(hrd.setCell (by show r<w.heap.size;omega) _).setCell (by show r<w.heap.size;omega) _,(hbw.trans' (Nat.le_refl _) _).trans' (Nat.le_refl _) _⟩
     ·simp only[Ty.cnt,hts]
      rcases(show n=0∨n=1∨n=2 by omega) with rfl | rfl | rfl
      ·simp at hb0 hq ⊢;omega
      ·have h2:=hd2 (by omega)
       have:=HPW.out h2;simp at hb0 hq ⊢;omega
      ·have h2:=hd2 (by omega)
       have:=HPW.out h2;simp at hb0 hq ⊢;omega
     ·rcases(show n=0∨n=1∨n=2 by omega) with rfl | rfl | rfl
      ·simp at hb0 hq ⊢;omega
      ·have h2:=hd2 (by omega)
       have:=HPW.out h2;simp at hb0 hq ⊢;omega
      ·have h2:=hd2 (by omega)
       have:=HPW.out h2;simp at hb0 hq ⊢;omega
  ·have hc1:decide ((d:Int)<2)=false:=by simp;omega
   go_wp2_with fail
   go_loopw [7] (fun i wr=>∃j:Nat,j<=n∧i = .int .i64 j∧Chg [r] w wr∧w1.heap.size<wr.heap.size∧(∃u,wr.cell? ⟨w.heap.size,0,none⟩=some u)∧(∃u,wr.cell? ⟨w.heap.size,1,none⟩=some u) ∧
       (∀o,wr.frozen? ⟨w.heap.size,o,none⟩=false)∧(∀o,wr.frozen? ⟨w1.heap.size,o,none⟩=false)∧wr.cell? ⟨w1.heap.size,0,none⟩=some (.int .i64 k) ∧
       ∃(ts:List Ty) (q:Nat),ts.length=j∧Hid (Ty.cnts ts+2*j<=j*(c+1))∧q<=p+1+j*c∧aR wr r q∧∃v,wr.cell? ⟨w1.heap.size,1,none⟩=some v∧aS (w1.heap.size+1) 25 2 wr v j (Ty.rows ts)) (fun i _=>n-(intOf i).toNat)
   case atStart=>exact⟨0,by omega,rfl,hch0.trans (Chg.of_below ag),by simp,⟨_,af ag x0⟩,⟨_,af ag x1⟩,fun o=>cG ag (by omega) (HXF.out o),fun o=>b9 o,aF 0,[],_,rfl,by simp[Hid,Ty.cnts],by first | omega | (simp[Ty.cnts];omega),hrd1.below ag,.slice none 0 0,aF 1,by simpa [Ty.rows] using aS.nil _ _ _ _⟩
   case round=>
    obtain⟨j,hj,rfl,hbw,hsz,⟨u0,hu0⟩,⟨u1,hu1⟩,hf1,hf2,hk0,ts,q,hts,hbs,hq,hrd,v,hv,hacc⟩:=hrel;have hrl:=hrd.1
    by_cases hlt:j<n
    ·have HD2:=zq (hd2 (by omega))
     have HQB:=zq (show q+(c+1)<=1125899906842000 by have:=HPW.out HD2.out;have:j*c<=1*c:=Nat.mul_le_mul_right _ (by omega);omega);have hwr:IntKind.i64.wrap ((d:Int)-1)=(d:Int)-1:=IntWalk.i64_in _ (by omega);obtain⟨xs,fps,ho,hl,hs,hd,hfp⟩:=hacc;have HO:=zq ho;have HS:=zq hs;have HD:=zq hd;have HFP:=zq hfp;have HL:=zq hl;have HTS:=zq hts;clear ho hs hd hfp hl hts;obtain⟨cv,qv,rfl⟩ : ∃c q,v = .slice c j q:=by
      rcases HO.out.2 with ⟨h,h0⟩ | ⟨g,cap,cur,h,_⟩
      ·exact⟨none,0,by rw[h,h0]⟩
      ·exact⟨_,cap,h⟩
     go_wp2_with fail
     refine(cd k _).mono ?_;rintro e w' ⟨rfl,rfl⟩;rw[HTK.out]
     go_wp2_with fail
     have hB3:w1.heap.size+1<=wr.heap.size:=by omega
     go_region_law (first
       | (go_simp;go_at_call 48;(with_reducible refine(IHH.out HD2.out q _ (hrd.below bdr) HQB.out).mono ?_);rintro e wc1 ⟨s1,v1,q1,rfl,hsc,hv1,hq1,hrd1,hch1⟩;obtain⟨k1,c1,m1,qq1,fp1,rfl,-,-,hs1,hd1,hx1⟩:=hv1.open;have hC1:=(Chg.of_below bdr).trans hch1;have hbz:=hch1.size;have hq1c:wc1.cell? ⟨w1.heap.size,1,none⟩=some (.slice cv j qv):=hC1.cellne (by show w1.heap.size≠r;omega) hv;have hl1:w1.heap.size<wc1.heap.size:=World.block_lt_of_cell? _ _ hq1c)
       | (refine step_append_lies _ (by rfl) (.tmp 26) (.tmp 31) 23 (by rfl) (w1.heap.size+1) 25 i0 _ 2 32 Try.underlying23 HI.out Z0.out Z1.out Z2.out rfl (by omega) (.slice cv j qv) j xs (by rfl) (ck HO.out (hC1.trans (Chg.of_below ag)) (by omega))
           ⟨wc1.heap.size,0,none⟩ 1 1 [.int .i64 k1,.slice c1 m1 qq1] (by rfl) (by rfl) (World.news_of_block (cs:=#[.int .i64 k1,.slice c1 m1 qq1]) (t:=25) (fr:=(0,0)) (heap_alloc_new wc1 _)) (by simp[Value.oneCell'])
           (by omega) (by have:=HCAP.out;unfold maxLen;omega) (by have:=HCAP.out;omega) (by simp at hbz ⊢;omega) _ rfl ?_
          intro gg cap2 w2 hown2 hgrow hat hlt2;have hC2:=hC1.trans (Chg.of_below (ag (o:=.cells #[.int .i64 k1,.slice c1 m1 qq1] 25)));have hfar:=dk hC2 HO.out hgrow;have hq:w2.cell? ⟨w1.heap.size,1,none⟩=some (.slice cv j qv):=(World.cell?_of_block (a:=⟨w1.heap.size,1,none⟩) (hfar (w1.heap.size) (by omega) (by omega) (by omega))).trans hv;have hqf:w2.frozen? ⟨w1.heap.size,1,none⟩=false:=(World.frozen?_of_block (a:=⟨w1.heap.size,1,none⟩) (hfar (w1.heap.size) (by omega) (by omega) (by omega))).trans (hf2 _);have HFAR:=zq hfar;have hacc2:=aS.pushC HL.out HO.out HS.out HD.out HFP.out hB3 (by omega) hC2 (by simp) (hs1.move _ _ _ fun b hb=>heap_alloc_old wc1 _ (bL.lt _ _ _ hs1 b hb)) hd1 hx1 hown2 hgrow hat;have HACC:=zq hacc2;have HBEL:=zq (dg hbw hC2 HO.out (by have:=hbw.size;omega) hgrow);have HRD:=zq (aR.grown (hrd1.below ag) HO.out (by omega) hgrow);have hsz2:wr.heap.size<=w2.heap.size:=Nat.le_trans hC2.size hgrow.size;clear hfar hacc2 hown2 hgrow hat hq1c hC1 hC2 hrd1))
     all_goals
      go_wp2_with fail
      go_roundw
      case rel=>
       have c1:(w2.setCell ⟨w1.heap.size,1,none⟩ (.slice (some ⟨gg,0,none⟩) (j+1) cap2)).heap[w.heap.size]?=wr.heap[w.heap.size]?:=
        (Below.heap_setCell w2 ⟨w1.heap.size,1,none⟩ _ _ (by show w.heap.size≠w1.heap.size;omega)).trans (HFAR.out (w.heap.size) (by omega) (by omega) (by omega))
       have hk2:=(World.cell?_of_block (a:=⟨w1.heap.size,0,none⟩) (HFAR.out (w1.heap.size) (by omega) (by omega) (by omega))).trans hk0;have hf4:=fun o=>(World.frozen?_of_block (a:=⟨w1.heap.size,o,none⟩) (HFAR.out (w1.heap.size) (by omega) (by omega) (by omega))).trans (hf2 o);have hbel2:Chg [r] w (w2.setCell ⟨w1.heap.size,1,none⟩ (.slice (some ⟨gg,0,none⟩) (j+1) cap2)):=
        HBEL.out.trans' (by show w.heap.size<=w1.heap.size;omega) _
       refine⟨j+1,by omega,by go_num,hbel2,by simp[World.setCell];omega,⟨u0,(World.cell?_of_block (a:=⟨w.heap.size,0,none⟩) c1).trans hu0⟩,⟨u1,(World.cell?_of_block (a:=⟨w.heap.size,1,none⟩) c1).trans hu1⟩,
         fun o=>(World.frozen?_of_block (a:=⟨w.heap.size,o,none⟩) c1).trans (hf1 o),fun o=>(dh _ _ _ _).trans (hf4 o),cF hk2 (by simp),ts ++ [s1],q1,by simp[HTS.out],by have:=hbs.out;rw[Ty.cnts_append,Nat.add_mul];simp only[Ty.cnts];show _<=_;omega,by rw[Nat.add_mul];omega,HRD.out.setCell (by show r<w1.heap.size;omega) _,_,bP hq,?_⟩
       have h:=HACC.out.setCell (p:=⟨w1.heap.size,1,none⟩) (by show w1.heap.size<w1.heap.size+1;omega) (.slice (some ⟨gg,0,none⟩) (j+1) cap2);rw[Ty.rows_eq] at h ⊢;simp only[List.map_append,List.map_cons,List.map_nil]
       exact h
      case measure=>simp[intOf];omega
    ·obtain⟨cv,qv,rfl⟩:=hacc.shape
     have f0:=hf1 0;have f1:=hf1 1
     go_wp2_with fail
     refine(cd k _).mono ?_;rintro e w' ⟨rfl,rfl⟩;rw[HTK.out]
     go_wp2_with fail
     refine bq (.agg #[.int .i64 k,.slice cv j qv]) (by simp[results,Try.results48,go_sem,hu0,hu1]) ?_;have hjn:j=n:=by omega
     rw[hjn] at hts hbs hq;have hb0:=hbs.out;refine⟨.mk k ts,_,q,rfl,?_,bp.mono (bx.ty ((hacc.tys.setCell (by show w.heap.size<w1.heap.size+1;omega) _).setCell (by show w.heap.size<w1.heap.size+1;omega) _)) (by omega),?_,(hrd.setCell (by show r<w.heap.size;omega) _).setCell (by show r<w.heap.size;omega) _,(hbw.trans' (Nat.le_refl _) _).trans' (Nat.le_refl _) _⟩
     ·simp only[Ty.cnt,hts]
      rcases(show n=0∨n=1∨n=2 by omega) with rfl | rfl | rfl
      ·simp at hb0 hq ⊢;omega
      ·have h2:=hd2 (by omega)
       have:=HPW.out h2;simp at hb0 hq ⊢;omega
      ·have h2:=hd2 (by omega)
       have:=HPW.out h2;simp at hb0 hq ⊢;omega
     ·rcases(show n=0∨n=1∨n=2 by omega) with rfl | rfl | rfl
      ·simp at hb0 hq ⊢;omega
      ·have h2:=hd2 (by omega)
       have:=HPW.out h2;simp at hb0 hq ⊢;omega
      ·have h2:=hd2 (by omega)
       have:=HPW.out h2;simp at hb0 hq ⊢;omega
termination_by d
end Go.Proofs.Ytfhglkmjibjjoaa

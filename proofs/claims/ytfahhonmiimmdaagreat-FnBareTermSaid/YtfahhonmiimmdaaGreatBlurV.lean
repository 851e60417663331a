/- Less precise types are drawn: valid ones stay valid. -/
import Derived.Test.YtfahhonmiimmdaaGreatDrawV
set_option linter.unusedSimpArgs false
set_option linter.unusedVariables false
set_option maxRecDepth 100000
set_option maxHeartbeats 16000000
namespace Go.Proofs.YtfahhonmiimmdaaGreat
open Go.RowKit
def DrawB (t0:Ty)(r p c m:Nat)(w:World)(e:Ending)(w':World):Prop:=∃(t:Ty) (v:Value) (q:Nat),e = .returned v∧(t.cnt+2≤m∧∀d,t0.shape d=true→t.shape d=true)∧bo w.heap.size w' t v∧q≤p+c∧aT w' r q∧Chg [r] w w'
theorem Ty.shape_anyB {t:Ty}{d:Int}(h:t.shape d=true):(Ty.mk 1 []).shape d=true:=by
 cases t with | mk k ts=>
 unfold Ty.shape at h ⊢;simp only[Bool.and_eq_true,decide_eq_true_eq] at h ⊢
 exact⟨h.1,by decide,by unfold Ty.shapes;rfl⟩
theorem Ty.shapes_left : ∀ {ts:List Ty} {t:Ty} {d:Int},Ty.shapes (ts ++ [t]) d=true→Ty.shapes ts d=true
 | [],_,_,_=>by simp[Ty.shapes]
 | u :: us,t,d,h=>by
  simp only[Ty.shapes,Bool.and_eq_true,List.cons_append] at h ⊢
  exact⟨h.1,Ty.shapes_left h.2⟩
theorem Ty.shapes_right : ∀ {ts:List Ty} {t:Ty} {d:Int},Ty.shapes (ts ++ [t]) d=true→t.shape d=true
 | [],t,d,h=>by simpa [Ty.shapes] using h
 | u :: us,t,d,h=>by
  simp only[Ty.shapes,Bool.and_eq_true,List.cons_append] at h
  exact Ty.shapes_right h.2
theorem jP (t:Ty) : ∀(r p:Nat) (y:Value) (w:World),aT w r p→ap (· ≠ r) w t y→t.cnt≤1048576→p+t.cnt+1≤1125899906842000 →
  Calls Tryz.prog 57 #[.pointer (some ⟨r,0,none⟩),y] w (DrawB t r p (t.cnt+1) (t.cnt+2) w):=by
 intro r p y w hrd0 hy hcnt hp;have IH : ∀t'∈t.kids,∀(p:Nat) (y:Value) (W:World),aT W r p→ap (· ≠ r) W t' y→p+t'.cnt+1≤1125899906842000→Calls Tryz.prog 57 #[.pointer (some ⟨r,0,none⟩),y] W (DrawB t' r p (t'.cnt+1) (t'.cnt+2) W):=
  fun t' ht p y W a b c=>jP t' r p y W a b (by have:=Ty.cnt_kid ht;omega) c
 obtain⟨a,cap,rfl,h2,h3,hr⟩:=hy.open
 cases t with | mk k us=>
 simp only[Ty.kind,Ty.kids] at *;unfold maxLen at h3;have IHH:=zq IH;have hc':us.length+Ty.cnts us=(Ty.mk k us).cnt:=by simp only[Ty.cnt]
 rw[←hc'] at hcnt hp ⊢;have HCAP:=zq (show us.length≤1048576 by omega);clear IH hy hc';obtain⟨n,hn⟩ : ∃n,us.length=n:=⟨_,rfl⟩
 rw[hn] at h2 hr HCAP hp hcnt ⊢;have HN:=zq hn;clear hn;obtain⟨CU,hCU⟩ : ∃c,Ty.cnts us=c:=⟨_,rfl⟩
 rw[hCU] at hp hcnt ⊢;have HCU:=zq hCU;clear hCU;obtain⟨i0,hi,hz0,hz1,hz2⟩:=info_parts Tryz.infoTy;have Z0:=zq hz0;have Z1:=zq hz1;have Z2:=zq hz2;have HI:=zq hi;clear hz0 hz1 hz2 hi;have hrl0:=hrd0.1
 go_enter Tryz.func57,Tryz.ntmps57
 go_wp2_with fail
 refine(bw r p 4 _ (hrd0.below aH) (by omega) (by omega)).mono ?_;rintro e w1 ⟨pk,rfl,pk0,pk4,hrd1,hch1⟩;have hw1:w.heap.size+2≤w1.heap.size:=by have:=hch1.size;simp at this;omega
 have hch0:Chg [r] w w1:=(Chg.of_below aH).trans hch1;have b0:w1.cell? ⟨w.heap.size,0,none⟩=some (.int .i64 k):=hch1.cellne (by show w.heap.size≠r;omega) (af aj (aw 0));have b1:w1.cell? ⟨w.heap.size,1,none⟩=some (.slice a n cap):=hch1.cellne (by show w.heap.size≠r;omega) (af aj (aw 1));have x0:w1.cell? ⟨w.heap.size+1,0,none⟩=some (.int .i64 0):=hch1.cellne (by show w.heap.size+1≠r;omega) (av 0);have x1:w1.cell? ⟨w.heap.size+1,1,none⟩=some (.slice none 0 0):=hch1.cellne (by show w.heap.size+1≠r;omega) (av 1);have xf : ∀o,w1.frozen? ⟨w.heap.size+1,o,none⟩=false:=fun o=>(hch1.frone (by omega) (by simp)).trans (aI o);have HXF:=zq xf;clear xf
 by_cases hpk:pk=0
 ·subst hpk
  have f0:=HXF.out 0;have f1:=HXF.out 1
  go_wp2_with fail
  refine(cM _).mono ?_;rintro e w2 ⟨v,rfl,hvn,hb2⟩;obtain⟨k3,a3,n3,q3,rfl⟩:=hvn.shape;replace f0:=az hb2 x0 f0;replace f1:=az hb2 x1 f1;replace x0:=af hb2 x0;replace x1:=af hb2 x1;have hz2:=hb2.size
  go_wp2_with fail
  refine bodyPost_ret (v:=.agg #[.int .i64 k3,.slice a3 n3 q3]) (by simp[results,Tryz.results57,go_sem,x0,x1]) rfl ?_;refine⟨.mk 1 [],_,p+1,rfl,⟨by simp[Ty.cnt,Ty.cnts],fun d h=>Ty.shape_anyB h⟩,bo.mono ((hvn.setCell (by show w.heap.size+1<w1.heap.size;omega) _).setCell (by show w.heap.size+1<w1.heap.size;omega) _) (by omega),by omega,
    ((hrd1.below hb2).setCell (by show r<w.heap.size+1;omega) _).setCell (by show r<w.heap.size+1;omega) _,?_⟩
  exact((hch0.trans (Chg.of_below hb2)).trans' (by show w.heap.size≤w.heap.size+1;omega) _).trans' (by show w.heap.size≤w.heap.size+1;omega) _
 ·have hpkb:(pk==0)=false:=by simpa using hpk
  clear hpk pk4 pk0
  go_wp2_with fail
  go_loopw [6] (fun i wr=>∃j:Nat,j≤n∧i = .int .i64 j∧Chg [r] w wr∧w1.heap.size<wr.heap.size∧(∃u,wr.cell? ⟨w.heap.size+1,0,none⟩=some u)∧(∃u,wr.cell? ⟨w.heap.size+1,1,none⟩=some u) ∧
      (∀o,wr.frozen? ⟨w.heap.size+1,o,none⟩=false)∧(∀o,wr.frozen? ⟨w1.heap.size,o,none⟩=false)∧wr.cell? ⟨w1.heap.size,0,none⟩=some (.int .i64 k)∧wr.cell? ⟨w.heap.size,1,none⟩=some (.slice a n cap) ∧
      ∃(ts:List Ty) (q:Nat),ts.length=j∧Hid (Ty.cnts ts≤Ty.cnts (us.take j)∧∀d,Ty.shapes (us.take j) d=true→Ty.shapes ts d=true)∧q≤p+1+j+Ty.cnts (us.take j)∧aT wr r q∧∃v,wr.cell? ⟨w1.heap.size,1,none⟩=some v∧aQ (w1.heap.size+1) 25 2 wr v j (Ty.rows ts)) (fun i _=>n-(intOf i).toNat)
  case atStart=>exact⟨0,by omega,rfl,hch0.trans (Chg.of_below aj),by simp,⟨_,af aj x0⟩,⟨_,af aj x1⟩,fun o=>cb aj (by omega) (HXF.out o),fun o=>b5 o,aw 0,af aj b1,[],_,rfl,zq ⟨by simp[Ty.cnts],fun d _=>by simp[Ty.shapes]⟩,by first | omega | (simp[Ty.cnts];omega),hrd1.below aj,.slice none 0 0,aw 1,by simpa [Ty.rows] using aQ.nil _ _ _ _⟩
  case round=>
   obtain⟨j,hj,rfl,hbw,hsz,⟨u0,hu0⟩,⟨u1,hu1⟩,hf1,hf2,hk0,hlb,ts,q,hts,hbs,hq,hrd,v,hv,hacc⟩:=hrel;have hrl:=hrd.1
   by_cases hlt:j<n
   ·have hjt:j<us.length:=by rw[HN.out];exact hlt
    obtain⟨b,off,k0,a0,m0,q0,rfl,l0,e0,e1,ht⟩:=(hr.chgA hbw).at (Below.refl _ _) hjt;have hts1:=Ty.cnts_take_succ us j hjt;have hts2:=Ty.cnts_take_le us (j+1);rw[HCU.out] at hts2;have HTS1:=zq hts1;have HC:=zq (fun W (h:Below wr.heap.size wr W)=>IHH.out us[j] (List.getElem_mem hjt) q _ W (hrd.below h) (ht.below h) (by omega));clear hts1 hts2;obtain⟨xs,fps,ho,hl,hs,hd,hfp⟩:=hacc;have HO:=zq ho;have HS:=zq hs;have HD:=zq hd;have HFP:=zq hfp;have HL:=zq hl;have HTS:=zq hts;clear ho hs hd hfp hl hts;obtain⟨cv,qv,rfl⟩ : ∃c q,v = .slice c j q:=by
     rcases HO.out.2 with ⟨h,h0⟩ | ⟨g,cap,cur,h,_⟩
     ·exact⟨none,0,by rw[h,h0]⟩
     ·exact⟨_,cap,h⟩
    skip
    go_wp2_with fail
    have hB3:w1.heap.size+1≤wr.heap.size:=by omega
    go_region_law (first
      | (go_simp;go_at_call 57;(with_reducible refine(HC.out _ bdr).mono ?_);rintro e wc1 ⟨s1,v1,q1,rfl,hsc,hv1,hq1,hrd1,hch1⟩;obtain⟨k1,c1,m1,qq1,fp1,rfl,-,-,hs1,hd1,hx1⟩:=hv1.open;have hC1:=(Chg.of_below bdr).trans hch1;have hbz:=hch1.size;have hq1c:wc1.cell? ⟨w1.heap.size,1,none⟩=some (.slice cv j qv):=hC1.cellne (by show w1.heap.size≠r;omega) hv;have hl1:w1.heap.size<wc1.heap.size:=World.block_lt_of_cell? _ _ hq1c)
      | (refine step_append_lies _ (by rfl) (.tmp 22) (.tmp 30) 23 (by rfl) (w1.heap.size+1) 25 i0 _ 2 32 Tryz.underlying23 HI.out Z0.out Z1.out Z2.out rfl (by omega) (.slice cv j qv) j xs (by rfl) (cg HO.out (hC1.trans (Chg.of_below aj)) (by omega))
          ⟨wc1.heap.size,0,none⟩ 1 1 [.int .i64 k1,.slice c1 m1 qq1] (by rfl) (by rfl) (World.news_of_block (cs:=#[.int .i64 k1,.slice c1 m1 qq1]) (t:=25) (fr:=(0,0)) (heap_alloc_new wc1 _)) (by simp[Value.oneCell'])
          (by omega) (by have:=HCAP.out;unfold maxLen;omega) (by have:=HCAP.out;omega) (by simp at hbz ⊢;omega) _ rfl ?_
         intro gg cap2 w2 hown2 hgrow hat hlt2;have hC2:=hC1.trans (Chg.of_below (aj (o:=.cells #[.int .i64 k1,.slice c1 m1 qq1] 25)));have hfar:=dN hC2 HO.out hgrow;have hq:w2.cell? ⟨w1.heap.size,1,none⟩=some (.slice cv j qv):=(World.cell?_of_block (a:=⟨w1.heap.size,1,none⟩) (hfar (w1.heap.size) (by omega) (by omega) (by omega))).trans hv;have hqf:w2.frozen? ⟨w1.heap.size,1,none⟩=false:=(World.frozen?_of_block (a:=⟨w1.heap.size,1,none⟩) (hfar (w1.heap.size) (by omega) (by omega) (by omega))).trans (hf2 _);have HFAR:=zq hfar;have hacc2:=aQ.pushC HL.out HO.out HS.out HD.out HFP.out hB3 (by omega) hC2 (by simp) (hs1.move _ _ _ fun b hb=>heap_alloc_old wc1 _ (bl.lt _ _ _ hs1 b hb)) hd1 hx1 hown2 hgrow hat;have HACC:=zq hacc2;have HBEL:=zq (dz hbw hC2 HO.out (by have:=hbw.size;omega) hgrow);have HRD:=zq (aT.grown (hrd1.below aj) HO.out (by omega) hgrow);have hsz2:wr.heap.size≤w2.heap.size:=Nat.le_trans hC2.size hgrow.size;clear hfar hacc2 hown2 hgrow hat hq1c hC1 hC2 hrd1))
    all_goals
     go_wp2_with fail
     go_roundw
     case rel=>
      have c1:(w2.setCell ⟨w1.heap.size,1,none⟩ (.slice (some ⟨gg,0,none⟩) (j+1) cap2)).heap[w.heap.size+1]?=wr.heap[w.heap.size+1]?:=
       (Below.heap_setCell w2 ⟨w1.heap.size,1,none⟩ _ _ (by show w.heap.size+1≠w1.heap.size;omega)).trans (HFAR.out (w.heap.size+1) (by omega) (by omega) (by omega))
      have hk2:=(World.cell?_of_block (a:=⟨w1.heap.size,0,none⟩) (HFAR.out (w1.heap.size) (by omega) (by omega) (by omega))).trans hk0;have hf4:=fun o=>(World.frozen?_of_block (a:=⟨w1.heap.size,o,none⟩) (HFAR.out (w1.heap.size) (by omega) (by omega) (by omega))).trans (hf2 o);have hbel2:Chg [r] w (w2.setCell ⟨w1.heap.size,1,none⟩ (.slice (some ⟨gg,0,none⟩) (j+1) cap2)):=
       HBEL.out.trans' (by show w.heap.size≤w1.heap.size;omega) _
      refine⟨j+1,by omega,by go_num,hbel2,by simp[World.setCell];omega,⟨u0,(World.cell?_of_block (a:=⟨w.heap.size+1,0,none⟩) c1).trans hu0⟩,⟨u1,(World.cell?_of_block (a:=⟨w.heap.size+1,1,none⟩) c1).trans hu1⟩,
        fun o=>(World.frozen?_of_block (a:=⟨w.heap.size+1,o,none⟩) c1).trans (hf1 o),fun o=>(cr _ _ _ _).trans (hf4 o),aX hk2 (by simp),(World.cell?_of_block (a:=⟨w.heap.size,1,none⟩) ((Below.heap_setCell w2 ⟨w1.heap.size,1,none⟩ _ _ (by show w.heap.size≠w1.heap.size;omega)).trans (HFAR.out (w.heap.size) (by omega) (by omega) (by omega)))).trans hlb,ts ++ [s1],q1,by simp[HTS.out],zq ⟨by have:=hbs.out.1;have:=HTS1.out;have:=hsc.1;rw[Ty.cnts_append];simp only[Ty.cnts];omega,fun d h=>by
        rw[List.take_succ_eq_append_getElem hjt] at h
        exact Ty.shapes_snoc (hbs.out.2 d (Ty.shapes_left h)) (hsc.2 d (Ty.shapes_right h))⟩,by have:=HTS1.out;omega,HRD.out.setCell (by show r<w1.heap.size;omega) _,_,bv hq,?_⟩
      have h:=HACC.out.setCell (p:=⟨w1.heap.size,1,none⟩) (by show w1.heap.size<w1.heap.size+1;omega) (.slice (some ⟨gg,0,none⟩) (j+1) cap2);rw[Ty.rows_eq] at h ⊢;simp only[List.map_append,List.map_cons,List.map_nil]
      exact h
     case measure=>simp[intOf];omega
   ·obtain⟨cv,qv,rfl⟩:=hacc.shape
    have f0:=hf1 0;have f1:=hf1 1
    skip
    go_wp2_with fail
    refine bodyPost_ret (v:=.agg #[.int .i64 k,.slice cv j qv]) (by simp[results,Tryz.results57,go_sem,hu0,hu1]) rfl ?_;have hjn:j=n:=by omega
    rw[hjn] at hts hbs hq;have hb0:=hbs.out.1;have hb2:=hbs.out.2;rw[List.take_of_length_le (by rw[HN.out];omega)] at hb2;rw[List.take_of_length_le (by rw[HN.out];omega),HCU.out] at hb0 hq;refine⟨.mk k ts,_,q,rfl,?_,bo.mono (bj.ty ((hacc.tys.setCell (by show w.heap.size+1<w1.heap.size+1;omega) _).setCell (by show w.heap.size+1<w1.heap.size+1;omega) _)) (by omega),?_,(hrd.setCell (by show r<w.heap.size+1;omega) _).setCell (by show r<w.heap.size+1;omega) _,(hbw.trans' (by show w.heap.size≤w.heap.size+1;omega) _).trans' (by show w.heap.size≤w.heap.size+1;omega) _⟩
    ·refine⟨by simp only[Ty.cnt,hts];omega,fun d h=>?_⟩
     unfold Ty.shape at h ⊢;simp only[Bool.and_eq_true,decide_eq_true_eq] at h ⊢
     exact⟨h.1,by rw[h.2.1,hts,HN.out],hb2 _ h.2.2⟩
    ·omega
termination_by SizeOf.sizeOf t
decreasing_by exact Ty.kid_lt ht
def DTB (r p:Nat)(w:World)(e:Ending)(w':World):Prop:=∃(s:S) (v:Value) (q:Nat),e = .returned v∧s.vd=true∧ap (w.heap.size ≤ ·) w' s.ty v∧q≤p+40∧aT w' r q∧Chg [r] w w'
theorem es (r p:Nat)(s:S)(y:Value)(w:World)(h:aT w r p)(ht:ap (· ≠ r) w s.ty y)(hs:s.vd=true)(hp:p≤1125899906841000) :
  Calls Tryz.prog 57 #[.pointer (some ⟨r,0,none⟩),y] w (DTB r p w):=by
 have hv:s.ty.valid=true:=by rw[S.valid];exact hs
 have hc:=Ty.cnt_shape s.ty 4 hv;refine(jP s.ty r p y w h ht (by omega) (by omega)).mono ?_;rintro e w' ⟨t,v,q,h1,⟨h2,h3⟩,h4,h5,h6,h7⟩;obtain⟨s',rfl,hs'⟩:=Ty.valid_S (h3 4 hv)
 exact⟨s',v,q,h1,hs',h4.rep,by omega,h6,h7⟩
theorem iT (d:Nat)(r p:Nat)(w:World)(hd1:1≤d)(hd4:d≤4)(h:aT w r p)(hp:p≤1125899906841000) :
  Calls Tryz.prog 52 #[.pointer (some ⟨r,0,none⟩),.int .i64 (d:Int)] w (DTB r p w):=by
 have h2:2 ^ d≤16:=by have:2 ^ d≤2 ^ 4:=Nat.pow_le_pow_right (by omega) hd4;simpa using this
 refine(eW d r p w hd1 (by omega) h (by omega)).mono ?_;rintro e w' ⟨t,v,q,h1,⟨h2',h3⟩,h4,h5,h6,h7⟩;obtain⟨s',rfl,hs'⟩:=Ty.valid_S (Ty.shape_le h3 (show(d:Int)≤4 by omega))
 exact⟨s',v,q,h1,hs',h4.rep,by omega,h6,h7⟩
end Go.Proofs.YtfahhonmiimmdaaGreat

/- Less precise types are drawn: valid ones stay valid. And what else its parts name. -/
import Derived.Test.YtfahhonmiimmdaaGreatB18
import Derived.Lib.SlicesCompact
set_option linter.unusedSimpArgs false
set_option linter.unusedVariables false
set_option maxRecDepth 100000
set_option maxHeartbeats 16000000
namespace Go.Proofs.YtfahhonmiimmdaaGreat
open Go.RowKit
def DrawB (t0:Ty)(r p c m:Nat)(w:World)(e:Ending)(w':World):Prop:=∃(t:Ty) (v:Value) (q:Nat),e = .returned v∧(t.cnt+2≤m∧∀d,t0.shape d=true→t.shape d=true)∧bh w.heap.size w' t v∧q≤p+c∧aQ w' r q∧Chg [r] w w'
theorem Ty.shape_anyB {t:Ty}{d:Int}(h:t.shape d=true):(Ty.mk 1 []).shape d=true:=by
 cases t with | mk k ts=>
 unfold Ty.shape at h ⊢;simp only[Bool.and_eq_true,decide_eq_true_eq] at h ⊢
 exact⟨h.1,by decide,by unfold Ty.shapes;rfl⟩
theorem Ty.shapes_left : ∀ {ts:List Ty} {t:Ty} {d:Int},Ty.shapes (ts ++ [t]) d=true→Ty.shapes ts d=true
 | [],_,_,_=>by simp[Ty.shapes]
 | u :: us,t,d,h=>by
  simp only[Ty.shapes,Bool.and_eq_true,List.cons_append] at h ⊢
  exact⟨h.1,Ty.shapes_left h.2⟩
theorem Ty.shapes_right : ∀ {ts:List Ty} {t:Ty} {d:Int},Ty.shapes (ts ++ [t]) d=true→t.shape d=true
 | [],t,d,h=>by simpa [Ty.shapes] using h
 | u :: us,t,d,h=>by
  simp only[Ty.shapes,Bool.and_eq_true,List.cons_append] at h
  exact Ty.shapes_right h.2
theorem kP (t:Ty) : ∀(r p:Nat) (y:Value) (w:World),aQ w r p→ao (· ≠ r) w t y→t.cnt≤1048576→p+t.cnt+1≤1125899906842000 →
  Calls Tryz.prog 57 #[.pointer (some ⟨r,0,none⟩),y] w (DrawB t r p (t.cnt+1) (t.cnt+2) w):=by
 intro r p y w hrd0 hy hcnt hp;have IH : ∀t'∈t.kids,∀(p:Nat) (y:Value) (W:World),aQ W r p→ao (· ≠ r) W t' y→p+t'.cnt+1≤1125899906842000→Calls Tryz.prog 57 #[.pointer (some ⟨r,0,none⟩),y] W (DrawB t' r p (t'.cnt+1) (t'.cnt+2) W):=
  fun t' ht p y W a b c=>kP t' r p y W a b (by have:=Ty.cnt_kid ht;omega) c
 obtain⟨a,cap,rfl,h2,h3,hr⟩:=hy.open
 cases t with | mk k us=>
 simp only[Ty.kind,Ty.kids] at *;unfold maxLen at h3;have IHH:=zq IH;have hc':us.length+Ty.cnts us=(Ty.mk k us).cnt:=by simp only[Ty.cnt]
 rw[←hc'] at hcnt hp ⊢;have HCAP:=zq (show us.length≤1048576 by omega);clear IH hy hc';obtain⟨n,hn⟩ : ∃n,us.length=n:=⟨_,rfl⟩
 rw[hn] at h2 hr HCAP hp hcnt ⊢;have HN:=zq hn;clear hn;obtain⟨CU,hCU⟩ : ∃c,Ty.cnts us=c:=⟨_,rfl⟩
 rw[hCU] at hp hcnt ⊢;have HCU:=zq hCU;clear hCU;obtain⟨i0,hi,hz0,hz1,hz2⟩:=info_parts Tryz.infoTy;have Z0:=zq hz0;have Z1:=zq hz1;have Z2:=zq hz2;have HI:=zq hi;clear hz0 hz1 hz2 hi;have hrl0:=hrd0.1
 go_enter Tryz.func57,Tryz.ntmps57
 go_wp2_with fail
 refine(bo r p 4 _ (hrd0.below aT) (by omega) (by omega)).mono ?_;rintro e w1 ⟨pk,rfl,pk0,pk4,hrd1,hch1⟩;have hw1:w.heap.size+2≤w1.heap.size:=by have:=hch1.size;simp at this;omega
 have hch0:Chg [r] w w1:=(Chg.of_below aT).trans hch1;have b0:w1.cell? ⟨w.heap.size,0,none⟩=some (.int .i64 k):=hch1.cellne (by show w.heap.size≠r;omega) (ah ai (az 0));have b1:w1.cell? ⟨w.heap.size,1,none⟩=some (.slice a n cap):=hch1.cellne (by show w.heap.size≠r;omega) (ah ai (az 1));have x0:w1.cell? ⟨w.heap.size+1,0,none⟩=some (.int .i64 0):=hch1.cellne (by show w.heap.size+1≠r;omega) (bX 0);have x1:w1.cell? ⟨w.heap.size+1,1,none⟩=some (.slice none 0 0):=hch1.cellne (by show w.heap.size+1≠r;omega) (bX 1);have xf : ∀o,w1.frozen? ⟨w.heap.size+1,o,none⟩=false:=fun o=>(hch1.frone (by omega) (by simp)).trans (fo o);have HXF:=zq xf;clear xf
 by_cases hpk:pk=0
 ·subst hpk
  have f0:=HXF.out 0;have f1:=HXF.out 1
  go_wp2_with fail
  refine(cZ _).mono ?_;rintro e w2 ⟨v,rfl,hvn,hb2⟩;obtain⟨k3,a3,n3,q3,rfl⟩:=hvn.shape;replace f0:=aO hb2 x0 f0;replace f1:=aO hb2 x1 f1;replace x0:=ah hb2 x0;replace x1:=ah hb2 x1;have hz2:=hb2.size
  go_wp2_with fail
  refine bodyPost_ret (v:=.agg #[.int .i64 k3,.slice a3 n3 q3]) (by simp[results,Tryz.results57,go_sem,x0,x1]) rfl ?_;refine⟨.mk 1 [],_,p+1,rfl,⟨by simp[Ty.cnt,Ty.cnts],fun d h=>Ty.shape_anyB h⟩,bh.mono ((hvn.setCell (by show w.heap.size+1<w1.heap.size;omega) _).setCell (by show w.heap.size+1<w1.heap.size;omega) _) (by omega),by omega,
    ((hrd1.below hb2).setCell (by show r<w.heap.size+1;omega) _).setCell (by show r<w.heap.size+1;omega) _,?_⟩
  exact((hch0.trans (Chg.of_below hb2)).trans' (by show w.heap.size≤w.heap.size+1;omega) _).trans' (by show w.heap.size≤w.heap.size+1;omega) _
 ·have hpkb:(pk==0)=false:=by simpa using hpk
  clear hpk pk4 pk0
  go_wp2_with fail
  go_loopw [6] (fun i wr=>∃j:Nat,j≤n∧i = .int .i64 j∧Chg [r] w wr∧w1.heap.size<wr.heap.size∧(∃u,wr.cell? ⟨w.heap.size+1,0,none⟩=some u)∧(∃u,wr.cell? ⟨w.heap.size+1,1,none⟩=some u) ∧
      (∀o,wr.frozen? ⟨w.heap.size+1,o,none⟩=false)∧(∀o,wr.frozen? ⟨w1.heap.size,o,none⟩=false)∧wr.cell? ⟨w1.heap.size,0,none⟩=some (.int .i64 k)∧wr.cell? ⟨w.heap.size,1,none⟩=some (.slice a n cap) ∧
      ∃(ts:List Ty) (q:Nat),ts.length=j∧Hid (Ty.cnts ts≤Ty.cnts (us.take j)∧∀d,Ty.shapes (us.take j) d=true→Ty.shapes ts d=true)∧q≤p+1+j+Ty.cnts (us.take j)∧aQ wr r q∧∃v,wr.cell? ⟨w1.heap.size,1,none⟩=some v∧aL (w1.heap.size+1) 25 2 wr v j (Ty.rows ts)) (fun i _=>n-(intOf i).toNat)
  case atStart=>exact⟨0,by omega,rfl,hch0.trans (Chg.of_below ai),by simp,⟨_,ah ai x0⟩,⟨_,ah ai x1⟩,fun o=>cC ai (by omega) (HXF.out o),fun o=>aV o,az 0,ah ai b1,[],_,rfl,zq ⟨by simp[Ty.cnts],fun d _=>by simp[Ty.shapes]⟩,by first | omega | (simp[Ty.cnts];omega),hrd1.below ai,.slice none 0 0,az 1,by simpa [Ty.rows] using aL.nil _ _ _ _⟩
  case round=>
   obtain⟨j,hj,rfl,hbw,hsz,⟨u0,hu0⟩,⟨u1,hu1⟩,hf1,hf2,hk0,hlb,ts,q,hts,hbs,hq,hrd,v,hv,hacc⟩:=hrel;have hrl:=hrd.1
   by_cases hlt:j<n
   ·have hjt:j<us.length:=by rw[HN.out];exact hlt
    obtain⟨b,off,k0,a0,m0,q0,rfl,l0,e0,e1,ht⟩:=(hr.chgA hbw).at (Below.refl _ _) hjt;have hts1:=Ty.cnts_take_succ us j hjt;have hts2:=Ty.cnts_take_le us (j+1);rw[HCU.out] at hts2;have HTS1:=zq hts1;have HC:=zq (fun W (h:Below wr.heap.size wr W)=>IHH.out us[j] (List.getElem_mem hjt) q _ W (hrd.below h) (ht.below h) (by omega));clear hts1 hts2;obtain⟨xs,fps,ho,hl,hs,hd,hfp⟩:=hacc;have HO:=zq ho;have HS:=zq hs;have HD:=zq hd;have HFP:=zq hfp;have HL:=zq hl;have HTS:=zq hts;clear ho hs hd hfp hl hts;obtain⟨cv,qv,rfl⟩ : ∃c q,v = .slice c j q:=by
     rcases HO.out.2 with ⟨h,h0⟩ | ⟨g,cap,cur,h,_⟩
     ·exact⟨none,0,by rw[h,h0]⟩
     ·exact⟨_,cap,h⟩
    skip
    go_wp2_with fail
    have hB3:w1.heap.size+1≤wr.heap.size:=by omega
    go_region_law (first
      | (go_simp;go_at_call 57;(with_reducible refine(HC.out _ bdr).mono ?_);rintro e wc1 ⟨s1,v1,q1,rfl,hsc,hv1,hq1,hrd1,hch1⟩;obtain⟨k1,c1,m1,qq1,fp1,rfl,-,-,hs1,hd1,hx1⟩:=hv1.open;have hC1:=(Chg.of_below bdr).trans hch1;have hbz:=hch1.size;have hq1c:wc1.cell? ⟨w1.heap.size,1,none⟩=some (.slice cv j qv):=hC1.cellne (by show w1.heap.size≠r;omega) hv;have hl1:w1.heap.size<wc1.heap.size:=World.block_lt_of_cell? _ _ hq1c)
      | (refine step_append_lies _ (by rfl) (.tmp 22) (.tmp 30) 23 (by rfl) (w1.heap.size+1) 25 i0 _ 2 32 Tryz.underlying23 HI.out Z0.out Z1.out Z2.out rfl (by omega) (.slice cv j qv) j xs (by rfl) (bZ HO.out (hC1.trans (Chg.of_below ai)) (by omega))
          ⟨wc1.heap.size,0,none⟩ 1 1 [.int .i64 k1,.slice c1 m1 qq1] (by rfl) (by rfl) (World.news_of_block (cs:=#[.int .i64 k1,.slice c1 m1 qq1]) (t:=25) (fr:=(0,0)) (heap_alloc_new wc1 _)) (by simp[Value.oneCell'])
          (by omega) (by have:=HCAP.out;unfold maxLen;omega) (by have:=HCAP.out;omega) (by simp at hbz ⊢;omega) _ rfl ?_
         intro gg cap2 w2 hown2 hgrow hat hlt2;have hC2:=hC1.trans (Chg.of_below (ai (o:=.cells #[.int .i64 k1,.slice c1 m1 qq1] 25)));have hfar:=dQ hC2 HO.out hgrow;have hq:w2.cell? ⟨w1.heap.size,1,none⟩=some (.slice cv j qv):=(World.cell?_of_block (a:=⟨w1.heap.size,1,none⟩) (hfar (w1.heap.size) (by omega) (by omega) (by omega))).trans hv;have hqf:w2.frozen? ⟨w1.heap.size,1,none⟩=false:=(World.frozen?_of_block (a:=⟨w1.heap.size,1,none⟩) (hfar (w1.heap.size) (by omega) (by omega) (by omega))).trans (hf2 _);have HFAR:=zq hfar;have hacc2:=aL.pushC HL.out HO.out HS.out HD.out HFP.out hB3 (by omega) hC2 (by simp) (hs1.move _ _ _ fun b hb=>heap_alloc_old wc1 _ (bf.lt _ _ _ hs1 b hb)) hd1 hx1 hown2 hgrow hat;have HACC:=zq hacc2;have HBEL:=zq (dC hbw hC2 HO.out (by have:=hbw.size;omega) hgrow);have HRD:=zq (aQ.grown (hrd1.below ai) HO.out (by omega) hgrow);have hsz2:wr.heap.size≤w2.heap.size:=Nat.le_trans hC2.size hgrow.size;clear hfar hacc2 hown2 hgrow hat hq1c hC1 hC2 hrd1))
    all_goals
     go_wp2_with fail
     go_roundw
     case rel=>
      have c1:(w2.setCell ⟨w1.heap.size,1,none⟩ (.slice (some ⟨gg,0,none⟩) (j+1) cap2)).heap[w.heap.size+1]?=wr.heap[w.heap.size+1]?:=
       (Below.heap_setCell w2 ⟨w1.heap.size,1,none⟩ _ _ (by show w.heap.size+1≠w1.heap.size;omega)).trans (HFAR.out (w.heap.size+1) (by omega) (by omega) (by omega))
      have hk2:=(World.cell?_of_block (a:=⟨w1.heap.size,0,none⟩) (HFAR.out (w1.heap.size) (by omega) (by omega) (by omega))).trans hk0;have hf4:=fun o=>(World.frozen?_of_block (a:=⟨w1.heap.size,o,none⟩) (HFAR.out (w1.heap.size) (by omega) (by omega) (by omega))).trans (hf2 o);have hbel2:Chg [r] w (w2.setCell ⟨w1.heap.size,1,none⟩ (.slice (some ⟨gg,0,none⟩) (j+1) cap2)):=
       HBEL.out.trans' (by show w.heap.size≤w1.heap.size;omega) _
      refine⟨j+1,by omega,by go_num,hbel2,by simp[World.setCell];omega,⟨u0,(World.cell?_of_block (a:=⟨w.heap.size+1,0,none⟩) c1).trans hu0⟩,⟨u1,(World.cell?_of_block (a:=⟨w.heap.size+1,1,none⟩) c1).trans hu1⟩,
        fun o=>(World.frozen?_of_block (a:=⟨w.heap.size+1,o,none⟩) c1).trans (hf1 o),fun o=>(dK _ _ _ _).trans (hf4 o),cA hk2 (by simp),(World.cell?_of_block (a:=⟨w.heap.size,1,none⟩) ((Below.heap_setCell w2 ⟨w1.heap.size,1,none⟩ _ _ (by show w.heap.size≠w1.heap.size;omega)).trans (HFAR.out (w.heap.size) (by omega) (by omega) (by omega)))).trans hlb,ts ++ [s1],q1,by simp[HTS.out],zq ⟨by have:=hbs.out.1;have:=HTS1.out;have:=hsc.1;rw[Ty.cnts_append];simp only[Ty.cnts];omega,fun d h=>by
        rw[List.take_succ_eq_append_getElem hjt] at h
        exact Ty.shapes_snoc (hbs.out.2 d (Ty.shapes_left h)) (hsc.2 d (Ty.shapes_right h))⟩,by have:=HTS1.out;omega,HRD.out.setCell (by show r<w1.heap.size;omega) _,_,bE hq,?_⟩
      have h:=HACC.out.setCell (p:=⟨w1.heap.size,1,none⟩) (by show w1.heap.size<w1.heap.size+1;omega) (.slice (some ⟨gg,0,none⟩) (j+1) cap2);rw[Ty.rows_eq] at h ⊢;simp only[List.map_append,List.map_cons,List.map_nil]
      exact h
     case measure=>simp[intOf];omega
   ·obtain⟨cv,qv,rfl⟩:=hacc.shape
    have f0:=hf1 0;have f1:=hf1 1
    skip
    go_wp2_with fail
    refine bodyPost_ret (v:=.agg #[.int .i64 k,.slice cv j qv]) (by simp[results,Tryz.results57,go_sem,hu0,hu1]) rfl ?_;have hjn:j=n:=by omega
    rw[hjn] at hts hbs hq;have hb0:=hbs.out.1;have hb2:=hbs.out.2;rw[List.take_of_length_le (by rw[HN.out];omega)] at hb2;rw[List.take_of_length_le (by rw[HN.out];omega),HCU.out] at hb0 hq;refine⟨.mk k ts,_,q,rfl,?_,bh.mono (bg.ty ((hacc.tys.setCell (by show w.heap.size+1<w1.heap.size+1;omega) _).setCell (by show w.heap.size+1<w1.heap.size+1;omega) _)) (by omega),?_,(hrd.setCell (by show r<w.heap.size+1;omega) _).setCell (by show r<w.heap.size+1;omega) _,(hbw.trans' (by show w.heap.size≤w.heap.size+1;omega) _).trans' (by show w.heap.size≤w.heap.size+1;omega) _⟩
    ·refine⟨by simp only[Ty.cnt,hts];omega,fun d h=>?_⟩
     unfold Ty.shape at h ⊢;simp only[Bool.and_eq_true,decide_eq_true_eq] at h ⊢
     exact⟨h.1,by rw[h.2.1,hts,HN.out],hb2 _ h.2.2⟩
    ·omega
termination_by SizeOf.sizeOf t
decreasing_by exact Ty.kid_lt ht
def DTB (r p:Nat)(w:World)(e:Ending)(w':World):Prop:=∃(s:S) (v:Value) (q:Nat),e = .returned v∧s.vd=true∧ao (w.heap.size ≤ ·) w' s.ty v∧q≤p+40∧aQ w' r q∧Chg [r] w w'
theorem eR (r p:Nat)(s:S)(y:Value)(w:World)(h:aQ w r p)(ht:ao (· ≠ r) w s.ty y)(hs:s.vd=true)(hp:p≤1125899906841000) :
  Calls Tryz.prog 57 #[.pointer (some ⟨r,0,none⟩),y] w (DTB r p w):=by
 have hv:s.ty.valid=true:=by rw[S.valid];exact hs
 have hc:=Ty.cnt_shape s.ty 4 hv;refine(kP s.ty r p y w h ht (by omega) (by omega)).mono ?_;rintro e w' ⟨t,v,q,h1,⟨h2,h3⟩,h4,h5,h6,h7⟩;obtain⟨s',rfl,hs'⟩:=Ty.valid_S (h3 4 hv)
 exact⟨s',v,q,h1,hs',h4.rep,by omega,h6,h7⟩
theorem jE (d:Nat)(r p:Nat)(w:World)(hd1:1≤d)(hd4:d≤4)(h:aQ w r p)(hp:p≤1125899906841000) :
  Calls Tryz.prog 52 #[.pointer (some ⟨r,0,none⟩),.int .i64 (d:Int)] w (DTB r p w):=by
 have h2:2 ^ d≤16:=by have:2 ^ d≤2 ^ 4:=Nat.pow_le_pow_right (by omega) hd4;simpa using this
 refine(fQ d r p w hd1 (by omega) h (by omega)).mono ?_;rintro e w' ⟨t,v,q,h1,⟨h2',h3⟩,h4,h5,h6,h7⟩;obtain⟨s',rfl,hs'⟩:=Ty.valid_S (Ty.shape_le h3 (show(d:Int)≤4 by omega))
 exact⟨s',v,q,h1,hs',h4.rep,by omega,h6,h7⟩
def Asc (l:List Int):Prop:=l.Pairwise (· < ·)
theorem uf : ∀ {l m:List Int},Asc l→Asc m→(∀x,x∈l↔x∈m)→l=m
 | [],[],_,_,_=>rfl
 | [],b :: m,_,_,h=>absurd ((h b).2 (List.mem_cons_self ..)) (by simp)
 | a :: l,[],_,_,h=>absurd ((h a).1 (List.mem_cons_self ..)) (by simp)
 | a :: l,b :: m,hl,hm,h=>by
  have hl1:=(List.pairwise_cons.1 hl).1;have hm1:=(List.pairwise_cons.1 hm).1;have hab:a=b:=by
   rcases List.mem_cons.1 ((h a).1 (List.mem_cons_self ..)) with e | e
   ·exact e
   ·rcases List.mem_cons.1 ((h b).2 (List.mem_cons_self ..)) with e2 | e2
    ·exact e2.symm
    ·have:=hm1 a e;have:=hl1 b e2;omega
  subst hab;rw[uf (List.pairwise_cons.1 hl).2 (List.pairwise_cons.1 hm).2 (fun x=>?_)];have hx:=h x;simp only[List.mem_cons] at hx
  constructor
  ·intro hxl
   rcases hx.1 (.inr hxl) with e | e
   ·subst e;exact absurd (hl1 x hxl) (by omega)
   ·exact e
  ·intro hxm
   rcases hx.2 (.inr hxm) with e | e
   ·subst e;exact absurd (hm1 x hxm) (by omega)
   ·exact e
def fH (n:Int)(s:List Int × Bool)(x:Int):List Int × Bool:=if (!s.2&&decide (x>n))=true then (s.1 ++ [n] ++ [x],true) else (s.1 ++ [x],s.2)
def cM (n:Int)(l:List Int):List Int × Bool:=l.foldl (fH n) ([],false)
def cx (n:Int)(l:List Int):List Int:=if l.contains n then l else if (cM n l).2 then (cM n l).1 else (cM n l).1 ++ [n]
theorem hJ (n:Int)(l:List Int)(x:Int):cM n (l ++ [x])=fH n (cM n l) x:=by unfold cM;rw[List.foldl_append];rfl
theorem uN (n:Int)(l:List Int):(cM n l).1.length=l.length+(if (cM n l).2 then 1 else 0):=by
 obtain⟨r,rfl⟩ : ∃r,l=r.reverse:=⟨l.reverse,by simp⟩
 induction r with
 | nil=>rfl
 | cons x r ih=>
  rw[List.reverse_cons,hJ,List.length_append,List.length_singleton];generalize cM n r.reverse=s at *;obtain⟨s1,s2⟩:=s;unfold fH
  cases s2
  ·by_cases h:x>n<;>simp[h] at ih ⊢ <;> omega
  ·simp at ih ⊢;omega
theorem sK (n:Int)(l:List Int):(cx n l).length≤l.length+1:=by
 unfold cx;have:=uN n l
 split
 ·omega
 ·split<;>rename_i h<;>simp[h] at this ⊢ <;> omega
theorem vq (n:Int)(l:List Int):Asc l→n∉l→cM n l=if l.any (fun x=>decide (x>n)) then (l.filter (fun x=>decide (x<n))++n :: l.filter (fun x=>decide (x>n)),true) else (l,false):=by
 intro hl hn;obtain⟨r,rfl⟩ : ∃r,l=r.reverse:=⟨l.reverse,by simp⟩
 induction r with
 | nil=>rfl
 | cons x r ih=>
  rw[List.reverse_cons] at hl hn ⊢;have hp:=List.pairwise_append.1 hl;have ih2:=ih hp.1 (fun h=>hn (List.mem_append_left _ h));have hxn:x≠n:=fun e=>hn (by rw[e];simp);have hlt : ∀y∈r.reverse,y<x:=fun y hy=>hp.2.2 y hy x (by simp);rw[hJ,ih2];generalize r.reverse=a at *;rw[List.any_append]
  by_cases ha:(a.any fun x=>decide (x>n))=true
  ·rw[ha]
   obtain⟨z,hz,hzn⟩:=List.any_eq_true.1 ha;have hxg:x>n:=by have:=hlt z hz;have:=of_decide_eq_true hzn;omega
   simp[fH,List.filter_append,List.filter_cons,hxg,show ¬x<n by omega]
  ·have ha':(a.any fun x=>decide (x>n))=false:=by simpa using ha
   rw[ha'];have hall : ∀y∈a,y<n:=fun y hy=>by
    have h1 : ¬y>n:=by have:=List.any_eq_false.1 ha' y hy;simpa using this
    have h2:y≠n:=fun e=>hn (by rw[←e];exact List.mem_append_left _ hy)
    omega
   have hf1:a.filter (fun x=>decide (x<n))=a:=List.filter_eq_self.2 fun y hy=>decide_eq_true (hall y hy);have hf2:a.filter (fun x=>decide (x>n)) = []:=List.filter_eq_nil_iff.2 fun y hy=>by have:=hall y hy;simp;omega
   by_cases hxg:x>n
   ·simp[fH,List.filter_append,List.filter_cons,hf1,hf2,hxg,show ¬x<n by omega]
   ·simp[fH,hxg]
theorem sins_ok (n:Int)(l:List Int)(hl:Asc l):Asc (cx n l)∧∀x,x∈cx n l↔x∈l∨x=n:=by
 unfold cx
 by_cases hc:l.contains n=true
 ·rw[if_pos hc]
  exact⟨hl,fun x=>⟨.inl,fun h=>h.elim id (fun e=>by rw[e];exact List.contains_iff_mem.1 hc)⟩⟩
 ·rw[if_neg hc]
  have hn:n∉l:=fun h=>hc (List.contains_iff_mem.2 h);have he:=vq n l hl hn;have hr:(if (cM n l).2=true then (cM n l).1 else (cM n l).1 ++ [n])=l.filter (fun x=>decide (x<n))++n :: l.filter (fun x=>decide (x>n)):=by
   by_cases ha:(l.any fun x=>decide (x>n))=true
   ·rw[if_pos ha] at he;rw[he];rfl
   ·rw[if_neg ha] at he
    have ha':(l.any fun x=>decide (x>n))=false:=by simpa using ha
    have hall : ∀y∈l,y<n:=fun y hy=>by
     have h1 : ¬y>n:=by have:=List.any_eq_false.1 ha' y hy;simpa using this
     have h2:y≠n:=fun e=>hn (by rw[←e];exact hy)
     omega
    have hf1:l.filter (fun x=>decide (x<n))=l:=List.filter_eq_self.2 fun y hy=>decide_eq_true (hall y hy);have hf2:l.filter (fun x=>decide (x>n)) = []:=List.filter_eq_nil_iff.2 fun y hy=>by have:=hall y hy;simp;omega
    rw[he,hf1,hf2];rfl
  rw[hr];refine⟨List.pairwise_append.2 ⟨hl.filter _,List.pairwise_cons.2 ⟨fun y hy=>by have:=(List.mem_filter.1 hy).2;simpa using this,hl.filter _⟩,fun x hx y hy=>?_⟩,fun x=>?_⟩
  ·have h1:x<n:=by have:=(List.mem_filter.1 hx).2;simpa using this
   rcases List.mem_cons.1 hy with e | e
   ·omega
   ·have h2:y>n:=by have:=(List.mem_filter.1 e).2;simpa using this
    omega
  ·simp only[List.mem_append,List.mem_cons,List.mem_filter,decide_eq_true_eq]
   constructor
   ·rintro (⟨h,-⟩ | h | ⟨h,-⟩)
    ·exact .inl h
    ·exact .inr h
    ·exact .inl h
   ·rintro (h | h)
    ·have h2:x≠n:=fun e=>hn (e▸h)
     by_cases h3:x<n
     ·exact .inl ⟨h,h3⟩
     ·exact .inr (.inr ⟨h,by omega⟩)
    ·exact .inr (.inl h)
theorem ur (zs:List Int)(hs:zs.Pairwise (· ≤ ·)):Asc (Lib.compact zs)∧∀x,x∈Lib.compact zs↔x∈zs:=by
 have hg : ∀i j (hi:i<zs.length) (hj:j<zs.length),i≤j→zs.toArray[i]!≤zs.toArray[j]!:=fun i j hi hj hij=>by
  rw[getElem!_pos zs.toArray i (by simpa using hi),getElem!_pos zs.toArray j (by simpa using hj)];simp only[List.getElem_toArray]
  rcases Nat.lt_or_eq_of_le hij with h | h
  ·exact List.pairwise_iff_getElem.1 hs i j hi hj h
  ·subst h;exact Int.le_refl _
 have h : ∀m,m≤zs.length→Asc (Lib.compactUpTo zs.toArray m)∧(∀x∈Lib.compactUpTo zs.toArray m,∃j,j<m∧zs.toArray[j]! = x)∧∀j,j<m→zs.toArray[j]!∈Lib.compactUpTo zs.toArray m:=by
  intro m
  induction m with
  | zero=>intro _;exact⟨List.Pairwise.nil,(by intro x hx;cases hx),(by intro j hj;omega)⟩
  | succ m ih=>
   intro hm;obtain⟨h1,h2,h3⟩:=ih (by omega);rw[Lib.compactUpTo_succ]
   by_cases hk:Lib.keeps zs.toArray m=true
   ·rw[if_pos hk]
    refine⟨List.pairwise_append.2 ⟨h1,List.pairwise_singleton _ _,fun x hx y hy=>?_⟩,fun x hx=>?_,fun j hj=>?_⟩
    ·rw[List.mem_singleton] at hy
     subst hy;obtain⟨j,hj,rfl⟩:=h2 x hx;have hle:=hg j (m-1) (by omega) (by omega) (by omega);have hle2:=hg (m-1) m (by omega) (by omega) (by omega);have hne:zs.toArray[m]!≠zs.toArray[m-1]!:=by
      unfold Lib.keeps at hk;have:=of_decide_eq_true hk
      rcases this with e | e
      ·omega
      ·exact e
     omega
    ·rcases List.mem_append.1 hx with hx | hx
     ·obtain⟨j,hj,e⟩:=h2 x hx
      exact⟨j,by omega,e⟩
     ·rw[List.mem_singleton] at hx
      exact⟨m,by omega,hx.symm⟩
    ·rcases Nat.lt_or_eq_of_le (Nat.le_of_lt_succ hj) with h | h
     ·exact List.mem_append_left _ (h3 j h)
     ·subst h;exact List.mem_append_right _ (by simp)
   ·rw[if_neg hk,List.append_nil]
    refine⟨h1,fun x hx=>?_,fun j hj=>?_⟩
    ·obtain⟨j,hj,e⟩:=h2 x hx
     exact⟨j,by omega,e⟩
    ·rcases Nat.lt_or_eq_of_le (Nat.le_of_lt_succ hj) with h | h
     ·exact h3 j h
     ·subst h
      have h0 : ¬(j=0∨zs.toArray[j]!≠zs.toArray[j-1]!):=fun e=>hk (by unfold Lib.keeps;exact decide_eq_true e);have he:zs.toArray[j]! = zs.toArray[j-1]!:=Classical.not_not.1 (fun e=>h0 (.inr e));have hj0:j≠0:=fun e=>h0 (.inl e);rw[he]
      exact h3 (j-1) (by omega)
 obtain⟨h1,h2,h3⟩:=h zs.length (Nat.le_refl _);refine⟨h1,fun x=>⟨fun hx=>?_,fun hx=>?_⟩⟩
 ·obtain⟨j,hj,e⟩:=h2 x hx
  rw[getElem!_pos zs.toArray j (by simpa using hj)] at e;rw[←e]
  simp
 ·obtain⟨j,hj,e⟩:=List.getElem_of_mem hx
  have:=h3 j hj;rw[getElem!_pos zs.toArray j (by simpa using hj)] at this
  show x∈Lib.compactUpTo zs.toArray zs.length
  simpa [e] using this
def gK (l:List Int):List Int:=l.mergeSort fun x y=>decide (x≤y)
theorem uP (l:List Int):(gK l).Pairwise (· ≤ ·)∧∀x,x∈gK l↔x∈l:=by
 constructor
 ·have h:=List.pairwise_mergeSort (le:=fun x y:Int=>decide (x≤y)) (fun a b c h1 h2=>by simp at *;omega) (fun a b=>by simp;omega) l
  exact h.imp (fun h=>by simpa using h)
 ·intro x;unfold gK;exact List.mem_mergeSort
mutual
def Tm.labs:Tm→List Int→List Int
 | .mk k _ _ _ _ lb ts,out=>Tm.labss ts (if k==14 then cx lb out else out)
def Tm.labss:List Tm→List Int→List Int
 | [],out=>out
 | t :: ts,out=>Tm.labss ts (t.labs out)
end
theorem Tm.labss_take_succ : ∀(ts:List Tm) (out:List Int) (j:Nat) (h:j<ts.length),Tm.labss (ts.take (j+1)) out=ts[j].labs (Tm.labss (ts.take j) out)
 | [],_,_,h=>absurd h (Nat.not_lt_zero _)
 | t :: ts,out,0,_=>by simp[Tm.labss]
 | t :: ts,out,j+1,h=>by
  have:=Tm.labss_take_succ ts (t.labs out) j (by simpa using h)
  simpa only[List.take_succ_cons,Tm.labss,List.getElem_cons_succ] using this
mutual
theorem Tm.labs_ok : ∀(t:Tm) (out:List Int),Asc out→Asc (t.labs out)∧∀x,x∈t.labs out↔x∈out∨x∈t.casts.map Tm.label
 | .mk k s u ty f lb ts,out,h=>by
  unfold Tm.labs Tm.casts
  by_cases hk:(k==14)=true
  ·rw[if_pos hk,if_pos hk]
   obtain⟨h1,h2⟩:=sins_ok lb out h;obtain⟨h3,h4⟩:=Tm.labss_ok ts _ h1;refine⟨h3,fun x=>?_⟩;rw[h4,h2,List.map_append];simp only[List.map_cons,List.map_nil,List.mem_append,List.mem_singleton,Tm.label]
   constructor
   ·rintro ((h | h) | h)
    ·exact .inl h
    ·exact .inr (.inl h)
    ·exact .inr (.inr h)
   ·rintro (h | h | h)
    ·exact .inl (.inl h)
    ·exact .inl (.inr h)
    ·exact .inr h
  ·rw[if_neg hk,if_neg hk]
   simpa using Tm.labss_ok ts out h
theorem Tm.labss_ok : ∀(ts:List Tm) (out:List Int),Asc out→Asc (Tm.labss ts out)∧∀x,x∈Tm.labss ts out↔x∈out∨x∈(Tm.castss ts).map Tm.label
 | [],out,h=>by unfold Tm.labss Tm.castss;exact⟨h,fun x=>by simp⟩
 | t :: ts,out,h=>by
  unfold Tm.labss Tm.castss;obtain⟨h1,h2⟩:=Tm.labs_ok t out h;obtain⟨h3,h4⟩:=Tm.labss_ok ts _ h1;refine⟨h3,fun x=>?_⟩;rw[h4,h2,List.map_append,List.mem_append,or_assoc]
end
mutual
theorem Tm.labs_len : ∀(t:Tm) (out:List Int),(t.labs out).length≤out.length+t.casts.length
 | .mk k s u ty f lb ts,out=>by
  unfold Tm.labs Tm.casts
  by_cases hk:(k==14)=true
  ·rw[if_pos hk,if_pos hk]
   have h1:=sK lb out;have h2:=Tm.labss_len ts (cx lb out);rw[List.length_append,List.length_singleton]
   omega
  ·rw[if_neg hk,if_neg hk]
   have h2:=Tm.labss_len ts out
   simpa using h2
theorem Tm.labss_len : ∀(ts:List Tm) (out:List Int),(Tm.labss ts out).length≤out.length+(Tm.castss ts).length
 | [],out=>by unfold Tm.labss Tm.castss;simp
 | t :: ts,out=>by
  have h1:=Tm.labs_len t out;have h2:=Tm.labss_len ts (t.labs out);unfold Tm.labss Tm.castss;rw[List.length_append]
  omega
end
theorem Tm.labs_eq (t:Tm):Lib.compact (gK (t.casts.map Tm.label))=t.labs []:=by
 obtain⟨h1,h2⟩:=uP (t.casts.map Tm.label);obtain⟨h3,h4⟩:=ur _ h1;obtain⟨h5,h6⟩:=Tm.labs_ok t [] List.Pairwise.nil;refine uf h3 h5 (fun x=>?_);rw[h4,h2,h6]
 simp
def Tm.labels (t:Tm):List Int:=if t.castValid then t.labs [] else []
end Go.Proofs.YtfahhonmiimmdaaGreat

/- Less precise types are drawn: valid ones stay valid. And what else its parts name. -/
import Derived.Test.YtfhglkmjibjjoaaB15
import Derived.Test.YtfhglkmjibjjoaaB23
set_option linter.unusedSimpArgs false
set_option linter.unusedVariables false
set_option maxRecDepth 100000
set_option maxHeartbeats 16000000
namespace Go.Proofs.Ytfhglkmjibjjoaa
open Go.RowKit
def DrawB (t0:Ty)(r p c m:Nat)(w:World)(e:Ending)(w':World):Prop:=∃(t:Ty) (v:Value) (q:Nat),e = .returned v∧(t.cnt+2<=m∧∀d,t0.shape d=true->t.shape d=true)∧bp w.heap.size w' t v∧q<=p+c∧aR w' r q∧Chg [r] w w'
theorem Ty.shape_anyB {t:Ty}{d:Int}(h:t.shape d=true):(Ty.mk 1 []).shape d=true:=by
 cases t with | mk k ts=>
 unfold Ty.shape at h ⊢;simp only[Bool.and_eq_true,decide_eq_true_eq] at h ⊢
 exact⟨h.1,by decide,by unfold Ty.shapes;rfl⟩
theorem Ty.shapes_left : ∀ {ts:List Ty} {t:Ty} {d:Int},Ty.shapes (ts ++ [t]) d=true->Ty.shapes ts d=true
 | [],_,_,_=>by simp[Ty.shapes]
 | u::us,t,d,h=>by
  simp only[Ty.shapes,Bool.and_eq_true,List.cons_append] at h ⊢
  exact⟨h.1,Ty.shapes_left h.2⟩
theorem Ty.shapes_right : ∀ {ts:List Ty} {t:Ty} {d:Int},Ty.shapes (ts ++ [t]) d=true->t.shape d=true
 | [],t,d,h=>by simpa [Ty.shapes] using h
 | u::us,t,d,h=>by
  simp only[Ty.shapes,Bool.and_eq_true,List.cons_append] at h
  exact Ty.shapes_right h.2
theorem ii (t:Ty) : ∀(r p:Nat) (y:Value) (w:World),aR w r p->ai (· ≠ r) w t y->t.cnt<=1048576->p+t.cnt+1<=1125899906842000 ->
  Calls Try.prog 43 #[.pointer (some ⟨r,0,none⟩),y] w (DrawB t r p (t.cnt+1) (t.cnt+2) w):=by
 intro r p y w hrd0 hy hcnt hp;have IH : ∀t'∈t.kids,∀(p:Nat) (y:Value) (W:World),aR W r p->ai (· ≠ r) W t' y->p+t'.cnt+1<=1125899906842000->Calls Try.prog 43 #[.pointer (some ⟨r,0,none⟩),y] W (DrawB t' r p (t'.cnt+1) (t'.cnt+2) W):=
  fun t' ht p y W a b c=>ii t' r p y W a b (by have:=Ty.cnt_kid ht;omega) c
 obtain⟨a,cap,rfl,h2,h3,hr⟩:=hy.open
 cases t with | mk k us=>
 simp only[Ty.kind,Ty.kids] at *;unfold maxLen at h3;have IHH:=zq IH;have hc':us.length+Ty.cnts us=(Ty.mk k us).cnt:=by simp only[Ty.cnt]
 rw[<-hc'] at hcnt hp ⊢;have HCAP:=zq (show us.length<=1048576 by omega);clear IH hy hc';obtain⟨n,hn⟩ : ∃n,us.length=n:=⟨_,rfl⟩
 rw[hn] at h2 hr HCAP hp hcnt ⊢;have HN:=zq hn;clear hn;obtain⟨CU,hCU⟩ : ∃c,Ty.cnts us=c:=⟨_,rfl⟩
 rw[hCU] at hp hcnt ⊢;have HCU:=zq hCU;clear hCU;obtain⟨i0,hi,hz0,hz1,hz2⟩:=info_parts Try.infoTy;have Z0:=zq hz0;have Z1:=zq hz1;have Z2:=zq hz2;have HI:=zq hi;clear hz0 hz1 hz2 hi;have hrl0:=hrd0.1
 go_enter Try.func43,Try.ntmps43
 go_wp2_with fail
 refine(bH r p 4 _ (hrd0.below aZ) (by omega) (by omega)).mono ?_;rintro e w1 ⟨pk,rfl,pk0,pk4,hrd1,hch1⟩;have hw1:w.heap.size+2<=w1.heap.size:=by have:=hch1.size;simp at this;omega
 have hch0:Chg [r] w w1:=(Chg.of_below aZ).trans hch1;have b0:w1.cell? ⟨w.heap.size,0,none⟩=some (.int .i64 k):=hch1.cellne (by show w.heap.size≠r;omega) (af ag (aF 0));have b1:w1.cell? ⟨w.heap.size,1,none⟩=some (.slice a n cap):=hch1.cellne (by show w.heap.size≠r;omega) (af ag (aF 1));have x0:w1.cell? ⟨w.heap.size+1,0,none⟩=some (.int .i64 0):=hch1.cellne (by show w.heap.size+1≠r;omega) (cg 0);have x1:w1.cell? ⟨w.heap.size+1,1,none⟩=some (.slice none 0 0):=hch1.cellne (by show w.heap.size+1≠r;omega) (cg 1);have xf : ∀o,w1.frozen? ⟨w.heap.size+1,o,none⟩=false:=fun o=>(hch1.frone (by omega) (by simp)).trans (dV o);have HXF:=zq xf;clear xf
 by_cases hpk:pk=0
 ·subst hpk
  have f0:=HXF.out 0;have f1:=HXF.out 1
  go_wp2_with fail
  refine(cX _).mono ?_;rintro e w2 ⟨v,rfl,hvn,hb2⟩;obtain⟨k3,a3,n3,q3,rfl⟩:=hvn.shape;replace f0:=aG hb2 x0 f0;replace f1:=aG hb2 x1 f1;replace x0:=af hb2 x0;replace x1:=af hb2 x1;have hz2:=hb2.size
  go_wp2_with fail
  refine bq (.agg #[.int .i64 k3,.slice a3 n3 q3]) (by simp[results,Try.results43,go_sem,x0,x1]) ?_;refine⟨.mk 1 [],_,p+1,rfl,⟨by simp[Ty.cnt,Ty.cnts],fun d h=>Ty.shape_anyB h⟩,bp.mono ((hvn.setCell (by show w.heap.size+1<w1.heap.size;omega) _).setCell (by show w.heap.size+1<w1.heap.size;omega) _) (by omega),by omega,
    ((hrd1.below hb2).setCell (by show r<w.heap.size+1;omega) _).setCell (by show r<w.heap.size+1;omega) _,?_⟩
  exact((hch0.trans (Chg.of_below hb2)).trans' (by show w.heap.size<=w.heap.size+1;omega) _).trans' (by show w.heap.size<=w.heap.size+1;omega) _
 ·have hpkb:(pk==0)=false:=by simpa using hpk
  clear hpk pk4 pk0
  go_wp2_with fail
  go_loopw [6] (fun i wr=>∃j:Nat,j<=n∧i = .int .i64 j∧Chg [r] w wr∧w1.heap.size<wr.heap.size∧(∃u,wr.cell? ⟨w.heap.size+1,0,none⟩=some u)∧(∃u,wr.cell? ⟨w.heap.size+1,1,none⟩=some u) ∧
      (∀o,wr.frozen? ⟨w.heap.size+1,o,none⟩=false)∧(∀o,wr.frozen? ⟨w1.heap.size,o,none⟩=false)∧wr.cell? ⟨w1.heap.size,0,none⟩=some (.int .i64 k)∧wr.cell? ⟨w.heap.size,1,none⟩=some (.slice a n cap) ∧
      ∃(ts:List Ty) (q:Nat),ts.length=j∧Hid (Ty.cnts ts<=Ty.cnts (us.take j)∧∀d,Ty.shapes (us.take j) d=true->Ty.shapes ts d=true)∧q<=p+1+j+Ty.cnts (us.take j)∧aR wr r q∧∃v,wr.cell? ⟨w1.heap.size,1,none⟩=some v∧aS (w1.heap.size+1) 25 2 wr v j (Ty.rows ts)) (fun i _=>n-(intOf i).toNat)
  case atStart=>exact⟨0,by omega,rfl,hch0.trans (Chg.of_below ag),by simp,⟨_,af ag x0⟩,⟨_,af ag x1⟩,fun o=>cG ag (by omega) (HXF.out o),fun o=>b9 o,aF 0,af ag b1,[],_,rfl,zq ⟨by simp[Ty.cnts],fun d _=>by simp[Ty.shapes]⟩,by first | omega | (simp[Ty.cnts];omega),hrd1.below ag,.slice none 0 0,aF 1,by simpa [Ty.rows] using aS.nil _ _ _ _⟩
  case round=>
   obtain⟨j,hj,rfl,hbw,hsz,⟨u0,hu0⟩,⟨u1,hu1⟩,hf1,hf2,hk0,hlb,ts,q,hts,hbs,hq,hrd,v,hv,hacc⟩:=hrel;have hrl:=hrd.1
   by_cases hlt:j<n
   ·have hjt:j<us.length:=by rw[HN.out];exact hlt
    obtain⟨b,off,k0,a0,m0,q0,rfl,l0,e0,e1,ht⟩:=(hr.chgA hbw).at (Below.refl _ _) hjt;have hts1:=Ty.cnts_take_succ us j hjt;have hts2:=Ty.cnts_take_le us (j+1);rw[HCU.out] at hts2;have HTS1:=zq hts1;have HC:=zq (fun W (h:Below wr.heap.size wr W)=>IHH.out us[j] (List.getElem_mem hjt) q _ W (hrd.below h) (ht.below h) (by omega));clear hts1 hts2;obtain⟨xs,fps,ho,hl,hs,hd,hfp⟩:=hacc;have HO:=zq ho;have HS:=zq hs;have HD:=zq hd;have HFP:=zq hfp;have HL:=zq hl;have HTS:=zq hts;clear ho hs hd hfp hl hts;obtain⟨cv,qv,rfl⟩ : ∃c q,v = .slice c j q:=by
     rcases HO.out.2 with ⟨h,h0⟩ | ⟨g,cap,cur,h,_⟩
     ·exact⟨none,0,by rw[h,h0]⟩
     ·exact⟨_,cap,h⟩
    skip
    go_wp2_with fail
    have hB3:w1.heap.size+1<=wr.heap.size:=by omega
    go_region_law (first
      | (go_simp;go_at_call 43;(with_reducible refine(HC.out _ bdr).mono ?_);rintro e wc1 ⟨s1,v1,q1,rfl,hsc,hv1,hq1,hrd1,hch1⟩;obtain⟨k1,c1,m1,qq1,fp1,rfl,-,-,hs1,hd1,hx1⟩:=hv1.open;have hC1:=(Chg.of_below bdr).trans hch1;have hbz:=hch1.size;have hq1c:wc1.cell? ⟨w1.heap.size,1,none⟩=some (.slice cv j qv):=hC1.cellne (by show w1.heap.size≠r;omega) hv;have hl1:w1.heap.size<wc1.heap.size:=World.block_lt_of_cell? _ _ hq1c)
      | (refine step_append_lies _ (by rfl) (.tmp 22) (.tmp 30) 23 (by rfl) (w1.heap.size+1) 25 i0 _ 2 32 Try.underlying23 HI.out Z0.out Z1.out Z2.out rfl (by omega) (.slice cv j qv) j xs (by rfl) (ck HO.out (hC1.trans (Chg.of_below ag)) (by omega))
          ⟨wc1.heap.size,0,none⟩ 1 1 [.int .i64 k1,.slice c1 m1 qq1] (by rfl) (by rfl) (World.news_of_block (cs:=#[.int .i64 k1,.slice c1 m1 qq1]) (t:=25) (fr:=(0,0)) (heap_alloc_new wc1 _)) (by simp[Value.oneCell'])
          (by omega) (by have:=HCAP.out;unfold maxLen;omega) (by have:=HCAP.out;omega) (by simp at hbz ⊢;omega) _ rfl ?_
         intro gg cap2 w2 hown2 hgrow hat hlt2;have hC2:=hC1.trans (Chg.of_below (ag (o:=.cells #[.int .i64 k1,.slice c1 m1 qq1] 25)));have hfar:=dk hC2 HO.out hgrow;have hq:w2.cell? ⟨w1.heap.size,1,none⟩=some (.slice cv j qv):=(World.cell?_of_block (a:=⟨w1.heap.size,1,none⟩) (hfar (w1.heap.size) (by omega) (by omega) (by omega))).trans hv;have hqf:w2.frozen? ⟨w1.heap.size,1,none⟩=false:=(World.frozen?_of_block (a:=⟨w1.heap.size,1,none⟩) (hfar (w1.heap.size) (by omega) (by omega) (by omega))).trans (hf2 _);have HFAR:=zq hfar;have hacc2:=aS.pushC HL.out HO.out HS.out HD.out HFP.out hB3 (by omega) hC2 (by simp) (hs1.move _ _ _ fun b hb=>heap_alloc_old wc1 _ (bL.lt _ _ _ hs1 b hb)) hd1 hx1 hown2 hgrow hat;have HACC:=zq hacc2;have HBEL:=zq (dg hbw hC2 HO.out (by have:=hbw.size;omega) hgrow);have HRD:=zq (aR.grown (hrd1.below ag) HO.out (by omega) hgrow);have hsz2:wr.heap.size<=w2.heap.size:=Nat.le_trans hC2.size hgrow.size;clear hfar hacc2 hown2 hgrow hat hq1c hC1 hC2 hrd1))
    all_goals
     go_wp2_with fail
     go_roundw
     case rel=>
      have c1:(w2.setCell ⟨w1.heap.size,1,none⟩ (.slice (some ⟨gg,0,none⟩) (j+1) cap2)).heap[w.heap.size+1]?=wr.heap[w.heap.size+1]?:=
       (Below.heap_setCell w2 ⟨w1.heap.size,1,none⟩ _ _ (by show w.heap.size+1≠w1.heap.size;omega)).trans (HFAR.out (w.heap.size+1) (by omega) (by omega) (by omega))
      have hk2:=(World.cell?_of_block (a:=⟨w1.heap.size,0,none⟩) (HFAR.out (w1.heap.size) (by omega) (by omega) (by omega))).trans hk0;have hf4:=fun o=>(World.frozen?_of_block (a:=⟨w1.heap.size,o,none⟩) (HFAR.out (w1.heap.size) (by omega) (by omega) (by omega))).trans (hf2 o);have hbel2:Chg [r] w (w2.setCell ⟨w1.heap.size,1,none⟩ (.slice (some ⟨gg,0,none⟩) (j+1) cap2)):=
       HBEL.out.trans' (by show w.heap.size<=w1.heap.size;omega) _
      refine⟨j+1,by omega,by go_num,hbel2,by simp[World.setCell];omega,⟨u0,(World.cell?_of_block (a:=⟨w.heap.size+1,0,none⟩) c1).trans hu0⟩,⟨u1,(World.cell?_of_block (a:=⟨w.heap.size+1,1,none⟩) c1).trans hu1⟩,
        fun o=>(World.frozen?_of_block (a:=⟨w.heap.size+1,o,none⟩) c1).trans (hf1 o),fun o=>(dh _ _ _ _).trans (hf4 o),cF hk2 (by simp),(World.cell?_of_block (a:=⟨w.heap.size,1,none⟩) ((Below.heap_setCell w2 ⟨w1.heap.size,1,none⟩ _ _ (by show w.heap.size≠w1.heap.size;omega)).trans (HFAR.out (w.heap.size) (by omega) (by omega) (by omega)))).trans hlb,ts ++ [s1],q1,by simp[HTS.out],zq ⟨by have:=hbs.out.1;have:=HTS1.out;have:=hsc.1;rw[Ty.cnts_append];simp only[Ty.cnts];omega,fun d h=>by
        rw[List.take_succ_eq_append_getElem hjt] at h
        exact Ty.shapes_snoc (hbs.out.2 d (Ty.shapes_left h)) (hsc.2 d (Ty.shapes_right h))⟩,by have:=HTS1.out;omega,HRD.out.setCell (by show r<w1.heap.size;omega) _,_,bP hq,?_⟩
      have h:=HACC.out.setCell (p:=⟨w1.heap.size,1,none⟩) (by show w1.heap.size<w1.heap.size+1;omega) (.slice (some ⟨gg,0,none⟩) (j+1) cap2);rw[Ty.rows_eq] at h ⊢;simp only[List.map_append,List.map_cons,List.map_nil]
      exact h
     case measure=>simp[intOf];omega
   ·obtain⟨cv,qv,rfl⟩:=hacc.shape
    have f0:=hf1 0;have f1:=hf1 1
    skip
    go_wp2_with fail
    refine bq (.agg #[.int .i64 k,.slice cv j qv]) (by simp[results,Try.results43,go_sem,hu0,hu1]) ?_;have hjn:j=n:=by omega
    rw[hjn] at hts hbs hq;have hb0:=hbs.out.1;have hb2:=hbs.out.2;rw[List.take_of_length_le (by rw[HN.out];omega)] at hb2;rw[List.take_of_length_le (by rw[HN.out];omega),HCU.out] at hb0 hq;refine⟨.mk k ts,_,q,rfl,?_,bp.mono (bx.ty ((hacc.tys.setCell (by show w.heap.size+1<w1.heap.size+1;omega) _).setCell (by show w.heap.size+1<w1.heap.size+1;omega) _)) (by omega),?_,(hrd.setCell (by show r<w.heap.size+1;omega) _).setCell (by show r<w.heap.size+1;omega) _,(hbw.trans' (by show w.heap.size<=w.heap.size+1;omega) _).trans' (by show w.heap.size<=w.heap.size+1;omega) _⟩
    ·refine⟨by simp only[Ty.cnt,hts];omega,fun d h=>?_⟩
     unfold Ty.shape at h ⊢;simp only[Bool.and_eq_true,decide_eq_true_eq] at h ⊢
     exact⟨h.1,by rw[h.2.1,hts,HN.out],hb2 _ h.2.2⟩
    ·omega
termination_by SizeOf.sizeOf t
decreasing_by exact Ty.kid_lt ht
def DTB (r p:Nat)(w:World)(e:Ending)(w':World):Prop:=∃(s:S) (v:Value) (q:Nat),e = .returned v∧s.vd=true∧ai (w.heap.size <= ·) w' s.ty v∧q<=p+40∧aR w' r q∧Chg [r] w w'
theorem dL (r p:Nat)(s:S)(y:Value)(w:World)(h:aR w r p)(ht:ai (· ≠ r) w s.ty y)(hs:s.vd=true)(hp:p<=1125899906841000) :
  Calls Try.prog 43 #[.pointer (some ⟨r,0,none⟩),y] w (DTB r p w):=by
 have hv:s.ty.valid=true:=by rw[S.valid];exact hs
 have hc:=Ty.cnt_shape s.ty 4 hv;refine(ii s.ty r p y w h ht (by omega) (by omega)).mono ?_;rintro e w' ⟨t,v,q,h1,⟨h2,h3⟩,h4,h5,h6,h7⟩;obtain⟨s',rfl,hs'⟩:=Ty.valid_S (h3 4 hv)
 exact⟨s',v,q,h1,hs',h4.rep,by omega,h6,h7⟩
theorem gJ (d:Nat)(r p:Nat)(w:World)(hd1:1<=d)(hd4:d<=4)(h:aR w r p)(hp:p<=1125899906841000) :
  Calls Try.prog 48 #[.pointer (some ⟨r,0,none⟩),.int .i64 (d:Int)] w (DTB r p w):=by
 have h2:2 ^ d<=16:=by have:2 ^ d<=2 ^ 4:=Nat.pow_le_pow_right (by omega) hd4;simpa using this
 refine(ef d r p w hd1 (by omega) h (by omega)).mono ?_;rintro e w' ⟨t,v,q,h1,⟨h2',h3⟩,h4,h5,h6,h7⟩;obtain⟨s',rfl,hs'⟩:=Ty.valid_S (Ty.shape_le h3 (show(d:Int)<=4 by omega))
 exact⟨s',v,q,h1,hs',h4.rep,by omega,h6,h7⟩
theorem aB.rg {B:Nat}{X:World}{t:Tm}{v:Value}(h:aB (B <= ·) X t v):Hid (aB (fun b=>B<=b∧b<X.heap.size) X t v):=zq (h.move (.weaken fun b h1 h2=>⟨h1,h2⟩))
theorem aN.blk {F:Nat->Prop}{w:World}{b n:Nat}{ts:List Tm}{cs:Array Value}{T:TypeId}(hF:F b)(h:w.heap[b]?=some (.cells cs T (0,0)))(hn:n=ts.length)(hm:n<=maxLen)(hv:aV F w (Tm.rows ts) cs.toList):aN F w ts (.slice (some ⟨b,0,none⟩) n n):=by
 subst hn;have hl:(Tm.rows ts).length=ts.length:=by rw[Tm.rows_eq];simp
 unfold aN aL;refine⟨_,ts.length,by rw[hl],by rw[hl];exact Nat.le_refl _,hm,.inr ⟨b,0,rfl,hF,aw h,?_⟩⟩;refine aV.rows _ cs.toList 0 hv fun j u hj=>?_;rw[Nat.zero_add]
 exact ah h (by simpa using hj)
theorem aV.c1 {F:Nat->Prop}{w:World}{t1:Tm}{ys1:List Value}(h1:cn F w t1.row ys1):aV F w (Tm.rows [t1]) ys1:=by
 rw[Tm.rows_eq];exact⟨ys1,[],by simp,h1,rfl⟩
theorem aV.c2 {F:Nat->Prop}{w:World}{t1 t2:Tm}{ys1 ys2:List Value}(h1:cn F w t1.row ys1)(h2:cn F w t2.row ys2):aV F w (Tm.rows [t1,t2]) (ys1++ys2):=by
 rw[Tm.rows_eq];exact⟨ys1,ys2,rfl,h1,ys2,[],by simp,h2,rfl⟩
theorem aV.c3 {F:Nat->Prop}{w:World}{t1 t2 t3:Tm}{ys1 ys2 ys3:List Value}(h1:cn F w t1.row ys1)(h2:cn F w t2.row ys2)(h3:cn F w t3.row ys3):aV F w (Tm.rows [t1,t2,t3]) (ys1++(ys2++ys3)):=by
 rw[Tm.rows_eq];exact⟨ys1,ys2++ys3,rfl,h1,ys2,ys3,rfl,h2,ys3,[],by simp,h3,rfl⟩
def mkB (d:Int)(s:S):Nat:=if d<=1 then 100*(s.cnt+1) else 4000*4 ^ (d-1).toNat
def mkU (d:Int):Nat:=4000*4 ^ (d-2).toNat
def mkM (d:Int)(s:S):Nat:=5*(max d 1).toNat+s.dep
theorem eF {s:S}(h:s.vd=true):s.cnt<=14:=by
 have h1:=Ty.cnt_shape s.ty 4 (by have:=S.valid s;rw[h] at this;exact this);rw[S.ty_cnt] at h1
 omega
theorem dY {d:Int}(s:S)(h:2<=d):mkB d s=4*mkU d:=by
 unfold mkB mkU;rw[if_neg (by omega),show(d-1).toNat=(d-2).toNat+1 by omega,Nat.pow_succ]
 omega
theorem bV {d:Int}{s:S}(h:2<=d)(hs:s.vd=true):mkB (d-1) s<=mkU d:=by
 have h1:=eF hs;have h2:1<=4 ^ (d-2).toNat:=Nat.pow_pos (by omega);unfold mkB mkU
 split
 ·omega
 ·rw[show(d-1-1).toNat=(d-2).toNat by omega];exact Nat.le_refl _
theorem dS (d:Int):4000<=mkU d:=by
 have h2:1<=4 ^ (d-2).toNat:=Nat.pow_pos (by omega);unfold mkU;omega
theorem mkU_top {d:Int}(h:d<=5):4*mkU d<=1024000:=by
 have h2:4 ^ (d-2).toNat<=4 ^ 3:=Nat.pow_le_pow_right (by omega) (by omega);unfold mkU;have:4 ^ 3=64:=rfl
 omega
theorem cO {d:Int}{s s':S}(h:2<=d)(hs:s.vd=true)(hs':s'.vd=true):mkM (d-1) s'<mkM d s:=by
 have h1:=S.vd_dep hs';have h2:1<=s.dep:=by cases s<;>simp[S.dep]
 unfold mkM;rw[show(max d 1)=d by omega,show max (d-1) 1=d-1 by omega]
 omega
theorem jE {d:Int}{s s':S}(h:s'.dep<s.dep):mkM (d-1) s'<mkM d s:=by
 unfold mkM
 omega
def MkC (r:Nat)(dd:Int)(s:S)(l:List Bd):Prop:=∀(q:Nat) (W:World) (c' y':Value),aR W r q->aE (· ≠ r) W l c'->dz l c'->ai (· ≠ r) W s.ty y'->q+mkB dd s<=1125899906800000->Calls Try.prog 74 #[.pointer (some ⟨r,0,none⟩),c',y',.int .i64 dd] W (DTm r q (mkB dd s) (mkB dd s) W)
theorem cP (k:Int)(a:Option Addr)(n q:Nat)(w:World):Calls Try.prog 86 #[.int .i64 k,.slice a n q] w fun e w'=>e = .returned (.agg (nv k {data:=#[]} 0 0 none 0 0 0 none 0 0 0 a n q))∧Below w.heap.size w w':=by
 go_enter Try.func86,Try.ntmps86
 go_wp2_with fail
 refine bq (.agg (nv k {data:=#[]} 0 0 none 0 0 0 none 0 0 0 a n q)) (by simp[results,Try.results86,go_sem]) ?_
 exact⟨rfl,ag⟩
theorem HSt.rd {b r p:Nat}{W X:World}(h:HSt b W X)(f:aR W r p)(hb:r<b):aR X r p:=f.keep h.2.2.1 fun c hc=>h.1 c (by omega)
theorem aE.blkF {F:Nat->Prop}{w:World}{l:List Bd}{b off n q:Nat}(h:aE F w l (.slice (some ⟨b,off,none⟩) n q))(hl:0<l.length):F b:=by
 unfold aE aL at h;obtain⟨a,cap,he,-,-,h4⟩:=h;simp only[Value.slice.injEq] at he
 rcases h4 with h4 | ⟨b',off',ha,hF,-⟩
 ·have e:(Bd.rows l).length=0:=by rw[h4];rfl
  rw[Bd.rows_length] at e;omega
 ·rw[<-he.1] at ha
  simp only[Option.some.injEq,Addr.mk.injEq] at ha;rw[ha.1];exact hF
theorem bD:({data:=#[]}:ByteArray).size<=maxLen:=by unfold maxLen;decide
theorem nk {w w':World}{B n sz:Nat}{e:TypeId}{v:Value}{xs:List Value}(h:w.ownsRow B e sz v n xs)(hk : ∀b,v.ownBlock=some b->w'.heap[b]?=w.heap[b]?):w'.ownsRow B e sz v n xs:=by
 obtain⟨h1,h2 | ⟨g,cap,cur,rfl,hB,hg,hn,hc,hs,ht⟩⟩:=h
 ·exact⟨h1,.inl h2⟩
 ·exact⟨h1,.inr ⟨g,cap,cur,rfl,hB,(hk g rfl).trans hg,hn,hc,hs,ht⟩⟩
def db (B:Nat)(e1 e2:TypeId)(s1 s2:Nat)(w:World)(v1 v2:Value)(n1 n2:Nat)(r1 r2:List (List C)):Prop:=
 r1.length=n1∧r2.length=n2∧(∀b,v1.ownBlock=some b->v2.ownBlock≠some b)∧∃xs1 xs2,w.ownsRow B e1 s1 v1 n1 xs1∧w.ownsRow B e2 s2 v2 n2 xs2 ∧
  aV (fun b=>B<=b∧v1.ownBlock≠some b∧v2.ownBlock≠some b) w r1 xs1∧aV (fun b=>B<=b∧v1.ownBlock≠some b∧v2.ownBlock≠some b) w r2 xs2
theorem db.below {B:Nat}{e1 e2:TypeId}{s1 s2 n1 n2:Nat}{w w':World}{v1 v2:Value}{r1 r2:List (List C)}(h:db B e1 e2 s1 s2 w v1 v2 n1 n2 r1 r2)(k:Below w.heap.size w w'):db B e1 e2 s1 s2 w' v1 v2 n1 n2 r1 r2:=by
 obtain⟨a,b,c,xs1,xs2,o1,o2,p1,p2⟩:=h
 exact⟨a,b,c,xs1,xs2,bc o1 k,bc o2 k,p1.move (.below k) _ _,p2.move (.below k) _ _⟩
theorem db.swap {B:Nat}{e1 e2:TypeId}{s1 s2 n1 n2:Nat}{w:World}{v1 v2:Value}{r1 r2:List (List C)}(h:db B e1 e2 s1 s2 w v1 v2 n1 n2 r1 r2):db B e2 e1 s2 s1 w v2 v1 n2 n1 r2 r1:=by
 obtain⟨a,b,c,xs1,xs2,o1,o2,p1,p2⟩:=h
 exact⟨b,a,fun x hx e=>c x e hx,xs2,xs1,o2,o1,p2.move (.weaken fun x h _=>⟨h.1,h.2.2,h.2.1⟩) _ _,p1.move (.weaken fun x h _=>⟨h.1,h.2.2,h.2.1⟩) _ _⟩
theorem db.setCell {B:Nat}{e1 e2:TypeId}{s1 s2 n1 n2:Nat}{w:World}{v1 v2:Value}{r1 r2:List (List C)}(h:db B e1 e2 s1 s2 w v1 v2 n1 n2 r1 r2){p:Addr}(hp:p.block<B)(u:Value):db B e1 e2 s1 s2 (w.setCell p u) v1 v2 n1 n2 r1 r2:=by
 obtain⟨a,b,c,xs1,xs2,o1,o2,p1,p2⟩:=h
 exact⟨a,b,c,xs1,xs2,ownsRow_setCell_below o1 hp u,ownsRow_setCell_below o2 hp u,p1.move ⟨by simp[World.setCell],fun _ h _=>h,fun b hb _=>Below.heap_setCell w p u b (by have:=hb.1;omega)⟩ _ _,p2.move ⟨by simp[World.setCell],fun _ h _=>h,fun b hb _=>Below.heap_setCell w p u b (by have:=hb.1;omega)⟩ _ _⟩
theorem db.push {B g cap n1 n2 s1 s2:Nat}{e1 e2:TypeId}{wr W w2:World}{v1 v2:Value}{r1 r2:List (List C)}{xs1 ys:List Value}{rw':List C}(hl:r1.length=n1)(hl2:r2.length=n2)(hd : ∀b,v1.ownBlock=some b->v2.ownBlock≠some b)
  (ho:wr.ownsRow B e1 s1 v1 n1 xs1) (h2 : ∃xs2,wr.ownsRow B e2 s2 v2 n2 xs2∧aV (fun b=>B<=b∧v1.ownBlock≠some b∧v2.ownBlock≠some b) wr r2 xs2) (hv:aV (fun b=>B<=b∧v1.ownBlock≠some b∧v2.ownBlock≠some b) wr r1 xs1)
  (hb:Below wr.heap.size wr W) (hr:cn (fun b=>B<=b∧v1.ownBlock≠some b∧v2.ownBlock≠some b) W rw' ys)
  (hown:w2.ownsRow B e1 s1 (.slice (some ⟨g,0,none⟩) (n1+1) cap) (n1+1) (xs1++ys)) (hgrow:W.grownBy w2 v1.ownBlock) (hat:v1.ownBlock=some g∨g=W.heap.size) :
  db B e1 e2 s1 s2 w2 (.slice (some ⟨g,0,none⟩) (n1+1) cap) v2 (n1+1) n2 (r1 ++ [rw']) r2:=by
 obtain⟨xs2,ho2,hv2⟩:=h2;have hlt2 : ∀b,v2.ownBlock=some b->b<wr.heap.size:=fun b hb=>(ho2.lt b hb).2;have hsz:wr.heap.size<=W.heap.size:=hb.size;have hgd:v2.ownBlock≠some g:=by
  intro e
  rcases hat with h | h
  ·exact hd g h e
  ·have:=hlt2 g e;omega
 have kk:bU (fun b=>B<=b∧v1.ownBlock≠some b∧v2.ownBlock≠some b) (fun b=>B<=b∧(Value.slice (some ⟨g,0,none⟩) (n1+1) cap).ownBlock≠some b∧v2.ownBlock≠some b) W w2:=by
  refine⟨hgrow.size,fun b hb hl=>⟨hb.1,fun e=>?_,hb.2.2⟩,fun b hb hl=>hgrow.block b hl (fun e=>hb.2.1 e.symm)⟩;simp only[Value.ownBlock,Option.some.injEq] at e;subst e
  rcases hat with h | h
  ·exact hb.2.1 h
  ·omega
 refine⟨by simp[hl],hl2,fun b hb e=>?_,xs1++ys,xs2,hown,nk ho2 (fun b hbb=>?_),aV.append r1 [rw'] xs1 ys ((hv.move (.below hb) _ _).move kk _ _) (aV.one (hr.move kk)),(hv2.move (.below hb) _ _).move kk _ _⟩
 ·simp only[Value.ownBlock,Option.some.injEq] at hb
  subst hb
  exact hgd e
 ·have h3:=hlt2 b hbb
  rw[hgrow.block b (by omega) (fun e=>hd b e.symm hbb),hb.block b h3]
theorem db.fst {B:Nat}{e1 e2:TypeId}{s1 s2 n1 n2:Nat}{w:World}{v1 v2:Value}{r1 r2:List (List C)}(h:db B e1 e2 s1 s2 w v1 v2 n1 n2 r1 r2):bR B e1 s1 w v1 n1 r1:=by
 obtain⟨a,b,c,xs1,xs2,o1,o2,p1,p2⟩:=h
 exact⟨a,xs1,o1,p1.move (.weaken fun x h _=>⟨h.1,h.2.1⟩) _ _⟩
theorem db.sndRep {B:Nat}{e1 e2:TypeId}{s1 s2 n1 n2:Nat}{w:World}{v1 v2:Value}{r1 r2:List (List C)}(h:db B e1 e2 s1 s2 w v1 v2 n1 n2 r1 r2):aL (fun b=>B<=b∧v1.ownBlock≠some b) w (.sl r2) v2:=by
 obtain⟨a,b,c,xs1,xs2,o1,o2,p1,h2⟩:=h;subst b;have h1':=o2;obtain⟨hx,h3 | ⟨g,cap,cur,h3,hB,hg,hn,hc,hs,ht⟩⟩:=o2
 ·obtain⟨rfl,h4⟩:=h3
  have:r2 = []:=List.length_eq_zero_iff.1 h4;subst this;unfold aL
  exact⟨none,0,rfl,Nat.le_refl _,by unfold maxLen;omega,.inl rfl⟩
 ·subst h3
  have hcl : ∀j u,xs2[j]?=some u->w.cell? ⟨g,j,none⟩=some u:=by
   intro j u hj;subst ht;simp only[World.cell?,hg];rw[List.getElem?_take] at hj
   split at hj
   ·simpa using hj
   ·cases hj
  unfold aL
  exact⟨_,cap,rfl,hn,hc,.inr ⟨g,0,rfl,⟨hB,fun e=>c g e rfl⟩,(Array.getElem?_eq_some_iff.1 hg).1,aV.rows r2 xs2 0 (h2.move (.weaken fun _ hb _=>⟨hb.1,hb.2.1⟩) _ _) (fun j u hj=>by simpa using hcl j u hj)⟩⟩
def cT (F:Nat->Prop)(B:Nat)(e:TypeId)(sz:Nat)(w:World)(v:Value)(n:Nat)(rows:List (List C)):Prop:=
 rows.length=n∧∃xs,w.ownsRow B e sz v n xs∧aV (fun b=>F b∧v.ownBlock≠some b) w rows xs
theorem cT.nil {F:Nat->Prop}{B:Nat}{e:TypeId}{sz:Nat}{w:World}:cT F B e sz w (.slice none 0 0) 0 []:=⟨rfl,[],World.ownsRow_nil w B e sz,rfl⟩
theorem cT.below {F:Nat->Prop}{B:Nat}{e:TypeId}{sz n:Nat}{w w':World}{v:Value}{rows:List (List C)}(h:cT F B e sz w v n rows)(k:Below w.heap.size w w'):cT F B e sz w' v n rows:=by
 obtain⟨hl,xs,h1,h2⟩:=h
 exact⟨hl,xs,bc h1 k,h2.move (.below k) _ _⟩
theorem cT.shape {F:Nat->Prop}{B:Nat}{e:TypeId}{sz n:Nat}{w:World}{v:Value}{rows:List (List C)}(h:cT F B e sz w v n rows) : ∃a q,v = .slice a n q:=by
 obtain⟨hl,xs,⟨h1,h2 | ⟨g,cap,cur,h2,hB,hg,hn,hc,hs,ht⟩⟩,-⟩:=h
 ·exact⟨none,0,by rw[h2.1,h2.2]⟩
 ·exact⟨_,cap,h2⟩
theorem cT.push {F:Nat->Prop}{B g cap n sz:Nat}{e:TypeId}{wr W w2:World}{v:Value}{rows:List (List C)}{xs ys:List Value}{rw':List C}(hl:rows.length=n)(hv:aV (fun b=>F b∧v.ownBlock≠some b) wr rows xs)
  (hb:Below wr.heap.size wr W) (hr:cn (fun b=>F b∧v.ownBlock≠some b) W rw' ys)
  (hown:w2.ownsRow B e sz (.slice (some ⟨g,0,none⟩) (n+1) cap) (n+1) (xs++ys)) (hgrow:W.grownBy w2 v.ownBlock) (hat:v.ownBlock=some g∨g=W.heap.size) :
  cT F B e sz w2 (.slice (some ⟨g,0,none⟩) (n+1) cap) (n+1) (rows ++ [rw']):=by
 have kk:bU (fun b=>F b∧v.ownBlock≠some b) (fun b=>F b∧(Value.slice (some ⟨g,0,none⟩) (n+1) cap).ownBlock≠some b) W w2:=by
  refine⟨hgrow.size,fun b hb hl=>⟨hb.1,fun e=>?_⟩,fun b hb hl=>hgrow.block b hl (fun e=>hb.2 e.symm)⟩;simp only[Value.ownBlock,Option.some.injEq] at e;subst e
  rcases hat with h | h
  ·exact hb.2 h
  ·omega
 exact⟨by simp[hl],xs++ys,hown,aV.append rows [rw'] xs ys ((hv.move (.below hb) _ _).move kk _ _) (aV.one (hr.move kk))⟩
theorem cT.rep {F:Nat->Prop}{B:Nat}{e:TypeId}{sz n:Nat}{w:World}{v:Value}{rows:List (List C)}(h:cT F B e sz w v n rows)(hF : ∀b,B<=b->F b):aL F w (.sl rows) v:=by
 obtain⟨hl,xs,h1,h2⟩:=h;subst hl;obtain⟨hx,h3 | ⟨g,cap,cur,h3,hB,hg,hn,hc,hs,ht⟩⟩:=h1
 ·obtain⟨rfl,h4⟩:=h3
  have:rows = []:=List.length_eq_zero_iff.1 h4;subst this;unfold aL
  exact⟨none,0,rfl,Nat.le_refl _,by unfold maxLen;omega,.inl rfl⟩
 ·subst h3
  have hcl : ∀j u,xs[j]?=some u->w.cell? ⟨g,j,none⟩=some u:=by
   intro j u hj;subst ht;simp only[World.cell?,hg];rw[List.getElem?_take] at hj
   split at hj
   ·simpa using hj
   ·cases hj
  unfold aL
  exact⟨_,cap,rfl,hn,hc,.inr ⟨g,0,rfl,hF g hB,(Array.getElem?_eq_some_iff.1 hg).1,aV.rows rows xs 0 (h2.move (.weaken fun _ hb _=>hb.1) _ _) (fun j u hj=>by simpa using hcl j u hj)⟩⟩
def BdG (F:Nat->Prop)(B:Nat)(w:World)(v:Value)(bs:List Bd):Prop:=∃xs,w.ownsRow B 52 3 v bs.length xs∧b4 (fun b=>F b∧v.ownBlock≠some b) w bs xs
theorem BdG.none {F:Nat->Prop}{B:Nat}{w:World}:BdG F B w (.slice none 0 0) []:=⟨[],World.ownsRow_nil w B _ _,rfl⟩
theorem BdG.below {F:Nat->Prop}{B:Nat}{w w':World}{v:Value}{bs:List Bd}(h:BdG F B w v bs)(k:Below w.heap.size w w'):BdG F B w' v bs:=by
 obtain⟨xs,h1,h2⟩:=h
 exact⟨xs,bc h1 k,h2.move (.below k) _ _⟩
theorem BdG.push {F:Nat->Prop}{B:Nat}{W w2:World}{v v':Value}{bs cs:List Bd}{xs ys:List Value}(hv:b4 (fun b=>F b∧v.ownBlock≠some b) W bs xs)(hc:b4 (fun b=>F b∧v.ownBlock≠some b) W cs ys)
  (hown:w2.ownsRow B 52 3 v' (bs.length+cs.length) (xs++ys)) (hgrow:W.grownBy w2 v.ownBlock) (hat:v'.ownBlock=v.ownBlock∨v'.ownBlock=some W.heap.size) :
  BdG F B w2 v' (bs++cs):=by
 have kk:bU (fun b=>F b∧v.ownBlock≠some b) (fun b=>F b∧v'.ownBlock≠some b) W w2:=by
  refine⟨hgrow.size,fun b hb hl=>⟨hb.1,fun e=>?_⟩,fun b hb hl=>hgrow.block b hl (fun e=>hb.2 e.symm)⟩
  rcases hat with h | h
  ·exact hb.2 (h▸e)
  ·rw[h] at e
   simp only[Option.some.injEq] at e
   omega
 exact⟨xs++ys,by simpa using hown,b4.append bs cs xs ys (hv.move kk _ _) (hc.move kk _ _)⟩
theorem BdG.shape {F:Nat->Prop}{B:Nat}{w:World}{v:Value}{bs:List Bd}(h:BdG F B w v bs) : ∃a q,v = .slice a bs.length q:=by
 obtain⟨xs,⟨h1,h2 | ⟨g,cap,cur,h2,hB,hg,hn,hc,hs,ht⟩⟩,-⟩:=h
 ·exact⟨Option.none,0,by rw[h2.1,h2.2]⟩
 ·exact⟨_,cap,h2⟩
theorem BdG.rep {F:Nat->Prop}{B:Nat}{w:World}{v:Value}{bs:List Bd}(h:BdG F B w v bs):aE (fun b=>F b∨B<=b) w bs v:=by
 obtain⟨a,q,rfl⟩:=h.shape;obtain⟨xs,h1,h2⟩:=h;have h1':=h1;obtain⟨hx,h3 | ⟨g,cap,cur,h3,hB,hg,hn,hc,hs,ht⟩⟩:=h1
 ·obtain⟨h3,h4⟩:=h3
  simp only[Value.slice.injEq] at h3;obtain⟨rfl,-,rfl⟩:=h3;have:bs = []:=List.length_eq_zero_iff.1 h4;subst this;unfold aE aL
  exact⟨Option.none,0,rfl,Nat.le_refl _,by unfold maxLen;omega,.inl rfl⟩
 ·simp only[Value.slice.injEq] at h3
  obtain⟨rfl,-,rfl⟩:=h3;have hcl:=dF h1';unfold aE aL;refine⟨_,q,by rw[Bd.rows_length],by rw[Bd.rows_length];exact hn,hc,.inr ⟨g,0,rfl,.inr hB,(Array.getElem?_eq_some_iff.1 hg).1,?_⟩⟩
  exact b4.rows bs xs 0 (h2.move (.weaken fun _ hb _=>.inl hb.1) _ _) (fun j u hj=>by simpa using hcl j u hj)
def RetMG (F:Nat->Prop)(l:List Bd)(w:World)(e:Ending)(w':World):Prop:=∃a q,e = .returned (.slice a l.length q)∧BdG (fun x=>F x∧x<w.heap.size) w.heap.size w' (.slice a l.length q) l∧Below w.heap.size w w'
theorem kv (F:Nat->Prop)(w:World):Calls Try.prog 27 #[.slice none 0 0] w (RetMG F [] w):=by
 have hE:=fun(w:World) (a:Option Addr) (n c:Nat)=>Lib.run_eql_slice_nil (P:=Try.prog) w 49 52 a n c 0 0 Try.underlying49
 go_enter Try.func27,Try.ntmps27
 go_wp2_with fail
 go_ret
 exact⟨_,_,rfl,BdG.none,Below.refl _ _⟩
theorem nK (F:Nat->Prop)(l:List Bd)(ad:Addr)(n q:Nat)(w:World)(hy:aE F w l (.slice (some ad) n q))(hl:l.length<=1000000):Calls Try.prog 27 #[.slice (some ad) n q] w (RetMG F l w):=by
 obtain⟨i0,hi,hz0,hz1,hz2⟩:=info_parts Try.infoBdC;have Z0:=zq hz0;have Z1:=zq hz1;have Z2:=zq hz2;have HI:=zq hi;have hn:=hy.n_eq;obtain⟨a',q',he,hq1,hq2,-⟩:=hy.open;simp only[Value.slice.injEq] at he;obtain⟨rfl,-,rfl⟩:=he;unfold maxLen at hq2;have HN:=zq hn;have hl':n<=1000000:=by omega
 rw[<-hn] at hq1;obtain⟨ad1',xs,ha1,X1,X2,X3⟩ : ∃ad' xs,some ad=some ad'∧b4 (fun b=>(F b∧b<w.heap.size)∧(Value.slice (some ⟨w.heap.size,0,none⟩) 0 0).ownBlock≠some b) (w.alloc (.cells #[] 52)) l xs∧(∀j u,xs[j]?=some u->(w.alloc (.cells #[] 52)).cell? (ad'.add j)=some u)∧∀u∈xs,u.oneCell'=true:=by
  have h0:=((hy.move (.weaken (G:=fun b=>F b∧b<w.heap.size) fun b hb hl=>⟨hb,hl⟩)).below ag (w':=w.alloc (.cells #[] 52))).move (.weaken (G:=fun b=>(F b∧b<w.heap.size)∧(Value.slice (some ⟨w.heap.size,0,none⟩) 0 0).ownBlock≠some b) fun b hb _=>⟨hb,fun e=>by simp[Value.ownBlock] at e;have:=hb.2;omega⟩)
  exact h0.cellsAny
 obtain rfl:ad=ad1':=by simpa using ha1
 have HX1:=zq X1;have HX2:=zq X2;have HX3:=zq X3;have HXL:=zq (show xs.length=n*3 by rw[X1.len,hn]);have hnil:BdM w.heap.size (w.alloc (.cells #[] 52)) (.slice (some ⟨w.heap.size,0,none⟩) 0 0) []:=BdM.nil (Nat.le_refl _) (heap_alloc_new w _) rfl;obtain⟨xs0,ho0,hv0⟩:=hnil;obtain rfl:xs0 = []:=hv0;have HO0:=zq ho0;clear X1 X2 X3 ha1 ho0 hi hz0 hz1 hz2 hn hy;have hE:=fun(w:World) (a:Option Addr) (n c:Nat)=>Lib.run_eql_slice_nil (P:=Try.prog) w 49 52 a n c 0 0 Try.underlying49
 go_enter Try.func27,Try.ntmps27
 go_wp2_with (first | (at_builtin;refine wpList_append_own_at _ rfl (.tmp 5) (.tmp 6) 49 rfl w.heap.size 52 i0 _ 3 48 Try.underlying49 HI.out Z0.out Z1.out Z2.out rfl (by omega) (.slice (some ⟨w.heap.size,0,none⟩) 0 0) 0 [] rfl HO0.out ad n q xs rfl HXL.out HX2.out HX3.out (by unfold maxLen;omega) (by omega) (by simp) ?_) | fail)
 intro v5 w5 hown hgrow _ hat;have hM5:BdG (fun x=>F x∧x<w.heap.size) w.heap.size w5 v5 l:=by
  have:=BdG.push (F:=fun x=>F x∧x<w.heap.size) (B:=w.heap.size) (W:=w.alloc (.cells #[] 52)) (w2:=w5) (v:=.slice (some ⟨w.heap.size,0,none⟩) 0 0) (v':=v5) (bs:= []) (cs:=l) (xs:= []) (ys:=xs) rfl HX1.out (by simpa [HN.out] using hown) hgrow (by simpa using hat)
  simpa using this
 have hb45:Below w.heap.size w w5:=Below.grown ag hgrow (by simp) (fun k hk=>by simp[Value.ownBlock] at hk;omega);obtain⟨c5,q5,rfl⟩:=hM5.shape;have HM5:=zq hM5;have HB:=zq hb45;clear hown hgrow hat hM5 hb45
 go_wp2_with fail
 go_ret
 exact⟨_,_,rfl,HM5.out,HB.out⟩
def gT (Q:Nat->Prop)(l:List Bd)(w:World)(e:Ending)(w':World):Prop:=∃(a:Addr) (m q:Nat),e = .returned (.slice (some a) m q)∧aE (fun x=>(Q x∧x<w.heap.size)∨w.heap.size<=x) w' l (.slice (some a) m q)∧Below w.heap.size w w'
theorem eh (Q:Nat->Prop)(l:List Bd)(ad:Addr)(n q:Nat)(nm:ByteArray)(ty:Ty)(tk:Int)(ta:Option Addr)(tn tq:Nat)(w:World)(hy:aE Q w l (.slice (some ad) n q))(hl:l.length<=1000000)(hl1:1<=l.length)(hnm:nm.size<=maxLen)(ht:ai Q w ty (.agg #[.int .i64 tk,.slice ta tn tq])) :
  Calls Try.prog 32 #[.slice (some ad) n q,.string nm,.agg #[.int .i64 tk,.slice ta tn tq]] w (gT Q (l ++ [⟨nm,ty⟩]) w):=by
 obtain⟨i0,hi,hz0,hz1,hz2⟩:=info_parts Try.infoBdC;have Z0:=zq hz0;have Z1:=zq hz1;have Z2:=zq hz2;have HI:=zq hi;have hn:=hy.n_eq;have HN:=zq hn.symm;have hn1:0<n:=by omega
 have hn2:n<=1000000:=by omega
 have HY:=zq (hy.move (.weaken (G:=(fun x=>Q x∧x<w.heap.size)) fun b h hl=>⟨h,hl⟩));have HT:=zq (ht.move (.weaken (G:=(fun x=>Q x∧x<w.heap.size)) fun b h hl=>⟨h,hl⟩));clear hi hz0 hz1 hz2 hn hy ht
 go_enter Try.func32,Try.ntmps32
 go_wp2_with fail
 have fB:(w.alloc (.cells #[.int .i64 tk,.slice ta tn tq] 25)).heap[w.heap.size]?=some (.cells #[.int .i64 tk,.slice ta tn tq] 25 (0,0)):=aA rfl;have fC:=zq (show Below w.heap.size w (w.alloc (.cells #[.int .i64 tk,.slice ta tn tq] 25)) from ag);refine wp_region_noPanic ?_;refine wp_region_held_drew (S:=fun w'=>w'.cell? ⟨w.heap.size,0,none⟩=some (.int .i64 tk)∧w'.cell? ⟨w.heap.size,1,none⟩=some (.slice ta tn tq)) (by kernel_rfl) ?_ (fun hH0=>?_)
 ·exact⟨ap (ah fB (o:=0) rfl),ap (ah fB (o:=1) rfl)⟩
 obtain⟨U,hU⟩ : ∃X:World,X=World.drew (w.alloc (.cells #[.int .i64 tk,.slice ta tn tq] 25)):=⟨_,rfl⟩
 have fB':U.heap[w.heap.size]?=some (.cells #[.int .i64 tk,.slice ta tn tq] 25 (0,0)):=by rw[hU];exact fB
 have fC':=zq (show Below w.heap.size w U from by rw[hU];exact fC.out.drew);have zU:U.heap.size=w.heap.size+1:=by rw[hU];simp
 rw[<-hU] at hH0 ⊢;have zUa:w.heap.size+1<=U.heap.size:=by omega
 have zUb:U.heap.size<=w.heap.size+1:=by omega
 clear zU;clear hU fB fC;have fB:=fB';have fC:=fC';clear fB' fC';refine hwq hx1 (.slice (some ad) n q) hH0 ?_;refine hwq hx3 (.string nm) hH0 ?_;refine hwq hx4 (.agg #[.int .i64 tk,.slice ta tn tq]) hH0 ?_;refine hwq hx5 (.agg #[.string nm,.int .i64 tk,.slice ta tn tq]) hH0 ?_;refine wpAnyH_ready (rs:= [0,6]) (by kernel_rfl) (by simp) ?_;refine(AllReadyH.cons hx0 (fun K hK=>?_) (AllReadyH.cons hx6 (fun K hK=>?_) AllReadyH.nil))
 ·skip
  try dsimp only
  go_simp
  (try go_wp2_with fail);have fE2:(U.alloc (.cells #[] 52)).heap[U.heap.size]?=some (.cells #[] 52 (0,0)):=aA rfl;have fB2:=a9 fB (ag (o:=.cells #[] 52));have fC2:=zq (al fC.out (ag (o:=.cells #[] 52)));have hzW2:(U.alloc (.cells #[] 52)).heap.size=U.heap.size+1:=by simp
  refine hko hK (fun hH1=>?_);clear hK K hH0 fB fC
  try simp only[hwA]
  obtain⟨X1,hWW⟩ : ∃X:World,X=(U.alloc (.cells #[] 52)):=⟨_,rfl⟩
  rw[<-hWW] at fB2 fC2 fE2 hzW2 hH1 ⊢;clear hWW;have fB:=fB2;have fC:=fC2;have fE:=fE2;clear fB2 fC2 fE2;have zX1a:U.heap.size+1<=X1.heap.size:=by omega
  have zX1b:X1.heap.size<=U.heap.size+1:=by omega
  clear hzW2;refine wpAnyH_ready (rs:= [2,6]) (by kernel_rfl) (by simp) ?_;refine(AllReadyH.cons hx2 (fun K hK=>?_) (AllReadyH.cons hx6 (fun K hK=>?_) AllReadyH.nil))
  ·skip
   obtain⟨xs0,ho0,hv0⟩:BdM U.heap.size X1 (.slice (some ⟨U.heap.size,0,none⟩) 0 0) []:=BdM.nil (Nat.le_refl _) fE rfl;obtain rfl:xs0 = []:=hv0;have hlg:w.heap.size<=U.heap.size:=by have:=fC.out.size;omega
   obtain⟨ad1',xs,ha1,Y1,Y2,Y3⟩ : ∃ad' xs,some ad=some ad'∧b4 (fun b=>(Q b∧b<w.heap.size)∧(Value.slice (some ⟨U.heap.size,0,none⟩) 0 0).ownBlock≠some b) X1 l xs∧(∀j u,xs[j]?=some u->X1.cell? (ad'.add j)=some u)∧∀u∈xs,u.oneCell'=true:=by
    have h0:=(HY.out.below fC.out).move (.weaken (G:=fun b=>(Q b∧b<w.heap.size)∧(Value.slice (some ⟨U.heap.size,0,none⟩) 0 0).ownBlock≠some b) fun b hb _=>⟨hb,fun e=>by simp[Value.ownBlock] at e;have:=hb.2;omega⟩)
    exact h0.cellsAny
   obtain rfl:ad=ad1':=by simpa using ha1
   have hxl:xs.length=n*3:=by rw[Y1.len,HN.out]
   refine step_append_lies _ (by rfl) (.tmp 7) (.tmp 8) 49 (by rfl) U.heap.size 52 i0 _ 3 48 Try.underlying49 HI.out Z0.out Z1.out Z2.out rfl (by omega) (.slice (some ⟨U.heap.size,0,none⟩) 0 0) 0 [] (by rfl) ho0 ad n q xs (by rfl) hxl Y2 Y3 hn1 (by unfold maxLen;omega) (by omega) (by omega) _ rfl ?_;intro gg cap w5 hown hgrow hat hlt2;simp only[Nat.zero_add] at hown ⊢;have MM2:=zq (show BdG (fun x=>Q x∧x<w.heap.size) U.heap.size w5 (.slice (some ⟨gg,0,none⟩) n cap) ([]++l) from BdG.push (F:=(fun x=>Q x∧x<w.heap.size)) (W:=X1) (v:=(.slice (some ⟨U.heap.size,0,none⟩) 0 0)) (bs:= []) (cs:=l) (xs:= []) (ys:=xs) rfl Y1 (by simpa [HN.out] using hown) hgrow (by rcases hat with h | h;exact .inl (h.symm▸rfl);exact .inr (by rw[h];rfl)));have hb45:Below U.heap.size X1 w5:=Below.grown (Below.refl _ _) hgrow (by omega) (fun k hk=>by simp[Value.ownBlock] at hk;omega);have fC2:=zq (fC.out.trans (hb45.mono hlg));have fB2:w5.heap[w.heap.size]?=some (.cells #[.int .i64 tk,.slice ta tn tq] 25 (0,0)):=(hb45.block _ (by omega)).trans fB;have z5:X1.heap.size<=w5.heap.size:=hgrow.size;refine hko hK (fun hH2=>?_);clear hK K hH1 fB fC fE ho0 Y1 Y2 Y3 hown hgrow hat ha1 hxl hb45
   try simp only[hwA]
   have MM:=MM2;have fC:=fC2;have fB:=fB2;clear MM2 fC2 fB2;refine hwe hx6 (fun K hK=>?_)
   ·skip
    try dsimp only
    go_simp
    (try go_wp2_with fail);have fN2:(w5.alloc (.cells #[.string nm,.int .i64 tk,.slice ta tn tq] 52)).heap[w5.heap.size]?=some (.cells #[.string nm,.int .i64 tk,.slice ta tn tq] 52 (0,0)):=aA rfl;have MM2:=zq (MM.out.below (ag (o:=.cells #[.string nm,.int .i64 tk,.slice ta tn tq] 52)));have fB2:=a9 fB (ag (o:=.cells #[.string nm,.int .i64 tk,.slice ta tn tq] 52));have fC2:=zq (al fC.out (ag (o:=.cells #[.string nm,.int .i64 tk,.slice ta tn tq] 52)));have hzW2:(w5.alloc (.cells #[.string nm,.int .i64 tk,.slice ta tn tq] 52)).heap.size=w5.heap.size+1:=by simp
    refine hko hK (fun hH3=>?_);clear hK K hH2 fB fC MM
    try simp only[hwA]
    obtain⟨X3,hWW⟩ : ∃X:World,X=(w5.alloc (.cells #[.string nm,.int .i64 tk,.slice ta tn tq] 52)):=⟨_,rfl⟩
    rw[<-hWW] at fB2 fC2 fN2 MM2 hzW2 hH3 ⊢;clear hWW;have fB:=fB2;have fC:=fC2;have fN:=fN2;have MM:=MM2;clear fB2 fC2 fN2 MM2;have zX3a:w5.heap.size+1<=X3.heap.size:=by omega
    have zX3b:X3.heap.size<=w5.heap.size+1:=by omega
    clear hzW2;refine hwe hx7 (fun K hK=>?_)
    ·skip
     obtain⟨xs5,ho5,hv5⟩:=MM.out;have hv1:b4 (fun b=>(Q b∧b<w.heap.size)∧(Value.slice (some ⟨gg,0,none⟩) n cap).ownBlock≠some b) X3 [⟨nm,ty⟩] [.string nm,.int .i64 tk,.slice ta tn tq]:=cL hnm ((HT.out.below fC.out).move (.weaken fun b hb _=>⟨hb,fun e=>by have:=(ho5.lt b e).1;have:=hb.2;omega⟩));refine step_append_lies _ (by rfl) (.tmp 9) (.tmp 13) 49 (by rfl) U.heap.size 52 i0 _ 3 48 Try.underlying49 HI.out Z0.out Z1.out Z2.out rfl (by omega) (.slice (some ⟨gg,0,none⟩) n cap) n xs5 (by rfl) (by simpa [HN.out] using ho5) ⟨w5.heap.size,0,none⟩ 1 1 [.string nm,.int .i64 tk,.slice ta tn tq] (by rfl) (by rfl) (World.news_of_block (cs:=#[.string nm,.int .i64 tk,.slice ta tn tq]) (t:=52) (fr:=(0,0)) fN) (by simp[Value.oneCell']) (by omega) (by unfold maxLen;omega) (by omega) (by omega) _ rfl ?_;intro g6 cap6 w6 hown hgrow hat hlt3;have M6:BdG (fun x=>Q x∧x<w.heap.size) U.heap.size w6 (.slice (some ⟨g6,0,none⟩) (n+1) cap6) (([]++l) ++ [⟨nm,ty⟩]):=BdG.push (F:=(fun x=>Q x∧x<w.heap.size)) (W:=X3) (v:=(.slice (some ⟨gg,0,none⟩) n cap)) hv5 hv1 (by simpa [HN.out] using hown) hgrow (by rcases hat with h | h;exact .inl (h.symm▸rfl);exact .inr (by rw[h];rfl));have RF:=zq (show aE (fun x=>(Q x∧x<w.heap.size)∨w.heap.size<=x) w6 (l ++ [⟨nm,ty⟩]) (.slice (some ⟨g6,0,none⟩) (n+1) cap6) from M6.rep.move (.weaken fun b h _=>h.imp id fun q=>by have:=fC.out.size;omega));have hb56:Below U.heap.size X3 w6:=Below.grown (Below.refl _ _) hgrow (by omega) (fun k hk=>(ho5.lt k hk).1);have fC2:=zq (fC.out.trans (hb56.mono hlg));have fB2:w6.heap[w.heap.size]?=some (.cells #[.int .i64 tk,.slice ta tn tq] 25 (0,0)):=(hb56.block _ (by omega)).trans fB;refine hko hK (fun hH4=>?_);clear hK K hH3 fB fC fN ho5 hv5 hv1 hown hgrow hat M6 hb56 MM
     try simp only[hwA]
     have fC:=fC2;have fB:=fB2;clear fC2 fB2;refine hwq hx8 (.slice (some ⟨g6,0,none⟩) (n+1) cap6) hH4 ?_;refine hwd ?_;clear hH4
     go_wp2_with fail
     go_ret
     exact⟨_,_,_,rfl,RF.out,fC.out⟩
  ·skip
   try dsimp only
   go_simp
   (try go_wp2_with fail);have fN2:(X1.alloc (.cells #[.string nm,.int .i64 tk,.slice ta tn tq] 52)).heap[X1.heap.size]?=some (.cells #[.string nm,.int .i64 tk,.slice ta tn tq] 52 (0,0)):=aA rfl;have fE2:=a9 fE (ag (o:=.cells #[.string nm,.int .i64 tk,.slice ta tn tq] 52));have fB2:=a9 fB (ag (o:=.cells #[.string nm,.int .i64 tk,.slice ta tn tq] 52));have fC2:=zq (al fC.out (ag (o:=.cells #[.string nm,.int .i64 tk,.slice ta tn tq] 52)));have hzW2:(X1.alloc (.cells #[.string nm,.int .i64 tk,.slice ta tn tq] 52)).heap.size=X1.heap.size+1:=by simp
   refine hko hK (fun hH2=>?_);clear hK K hH1 fB fC fE
   try simp only[hwA]
   obtain⟨X2,hWW⟩ : ∃X:World,X=(X1.alloc (.cells #[.string nm,.int .i64 tk,.slice ta tn tq] 52)):=⟨_,rfl⟩
   rw[<-hWW] at fB2 fC2 fE2 fN2 hzW2 hH2 ⊢;clear hWW;have fB:=fB2;have fC:=fC2;have fE:=fE2;have fN:=fN2;clear fB2 fC2 fE2 fN2;have zX2a:X1.heap.size+1<=X2.heap.size:=by omega
   have zX2b:X2.heap.size<=X1.heap.size+1:=by omega
   clear hzW2;refine hwe hx2 (fun K hK=>?_)
   ·skip
    obtain⟨xs0,ho0,hv0⟩:BdM U.heap.size X2 (.slice (some ⟨U.heap.size,0,none⟩) 0 0) []:=BdM.nil (Nat.le_refl _) fE rfl;obtain rfl:xs0 = []:=hv0;have hlg:w.heap.size<=U.heap.size:=by have:=fC.out.size;omega
    obtain⟨ad1',xs,ha1,Y1,Y2,Y3⟩ : ∃ad' xs,some ad=some ad'∧b4 (fun b=>(Q b∧b<w.heap.size)∧(Value.slice (some ⟨U.heap.size,0,none⟩) 0 0).ownBlock≠some b) X2 l xs∧(∀j u,xs[j]?=some u->X2.cell? (ad'.add j)=some u)∧∀u∈xs,u.oneCell'=true:=by
     have h0:=(HY.out.below fC.out).move (.weaken (G:=fun b=>(Q b∧b<w.heap.size)∧(Value.slice (some ⟨U.heap.size,0,none⟩) 0 0).ownBlock≠some b) fun b hb _=>⟨hb,fun e=>by simp[Value.ownBlock] at e;have:=hb.2;omega⟩)
     exact h0.cellsAny
    obtain rfl:ad=ad1':=by simpa using ha1
    have hxl:xs.length=n*3:=by rw[Y1.len,HN.out]
    refine step_append_lies _ (by rfl) (.tmp 7) (.tmp 8) 49 (by rfl) U.heap.size 52 i0 _ 3 48 Try.underlying49 HI.out Z0.out Z1.out Z2.out rfl (by omega) (.slice (some ⟨U.heap.size,0,none⟩) 0 0) 0 [] (by rfl) ho0 ad n q xs (by rfl) hxl Y2 Y3 hn1 (by unfold maxLen;omega) (by omega) (by omega) _ rfl ?_;intro gg cap w5 hown hgrow hat hlt2;simp only[Nat.zero_add] at hown ⊢;have MM2:=zq (show BdG (fun x=>Q x∧x<w.heap.size) U.heap.size w5 (.slice (some ⟨gg,0,none⟩) n cap) ([]++l) from BdG.push (F:=(fun x=>Q x∧x<w.heap.size)) (W:=X2) (v:=(.slice (some ⟨U.heap.size,0,none⟩) 0 0)) (bs:= []) (cs:=l) (xs:= []) (ys:=xs) rfl Y1 (by simpa [HN.out] using hown) hgrow (by rcases hat with h | h;exact .inl (h.symm▸rfl);exact .inr (by rw[h];rfl)));have hb45:Below U.heap.size X2 w5:=Below.grown (Below.refl _ _) hgrow (by omega) (fun k hk=>by simp[Value.ownBlock] at hk;omega);have fC2:=zq (fC.out.trans (hb45.mono hlg));have fB2:w5.heap[w.heap.size]?=some (.cells #[.int .i64 tk,.slice ta tn tq] 25 (0,0)):=(hb45.block _ (by omega)).trans fB;have fN2:w5.heap[X1.heap.size]?=some (.cells #[.string nm,.int .i64 tk,.slice ta tn tq] 52 (0,0)):=(hgrow.block _ (aw fN) (by simp[Value.ownBlock];omega)).trans fN;have z5:X2.heap.size<=w5.heap.size:=hgrow.size;refine hko hK (fun hH5=>?_);clear hK K hH2 fB fC fE fN ho0 Y1 Y2 Y3 hown hgrow hat ha1 hxl hb45
    try simp only[hwA]
    have MM:=MM2;have fC:=fC2;have fB:=fB2;have fN:=fN2;clear MM2 fC2 fB2 fN2;refine hwe hx7 (fun K hK=>?_)
    ·skip
     obtain⟨xs5,ho5,hv5⟩:=MM.out;have hv1:b4 (fun b=>(Q b∧b<w.heap.size)∧(Value.slice (some ⟨gg,0,none⟩) n cap).ownBlock≠some b) w5 [⟨nm,ty⟩] [.string nm,.int .i64 tk,.slice ta tn tq]:=cL hnm ((HT.out.below fC.out).move (.weaken fun b hb _=>⟨hb,fun e=>by have:=(ho5.lt b e).1;have:=hb.2;omega⟩));refine step_append_lies _ (by rfl) (.tmp 9) (.tmp 13) 49 (by rfl) U.heap.size 52 i0 _ 3 48 Try.underlying49 HI.out Z0.out Z1.out Z2.out rfl (by omega) (.slice (some ⟨gg,0,none⟩) n cap) n xs5 (by rfl) (by simpa [HN.out] using ho5) ⟨X1.heap.size,0,none⟩ 1 1 [.string nm,.int .i64 tk,.slice ta tn tq] (by rfl) (by rfl) (World.news_of_block (cs:=#[.string nm,.int .i64 tk,.slice ta tn tq]) (t:=52) (fr:=(0,0)) fN) (by simp[Value.oneCell']) (by omega) (by unfold maxLen;omega) (by omega) (by omega) _ rfl ?_;intro g6 cap6 w6 hown hgrow hat hlt3;have M6:BdG (fun x=>Q x∧x<w.heap.size) U.heap.size w6 (.slice (some ⟨g6,0,none⟩) (n+1) cap6) (([]++l) ++ [⟨nm,ty⟩]):=BdG.push (F:=(fun x=>Q x∧x<w.heap.size)) (W:=w5) (v:=(.slice (some ⟨gg,0,none⟩) n cap)) hv5 hv1 (by simpa [HN.out] using hown) hgrow (by rcases hat with h | h;exact .inl (h.symm▸rfl);exact .inr (by rw[h];rfl));have RF:=zq (show aE (fun x=>(Q x∧x<w.heap.size)∨w.heap.size<=x) w6 (l ++ [⟨nm,ty⟩]) (.slice (some ⟨g6,0,none⟩) (n+1) cap6) from M6.rep.move (.weaken fun b h _=>h.imp id fun q=>by have:=fC.out.size;omega));have hb56:Below U.heap.size w5 w6:=Below.grown (Below.refl _ _) hgrow (by omega) (fun k hk=>(ho5.lt k hk).1);have fC2:=zq (fC.out.trans (hb56.mono hlg));have fB2:w6.heap[w.heap.size]?=some (.cells #[.int .i64 tk,.slice ta tn tq] 25 (0,0)):=(hb56.block _ (by omega)).trans fB;refine hko hK (fun hH6=>?_);clear hK K hH5 fB fC fN ho5 hv5 hv1 hown hgrow hat M6 hb56 MM
     try simp only[hwA]
     have fC:=fC2;have fB:=fB2;clear fC2 fB2;refine hwq hx8 (.slice (some ⟨g6,0,none⟩) (n+1) cap6) hH6 ?_;refine hwd ?_;clear hH6
     go_wp2_with fail
     go_ret
     exact⟨_,_,_,rfl,RF.out,fC.out⟩
 ·skip
  try dsimp only
  go_simp
  (try go_wp2_with fail);have fN2:(U.alloc (.cells #[.string nm,.int .i64 tk,.slice ta tn tq] 52)).heap[U.heap.size]?=some (.cells #[.string nm,.int .i64 tk,.slice ta tn tq] 52 (0,0)):=aA rfl;have fB2:=a9 fB (ag (o:=.cells #[.string nm,.int .i64 tk,.slice ta tn tq] 52));have fC2:=zq (al fC.out (ag (o:=.cells #[.string nm,.int .i64 tk,.slice ta tn tq] 52)));have hzW2:(U.alloc (.cells #[.string nm,.int .i64 tk,.slice ta tn tq] 52)).heap.size=U.heap.size+1:=by simp
  refine hko hK (fun hH1=>?_);clear hK K hH0 fB fC
  try simp only[hwA]
  obtain⟨X1,hWW⟩ : ∃X:World,X=(U.alloc (.cells #[.string nm,.int .i64 tk,.slice ta tn tq] 52)):=⟨_,rfl⟩
  rw[<-hWW] at fB2 fC2 fN2 hzW2 hH1 ⊢;clear hWW;have fB:=fB2;have fC:=fC2;have fN:=fN2;clear fB2 fC2 fN2;have zX1a:U.heap.size+1<=X1.heap.size:=by omega
  have zX1b:X1.heap.size<=U.heap.size+1:=by omega
  clear hzW2;refine hwe hx0 (fun K hK=>?_)
  ·skip
   try dsimp only
   go_simp
   (try go_wp2_with fail);have fE2:(X1.alloc (.cells #[] 52)).heap[X1.heap.size]?=some (.cells #[] 52 (0,0)):=aA rfl;have fN2:=a9 fN (ag (o:=.cells #[] 52));have fB2:=a9 fB (ag (o:=.cells #[] 52));have fC2:=zq (al fC.out (ag (o:=.cells #[] 52)));have hzW2:(X1.alloc (.cells #[] 52)).heap.size=X1.heap.size+1:=by simp
   refine hko hK (fun hH7=>?_);clear hK K hH1 fB fC fN
   try simp only[hwA]
   obtain⟨X7,hWW⟩ : ∃X:World,X=(X1.alloc (.cells #[] 52)):=⟨_,rfl⟩
   rw[<-hWW] at fB2 fC2 fE2 fN2 hzW2 hH7 ⊢;clear hWW;have fB:=fB2;have fC:=fC2;have fE:=fE2;have fN:=fN2;clear fB2 fC2 fE2 fN2;have zX7a:X1.heap.size+1<=X7.heap.size:=by omega
   have zX7b:X7.heap.size<=X1.heap.size+1:=by omega
   clear hzW2;refine hwe hx2 (fun K hK=>?_)
   ·skip
    obtain⟨xs0,ho0,hv0⟩:BdM X1.heap.size X7 (.slice (some ⟨X1.heap.size,0,none⟩) 0 0) []:=BdM.nil (Nat.le_refl _) fE rfl;obtain rfl:xs0 = []:=hv0;have hlg:w.heap.size<=X1.heap.size:=by have:=fC.out.size;omega
    obtain⟨ad1',xs,ha1,Y1,Y2,Y3⟩ : ∃ad' xs,some ad=some ad'∧b4 (fun b=>(Q b∧b<w.heap.size)∧(Value.slice (some ⟨X1.heap.size,0,none⟩) 0 0).ownBlock≠some b) X7 l xs∧(∀j u,xs[j]?=some u->X7.cell? (ad'.add j)=some u)∧∀u∈xs,u.oneCell'=true:=by
     have h0:=(HY.out.below fC.out).move (.weaken (G:=fun b=>(Q b∧b<w.heap.size)∧(Value.slice (some ⟨X1.heap.size,0,none⟩) 0 0).ownBlock≠some b) fun b hb _=>⟨hb,fun e=>by simp[Value.ownBlock] at e;have:=hb.2;omega⟩)
     exact h0.cellsAny
    obtain rfl:ad=ad1':=by simpa using ha1
    have hxl:xs.length=n*3:=by rw[Y1.len,HN.out]
    refine step_append_lies _ (by rfl) (.tmp 7) (.tmp 8) 49 (by rfl) X1.heap.size 52 i0 _ 3 48 Try.underlying49 HI.out Z0.out Z1.out Z2.out rfl (by omega) (.slice (some ⟨X1.heap.size,0,none⟩) 0 0) 0 [] (by rfl) ho0 ad n q xs (by rfl) hxl Y2 Y3 hn1 (by unfold maxLen;omega) (by omega) (by omega) _ rfl ?_;intro gg cap w5 hown hgrow hat hlt2;simp only[Nat.zero_add] at hown ⊢;have MM2:=zq (show BdG (fun x=>Q x∧x<w.heap.size) X1.heap.size w5 (.slice (some ⟨gg,0,none⟩) n cap) ([]++l) from BdG.push (F:=(fun x=>Q x∧x<w.heap.size)) (W:=X7) (v:=(.slice (some ⟨X1.heap.size,0,none⟩) 0 0)) (bs:= []) (cs:=l) (xs:= []) (ys:=xs) rfl Y1 (by simpa [HN.out] using hown) hgrow (by rcases hat with h | h;exact .inl (h.symm▸rfl);exact .inr (by rw[h];rfl)));have hb45:Below X1.heap.size X7 w5:=Below.grown (Below.refl _ _) hgrow (by omega) (fun k hk=>by simp[Value.ownBlock] at hk;omega);have fC2:=zq (fC.out.trans (hb45.mono hlg));have fB2:w5.heap[w.heap.size]?=some (.cells #[.int .i64 tk,.slice ta tn tq] 25 (0,0)):=(hb45.block _ (by omega)).trans fB;have fN2:w5.heap[U.heap.size]?=some (.cells #[.string nm,.int .i64 tk,.slice ta tn tq] 52 (0,0)):=(hgrow.block _ (aw fN) (by simp[Value.ownBlock];omega)).trans fN;have z5:X7.heap.size<=w5.heap.size:=hgrow.size;refine hko hK (fun hH8=>?_);clear hK K hH7 fB fC fE fN ho0 Y1 Y2 Y3 hown hgrow hat ha1 hxl hb45
    try simp only[hwA]
    have MM:=MM2;have fC:=fC2;have fB:=fB2;have fN:=fN2;clear MM2 fC2 fB2 fN2;refine hwe hx7 (fun K hK=>?_)
    ·skip
     obtain⟨xs5,ho5,hv5⟩:=MM.out;have hv1:b4 (fun b=>(Q b∧b<w.heap.size)∧(Value.slice (some ⟨gg,0,none⟩) n cap).ownBlock≠some b) w5 [⟨nm,ty⟩] [.string nm,.int .i64 tk,.slice ta tn tq]:=cL hnm ((HT.out.below fC.out).move (.weaken fun b hb _=>⟨hb,fun e=>by have:=(ho5.lt b e).1;have:=hb.2;omega⟩));refine step_append_lies _ (by rfl) (.tmp 9) (.tmp 13) 49 (by rfl) X1.heap.size 52 i0 _ 3 48 Try.underlying49 HI.out Z0.out Z1.out Z2.out rfl (by omega) (.slice (some ⟨gg,0,none⟩) n cap) n xs5 (by rfl) (by simpa [HN.out] using ho5) ⟨U.heap.size,0,none⟩ 1 1 [.string nm,.int .i64 tk,.slice ta tn tq] (by rfl) (by rfl) (World.news_of_block (cs:=#[.string nm,.int .i64 tk,.slice ta tn tq]) (t:=52) (fr:=(0,0)) fN) (by simp[Value.oneCell']) (by omega) (by unfold maxLen;omega) (by omega) (by omega) _ rfl ?_;intro g6 cap6 w6 hown hgrow hat hlt3;have M6:BdG (fun x=>Q x∧x<w.heap.size) X1.heap.size w6 (.slice (some ⟨g6,0,none⟩) (n+1) cap6) (([]++l) ++ [⟨nm,ty⟩]):=BdG.push (F:=(fun x=>Q x∧x<w.heap.size)) (W:=w5) (v:=(.slice (some ⟨gg,0,none⟩) n cap)) hv5 hv1 (by simpa [HN.out] using hown) hgrow (by rcases hat with h | h;exact .inl (h.symm▸rfl);exact .inr (by rw[h];rfl));have RF:=zq (show aE (fun x=>(Q x∧x<w.heap.size)∨w.heap.size<=x) w6 (l ++ [⟨nm,ty⟩]) (.slice (some ⟨g6,0,none⟩) (n+1) cap6) from M6.rep.move (.weaken fun b h _=>h.imp id fun q=>by have:=fC.out.size;omega));have hb56:Below X1.heap.size w5 w6:=Below.grown (Below.refl _ _) hgrow (by omega) (fun k hk=>(ho5.lt k hk).1);have fC2:=zq (fC.out.trans (hb56.mono hlg));have fB2:w6.heap[w.heap.size]?=some (.cells #[.int .i64 tk,.slice ta tn tq] 25 (0,0)):=(hb56.block _ (by omega)).trans fB;refine hko hK (fun hH9=>?_);clear hK K hH8 fB fC fN ho5 hv5 hv1 hown hgrow hat M6 hb56 MM
     try simp only[hwA]
     have fC:=fC2;have fB:=fB2;clear fC2 fB2;refine hwq hx8 (.slice (some ⟨g6,0,none⟩) (n+1) cap6) hH9 ?_;refine hwd ?_;clear hH9
     go_wp2_with fail
     go_ret
     exact⟨_,_,_,rfl,RF.out,fC.out⟩
theorem dH (Q:Nat->Prop)(nm:ByteArray)(ty:Ty)(tk:Int)(ta:Option Addr)(tn tq:Nat)(w:World)(hnm:nm.size<=maxLen)(ht:ai Q w ty (.agg #[.int .i64 tk,.slice ta tn tq])) :
  Calls Try.prog 32 #[.slice none 0 0,.string nm,.agg #[.int .i64 tk,.slice ta tn tq]] w (gT Q ([] ++ [⟨nm,ty⟩]) w):=by
 obtain⟨i0,hi,hz0,hz1,hz2⟩:=info_parts Try.infoBdC;have Z0:=zq hz0;have Z1:=zq hz1;have Z2:=zq hz2;have HI:=zq hi;have HN:=zq (show([]:List Bd).length=0 from rfl);have HT:=zq (ht.move (.weaken (G:=(fun x=>Q x∧x<w.heap.size)) fun b h hl=>⟨h,hl⟩));clear hi hz0 hz1 hz2 ht
 go_enter Try.func32,Try.ntmps32
 go_wp2_with fail
 have fB:(w.alloc (.cells #[.int .i64 tk,.slice ta tn tq] 25)).heap[w.heap.size]?=some (.cells #[.int .i64 tk,.slice ta tn tq] 25 (0,0)):=aA rfl;have fC:=zq (show Below w.heap.size w (w.alloc (.cells #[.int .i64 tk,.slice ta tn tq] 25)) from ag);refine wp_region_noPanic ?_;refine wp_region_held_drew (S:=fun w'=>w'.cell? ⟨w.heap.size,0,none⟩=some (.int .i64 tk)∧w'.cell? ⟨w.heap.size,1,none⟩=some (.slice ta tn tq)) (by kernel_rfl) ?_ (fun hH0=>?_)
 ·exact⟨ap (ah fB (o:=0) rfl),ap (ah fB (o:=1) rfl)⟩
 obtain⟨U,hU⟩ : ∃X:World,X=World.drew (w.alloc (.cells #[.int .i64 tk,.slice ta tn tq] 25)):=⟨_,rfl⟩
 have fB':U.heap[w.heap.size]?=some (.cells #[.int .i64 tk,.slice ta tn tq] 25 (0,0)):=by rw[hU];exact fB
 have fC':=zq (show Below w.heap.size w U from by rw[hU];exact fC.out.drew);have zU:U.heap.size=w.heap.size+1:=by rw[hU];simp
 rw[<-hU] at hH0 ⊢;have zUa:w.heap.size+1<=U.heap.size:=by omega
 have zUb:U.heap.size<=w.heap.size+1:=by omega
 clear zU;clear hU fB fC;have fB:=fB';have fC:=fC';clear fB' fC';refine hwq hx1 (.slice none 0 0) hH0 ?_;refine hwq hx3 (.string nm) hH0 ?_;refine hwq hx4 (.agg #[.int .i64 tk,.slice ta tn tq]) hH0 ?_;refine hwq hx5 (.agg #[.string nm,.int .i64 tk,.slice ta tn tq]) hH0 ?_;refine wpAnyH_ready (rs:= [0,6]) (by kernel_rfl) (by simp) ?_;refine(AllReadyH.cons hx0 (fun K hK=>?_) (AllReadyH.cons hx6 (fun K hK=>?_) AllReadyH.nil))
 ·skip
  try dsimp only
  go_simp
  (try go_wp2_with fail);have fE2:(U.alloc (.cells #[] 52)).heap[U.heap.size]?=some (.cells #[] 52 (0,0)):=aA rfl;have fB2:=a9 fB (ag (o:=.cells #[] 52));have fC2:=zq (al fC.out (ag (o:=.cells #[] 52)));have hzW2:(U.alloc (.cells #[] 52)).heap.size=U.heap.size+1:=by simp
  refine hko hK (fun hH10=>?_);clear hK K hH0 fB fC
  try simp only[hwA]
  obtain⟨X10,hWW⟩ : ∃X:World,X=(U.alloc (.cells #[] 52)):=⟨_,rfl⟩
  rw[<-hWW] at fB2 fC2 fE2 hzW2 hH10 ⊢;clear hWW;have fB:=fB2;have fC:=fC2;have fE:=fE2;clear fB2 fC2 fE2;have zX10a:U.heap.size+1<=X10.heap.size:=by omega
  have zX10b:X10.heap.size<=U.heap.size+1:=by omega
  clear hzW2;refine wpAnyH_ready (rs:= [2,6]) (by kernel_rfl) (by simp) ?_;refine(AllReadyH.cons hx2 (fun K hK=>?_) (AllReadyH.cons hx6 (fun K hK=>?_) AllReadyH.nil))
  ·skip
   obtain⟨xs0,ho0,hv0⟩:BdM U.heap.size X10 (.slice (some ⟨U.heap.size,0,none⟩) 0 0) []:=BdM.nil (Nat.le_refl _) fE rfl;obtain rfl:xs0 = []:=hv0;have hlg:w.heap.size<=U.heap.size:=by have:=fC.out.size;omega
   refine dt () (by rfl) (.tmp 7) (.tmp 8) 49 (by rfl) U.heap.size 52 i0 3 Try.underlying49 HI.out (.slice (some ⟨U.heap.size,0,none⟩) 0 0) 0 [] (by rfl) ho0 (by rfl) ?_;have MM2:=zq (show BdG (fun x=>Q x∧x<w.heap.size) U.heap.size X10 (.slice (some ⟨U.heap.size,0,none⟩) 0 0) [] from⟨[],ho0,rfl⟩);refine hko hK (fun hH11=>?_);clear hK K hH10 fE ho0
   try simp only[hwA]
   have MM:=MM2;clear MM2;refine hwe hx6 (fun K hK=>?_)
   ·skip
    try dsimp only
    go_simp
    (try go_wp2_with fail);have fN2:(X10.alloc (.cells #[.string nm,.int .i64 tk,.slice ta tn tq] 52)).heap[X10.heap.size]?=some (.cells #[.string nm,.int .i64 tk,.slice ta tn tq] 52 (0,0)):=aA rfl;have MM2:=zq (MM.out.below (ag (o:=.cells #[.string nm,.int .i64 tk,.slice ta tn tq] 52)));have fB2:=a9 fB (ag (o:=.cells #[.string nm,.int .i64 tk,.slice ta tn tq] 52));have fC2:=zq (al fC.out (ag (o:=.cells #[.string nm,.int .i64 tk,.slice ta tn tq] 52)));have hzW2:(X10.alloc (.cells #[.string nm,.int .i64 tk,.slice ta tn tq] 52)).heap.size=X10.heap.size+1:=by simp
    refine hko hK (fun hH12=>?_);clear hK K hH11 fB fC MM
    try simp only[hwA]
    obtain⟨X12,hWW⟩ : ∃X:World,X=(X10.alloc (.cells #[.string nm,.int .i64 tk,.slice ta tn tq] 52)):=⟨_,rfl⟩
    rw[<-hWW] at fB2 fC2 fN2 MM2 hzW2 hH12 ⊢;clear hWW;have fB:=fB2;have fC:=fC2;have fN:=fN2;have MM:=MM2;clear fB2 fC2 fN2 MM2;have zX12a:X10.heap.size+1<=X12.heap.size:=by omega
    have zX12b:X12.heap.size<=X10.heap.size+1:=by omega
    clear hzW2;refine hwe hx7 (fun K hK=>?_)
    ·skip
     obtain⟨xs5,ho5,hv5⟩:=MM.out;have hv1:b4 (fun b=>(Q b∧b<w.heap.size)∧(Value.slice (some ⟨U.heap.size,0,none⟩) 0 0).ownBlock≠some b) X12 [⟨nm,ty⟩] [.string nm,.int .i64 tk,.slice ta tn tq]:=cL hnm ((HT.out.below fC.out).move (.weaken fun b hb _=>⟨hb,fun e=>by have:=(ho5.lt b e).1;have:=hb.2;omega⟩));refine step_append_lies _ (by rfl) (.tmp 9) (.tmp 13) 49 (by rfl) U.heap.size 52 i0 _ 3 48 Try.underlying49 HI.out Z0.out Z1.out Z2.out rfl (by omega) (.slice (some ⟨U.heap.size,0,none⟩) 0 0) 0 xs5 (by rfl) (by simpa [HN.out] using ho5) ⟨X10.heap.size,0,none⟩ 1 1 [.string nm,.int .i64 tk,.slice ta tn tq] (by rfl) (by rfl) (World.news_of_block (cs:=#[.string nm,.int .i64 tk,.slice ta tn tq]) (t:=52) (fr:=(0,0)) fN) (by simp[Value.oneCell']) (by omega) (by unfold maxLen;omega) (by omega) (by omega) _ rfl ?_;intro g6 cap6 w6 hown hgrow hat hlt3;have M6:BdG (fun x=>Q x∧x<w.heap.size) U.heap.size w6 (.slice (some ⟨g6,0,none⟩) (0+1) cap6) ([] ++ [⟨nm,ty⟩]):=BdG.push (F:=(fun x=>Q x∧x<w.heap.size)) (W:=X12) (v:=(.slice (some ⟨U.heap.size,0,none⟩) 0 0)) hv5 hv1 (by simpa [HN.out] using hown) hgrow (by rcases hat with h | h;exact .inl (h.symm▸rfl);exact .inr (by rw[h];rfl));have RF:=zq (show aE (fun x=>(Q x∧x<w.heap.size)∨w.heap.size<=x) w6 ([] ++ [⟨nm,ty⟩]) (.slice (some ⟨g6,0,none⟩) (0+1) cap6) from M6.rep.move (.weaken fun b h _=>h.imp id fun q=>by have:=fC.out.size;omega));have hb56:Below U.heap.size X12 w6:=Below.grown (Below.refl _ _) hgrow (by omega) (fun k hk=>(ho5.lt k hk).1);have fC2:=zq (fC.out.trans (hb56.mono hlg));have fB2:w6.heap[w.heap.size]?=some (.cells #[.int .i64 tk,.slice ta tn tq] 25 (0,0)):=(hb56.block _ (by omega)).trans fB;refine hko hK (fun hH13=>?_);clear hK K hH12 fB fC fN ho5 hv5 hv1 hown hgrow hat M6 hb56 MM
     try simp only[hwA]
     have fC:=fC2;have fB:=fB2;clear fC2 fB2;refine hwq hx8 (.slice (some ⟨g6,0,none⟩) (0+1) cap6) hH13 ?_;refine hwd ?_;clear hH13
     go_wp2_with fail
     go_ret
     exact⟨_,_,_,rfl,RF.out,fC.out⟩
  ·skip
   try dsimp only
   go_simp
   (try go_wp2_with fail);have fN2:(X10.alloc (.cells #[.string nm,.int .i64 tk,.slice ta tn tq] 52)).heap[X10.heap.size]?=some (.cells #[.string nm,.int .i64 tk,.slice ta tn tq] 52 (0,0)):=aA rfl;have fE2:=a9 fE (ag (o:=.cells #[.string nm,.int .i64 tk,.slice ta tn tq] 52));have fB2:=a9 fB (ag (o:=.cells #[.string nm,.int .i64 tk,.slice ta tn tq] 52));have fC2:=zq (al fC.out (ag (o:=.cells #[.string nm,.int .i64 tk,.slice ta tn tq] 52)));have hzW2:(X10.alloc (.cells #[.string nm,.int .i64 tk,.slice ta tn tq] 52)).heap.size=X10.heap.size+1:=by simp
   refine hko hK (fun hH11=>?_);clear hK K hH10 fB fC fE
   try simp only[hwA]
   obtain⟨X11,hWW⟩ : ∃X:World,X=(X10.alloc (.cells #[.string nm,.int .i64 tk,.slice ta tn tq] 52)):=⟨_,rfl⟩
   rw[<-hWW] at fB2 fC2 fE2 fN2 hzW2 hH11 ⊢;clear hWW;have fB:=fB2;have fC:=fC2;have fE:=fE2;have fN:=fN2;clear fB2 fC2 fE2 fN2;have zX11a:X10.heap.size+1<=X11.heap.size:=by omega
   have zX11b:X11.heap.size<=X10.heap.size+1:=by omega
   clear hzW2;refine hwe hx2 (fun K hK=>?_)
   ·skip
    obtain⟨xs0,ho0,hv0⟩:BdM U.heap.size X11 (.slice (some ⟨U.heap.size,0,none⟩) 0 0) []:=BdM.nil (Nat.le_refl _) fE rfl;obtain rfl:xs0 = []:=hv0;have hlg:w.heap.size<=U.heap.size:=by have:=fC.out.size;omega
    refine dt () (by rfl) (.tmp 7) (.tmp 8) 49 (by rfl) U.heap.size 52 i0 3 Try.underlying49 HI.out (.slice (some ⟨U.heap.size,0,none⟩) 0 0) 0 [] (by rfl) ho0 (by rfl) ?_;have MM2:=zq (show BdG (fun x=>Q x∧x<w.heap.size) U.heap.size X11 (.slice (some ⟨U.heap.size,0,none⟩) 0 0) [] from⟨[],ho0,rfl⟩);refine hko hK (fun hH14=>?_);clear hK K hH11 fE ho0
    try simp only[hwA]
    have MM:=MM2;clear MM2;refine hwe hx7 (fun K hK=>?_)
    ·skip
     obtain⟨xs5,ho5,hv5⟩:=MM.out;have hv1:b4 (fun b=>(Q b∧b<w.heap.size)∧(Value.slice (some ⟨U.heap.size,0,none⟩) 0 0).ownBlock≠some b) X11 [⟨nm,ty⟩] [.string nm,.int .i64 tk,.slice ta tn tq]:=cL hnm ((HT.out.below fC.out).move (.weaken fun b hb _=>⟨hb,fun e=>by have:=(ho5.lt b e).1;have:=hb.2;omega⟩));refine step_append_lies _ (by rfl) (.tmp 9) (.tmp 13) 49 (by rfl) U.heap.size 52 i0 _ 3 48 Try.underlying49 HI.out Z0.out Z1.out Z2.out rfl (by omega) (.slice (some ⟨U.heap.size,0,none⟩) 0 0) 0 xs5 (by rfl) (by simpa [HN.out] using ho5) ⟨X10.heap.size,0,none⟩ 1 1 [.string nm,.int .i64 tk,.slice ta tn tq] (by rfl) (by rfl) (World.news_of_block (cs:=#[.string nm,.int .i64 tk,.slice ta tn tq]) (t:=52) (fr:=(0,0)) fN) (by simp[Value.oneCell']) (by omega) (by unfold maxLen;omega) (by omega) (by omega) _ rfl ?_;intro g6 cap6 w6 hown hgrow hat hlt3;have M6:BdG (fun x=>Q x∧x<w.heap.size) U.heap.size w6 (.slice (some ⟨g6,0,none⟩) (0+1) cap6) ([] ++ [⟨nm,ty⟩]):=BdG.push (F:=(fun x=>Q x∧x<w.heap.size)) (W:=X11) (v:=(.slice (some ⟨U.heap.size,0,none⟩) 0 0)) hv5 hv1 (by simpa [HN.out] using hown) hgrow (by rcases hat with h | h;exact .inl (h.symm▸rfl);exact .inr (by rw[h];rfl));have RF:=zq (show aE (fun x=>(Q x∧x<w.heap.size)∨w.heap.size<=x) w6 ([] ++ [⟨nm,ty⟩]) (.slice (some ⟨g6,0,none⟩) (0+1) cap6) from M6.rep.move (.weaken fun b h _=>h.imp id fun q=>by have:=fC.out.size;omega));have hb56:Below U.heap.size X11 w6:=Below.grown (Below.refl _ _) hgrow (by omega) (fun k hk=>(ho5.lt k hk).1);have fC2:=zq (fC.out.trans (hb56.mono hlg));have fB2:w6.heap[w.heap.size]?=some (.cells #[.int .i64 tk,.slice ta tn tq] 25 (0,0)):=(hb56.block _ (by omega)).trans fB;refine hko hK (fun hH15=>?_);clear hK K hH14 fB fC fN ho5 hv5 hv1 hown hgrow hat M6 hb56 MM
     try simp only[hwA]
     have fC:=fC2;have fB:=fB2;clear fC2 fB2;refine hwq hx8 (.slice (some ⟨g6,0,none⟩) (0+1) cap6) hH15 ?_;refine hwd ?_;clear hH15
     go_wp2_with fail
     go_ret
     exact⟨_,_,_,rfl,RF.out,fC.out⟩
 ·skip
  try dsimp only
  go_simp
  (try go_wp2_with fail);have fN2:(U.alloc (.cells #[.string nm,.int .i64 tk,.slice ta tn tq] 52)).heap[U.heap.size]?=some (.cells #[.string nm,.int .i64 tk,.slice ta tn tq] 52 (0,0)):=aA rfl;have fB2:=a9 fB (ag (o:=.cells #[.string nm,.int .i64 tk,.slice ta tn tq] 52));have fC2:=zq (al fC.out (ag (o:=.cells #[.string nm,.int .i64 tk,.slice ta tn tq] 52)));have hzW2:(U.alloc (.cells #[.string nm,.int .i64 tk,.slice ta tn tq] 52)).heap.size=U.heap.size+1:=by simp
  refine hko hK (fun hH10=>?_);clear hK K hH0 fB fC
  try simp only[hwA]
  obtain⟨X10,hWW⟩ : ∃X:World,X=(U.alloc (.cells #[.string nm,.int .i64 tk,.slice ta tn tq] 52)):=⟨_,rfl⟩
  rw[<-hWW] at fB2 fC2 fN2 hzW2 hH10 ⊢;clear hWW;have fB:=fB2;have fC:=fC2;have fN:=fN2;clear fB2 fC2 fN2;have zX10a:U.heap.size+1<=X10.heap.size:=by omega
  have zX10b:X10.heap.size<=U.heap.size+1:=by omega
  clear hzW2;refine hwe hx0 (fun K hK=>?_)
  ·skip
   try dsimp only
   go_simp
   (try go_wp2_with fail);have fE2:(X10.alloc (.cells #[] 52)).heap[X10.heap.size]?=some (.cells #[] 52 (0,0)):=aA rfl;have fN2:=a9 fN (ag (o:=.cells #[] 52));have fB2:=a9 fB (ag (o:=.cells #[] 52));have fC2:=zq (al fC.out (ag (o:=.cells #[] 52)));have hzW2:(X10.alloc (.cells #[] 52)).heap.size=X10.heap.size+1:=by simp
   refine hko hK (fun hH16=>?_);clear hK K hH10 fB fC fN
   try simp only[hwA]
   obtain⟨X16,hWW⟩ : ∃X:World,X=(X10.alloc (.cells #[] 52)):=⟨_,rfl⟩
   rw[<-hWW] at fB2 fC2 fE2 fN2 hzW2 hH16 ⊢;clear hWW;have fB:=fB2;have fC:=fC2;have fE:=fE2;have fN:=fN2;clear fB2 fC2 fE2 fN2;have zX16a:X10.heap.size+1<=X16.heap.size:=by omega
   have zX16b:X16.heap.size<=X10.heap.size+1:=by omega
   clear hzW2;refine hwe hx2 (fun K hK=>?_)
   ·skip
    obtain⟨xs0,ho0,hv0⟩:BdM X10.heap.size X16 (.slice (some ⟨X10.heap.size,0,none⟩) 0 0) []:=BdM.nil (Nat.le_refl _) fE rfl;obtain rfl:xs0 = []:=hv0;have hlg:w.heap.size<=X10.heap.size:=by have:=fC.out.size;omega
    refine dt () (by rfl) (.tmp 7) (.tmp 8) 49 (by rfl) X10.heap.size 52 i0 3 Try.underlying49 HI.out (.slice (some ⟨X10.heap.size,0,none⟩) 0 0) 0 [] (by rfl) ho0 (by rfl) ?_;have MM2:=zq (show BdG (fun x=>Q x∧x<w.heap.size) X10.heap.size X16 (.slice (some ⟨X10.heap.size,0,none⟩) 0 0) [] from⟨[],ho0,rfl⟩);refine hko hK (fun hH17=>?_);clear hK K hH16 fE ho0
    try simp only[hwA]
    have MM:=MM2;clear MM2;refine hwe hx7 (fun K hK=>?_)
    ·skip
     obtain⟨xs5,ho5,hv5⟩:=MM.out;have hv1:b4 (fun b=>(Q b∧b<w.heap.size)∧(Value.slice (some ⟨X10.heap.size,0,none⟩) 0 0).ownBlock≠some b) X16 [⟨nm,ty⟩] [.string nm,.int .i64 tk,.slice ta tn tq]:=cL hnm ((HT.out.below fC.out).move (.weaken fun b hb _=>⟨hb,fun e=>by have:=(ho5.lt b e).1;have:=hb.2;omega⟩));refine step_append_lies _ (by rfl) (.tmp 9) (.tmp 13) 49 (by rfl) X10.heap.size 52 i0 _ 3 48 Try.underlying49 HI.out Z0.out Z1.out Z2.out rfl (by omega) (.slice (some ⟨X10.heap.size,0,none⟩) 0 0) 0 xs5 (by rfl) (by simpa [HN.out] using ho5) ⟨U.heap.size,0,none⟩ 1 1 [.string nm,.int .i64 tk,.slice ta tn tq] (by rfl) (by rfl) (World.news_of_block (cs:=#[.string nm,.int .i64 tk,.slice ta tn tq]) (t:=52) (fr:=(0,0)) fN) (by simp[Value.oneCell']) (by omega) (by unfold maxLen;omega) (by omega) (by omega) _ rfl ?_;intro g6 cap6 w6 hown hgrow hat hlt3;have M6:BdG (fun x=>Q x∧x<w.heap.size) X10.heap.size w6 (.slice (some ⟨g6,0,none⟩) (0+1) cap6) ([] ++ [⟨nm,ty⟩]):=BdG.push (F:=(fun x=>Q x∧x<w.heap.size)) (W:=X16) (v:=(.slice (some ⟨X10.heap.size,0,none⟩) 0 0)) hv5 hv1 (by simpa [HN.out] using hown) hgrow (by rcases hat with h | h;exact .inl (h.symm▸rfl);exact .inr (by rw[h];rfl));have RF:=zq (show aE (fun x=>(Q x∧x<w.heap.size)∨w.heap.size<=x) w6 ([] ++ [⟨nm,ty⟩]) (.slice (some ⟨g6,0,none⟩) (0+1) cap6) from M6.rep.move (.weaken fun b h _=>h.imp id fun q=>by have:=fC.out.size;omega));have hb56:Below X10.heap.size X16 w6:=Below.grown (Below.refl _ _) hgrow (by omega) (fun k hk=>(ho5.lt k hk).1);have fC2:=zq (fC.out.trans (hb56.mono hlg));have fB2:w6.heap[w.heap.size]?=some (.cells #[.int .i64 tk,.slice ta tn tq] 25 (0,0)):=(hb56.block _ (by omega)).trans fB;refine hko hK (fun hH18=>?_);clear hK K hH17 fB fC fN ho5 hv5 hv1 hown hgrow hat M6 hb56 MM
     try simp only[hwA]
     have fC:=fC2;have fB:=fB2;clear fC2 fB2;refine hwq hx8 (.slice (some ⟨g6,0,none⟩) (0+1) cap6) hH18 ?_;refine hwd ?_;clear hH18
     go_wp2_with fail
     go_ret
     exact⟨_,_,_,rfl,RF.out,fC.out⟩
end Go.Proofs.Ytfhglkmjibjjoaa

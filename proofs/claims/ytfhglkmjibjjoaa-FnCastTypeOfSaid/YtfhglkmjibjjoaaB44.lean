/- Copies whose row has grown; types are changed. -/
import Derived.Test.YtfhglkmjibjjoaaB25
set_option linter.unusedSimpArgs false
set_option linter.unusedVariables false
set_option maxRecDepth 100000
set_option maxHeartbeats 16000000
namespace Go.Proofs.Ytfhglkmjibjjoaa
open Go.RowKit
def RetAcc (k:Int)(ts:List Ty)(w:World)(e:Ending)(w':World):Prop:=∃(v:Value) (B:Nat),e = .returned (.agg #[.int .i64 k,v])∧w.heap.size<=B∧B<=w'.heap.size∧aS B 25 2 w' v ts.length (Ty.rows ts)∧Below w.heap.size w w'
theorem np (F:Nat->Prop)(k:Int)(ts:List Ty) : ∀(y:Value) (w:World),ai F w (.mk k ts) y->(Ty.mk k ts).cnt<=1048576 ->
  Calls Try.prog 46 #[y] w (RetAcc k ts w):=by
 intro y w hy hcnt;have IH : ∀t'∈ts,∀(y:Value) (W:World),ai F W t' y->Calls Try.prog 46 #[y] W (cJ t' W):=
  fun t' ht y W h=>b5 F t' y W h (by have:=Ty.cnt_kid (t:=Ty.mk k ts) ht;omega)
 obtain⟨a,cap,rfl,h2,h3,hr⟩:=hy.open;simp only[Ty.kind,Ty.kids] at *;unfold maxLen at h3;have IHH:=zq IH;have HCN:=zq (show ts.length<=1048576 by simp only[Ty.cnt] at hcnt;omega);clear IH hy hcnt;unfold RetAcc;obtain⟨n,hn⟩ : ∃n,ts.length=n:=⟨_,rfl⟩
 rw[hn] at h2 hr HCN;rw[hn];have HN:=zq hn;clear hn;obtain⟨i0,hi,hz0,hz1,hz2⟩:=info_parts Try.infoTy;have Z0:=zq hz0;have Z1:=zq hz1;have Z2:=zq hz2;have HI:=zq hi;clear hz0 hz1 hz2 hi
 go_enter Try.func46,Try.ntmps46
 go_wp2_with fail
 go_loopw [4] (fun i wr=>∃j:Nat,j<=n∧i = .int .i64 j∧Below w.heap.size w wr∧w.heap.size+1+1<wr.heap.size∧(∃u,wr.cell? ⟨w.heap.size+1,0,none⟩=some u)∧(∃u,wr.cell? ⟨w.heap.size+1,1,none⟩=some u) ∧
     (∀o,wr.frozen? ⟨w.heap.size+1,o,none⟩=false)∧(∀o,wr.frozen? ⟨w.heap.size+1+1,o,none⟩=false)∧wr.cell? ⟨w.heap.size+1+1,0,none⟩=some (.int .i64 k)∧wr.cell? ⟨w.heap.size,1,none⟩=some (.slice a n cap) ∧
     ∃v,wr.cell? ⟨w.heap.size+1+1,1,none⟩=some v∧aS (w.heap.size+1+1+1) 25 2 wr v j (Ty.rows (ts.take j))) (fun i _=>n-(intOf i).toNat)
 case atStart=>exact⟨0,by omega,rfl,bG,by simp,⟨.int .i64 0,af ag (cg 0)⟩,⟨.slice none 0 0,af ag (cg 1)⟩,fun o=>cG ag (by simp) (dV o),fun o=>dK o,cK 0,af ag (af ag (aF 1)),.slice none 0 0,cK 1,by simpa [Ty.rows] using aS.nil _ _ _ _⟩
 case round=>
  obtain⟨j,hj,rfl,hbw,hsz,⟨u0,hu0⟩,⟨u1,hu1⟩,hf1,hf2,hk0,hlb0,v,hv,hacc⟩:=hrel
  by_cases hlt:j<n
  ·have hjt:j<ts.length:=by rw[HN.out];exact hlt
   obtain⟨b,off,k0,a0,m0,q0,rfl,l0,e0,e1,ht⟩:=hr.at hbw hjt;have HC:=zq (fun W (h:Below wr.heap.size wr W)=>IHH.out ts[j] (List.getElem_mem hjt) _ W (ht.below h));obtain⟨xs,fps,ho,hl,hs,hd,hfp⟩:=hacc;have HO:=zq ho;have HS:=zq hs;have HD:=zq hd;have HFP:=zq hfp;have HL:=zq hl;clear ho hs hd hfp hl;obtain⟨cv,qv,rfl⟩ : ∃c q,v = .slice c j q:=by
    rcases HO.out.2 with ⟨h,h0⟩ | ⟨g,cap,cur,h,_⟩
    ·exact⟨none,0,by rw[h,h0]⟩
    ·exact⟨_,cap,h⟩
   go_wp2_with fail
   have hB3:w.heap.size+1+1+1<=wr.heap.size:=by omega
   go_region_law (first
     | (go_simp;go_at_call 46;refine(HC.out _ bdr).mono ?_;rintro e w1 ⟨v1,rfl,hv1,hb1⟩;obtain⟨k1,c1,m1,q1,fp1,rfl,-,-,hs1,hd1,hx1⟩:=hv1.open;have hq1:w1.cell? ⟨w.heap.size+1+1,1,none⟩=some (.slice cv j qv):=af (al bdr hb1) hv;have hbz:=hb1.size;have hl1:w.heap.size+1+1<w1.heap.size:=World.block_lt_of_cell? _ _ hq1)
     | (refine step_append_lies _ (by rfl) (.tmp 16) (.tmp 23) 23 (by rfl) (w.heap.size+1+1+1) 25 i0 _ 2 32 Try.underlying23 HI.out Z0.out Z1.out Z2.out rfl (by omega) (.slice cv j qv) j xs (by rfl) (bc HO.out (al (al bdr hb1) ag))
         ⟨w1.heap.size,0,none⟩ 1 1 [.int .i64 k1,.slice c1 m1 q1] (by rfl) (by rfl) (World.news_of_block (cs:=#[.int .i64 k1,.slice c1 m1 q1]) (t:=25) (fr:=(0,0)) (heap_alloc_new w1 _)) (by simp[Value.oneCell'])
         (by omega) (by have:=HCN.out;unfold maxLen;omega) (by have:=HCN.out;omega) (by simp at hbz ⊢;omega) _ rfl ?_
        intro gg cap2 w2 hown2 hgrow hat hlt2;have hfar:=cI (al (al bdr hb1) ag) HO.out hgrow;have hq:w2.cell? ⟨w.heap.size+1+1,1,none⟩=some (.slice cv j qv):=(World.cell?_of_block (a:=⟨w.heap.size+1+1,1,none⟩) (hfar (w.heap.size+1+1) (by omega) (by omega))).trans hv;have hqf:w2.frozen? ⟨w.heap.size+1+1,1,none⟩=false:=(World.frozen?_of_block (a:=⟨w.heap.size+1+1,1,none⟩) (hfar (w.heap.size+1+1) (by omega) (by omega))).trans (hf2 _);have HFAR:=zq hfar;have hacc2:=aS.push HL.out HO.out HS.out HD.out HFP.out hB3 (al (al bdr hb1) ag) (by simp) (hs1.move _ _ _ fun b hb=>heap_alloc_old w1 _ (bL.lt _ _ _ hs1 b hb)) hd1 hx1 hown2 hgrow hat;have HACC:=zq hacc2;have hbel:=bW hbw (al (al bdr hb1) ag) HO.out (by omega) hgrow;have hsz2:wr.heap.size<=w2.heap.size:=Nat.le_trans (al (al bdr hb1) ag).size hgrow.size;clear hfar hacc2 hown2 hgrow hat hq1))
   all_goals
    go_wp2_with fail
    go_roundw
    case rel=>
     have c1:(w2.setCell ⟨w.heap.size+1+1,1,none⟩ (.slice (some ⟨gg,0,none⟩) (j+1) cap2)).heap[w.heap.size+1]?=wr.heap[w.heap.size+1]?:=
      (Below.heap_setCell w2 ⟨w.heap.size+1+1,1,none⟩ _ _ (by show w.heap.size+1≠w.heap.size+1+1;omega)).trans (HFAR.out (w.heap.size+1) (by omega) (by omega))
     have hk2:=(World.cell?_of_block (a:=⟨w.heap.size+1+1,0,none⟩) (HFAR.out (w.heap.size+1+1) (by omega) (by omega))).trans hk0;have hf4:=fun o=>(World.frozen?_of_block (a:=⟨w.heap.size+1+1,o,none⟩) (HFAR.out (w.heap.size+1+1) (by omega) (by omega))).trans (hf2 o);refine⟨j+1,by omega,by go_num,hbel.setCell (by show w.heap.size<=w.heap.size+1+1;omega) _,by simp[World.setCell];omega,⟨u0,(World.cell?_of_block (a:=⟨w.heap.size+1,0,none⟩) c1).trans hu0⟩,⟨u1,(World.cell?_of_block (a:=⟨w.heap.size+1,1,none⟩) c1).trans hu1⟩,
       fun o=>(World.frozen?_of_block (a:=⟨w.heap.size+1,o,none⟩) c1).trans (hf1 o),fun o=>(dh _ _ _ _).trans (hf4 o),cF hk2 (by simp),(World.cell?_of_block (a:=⟨w.heap.size,1,none⟩) ((Below.heap_setCell w2 ⟨w.heap.size+1+1,1,none⟩ _ _ (by show w.heap.size≠w.heap.size+1+1;omega)).trans (HFAR.out (w.heap.size) (by omega) (by omega)))).trans hlb0,_,bP hq,?_⟩
     have h:=HACC.out.setCell (p:=⟨w.heap.size+1+1,1,none⟩) (by show w.heap.size+1+1<w.heap.size+1+1+1;omega) (.slice (some ⟨gg,0,none⟩) (j+1) cap2);rw[Ty.rows_eq] at h ⊢;rw[List.take_succ_eq_append_getElem hjt,List.map_append]
     exact h
    case measure=>simp[intOf];omega
  ·obtain⟨cv,qv,rfl⟩:=hacc.shape
   have f0:=hf1 0;have f1:=hf1 1
   go_wp2_with fail
   refine bq (.agg #[.int .i64 k,.slice cv j qv]) (by simp[results,Try.results46,go_sem,hu0,hu1]) ?_;have hjn:j=n:=by omega
   rw[List.take_of_length_le (by rw[HN.out];omega)] at hacc;subst hjn;refine⟨_,w.heap.size+1+1+1,rfl,by omega,by simp[World.setCell];omega,(hacc.setCell (p:=⟨w.heap.size+1,0,none⟩) (by show w.heap.size+1<w.heap.size+1+1+1;omega) _).setCell (p:=⟨w.heap.size+1,1,none⟩) (by show w.heap.size+1<w.heap.size+1+1+1;omega) _,?_⟩
   exact(hbw.setCell (by show w.heap.size<=w.heap.size+1;omega) _).setCell (by show w.heap.size<=w.heap.size+1;omega) _
theorem aS.chg {B r:Nat}{e:TypeId}{size n:Nat}{w w':World}{v:Value}{rows:List (List C)}(h:aS B e size w v n rows)(k:Chg [r] w w')(hr:r<B):aS B e size w' v n rows:=by
 obtain⟨xs,fps,h1,h2,h3,h4,h5⟩:=h
 exact⟨xs,fps,ck h1 k hr,h2,h3.move _ _ _ (fun b hx=>k.block b (bE.lt _ _ _ h3 b hx) (by have:=(h5 b hx).1;simp;omega)),h4,h5⟩
def Off (B o:Nat)(b:Nat):Prop:=B<=b∧b≠o
theorem ai.offSet {B o:Nat}{w:World}{t:Ty}{y:Value}(h:ai (Off B o) w t y){p:Addr}(hp:p.block<B∨p.block=o)(v:Value):ai (Off B o) (w.setCell p v) t y:=
 h.move ⟨by simp[World.setCell],fun _ h _=>h,fun b hb _=>Below.heap_setCell w p v b (fun e=>by rcases hp with hp | hp;exact absurd hb.1 (by omega);exact hb.2 (e.trans hp))⟩
theorem ai.offTwo {B o:Nat}{w:World}{b cap:Nat}{k:Int}{t u:Ty}{k1 k2:Int}{c1 c2:Value}(hF:Off B o b)(hc:2<=cap)(hm:cap<=maxLen)
  (e0:w.cell? ⟨b,0,none⟩=some (.int .i64 k1)) (e1:w.cell? ⟨b,1,none⟩=some c1) (e2:w.cell? ⟨b,2,none⟩=some (.int .i64 k2)) (e3:w.cell? ⟨b,3,none⟩=some c2)
  (ht:ai (Off B o) w t (.agg #[.int .i64 k1,c1])) (hu:ai (Off B o) w u (.agg #[.int .i64 k2,c2])):ai (Off B o) w (Ty.mk k [t,u]) (.agg #[.int .i64 k,.slice (some ⟨b,0,none⟩) 2 cap]):=ai.two_mk hF hc hm e0 e1 e2 e3 ht hu
theorem gY {r p q m B o R:Nat}{w w0:World}{u:Ty}{k:Int}{c:Value}(hch:Chg [r] w w0)(hrd:aR w0 r q)(hq:q<=p+200)(hu:ai (Off B o) w0 u (.agg #[.int .i64 k,c]))(hm:u.cnt<=m)(hB:w.heap.size<=B)(hR:w.heap.size<=R)(hRB:R<B)(hrR:r<R) :
  DT r p m w (.returned (.agg #[.int .i64 k,c])) ((w0.setCell ⟨R,0,none⟩ (.int .i64 k)).setCell ⟨R,1,none⟩ c):=
 ⟨u,_,q,rfl,hm,ai.move ((hu.offSet (.inl hRB) _).offSet (.inl hRB) _) (.weaken fun b hb _=>Nat.le_trans hB hb.1),hq,(hrd.setCell (by exact hrR) _).setCell (by exact hrR) _,(hch.trans' hR _).trans' hR _⟩
theorem bx.off {B o:Nat}{w:World}{ts:List Ty}{y:Value}(k:Int)(h:bx B w ts y)(ho:o<B):ai (Off B o) w (.mk k ts) (.agg #[.int .i64 k,y]):=
 (bx.ty (k:=k) h).rep.move (.weaken fun b hb _=>⟨hb,by show b≠o;have:B<=b:=hb;omega⟩)
theorem nl {P:Nat->Prop}{B:Nat}{e:TypeId}{size n:Nat}{w:World}{v:Value}{xs:List Value}{rows:List (List C)}{fps:List Nat}(h:w.ownsRow B e size v n xs)(h2:rows.length=n)(h3:bE w rows xs fps)
  (hP : ∀x∈fps,P x) (hg : ∀g,v.ownBlock=some g->P g):aL P w (.sl rows) v:=by
 obtain⟨hl,h1⟩:=h
 rcases h1 with ⟨rfl,rfl⟩ | ⟨g,cap,cur,rfl,hb,hgb,hn,hc,hs,ht⟩
 ·obtain rfl:rows = []:=List.eq_nil_of_length_eq_zero h2
  unfold aL
  exact⟨none,0,rfl,Nat.le_refl _,by unfold maxLen;omega,.inl rfl⟩
 ·have hr:aK w g 0 rows fps:=h3.rows _ _ _ 0 (fun i hi=>by
     rw[<-ht] at hi ⊢;simp only[World.cell?,hgb];simp only[List.length_take] at hi
     simp
     rw[List.getElem?_take_of_lt (by omega),Array.getElem?_toList])
  unfold aL
  exact⟨_,cap,by rw[h2],by omega,hc,.inr ⟨g,0,rfl,hg g rfl,(Array.getElem?_eq_some_iff.1 hgb).1,aK.rep 0 rows fps hP hr⟩⟩
theorem dZ (r p m:Nat)(t:Ty)(y:Value)(w:World)(h:aR w r p)(ht:ai (· ≠ r) w t y)(hm:t.cnt<=m)(hm2:m<=100)(hp:p<=1000000000) :
  Calls Try.prog 25 #[.pointer (some ⟨r,0,none⟩),y] w (DT r p (m+10) w):=by
 obtain⟨k0,a0,n0,q0,rfl⟩:=ht.shape;have hrl:=h.1
 cases t with | mk kt ts=>
 obtain⟨i0,hi,hz0,hz1,hz2⟩:=info_parts Try.infoTy;have Z0:=zq hz0;have Z1:=zq hz1;have Z2:=zq hz2;have HI:=zq hi;clear hz0 hz1 hz2 hi;have hcn:ts.length+Ty.cnts ts<=m:=by simpa only[Ty.cnt] using hm
 go_enter Try.func25,Try.ntmps25
 go_wp2_with fail
 refine(np _ kt ts _ _ (ht.below aZ) (by omega)).mono ?_;rintro e w1 ⟨v,B,rfl,hB1,hB2,hacc,hb1⟩;clear ht hm;simp only[World.size_alloc] at hB1;obtain⟨cv,qv,rfl⟩:=hacc.shape;have hz1:=hb1.size;simp only[World.size_alloc] at hz1;have x0:w1.cell? ⟨w.heap.size+1,0,none⟩=some (.int .i64 0):=af hb1 (cg 0);have x1:w1.cell? ⟨w.heap.size+1,1,none⟩=some (.slice none 0 0):=af hb1 (cg 1);have f0:w1.frozen? ⟨w.heap.size+1,0,none⟩=false:=cG hb1 (by simp) (dV 0);have f1:w1.frozen? ⟨w.heap.size+1,1,none⟩=false:=cG hb1 (by simp) (dV 1);have hrd1:=(h.below aZ).below hb1;have hch1:Chg [r] w w1:=Chg.of_below (al aZ hb1);clear h
 go_wp2_with fail
 refine(bH r p 40 _ (hrd1.below ag) (by omega) (by omega)).mono ?_;rintro e w2 ⟨pk,rfl,pk0,pk4,hrd2,hc2⟩;have hch2:Chg [r] w w2:=(hch1.trans (Chg.of_below ag)).trans hc2;have hz2:=hc2.size;simp only[World.size_alloc] at hz2;have o0:w2.cell? ⟨w1.heap.size,0,none⟩=some (.int .i64 kt):=aH hc2 (by omega) (aF 0);have o1:w2.cell? ⟨w1.heap.size,1,none⟩=some (.slice cv ts.length qv):=aH hc2 (by omega) (aF 1);have g0:w2.frozen? ⟨w1.heap.size,0,none⟩=false:=aO hc2 (by omega) (aF 0) (b9 0);have g1:w2.frozen? ⟨w1.heap.size,1,none⟩=false:=aO hc2 (by omega) (aF 1) (b9 1);replace f0:w2.frozen? ⟨w.heap.size+1,0,none⟩=false:=aO hc2 (by omega) (af ag x0) (aG ag x0 f0);replace f1:w2.frozen? ⟨w.heap.size+1,1,none⟩=false:=aO hc2 (by omega) (af ag x1) (aG ag x1 f1);replace x0:w2.cell? ⟨w.heap.size+1,0,none⟩=some (.int .i64 0):=aH hc2 (by omega) (af ag x0);replace x1:w2.cell? ⟨w.heap.size+1,1,none⟩=some (.slice none 0 0):=aH hc2 (by omega) (af ag x1);have hlto:w1.heap.size<w2.heap.size:=by omega
 have hreps:ai (Off B w1.heap.size) w2 (.mk kt ts) (.agg #[.int .i64 kt,.slice cv ts.length qv]):=by
  have h1:ai (Off B w1.heap.size) w1 (.mk kt ts) (.agg #[.int .i64 kt,.slice cv ts.length qv]):=by
   obtain⟨fp,e1,e2,e3⟩:=hacc.own
   exact⟨_,rfl,aQ.rep _ _ _ (fun b hb=>⟨e3 b hb,fun e=>by have:=aQ.lt _ _ _ e1 b hb;omega⟩) e1⟩
  exact(h1.below ag).move (hc2.keeps (fun b hb=>by have:=hb.1;simp;omega))
 have HREP:=zq (fun(k':Int)=>(show ai (Off B w1.heap.size) w2 (.mk k' ts) (.agg #[.int .i64 k',.slice cv ts.length qv]) from⟨_,rfl,hreps.parts.2⟩));clear hreps
 by_cases h1:pk=0
 ·subst h1
  clear pk0 pk4 hacc
  go_wp2_with fail
  refine(bY (fun _=>True) r (p+1) _ 5 5 _ (hrd2.below ag) (by omega) (by omega) (by omega) (Nat.le_refl _) (by omega) (bJ [0,6,1,4,-1] rfl _ (fun _ _=>trivial))).mono ?_;rintro e w3 ⟨kn,rfl,-,hrd3,hc3⟩;have hrep3:=((HREP.out kn).below ag).move (hc3.keeps (fun b hb=>by have:=hb.1;simp;omega));have hch3:=(hch2.trans (Chg.of_below ag)).trans hc3;replace g0:w3.frozen? ⟨w1.heap.size,0,none⟩=false:=aO hc3 (by omega) (af ag o0) (aG ag o0 g0);replace o0:w3.cell? ⟨w1.heap.size,0,none⟩=some (.int .i64 kt):=aH hc3 (by omega) (af ag o0);replace o1:w3.cell? ⟨w1.heap.size,1,none⟩=some (.slice cv ts.length qv):=aH hc3 (by omega) (af ag o1);replace f0:w3.frozen? ⟨w.heap.size+1,0,none⟩=false:=aO hc3 (by omega) (af ag x0) (aG ag x0 f0);replace f1:w3.frozen? ⟨w.heap.size+1,1,none⟩=false:=aO hc3 (by omega) (af ag x1) (aG ag x1 f1);replace x0:w3.cell? ⟨w.heap.size+1,0,none⟩=some (.int .i64 0):=aH hc3 (by omega) (af ag x0);replace x1:w3.cell? ⟨w.heap.size+1,1,none⟩=some (.slice none 0 0):=aH hc3 (by omega) (af ag x1);have HEND:=zq (gY (R:=w.heap.size+1) (m:=m+10) (p:=p) (hch3.trans' (p:=⟨w1.heap.size,0,none⟩) (by show w.heap.size<=w1.heap.size;omega) (.int .i64 kn)) (hrd3.setCell (a:=⟨w1.heap.size,0,none⟩) (by show r<w1.heap.size;omega) (.int .i64 kn)) (by omega) (hrep3.offSet (p:=⟨w1.heap.size,0,none⟩) (.inr rfl) (.int .i64 kn)) (by simp only[Ty.cnt];omega) (by omega) (by omega) (by omega) (by omega));have hne:w1.heap.size≠w.heap.size+1:=by omega
  have hne':w.heap.size+1≠w1.heap.size:=by omega
  go_wp2_with fail
  refine bq (.agg #[.int .i64 kn,.slice cv ts.length qv]) (by simp[results,Try.results25,go_sem,x0,x1]) ?_
  exact HEND.out
 by_cases h2:pk=1
 ·subst h2
  clear pk0 pk4 HREP h1;obtain⟨xs,fps,ho1,hl,hs1,hd,hfp⟩:=hacc;obtain⟨n,hn⟩ : ∃n,ts.length=n:=⟨_,rfl⟩
  rw[hn] at o1 ho1 hl hcn hc2 hfp;have HN:=zq hn;clear hn;have HOLT:=zq (fun(g:Nat) (hg:(Value.slice cv n qv).ownBlock=some g)=>ho1.lt g hg);have HFPL:=zq (fun(b:Nat) (hb:b∈fps)=>bE.lt _ _ _ hs1 b hb);have HO:=zq (ck (bc ho1 (ag (o:=.cells #[.int .i64 kt,.slice cv n qv] 25))) hc2 (show r<B by omega));have HS:=zq ((hs1.move (w':=w1.alloc (.cells #[.int .i64 kt,.slice cv n qv] 25)) _ _ _ (fun b hx=>heap_alloc_old w1 _ (bE.lt _ _ _ hs1 b hx))).move (w':=w2) _ _ _ (fun b hx=>hc2.block b (by have:=bE.lt _ _ _ hs1 b hx;simp;omega) (by have:=(hfp b hx).1;simp;omega)));have HFP:=zq hfp;have HL:=zq hl;have HLEN:=zq (show n<=100 by omega);clear ho1 hs1 hd hfp hl;have hB3:B<=w2.heap.size:=by omega
  go_wp2_with fail
  go_region_law (first
    | (go_simp;go_at_call 47;refine(cX _).mono ?_;rintro e w3 ⟨v3,rfl,hv3,hb3⟩;obtain⟨k3,c3,m3,q3,fp3,rfl,-,-,hs3,hd3,hx3⟩:=hv3.open;have hqq:w3.cell? ⟨w1.heap.size,1,none⟩=some (.slice cv n qv):=af (al bdr hb3) o1;have hbz:=hb3.size;have hl3:=World.block_lt_of_cell? _ _ hqq)
    | (refine step_append_lies _ (by rfl) (.tmp 20) (.tmp 22) 23 (by rfl) (B) 25 i0 _ 2 32 Try.underlying23 HI.out Z0.out Z1.out Z2.out rfl (by omega) (.slice cv n qv) n xs (by rfl) (bc HO.out (al (al bdr hb3) ag))
        ⟨w3.heap.size,0,none⟩ 1 1 [.int .i64 k3,.slice c3 m3 q3] (by rfl) (by rfl) (World.news_of_block (cs:=#[.int .i64 k3,.slice c3 m3 q3]) (t:=25) (fr:=(0,0)) (heap_alloc_new w3 _)) (by simp[Value.oneCell'])
        (by omega) (by have:=HLEN.out;unfold maxLen;omega) (by have:=HLEN.out;omega) (by simp at hbz ⊢;omega) _ rfl ?_
       intro gg cap2 w4 hown2 hgrow hat hlt2;have hW:=al (al bdr hb3) (ag (o:=.cells #[.int .i64 k3,.slice c3 m3 q3] 25));have hfar : ∀b,b<w2.heap.size->(Value.slice cv n qv).ownBlock≠some b->w4.heap[b]?=w2.heap[b]?:=fun b hl hn=>(hgrow.block b (Nat.lt_of_lt_of_le hl hW.size) (fun e=>hn e.symm)).trans (hW.block b hl);have hno : ∀b,w1.heap.size<=b∨b<B->(Value.slice cv n qv).ownBlock≠some b:=fun b hb e=>by have:=HOLT.out b e;omega
       have hq:w4.cell? ⟨w1.heap.size,1,none⟩=some (.slice cv n qv):=(World.cell?_of_block (a:=⟨w1.heap.size,1,none⟩) (hfar (w1.heap.size) (by omega) (hno _ (.inl (Nat.le_refl _))))).trans o1;have hqf:w4.frozen? ⟨w1.heap.size,1,none⟩=false:=(World.frozen?_of_block (a:=⟨w1.heap.size,1,none⟩) (hfar (w1.heap.size) (by omega) (hno _ (.inl (Nat.le_refl _))))).trans g1;have HFAR:=zq hfar;have HNO:=zq hno;have hS4:=bE.snoc (HS.out.move (w':=w4) _ _ _ fun b hb=>hfar b (by have:=HFPL.out b hb;omega) (HFP.out b hb).2)
          ((hs3.move _ _ _ fun b hb=>heap_alloc_old w3 (.cells #[.int .i64 k3,.slice c3 m3 q3] 25) (bL.lt _ _ _ hs3 b hb)).move (w':=w4) _ _ _ fun b hb=>hgrow.block b (by have:=bL.lt _ _ _ hs3 b hb;simp;omega) (fun e=>hno b (.inl (by have:=hx3 b hb;simp at this;omega)) e.symm))
       have hP4 : ∀x∈fps++fp3,Off B w1.heap.size x:=fun x hx=>by
         rcases List.mem_append.1 hx with hx | hx
         · exact⟨(HFP.out x hx).1,by have:=HFPL.out x hx;omega⟩
         · have:=hx3 x hx;simp at this;exact⟨by omega,by omega⟩
       have hG4 : ∀g,(Value.slice (some ⟨gg,0,none⟩) (n+1) cap2).ownBlock=some g->Off B w1.heap.size g:=fun g hg=>by
         simp only[Value.ownBlock,Option.some.injEq] at hg;subst hg
         rcases hat with hat | hat
         · have:=HOLT.out _ hat;exact⟨this.1,by omega⟩
         · simp at hat hbz;exact⟨by omega,by omega⟩
       have HREP:=zq (nl hown2 (by simp[HL.out]) hS4 hP4 hG4);have HBEL:=zq (dg hch2 (Chg.of_below hW) HO.out (by omega) hgrow);have HRD:=zq (aR.grown (((hrd2.below bdr).below hb3).below ag) HO.out (by omega) hgrow);have hsz4:w2.heap.size<=w4.heap.size:=Nat.le_trans hW.size hgrow.size;clear hfar hno hS4 hP4 hG4 hown2 hgrow hat hqq hW hs3 hx3 hd3))
  all_goals
   have HR2:=zq (show ai (Off B w1.heap.size) w4 (.mk kt (ts ++ [.mk 1 []])) (.agg #[.int .i64 kt,.slice (some ⟨gg,0,none⟩) (n+1) cap2]) from⟨_,rfl,by
     have h:=HREP.out
     show aL _ _ (.sl (Ty.rows (ts ++ [.mk 1 []]))) _
     rw[Ty.rows_eq] at h ⊢
     simpa using h⟩)
   clear HREP;have HEND:=zq (gY (R:=w.heap.size+1) (m:=m+10) (p:=p) (HBEL.out.trans' (p:=⟨w1.heap.size,1,none⟩) (by show w.heap.size<=w1.heap.size;omega) (.slice (some ⟨gg,0,none⟩) (n+1) cap2)) (HRD.out.setCell (a:=⟨w1.heap.size,1,none⟩) (by show r<w1.heap.size;omega) (.slice (some ⟨gg,0,none⟩) (n+1) cap2)) (by omega) (HR2.out.offSet (p:=⟨w1.heap.size,1,none⟩) (.inr rfl) (.slice (some ⟨gg,0,none⟩) (n+1) cap2)) (by simp[Ty.cnt,Ty.cnts_append,Ty.cnts,HN.out];omega) (by omega) (by omega) (by omega) (by omega));have hq0:w4.cell? ⟨w1.heap.size,0,none⟩=some (.int .i64 kt):=(World.cell?_of_block (a:=⟨w1.heap.size,0,none⟩) (HFAR.out (w1.heap.size) (by omega) (HNO.out _ (.inl (Nat.le_refl _))))).trans o0;replace f0:w4.frozen? ⟨w.heap.size+1,0,none⟩=false:=(World.frozen?_of_block (a:=⟨w.heap.size+1,0,none⟩) (HFAR.out (w.heap.size+1) (by omega) (HNO.out (w.heap.size+1) (.inr (by omega))))).trans f0;replace f1:w4.frozen? ⟨w.heap.size+1,1,none⟩=false:=(World.frozen?_of_block (a:=⟨w.heap.size+1,1,none⟩) (HFAR.out (w.heap.size+1) (by omega) (HNO.out (w.heap.size+1) (.inr (by omega))))).trans f1;replace x0:w4.cell? ⟨w.heap.size+1,0,none⟩=some (.int .i64 0):=(World.cell?_of_block (a:=⟨w.heap.size+1,0,none⟩) (HFAR.out (w.heap.size+1) (by omega) (HNO.out (w.heap.size+1) (.inr (by omega))))).trans x0;replace x1:w4.cell? ⟨w.heap.size+1,1,none⟩=some (.slice none 0 0):=(World.cell?_of_block (a:=⟨w.heap.size+1,1,none⟩) (HFAR.out (w.heap.size+1) (by omega) (HNO.out (w.heap.size+1) (.inr (by omega))))).trans x1;have hne:w1.heap.size≠w.heap.size+1:=by omega
   have hne':w.heap.size+1≠w1.heap.size:=by omega
   go_wp2_with fail
   refine bq (.agg #[.int .i64 kt,.slice (some ⟨gg,0,none⟩) (n+1) cap2]) (by simp[results,Try.results25,go_sem,x0,x1]) ?_
   exact HEND.out
 by_cases h3:pk=2
 ·subst h3
  clear pk0 pk4 hacc h1 h2
  go_wp2_with fail
  go_loopw [6] (fun i wr=>∃j:Nat,j<=4∧i = .int .i64 j∧Chg [r] w wr∧w1.heap.size<wr.heap.size∧aR wr r (p+1)∧wr.cell? ⟨w.heap.size+1,0,none⟩=some (.int .i64 0)∧wr.cell? ⟨w.heap.size+1,1,none⟩=some (.slice none 0 0) ∧
      wr.frozen? ⟨w.heap.size+1,0,none⟩=false∧wr.frozen? ⟨w.heap.size+1,1,none⟩=false∧wr.frozen? ⟨w1.heap.size,0,none⟩=false∧wr.frozen? ⟨w1.heap.size,1,none⟩=false ∧
      ∃(u:Ty) (k:Int) (a:Option Addr) (n q:Nat),u.cnt<=m+2*j∧wr.cell? ⟨w1.heap.size,0,none⟩=some (.int .i64 k)∧wr.cell? ⟨w1.heap.size,1,none⟩=some (.slice a n q)∧ai (Off B w1.heap.size) wr u (.agg #[.int .i64 k,.slice a n q])) (fun i _=>4-(intOf i).toNat)
  case atStart=>exact⟨0,by omega,rfl,hch2,hlto,hrd2,x0,x1,f0,f1,g0,g1,.mk kt ts,kt,cv,ts.length,qv,by simp only[Ty.cnt];omega,o0,o1,HREP.out kt⟩
  case round=>
   obtain⟨j,hj,rfl,hcr,hlr,hrdr,y0,y1,fy0,fy1,go0,go1,u,k,a,n,q,hcu,c0,c1,hu⟩:=hrel
   by_cases hlt:j<4
   ·go_wp2_with fail
    go_region_law (go_simp;go_at_call 47;refine(cX _).mono ?_;rintro e w3 ⟨v3,rfl,hv3,hb3⟩;obtain⟨k3,a3,n3,q3,rfl⟩:=hv3.shape;have fo0:w3.frozen? ⟨w1.heap.size,0,none⟩=false:=aG hb3 (ap c0) (ee go0);have fo1:w3.frozen? ⟨w1.heap.size,1,none⟩=false:=aG hb3 (ap c1) (ee go1);have co0:w3.cell? ⟨w1.heap.size,0,none⟩=some (.int .i64 k):=af hb3 (ap c0);have co1:w3.cell? ⟨w1.heap.size,1,none⟩=some (.slice a n q):=af hb3 (ap c1);have d0:=World.block_lt_of_cell? _ _ co0;have hbz:=hb3.size)
    all_goals
     go_wp2_with fail
     go_roundw
     case rel=>
      have hu3:=(hu.below bdr).below hb3;have hv3':ai (Off B w1.heap.size) w3 (.mk 1 []) (.agg #[.int .i64 k3,.slice a3 n3 q3]):=
       hv3.rep.move (.weaken fun b hb _=>⟨by have:wr.drew.heap.size<=b:=hb;simp at this;omega,by show b≠w1.heap.size;have:wr.drew.heap.size<=b:=hb;simp at this;omega⟩)
      simp only[World.size_drew] at hbz;have hB3:B<=w3.heap.size:=by omega
      have ho3:w3.heap.size≠w1.heap.size:=by omega
      have hO:w.heap.size<=w1.heap.size:=by omega
      have hR:w.heap.size+1≠w1.heap.size:=by omega
      have hrO:r<w1.heap.size:=by omega
      have st : ∀(t':Ty) (v':Value),ai (Off B w1.heap.size) w3 t' v'->ai (Off B w1.heap.size) (((w3.setCell ⟨w1.heap.size,0,none⟩ (.int .i64 4)).setCell ⟨w1.heap.size,1,none⟩ (.slice (some ⟨w3.heap.size,0,none⟩) 2 2)).alloc (.cells #[.int .i64 k3,.slice a3 n3 q3,.int .i64 k,.slice a n q] 25)) t' v':=
       fun t' v' h=>((h.offSet (.inr rfl) _).offSet (.inr rfl) _).below ag
      have htwo:=ai.offTwo (k:=4) (B:=B) (o:=w1.heap.size) (b:=w3.heap.size) (cap:=2) ⟨hB3,ho3⟩ (Nat.le_refl _) (by unfold maxLen;omega) (ao (by simp[World.setCell]) 0) (ao (by simp[World.setCell]) 1) (ao (by simp[World.setCell]) 2) (ao (by simp[World.setCell]) 3) (st _ _ hv3') (st _ _ hu3);have e0:=af hb3 (ap y0);have e1:=af hb3 (ap y1)
      exact⟨j+1,by omega,by go_num,((((hcr.trans (Chg.of_below bdr)).trans (Chg.of_below hb3)).trans' hO _).trans' hO _).trans (Chg.of_below ag),by simp[World.setCell];omega,
        ((((hrdr.below bdr).below hb3).setCell (a:=⟨w1.heap.size,0,none⟩) hrO _).setCell (a:=⟨w1.heap.size,1,none⟩) hrO _).below ag,
        af ag (aT (aT e0 hR) hR),af ag (aT (aT e1 hR) hR),
        aG ag (aT (aT e0 hR) hR) (dG (dG (aG hb3 (ap y0) (ee fy0)))),aG ag (aT (aT e1 hR) hR) (dG (dG (aG hb3 (ap y1) (ee fy1)))),
        aG ag (cF (bP co0) (by simp)) (dG (dG fo0)),aG ag (bP (cF co1 (by simp))) (dG (dG fo1)),
        .mk 4 [.mk 1 [],u],4,_,_,_,by simp[Ty.cnt,Ty.cnts];omega,af ag (cF (bP co0) (by simp)),af ag (bP (cF co1 (by simp))),htwo⟩
     case measure=>simp[intOf];omega
   ·have HEND:=zq (gY (R:=w.heap.size+1) (m:=m+10) (p:=p) hcr hrdr (by omega) hu (by omega) (by omega) (by omega) (by omega) (by omega))
    have hne':w.heap.size+1≠w1.heap.size:=by omega
    go_wp2_with fail
    refine bq (.agg #[.int .i64 k,.slice a n q]) (by simp[results,Try.results25,go_sem,y0,y1]) ?_
    exact HEND.out
 ·have e0:(pk==0)=false:=by simpa using h1
  have e1:(pk==1)=false:=by simpa using h2
  have e2:(pk==2)=false:=by simpa using h3
  clear h1 h2 h3 pk0 pk4 hacc;have HEND:=zq (gY (R:=w.heap.size+1) (m:=m+10) (p:=p) hch2 hrd2 (by omega) (HREP.out kt) (by simp only[Ty.cnt];omega) (by omega) (by omega) (by omega) (by omega));have hne':w.heap.size+1≠w1.heap.size:=by omega
  go_wp2_with fail
  refine bq (.agg #[.int .i64 kt,.slice cv ts.length qv]) (by simp[results,Try.results25,go_sem,x0,x1]) ?_
  exact HEND.out
end Go.Proofs.Ytfhglkmjibjjoaa

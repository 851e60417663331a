/- Terms with other types: plain laws. And what else its parts name. -/
import Derived.Test.YtfahhonmiimmdaaGreatB18
set_option linter.unusedSimpArgs false
set_option linter.unusedVariables false
set_option maxRecDepth 100000
set_option maxHeartbeats 16000000
namespace Go.Proofs.YtfahhonmiimmdaaGreat
open Go.RowKit
theorem castsA (F:Nat→Prop)(N0:Nat)(hF : ∀b,F b→b<N0)(t:Tm)(hk:(t.kind==14)=true)(IH : ∀t'∈t.kids,fZ F N0 t'):fZ F N0 t:=by
 intro hlen y w hy hN0;obtain⟨k,nm,u,tk,ta,tn,tq,fk,fa,fn,fq,l,c,m,q,rfl⟩:=hy.shape;obtain⟨r1,r2,r3,r4,r5,r6,r7,r8,r9,rn,rm,rq,hty,hsr,hks⟩:=hy.parts;have hsr0:=hy.srepQ;obtain⟨i0,hi,hz0,hz1,hz2⟩:=info_parts Tryz.infoTm
 cases t with | mk kk nn uu tt ff ll ts=>
 simp only[Tm.kind,Tm.name,Tm.num,Tm.type,Tm.src,Tm.label,Tm.kids] at *;subst r1 r2 r3 r8;have hl2:(Tm.castss ts).length≤1000000:=by unfold Tm.casts at hlen;rw[List.length_append] at hlen;omega
 have HLEN:=zq hl2;have HN:=zq r9;have IHH:=zq IH;have Z0:=zq hz0;have Z1:=zq hz1;have Z2:=zq hz2;have HI:=zq hi;have HF:=zq hF;have HSR:=zq hsr0;unfold maxLen at rq;unfold oS Tm.casts;clear hl2 IH hy r9 r4 r5 r6 r7 rn hsr hty hlen hz0 hz1 hz2 hi hF hsr0;rw[hk,if_pos rfl];obtain⟨TL,hTL⟩ : ∃x,[Tm.mk k nm u tt ff l ts]++Tm.castss ts=x:=⟨_,rfl⟩
 rw[hTL];have HTL:=zq hTL;clear hTL
 go_enter Tryz.func17,Tryz.ntmps17
 go_wp2_with fail
 have hown3:=oJ (W:=(w.alloc (.cells #[.int .i64 k,.string nm,.int .i64 u,.int .i64 tk,.slice ta tn tq,.int .i64 fk,.slice fa fn fq,.int .i64 l,.slice c m q] 28)).alloc (.cells #[.int .i64 k,.string nm,.int .i64 u,.int .i64 tk,.slice ta tn tq,.int .i64 fk,.slice fa fn fq,.int .i64 l,.slice c m q] 28)) (B:=w.heap.size+1) (e:=28) (cs:=#[.int .i64 k,.string nm,.int .i64 u,.int .i64 tk,.slice ta tn tq,.int .i64 fk,.slice fa fn fq,.int .i64 l,.slice c m q]) (z:=#[.int .i64 0,.string {data:=#[]},.int .i64 0,.int .i64 0,.slice none 0 0,.int .i64 0,.slice none 0 0,.int .i64 0,.slice none 0 0]) (size:=9) (cap:=(Question.appendCap 1 0 28).cut (w.tape w.drawn (Question.appendCap 1 0 28))) rfl rfl rfl (by simp);have hgrow:=tl ((w.alloc (.cells #[.int .i64 k,.string nm,.int .i64 u,.int .i64 tk,.slice ta tn tq,.int .i64 fk,.slice fa fn fq,.int .i64 l,.slice c m q] 28)).alloc (.cells #[.int .i64 k,.string nm,.int .i64 u,.int .i64 tk,.slice ta tn tq,.int .i64 fk,.slice fa fn fq,.int .i64 l,.slice c m q] 28)) (.cells (#[.int .i64 k,.string nm,.int .i64 u,.int .i64 tk,.slice ta tn tq,.int .i64 fk,.slice fa fn fq,.int .i64 l,.slice c m q]++Builtin.zeroCells #[.int .i64 0,.string {data:=#[]},.int .i64 0,.int .i64 0,.slice none 0 0,.int .i64 0,.slice none 0 0,.int .i64 0,.slice none 0 0] ((Question.appendCap 1 0 28).cut (w.tape w.drawn (Question.appendCap 1 0 28))-1)) 28);rw[show((w.alloc (.cells #[.int .i64 k,.string nm,.int .i64 u,.int .i64 tk,.slice ta tn tq,.int .i64 fk,.slice fa fn fq,.int .i64 l,.slice c m q] 28)).alloc (.cells #[.int .i64 k,.string nm,.int .i64 u,.int .i64 tk,.slice ta tn tq,.int .i64 fk,.slice fa fn fq,.int .i64 l,.slice c m q] 28)).heap.size=w.heap.size+1+1 by simp] at hown3;generalize (Question.appendCap 1 0 28).cut (w.tape w.drawn (Question.appendCap 1 0 28))=cap2 at *;generalize World.drew (World.alloc ((w.alloc (.cells #[.int .i64 k,.string nm,.int .i64 u,.int .i64 tk,.slice ta tn tq,.int .i64 fk,.slice fa fn fq,.int .i64 l,.slice c m q] 28)).alloc (.cells #[.int .i64 k,.string nm,.int .i64 u,.int .i64 tk,.slice ta tn tq,.int .i64 fk,.slice fa fn fq,.int .i64 l,.slice c m q] 28)) _)=w3 at *;have hacc0:=bW.pushR (F:=F) (W:=(w.alloc (.cells #[.int .i64 k,.string nm,.int .i64 u,.int .i64 tk,.slice ta tn tq,.int .i64 fk,.slice fa fn fq,.int .i64 l,.slice c m q] 28)).alloc (.cells #[.int .i64 k,.string nm,.int .i64 u,.int .i64 tk,.slice ta tn tq,.int .i64 fk,.slice fa fn fq,.int .i64 l,.slice c m q] 28)) (v:=.slice none 0 0) (n:=0) (m:=1) (rows:= []) (xs:= []) (rs:= [(Tm.mk k nm u tt ff l ts).row]) rfl rfl rfl ⟨_,[],by simp,HSR.out.move (bl.below aT) _ _,rfl⟩ (fun b hb=>by have:=HF.out b hb;omega) (fun g e=>by simp[Value.ownBlock] at e) hown3 hgrow
 have hB:Below w.heap.size w w3:=(aT (o:=.cells #[.int .i64 k,.string nm,.int .i64 u,.int .i64 tk,.slice ta tn tq,.int .i64 fk,.slice fa fn fq,.int .i64 l,.slice c m q] 28) (o':=.cells #[.int .i64 k,.string nm,.int .i64 u,.int .i64 tk,.slice ta tn tq,.int .i64 fk,.slice fa fn fq,.int .i64 l,.slice c m q] 28)).grown hgrow aT.size (fun k hk=>by simp[Value.ownBlock] at hk);have c8c:w3.cell? ⟨w.heap.size,8,none⟩=some (.slice c m q):=(World.cell?_of_block (a:=⟨w.heap.size,8,none⟩) (hgrow.block _ (by simp;omega) (by simp[Value.ownBlock]))).trans (ah ai (az 8));have HACC0:=zq hacc0;clear hacc0 hown3 hgrow
 go_loopw [16,3] (fun i p wr=>∃j:Nat,j≤m∧i = .int .i64 j∧(∃nn:Nat,nn=([Tm.mk k nm u tt ff l ts]++Tm.castss (ts.take j)).length∧(nn=0→p = .slice none 0 0)∧bW (w.heap.size+1) F 28 9 wr p nn (Tm.rows ([Tm.mk k nm u tt ff l ts]++Tm.castss (ts.take j))))∧Below w.heap.size w wr) (fun i _ _=>m-(intOf i).toNat)
 case atStart=>exact⟨0,by omega,rfl,⟨1,by simp[Tm.castss],by simp,by simpa [Tm.castss,Tm.rows] using HACC0.out⟩,hB⟩
 case round=>
  obtain⟨j,hj,rfl,⟨nn,hnn,hnil,hacc⟩,hbw⟩:=hrel;have hbz0:=hbw.size
  by_cases hlt:j<m
  ·have hjt:j<ts.length:=by have:=HN.out;omega
   obtain⟨b,off,k0,nm0,u0,tk0,ta0,tn0,tq0,fk0,fa0,fn0,fq0,l0,a0,m0,q0,rfl,lb,e0,e1,e2,e3,e4,e5,e6,e7,e8,ht⟩:=hks.at hbw hjt;have hcall:=fun(W:World) (y:Value) (h:ax F W ts[j] y) (hN:N0≤W.heap.size)=>IHH.out ts[j] (List.getElem_mem hjt) (by have:=Tm.castss_take_le ts (j+1);rw[Tm.castss_take_succ ts j hjt,List.length_append] at this;have:=HLEN.out;omega) y W h hN;have htl:nn+ts[j].casts.length≤1000001:=by
    have h1:=Tm.castss_take_le ts (j+1);rw[Tm.castss_take_succ ts j hjt,List.length_append] at h1;rw[hnn,List.length_append];have:=HLEN.out;have:([Tm.mk k nm u tt ff l ts]:List Tm).length≤1:=by simp
    omega
   have hts:=Tm.castss_take_succ ts j hjt;generalize ts[j].casts=us at hcall htl hts;have HC:=zq hcall;have HTS:=zq hts;have HNN:=zq hnn;have HNIL:=zq hnil;clear hcall hts hnn hnil;obtain⟨cv,qv,rfl⟩:=hacc.shape;have HACC:=zq hacc;clear hacc
   go_wp2_with fail
   refine(HC.out _ _ (ht.below ai) (by simp;omega)).mono ?_;rintro e w1 ⟨v1,rfl,hv1,hv1n,hb1⟩;have hbz:=hb1.size
   simp at hbz
   obtain⟨xs,ho,hl,hs⟩:=HACC.out;obtain⟨xs1,ho1,hl1,hs1⟩:=hv1;have hxl:=ho1.1;obtain⟨ml,hml⟩ : ∃x,us.length=x:=⟨_,rfl⟩
   rw[hml] at htl ho1 hl1 hxl hv1n;have hlt2 : ∀x,(Value.slice cv nn qv).ownBlock=some x→w.heap.size+1≤x:=fun x e=>(ho.lt x e).1;have ho':=aP ho (aj ai hb1);have hs':=hs.move (bl.below (aj ai hb1)) _ _;have hbel:=fun w2=>bj (w2:=w2) hbw (aj ai hb1) ho (by omega);have HML:=zq hml;have HBEL:=zq hbel;have HO:=zq ho';have HS:=zq hs';have HL:=zq hl;have HLT2:=zq hlt2;have HO1:=zq ho1;have HS1:=zq hs1;have HL1:=zq hl1;have HXL:=zq hxl;have hsl:=ho1.2;clear ho hl hs ho1 hl1 hs1 hlt2 ho' hs' hbel hxl hml
   by_cases hm0:ml=0
   ·obtain rfl:=hv1n hm0
    have hus:us = []:=List.eq_nil_of_length_eq_zero (HML.out.trans hm0);have HUS:=zq hus;clear hsl hus hv1n
    go_wp2_with (first | (at_builtin;refine wpList_append_own_none rfl (.tmp 20) (.tmp 22) 26 rfl (w.heap.size+1) 28 i0 9 Tryz.underlying26 HI.out (.slice cv nn qv) nn xs rfl HO.out rfl ?_) | fail)
    go_roundw
    case rel=>exact⟨j+1,by omega,by go_num,⟨nn,by rw[HTS.out,HUS.out,List.append_nil];exact HNN.out,HNIL.out,by rw[HTS.out,HUS.out,List.append_nil];exact⟨xs,HO.out,HL.out,HS.out⟩⟩,aj (aj hbw ai) hb1⟩
    case measure=>simp[intOf];omega
   ·have hpos:0<ml:=by omega
    rcases hsl with ⟨rfl,h0⟩ | ⟨g1,q1,cur,rfl,hg1,-⟩
    ·exact absurd h0 hm0
    have hcells:=eT HO1.out;have HCE:=zq hcells;have hsz1:w.heap.size+1≤w1.heap.size:=by omega
    clear hcells hv1n
    go_wp2_with (first | (at_builtin;refine wpList_append_lies _ rfl (.tmp 20) (.tmp 22) 26 rfl (w.heap.size+1) 28 i0 _ 9 128 Tryz.underlying26 HI.out Z0.out Z1.out Z2.out rfl (by omega) (.slice cv nn qv) nn xs rfl HO.out ⟨g1,0,none⟩ ml q1 xs1 rfl HXL.out HCE.out HS1.out.one hpos (by unfold maxLen;omega) (by omega) hsz1 _ rfl ?_) | fail)
    intro gg cap2 w2 hown2 hgrow hat hlt3;have hacc2:=bW.pushR HL.out HS.out HL1.out HS1.out (fun b hb=>by have:=HF.out b hb;omega) HLT2.out hown2 hgrow;have HACC2:=zq hacc2;have hbel2:=HBEL.out w2 hgrow;clear hacc2 hown2 hgrow hat
    go_wp2_with fail
    go_roundw
    case rel=>exact⟨j+1,by omega,by go_num,⟨nn+ml,by rw[HTS.out,←List.append_assoc,List.length_append,←HNN.out,HML.out],by omega,by rw[HTS.out,←List.append_assoc,Tm.rows_eq,List.map_append,←Tm.rows_eq,←Tm.rows_eq];exact HACC2.out⟩,hbel2⟩
    case measure=>simp[intOf];omega
  ·have HNN:=zq hnn
   have HNIL:=zq hnil;have HACC:=zq hacc;clear hnn hnil hacc
   go_wp2_with fail
   go_ret
   have e:TL = [Tm.mk k nm u tt ff l ts]++Tm.castss (ts.take j):=HTL.out.symm.trans (by rw[List.take_of_length_le (by have:=HN.out;omega)]);refine⟨_,rfl,?_,?_,hbw⟩
   ·rw[e,←HNN.out];exact HACC.out.mono (by omega)
   ·rw[e,←HNN.out];exact HNIL.out
theorem castsB (F:Nat→Prop)(N0:Nat)(hF : ∀b,F b→b<N0)(t:Tm)(hk:(t.kind==14)=false)(IH : ∀t'∈t.kids,fZ F N0 t'):fZ F N0 t:=by
 intro hlen y w hy hN0;obtain⟨k,nm,u,tk,ta,tn,tq,fk,fa,fn,fq,l,c,m,q,rfl⟩:=hy.shape;obtain⟨r1,r2,r3,r4,r5,r6,r7,r8,r9,rn,rm,rq,hty,hsr,hks⟩:=hy.parts;have hsr0:=hy.srepQ;obtain⟨i0,hi,hz0,hz1,hz2⟩:=info_parts Tryz.infoTm
 cases t with | mk kk nn uu tt ff ll ts=>
 simp only[Tm.kind,Tm.name,Tm.num,Tm.type,Tm.src,Tm.label,Tm.kids] at *;subst r1 r2 r3 r8;have hl2:(Tm.castss ts).length≤1000000:=by unfold Tm.casts at hlen;rw[List.length_append] at hlen;omega
 have HLEN:=zq hl2;have HN:=zq r9;have IHH:=zq IH;have Z0:=zq hz0;have Z1:=zq hz1;have Z2:=zq hz2;have HI:=zq hi;have HF:=zq hF;have HSR:=zq hsr0;unfold maxLen at rq;unfold oS Tm.casts;clear hl2 IH hy r9 r4 r5 r6 r7 rn hsr hty hlen hz0 hz1 hz2 hi hF hsr0;rw[hk,if_neg (by simp)];obtain⟨TL,hTL⟩ : ∃x,([]:List Tm)++Tm.castss ts=x:=⟨_,rfl⟩
 rw[hTL];have HTL:=zq hTL;clear hTL
 go_enter Tryz.func17,Tryz.ntmps17
 have hB:Below w.heap.size w (w.alloc (.cells #[.int .i64 k,.string nm,.int .i64 u,.int .i64 tk,.slice ta tn tq,.int .i64 fk,.slice fa fn fq,.int .i64 l,.slice c m q] 28)):=ai
 go_wp2_with fail
 go_loopw [16,3] (fun i p wr=>∃j:Nat,j≤m∧i = .int .i64 j∧(∃nn:Nat,nn=(([]:List Tm)++Tm.castss (ts.take j)).length∧(nn=0→p = .slice none 0 0)∧bW (w.heap.size+1) F 28 9 wr p nn (Tm.rows (([]:List Tm)++Tm.castss (ts.take j))))∧Below w.heap.size w wr) (fun i _ _=>m-(intOf i).toNat)
 case atStart=>exact⟨0,by omega,rfl,⟨0,by simp[Tm.castss],fun _=>rfl,by simpa [Tm.castss,Tm.rows] using bW.nil _ _ _ _ _⟩,hB⟩
 case round=>
  obtain⟨j,hj,rfl,⟨nn,hnn,hnil,hacc⟩,hbw⟩:=hrel;have hbz0:=hbw.size
  by_cases hlt:j<m
  ·have hjt:j<ts.length:=by have:=HN.out;omega
   obtain⟨b,off,k0,nm0,u0,tk0,ta0,tn0,tq0,fk0,fa0,fn0,fq0,l0,a0,m0,q0,rfl,lb,e0,e1,e2,e3,e4,e5,e6,e7,e8,ht⟩:=hks.at hbw hjt;have hcall:=fun(W:World) (y:Value) (h:ax F W ts[j] y) (hN:N0≤W.heap.size)=>IHH.out ts[j] (List.getElem_mem hjt) (by have:=Tm.castss_take_le ts (j+1);rw[Tm.castss_take_succ ts j hjt,List.length_append] at this;have:=HLEN.out;omega) y W h hN;have htl:nn+ts[j].casts.length≤1000001:=by
    have h1:=Tm.castss_take_le ts (j+1);rw[Tm.castss_take_succ ts j hjt,List.length_append] at h1;rw[hnn,List.length_append];have:=HLEN.out;have:(([]:List Tm):List Tm).length≤1:=by simp
    omega
   have hts:=Tm.castss_take_succ ts j hjt;generalize ts[j].casts=us at hcall htl hts;have HC:=zq hcall;have HTS:=zq hts;have HNN:=zq hnn;have HNIL:=zq hnil;clear hcall hts hnn hnil;obtain⟨cv,qv,rfl⟩:=hacc.shape;have HACC:=zq hacc;clear hacc
   go_wp2_with fail
   refine(HC.out _ _ (ht.below ai) (by simp;omega)).mono ?_;rintro e w1 ⟨v1,rfl,hv1,hv1n,hb1⟩;have hbz:=hb1.size
   simp at hbz
   obtain⟨xs,ho,hl,hs⟩:=HACC.out;obtain⟨xs1,ho1,hl1,hs1⟩:=hv1;have hxl:=ho1.1;obtain⟨ml,hml⟩ : ∃x,us.length=x:=⟨_,rfl⟩
   rw[hml] at htl ho1 hl1 hxl hv1n;have hlt2 : ∀x,(Value.slice cv nn qv).ownBlock=some x→w.heap.size+1≤x:=fun x e=>(ho.lt x e).1;have ho':=aP ho (aj ai hb1);have hs':=hs.move (bl.below (aj ai hb1)) _ _;have hbel:=fun w2=>bj (w2:=w2) hbw (aj ai hb1) ho (by omega);have HML:=zq hml;have HBEL:=zq hbel;have HO:=zq ho';have HS:=zq hs';have HL:=zq hl;have HLT2:=zq hlt2;have HO1:=zq ho1;have HS1:=zq hs1;have HL1:=zq hl1;have HXL:=zq hxl;have hsl:=ho1.2;clear ho hl hs ho1 hl1 hs1 hlt2 ho' hs' hbel hxl hml
   by_cases hm0:ml=0
   ·obtain rfl:=hv1n hm0
    have hus:us = []:=List.eq_nil_of_length_eq_zero (HML.out.trans hm0);have HUS:=zq hus;clear hsl hus hv1n
    go_wp2_with (first | (at_builtin;refine wpList_append_own_none rfl (.tmp 20) (.tmp 22) 26 rfl (w.heap.size+1) 28 i0 9 Tryz.underlying26 HI.out (.slice cv nn qv) nn xs rfl HO.out rfl ?_) | fail)
    go_roundw
    case rel=>exact⟨j+1,by omega,by go_num,⟨nn,by rw[HTS.out,HUS.out,List.append_nil];exact HNN.out,HNIL.out,by rw[HTS.out,HUS.out,List.append_nil];exact⟨xs,HO.out,HL.out,HS.out⟩⟩,aj (aj hbw ai) hb1⟩
    case measure=>simp[intOf];omega
   ·have hpos:0<ml:=by omega
    rcases hsl with ⟨rfl,h0⟩ | ⟨g1,q1,cur,rfl,hg1,-⟩
    ·exact absurd h0 hm0
    have hcells:=eT HO1.out;have HCE:=zq hcells;have hsz1:w.heap.size+1≤w1.heap.size:=by omega
    clear hcells hv1n
    go_wp2_with (first | (at_builtin;refine wpList_append_lies _ rfl (.tmp 20) (.tmp 22) 26 rfl (w.heap.size+1) 28 i0 _ 9 128 Tryz.underlying26 HI.out Z0.out Z1.out Z2.out rfl (by omega) (.slice cv nn qv) nn xs rfl HO.out ⟨g1,0,none⟩ ml q1 xs1 rfl HXL.out HCE.out HS1.out.one hpos (by unfold maxLen;omega) (by omega) hsz1 _ rfl ?_) | fail)
    intro gg cap2 w2 hown2 hgrow hat hlt3;have hacc2:=bW.pushR HL.out HS.out HL1.out HS1.out (fun b hb=>by have:=HF.out b hb;omega) HLT2.out hown2 hgrow;have HACC2:=zq hacc2;have hbel2:=HBEL.out w2 hgrow;clear hacc2 hown2 hgrow hat
    go_wp2_with fail
    go_roundw
    case rel=>exact⟨j+1,by omega,by go_num,⟨nn+ml,by rw[HTS.out,←List.append_assoc,List.length_append,←HNN.out,HML.out],by omega,by rw[HTS.out,←List.append_assoc,Tm.rows_eq,List.map_append,←Tm.rows_eq,←Tm.rows_eq];exact HACC2.out⟩,hbel2⟩
    case measure=>simp[intOf];omega
  ·have HNN:=zq hnn
   have HNIL:=zq hnil;have HACC:=zq hacc;clear hnn hnil hacc
   go_wp2_with fail
   go_ret
   have e:TL=([]:List Tm)++Tm.castss (ts.take j):=HTL.out.symm.trans (by rw[List.take_of_length_le (by have:=HN.out;omega)]);refine⟨_,rfl,?_,?_,hbw⟩
   ·rw[e,←HNN.out];exact HACC.out.mono (by omega)
   ·rw[e,←HNN.out];exact HNIL.out
end Go.Proofs.YtfahhonmiimmdaaGreat

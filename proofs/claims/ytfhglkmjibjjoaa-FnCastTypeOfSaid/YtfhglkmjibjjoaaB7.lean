/- What makes a node of a term. And what else its parts name. -/
import Derived.Test.YtfhglkmjibjjoaaB5
import Derived.Test.YtfhglkmjibjjoaaB6
import Derived.Test.YtfhglkmjibjjoaaB10
set_option linter.unusedSimpArgs false
set_option linter.unusedVariables false
set_option maxRecDepth 100000
set_option maxHeartbeats 16000000
namespace Go.Proofs.Ytfhglkmjibjjoaa
open Go.RowKit
def ownB (k u l:Int)(nm:ByteArray)(tv n1 n2 cv:Bool):Bool:=
 (if k==1||k==5 then aI nm else nm.toList == [])&&aC u 0 (if k==2 then 999 else 0)&&(if k==5||k==13||k==14 then tv else n1)&&(if k==14 then cv&&cp l else n2&&l==0)
def nodeB (k u l:Int)(nm:ByteArray)(m:Nat)(tv n1 n2 cv:Bool):Bool:=(aD k==(m:Int))&&ownB k u l nm tv n1 n2 cv
def Tm.ownB (t:Tm):Bool:=Go.Proofs.Ytfhglkmjibjjoaa.ownB t.kind t.num t.label t.name t.type.valid t.type.noneB t.src.noneB (t.src.valid&&t.type.valid&&t.src.cons t.type)
def Tm.nodeB (t:Tm):Bool:=(aD t.kind==(t.kids.length:Int))&&t.ownB
theorem kinds6 (k:Int):k=1∨k=2∨k=5∨k=13∨k=14∨((k==1)=false∧(k==5)=false∧(k==13)=false∧(k==14)=false∧(k==2)=false):=by
 simp only[beq_eq_false_iff_ne]
 omega
theorem bN (u:Int):(u==0)=aC u 0 0:=by unfold aC;rw[Bool.eq_iff_iff];simp;omega
theorem dm (F:Nat->Prop)(t:Ty) : ∀(y:Value) (w:World),ai F w t y->t.cnt<=1048576 ->
  Calls Try.prog 14 #[y] w (cJ t w):=by
 intro y w hy hcnt;have IH : ∀t'∈t.kids,∀(y:Value) (W:World),ai F W t' y->Calls Try.prog 14 #[y] W (cJ t' W):=
  fun t' ht y W h=>dm F t' y W h (by have:=Ty.cnt_kid ht;omega)
 obtain⟨i0,hi,hz0,hz1,hz2⟩:=info_parts Try.infoTy;obtain⟨a,cap,rfl,h2,h3,hr⟩:=hy.open
 cases t with | mk k ts=>
 simp only[Ty.kind,Ty.kids] at *;unfold maxLen at h3;have IHH:=zq IH;have HCN:=zq (show ts.length<=1048576 by simp only[Ty.cnt] at hcnt;omega);clear IH hy hcnt;obtain⟨n,hn⟩ : ∃n,ts.length=n:=⟨_,rfl⟩
 rw[hn] at h2 hr HCN;rw[hn];have HN:=zq hn;clear hn;have Z0:=zq hz0;have Z1:=zq hz1;have Z2:=zq hz2;have HI:=zq hi;clear hz0 hz1 hz2 hi
 go_enter Try.func14,Try.ntmps14
 go_wp2_with fail
 go_loopw [12] (fun i wr=>∃j:Nat,j<=n∧i = .int .i64 j∧Below w.heap.size w wr∧w.heap.size+1+1<wr.heap.size∧(∃u,wr.cell? ⟨w.heap.size+1,0,none⟩=some u)∧(∃u,wr.cell? ⟨w.heap.size+1,1,none⟩=some u) ∧
     (∀o,wr.frozen? ⟨w.heap.size+1,o,none⟩=false)∧(∀o,wr.frozen? ⟨w.heap.size+1+1,o,none⟩=false)∧wr.cell? ⟨w.heap.size+1+1,0,none⟩=some (.int .i64 k) ∧
     ∃v,wr.cell? ⟨w.heap.size+1+1,1,none⟩=some v∧aS (w.heap.size+1+1+1) 25 2 wr v j (Ty.rows (ts.take j))) (fun i _=>n-(intOf i).toNat)
 case atStart=>exact⟨0,by omega,rfl,bG,by simp,⟨.int .i64 0,af ag (cg 0)⟩,⟨.slice none 0 0,af ag (cg 1)⟩,fun o=>cG ag (by simp) (dV o),fun o=>dK o,cK 0,.slice none 0 0,cK 1,by simpa [Ty.rows] using aS.nil _ _ _ _⟩
 case round=>
  obtain⟨j,hj,rfl,hbw,hsz,⟨u0,hu0⟩,⟨u1,hu1⟩,hf1,hf2,hk0,v,hv,hacc⟩:=hrel
  by_cases hlt:j<n
  ·have hjt:j<ts.length:=by rw[HN.out];exact hlt
   obtain⟨b,off,k0,a0,m0,q0,rfl,l0,e0,e1,ht⟩:=hr.at hbw hjt;have HC:=zq (fun W (h:Below wr.heap.size wr W)=>IHH.out ts[j] (List.getElem_mem hjt) _ W (ht.below h));obtain⟨xs,fps,ho,hl,hs,hd,hfp⟩:=hacc;have HO:=zq ho;have HS:=zq hs;have HD:=zq hd;have HFP:=zq hfp;have HL:=zq hl;clear ho hs hd hfp hl;obtain⟨cv,qv,rfl⟩ : ∃c q,v = .slice c j q:=by
    rcases HO.out.2 with ⟨h,h0⟩ | ⟨g,cap,cur,h,_⟩
    ·exact⟨none,0,by rw[h,h0]⟩
    ·exact⟨_,cap,h⟩
   go_wp2_with fail
   have hB3:w.heap.size+1+1+1<=wr.heap.size:=by omega
   go_region_law (first
     | (go_simp;go_at_call 14;refine(HC.out _ (by first | exact ag | exact ag.drew)).mono ?_;rintro e w1 ⟨v1,rfl,hv1,hb1⟩;obtain⟨k1,c1,m1,q1,fp1,rfl,-,-,hs1,hd1,hx1⟩:=hv1.open;have hq1:w1.cell? ⟨w.heap.size+1+1,1,none⟩=some (.slice cv j qv):=af (al ag.drew hb1) hv;have hbz:=hb1.size;have hl1:w.heap.size+1+1<w1.heap.size:=World.block_lt_of_cell? _ _ hq1)
     | (refine step_append_lies _ (by rfl) (.tmp 17) (.tmp 20) 23 (by rfl) (w.heap.size+1+1+1) 25 i0 _ 2 32 Try.underlying23 HI.out Z0.out Z1.out Z2.out rfl (by omega) (.slice cv j qv) j xs (by rfl) (bc HO.out (al (al ag.drew hb1) ag))
         ⟨w1.heap.size,0,none⟩ 1 1 [.int .i64 k1,.slice c1 m1 q1] (by rfl) (by rfl) (World.news_of_block (cs:=#[.int .i64 k1,.slice c1 m1 q1]) (t:=25) (fr:=(0,0)) (heap_alloc_new w1 _)) (by simp[Value.oneCell'])
         (by omega) (by have:=HCN.out;unfold maxLen;omega) (by have:=HCN.out;omega) (by simp at hbz ⊢;omega) _ rfl ?_
        intro gg cap2 w2 hown2 hgrow hat hlt2;have hfar:=cI (al (al ag.drew hb1) ag) HO.out hgrow;have hq:w2.cell? ⟨w.heap.size+1+1,1,none⟩=some (.slice cv j qv):=(World.cell?_of_block (a:=⟨w.heap.size+1+1,1,none⟩) (hfar (w.heap.size+1+1) (by omega) (by omega))).trans hv;have hqf:w2.frozen? ⟨w.heap.size+1+1,1,none⟩=false:=(World.frozen?_of_block (a:=⟨w.heap.size+1+1,1,none⟩) (hfar (w.heap.size+1+1) (by omega) (by omega))).trans (hf2 _);have HFAR:=zq hfar;have hacc2:=aS.push HL.out HO.out HS.out HD.out HFP.out hB3 (al (al ag.drew hb1) ag) (by simp) (hs1.move _ _ _ fun b hb=>heap_alloc_old w1 _ (bL.lt _ _ _ hs1 b hb)) hd1 hx1 hown2 hgrow hat;have HACC:=zq hacc2;have hbel:=bW hbw (al (al ag.drew hb1) ag) HO.out (by omega) hgrow;have hsz2:wr.heap.size<=w2.heap.size:=Nat.le_trans (al (al ag.drew hb1) ag).size hgrow.size;clear hfar hacc2 hown2 hgrow hat hq1))
   all_goals
    go_wp2_with fail
    go_roundw
    case rel=>
     have c1:(w2.setCell ⟨w.heap.size+1+1,1,none⟩ (.slice (some ⟨gg,0,none⟩) (j+1) cap2)).heap[w.heap.size+1]?=wr.heap[w.heap.size+1]?:=
      (Below.heap_setCell w2 ⟨w.heap.size+1+1,1,none⟩ _ _ (by show w.heap.size+1≠w.heap.size+1+1;omega)).trans (HFAR.out (w.heap.size+1) (by omega) (by omega))
     have hk2:=(World.cell?_of_block (a:=⟨w.heap.size+1+1,0,none⟩) (HFAR.out (w.heap.size+1+1) (by omega) (by omega))).trans hk0;have hf4:=fun o=>(World.frozen?_of_block (a:=⟨w.heap.size+1+1,o,none⟩) (HFAR.out (w.heap.size+1+1) (by omega) (by omega))).trans (hf2 o);refine⟨j+1,by omega,by go_num,hbel.setCell (by show w.heap.size<=w.heap.size+1+1;omega) _,by simp[World.setCell];omega,⟨u0,(World.cell?_of_block (a:=⟨w.heap.size+1,0,none⟩) c1).trans hu0⟩,⟨u1,(World.cell?_of_block (a:=⟨w.heap.size+1,1,none⟩) c1).trans hu1⟩,
       fun o=>(World.frozen?_of_block (a:=⟨w.heap.size+1,o,none⟩) c1).trans (hf1 o),fun o=>(dh _ _ _ _).trans (hf4 o),cF hk2 (by simp),_,bP hq,?_⟩
     have h:=HACC.out.setCell (p:=⟨w.heap.size+1+1,1,none⟩) (by show w.heap.size+1+1<w.heap.size+1+1+1;omega) (.slice (some ⟨gg,0,none⟩) (j+1) cap2);rw[Ty.rows_eq] at h ⊢;rw[List.take_succ_eq_append_getElem hjt,List.map_append]
     exact h
    case measure=>simp[intOf];omega
  ·obtain⟨cv,qv,rfl⟩:=hacc.shape
   have f0:=hf1 0;have f1:=hf1 1
   go_wp2_with fail
   refine bq (.agg #[.int .i64 k,.slice cv j qv]) (by simp[results,Try.results14,go_sem,hu0,hu1]) ?_;rw[List.take_of_length_le (by rw[HN.out];omega)] at hacc;have hjn:j=n:=by omega
   refine⟨_,rfl,bp.mono (bx.ty ((hacc.tys.setCell (by show w.heap.size+1<w.heap.size+1+1+1;omega) _).setCell (by show w.heap.size+1<w.heap.size+1+1+1;omega) _)) (by omega),?_⟩
   exact(hbw.setCell (by show w.heap.size<=w.heap.size+1;omega) _).setCell (by show w.heap.size<=w.heap.size+1;omega) _
termination_by SizeOf.sizeOf t
decreasing_by exact Ty.kid_lt ht
end Go.Proofs.Ytfhglkmjibjjoaa

/- Meets by the reference. -/
import Derived.Test.YtfhglkmjibjjoaaB12
set_option linter.unusedSimpArgs false
set_option linter.unusedVariables false
set_option maxRecDepth 100000
set_option maxHeartbeats 16000000
namespace Go.Proofs.Ytfhglkmjibjjoaa
open Go.RowKit
mutual
def Ty.meet:Ty->Ty->Ty
 | .mk k ts,.mk l us=>if k=1 then .mk l us else if l=1 then .mk k ts else .mk k (Ty.meets ts us)
def Ty.meets:List Ty->List Ty->List Ty
 | t::ts,u::us=>t.meet u::Ty.meets ts us
 | _,_=> []
end
theorem Ty.meets_eq : ∀ts us:List Ty,Ty.meets ts us=List.zipWith Ty.meet ts us
 | [],_=>by unfold Ty.meets;simp
 | _::_,[]=>by unfold Ty.meets;simp
 | t::ts,u::us=>by unfold Ty.meets;rw[Ty.meets_eq ts us];rfl
theorem Ty.conss_len : ∀ {ts us:List Ty},Ty.conss ts us=true->ts.length=us.length
 | [],[],_=>rfl
 | [],_::_,h=>by unfold Ty.conss at h;cases h
 | _::_,[],h=>by unfold Ty.conss at h;cases h
 | t::ts,u::us,h=>by unfold Ty.conss at h;simp at h;simp[Ty.conss_len h.2]
theorem Ty.conss_get : ∀ {ts us:List Ty},Ty.conss ts us=true->∀(j:Nat) (h:j<ts.length) (h':j<us.length),ts[j].cons us[j]=true
 | [],_,_,j,h,_=>absurd h (Nat.not_lt_zero _)
 | _::_,[],_,j,_,h=>absurd h (Nat.not_lt_zero _)
 | t::ts,u::us,h,0,_,_=>by unfold Ty.conss at h;simp at h;exact h.1
 | t::ts,u::us,h,j+1,h1,h2=>by unfold Ty.conss at h;simp at h;exact Ty.conss_get h.2 j (by simpa using h1) (by simpa using h2)
theorem jH (F G:Nat->Prop)(t u:Ty)(y z:Value)(w:World)(hy:ai F w t y)(hz:ai G w u z)(sc:t.cons u=true)(hcnt:t.cnt<=1048576)(hcnu:u.cnt<=1048576)
  (IH : ∀t'∈t.kids,∀u'∈u.kids,∀(W:World) (y z:Value),ai F W t' y->ai G W u' z->t'.cons u'=true->Calls Try.prog 81 #[y,z] W (cJ (t'.meet u') W)) :
  Calls Try.prog 81 #[y,z] w (cJ (t.meet u) w):=by
 have HT:=zq (fun W (h:Below w.heap.size w W)=>b5 F t _ W (hy.below h) hcnt);have HU:=zq (fun W (h:Below w.heap.size w W)=>b5 G u _ W (hz.below h) hcnu);obtain⟨a,cap,rfl,h2,h3,hr⟩:=hy.open;obtain⟨c,cap',rfl,g2',g3,hz'⟩:=hz.open;clear hy hz;have IHH:=zq IH;clear IH
 cases t with | mk k ts=>cases u with | mk l us=>
 simp only[Ty.kind,Ty.kids] at *;unfold maxLen at h3 g3;have HCN:=zq (show ts.length<=1048576 by simp only[Ty.cnt] at hcnt;omega);clear hcnt hcnu;unfold Ty.cons at sc
 by_cases hk1:k=1
 ·subst hk1
  have hm:Ty.meet (.mk 1 ts) (.mk l us) = .mk l us:=by unfold Ty.meet;rw[if_pos rfl]
  rw[hm];clear hm sc HCN IHH HT hr hz';generalize ts.length=n at *;generalize us.length=m at *
  go_enter Try.func81,Try.ntmps81
  go_wp2_with fail
  refine(HU.out _ bG).mono ?_;rintro e w1 ⟨v,rfl,hvn,hb1⟩;obtain⟨k3,a3,n3,q3,rfl⟩:=hvn.shape;have c0:w1.cell? ⟨w.heap.size+1+1,0,none⟩=some (.int .i64 0):=af hb1 (cK 0);have c1:w1.cell? ⟨w.heap.size+1+1,1,none⟩=some (.slice none 0 0):=af hb1 (cK 1);have f0:=cG (j:=0) hb1 (by simp) (dK 0);have f3:=cG (j:=1) hb1 (by simp) (dK 1)
  go_wp2_with fail
  refine bq (.agg #[.int .i64 k3,.slice a3 n3 q3]) (by simp[results,Try.results81,go_sem,c0,c1]) ?_;refine⟨_,rfl,bp.mono ((hvn.setCell (by simp) _).setCell (by simp) _) (by simp;omega),?_⟩
  exact((al bG hb1).setCell (by show w.heap.size<=w.heap.size+1+1;omega) _).setCell (by show w.heap.size<=w.heap.size+1+1;omega) _
 ·by_cases hl1:l=1
  ·subst hl1
   have hm:Ty.meet (.mk k ts) (.mk 1 us) = .mk k ts:=by unfold Ty.meet;rw[if_neg hk1,if_pos rfl]
   rw[hm];have kb:(k==1)=false:=by simpa using hk1
   clear hm sc HCN IHH HU hr hz' hk1;generalize ts.length=n at *;generalize us.length=m at *
   go_enter Try.func81,Try.ntmps81
   go_wp2_with fail
   refine(HT.out _ bG).mono ?_;rintro e w1 ⟨v,rfl,hvn,hb1⟩;obtain⟨k3,a3,n3,q3,rfl⟩:=hvn.shape;have c0:w1.cell? ⟨w.heap.size+1+1,0,none⟩=some (.int .i64 0):=af hb1 (cK 0);have c1:w1.cell? ⟨w.heap.size+1+1,1,none⟩=some (.slice none 0 0):=af hb1 (cK 1);have f0:=cG (j:=0) hb1 (by simp) (dK 0);have f3:=cG (j:=1) hb1 (by simp) (dK 1)
   go_wp2_with fail
   refine bq (.agg #[.int .i64 k3,.slice a3 n3 q3]) (by simp[results,Try.results81,go_sem,c0,c1]) ?_;refine⟨_,rfl,bp.mono ((hvn.setCell (by simp) _).setCell (by simp) _) (by simp;omega),?_⟩
   exact((al bG hb1).setCell (by show w.heap.size<=w.heap.size+1+1;omega) _).setCell (by show w.heap.size<=w.heap.size+1+1;omega) _
  ·have kb:(k==1)=false:=by simpa using hk1
   have lb:(l==1)=false:=by simpa using hl1
   rw[kb,lb] at sc;simp only[Bool.false_or,Bool.and_eq_true] at sc;obtain⟨-,sc⟩:=sc;have hln:=Ty.conss_len sc;have hm:Ty.meet (.mk k ts) (.mk l us) = .mk k (Ty.meets ts us):=by unfold Ty.meet;rw[if_neg hk1,if_neg hl1]
   rw[hm,Ty.meets_eq];have SHT:=zq (Ty.conss_get sc);clear hm sc hk1 hl1 HT HU;obtain⟨n,hn⟩ : ∃n,ts.length=n:=⟨_,rfl⟩
   rw[hn] at h2 hr hln HCN ⊢;rw[<-hln] at g2' hz' ⊢;have HN:=zq hn;have HM:=zq hln.symm;clear hn hln;obtain⟨i0,hi,hz0,hz1,hz2⟩:=info_parts Try.infoTy;have Z0:=zq hz0;have Z1:=zq hz1;have Z2:=zq hz2;have HI:=zq hi;clear hz0 hz1 hz2 hi
   go_enter Try.func81,Try.ntmps81
   go_wp2_with fail
   go_loopw [6] (fun i wr=>∃j:Nat,j<=n∧i = .int .i64 j∧Below w.heap.size w wr∧w.heap.size+1+1+1<wr.heap.size∧(∃u,wr.cell? ⟨w.heap.size+1+1,0,none⟩=some u)∧(∃u,wr.cell? ⟨w.heap.size+1+1,1,none⟩=some u) ∧
       (∀o,wr.frozen? ⟨w.heap.size+1+1,o,none⟩=false)∧(∀o,wr.frozen? ⟨w.heap.size+1+1+1,o,none⟩=false)∧wr.cell? ⟨w.heap.size+1+1+1,0,none⟩=some (.int .i64 k)∧wr.cell? ⟨w.heap.size,1,none⟩=some (.slice a n cap)∧wr.cell? ⟨w.heap.size+1,1,none⟩=some (.slice c n cap') ∧
       ∃v,wr.cell? ⟨w.heap.size+1+1+1,1,none⟩=some v∧aS (w.heap.size+1+1+1+1) 25 2 wr v j (Ty.rows (List.zipWith Ty.meet (ts.take j) (us.take j)))) (fun i _=>n-(intOf i).toNat)
   case atStart=>exact⟨0,by omega,rfl,bal4,by simp,⟨.int .i64 0,af ag (cK 0)⟩,⟨.slice none 0 0,af ag (cK 1)⟩,fun o=>cG ag (by simp) (dK o),fun o=>fro_n3 o,nE 0,af ag (af ag (af ag (aF 1))),af ag (af ag (cg 1)),.slice none 0 0,nE 1,by simpa [Ty.rows] using aS.nil _ _ _ _⟩
   case round=>
    obtain⟨j,hj,rfl,hbw,hsz,⟨u0,hu0⟩,⟨u1,hu1⟩,hf1,hf2,hk0,hlb0,hlb1,v,hv,hacc⟩:=hrel
    by_cases hlt:j<n
    ·have hjt:j<ts.length:=by rw[HN.out];exact hlt
     have hju:j<us.length:=by rw[HM.out];exact hlt
     obtain⟨b,off,k0,a0,m0,q0,rfl,l0,e0,e1,ht⟩:=hr.at hbw hjt;obtain⟨b',off',k0',a0',m0',q0',rfl,l0',e0',e1',hu⟩:=hz'.at hbw hju;have HC:=zq (fun W (h:Below wr.heap.size wr W)=>IHH.out ts[j] (List.getElem_mem hjt) us[j] (List.getElem_mem hju) W _ _ (ht.below h) (hu.below h) (SHT.out j hjt hju));obtain⟨xs,fps,ho,hl,hs,hd,hfp⟩:=hacc;have HO:=zq ho;have HS:=zq hs;have HD:=zq hd;have HFP:=zq hfp;have HL:=zq hl;clear ho hs hd hfp hl;obtain⟨cv,qv,rfl⟩ : ∃c q,v = .slice c j q:=by
      rcases HO.out.2 with ⟨h,h0⟩ | ⟨g,cap,cur,h,_⟩
      ·exact⟨none,0,by rw[h,h0]⟩
      ·exact⟨_,cap,h⟩
     go_wp2_with fail
     have hB3:w.heap.size+1+1+1+1<=wr.heap.size:=by omega
     go_region_law (first
       | (go_simp;go_at_call 81;refine(HC.out _ bdr).mono ?_;rintro e w1 ⟨v1,rfl,hv1,hb1⟩;obtain⟨k1,c1,m1,q1,fp1,rfl,-,-,hs1,hd1,hx1⟩:=hv1.open;have hq1:w1.cell? ⟨w.heap.size+1+1+1,1,none⟩=some (.slice cv j qv):=af (al bdr hb1) hv;have hbz:=hb1.size;have hl1:w.heap.size+1+1+1<w1.heap.size:=World.block_lt_of_cell? _ _ hq1)
       | (refine step_append_lies _ (by rfl) (.tmp 28) (.tmp 40) 23 (by rfl) (w.heap.size+1+1+1+1) 25 i0 _ 2 32 Try.underlying23 HI.out Z0.out Z1.out Z2.out rfl (by omega) (.slice cv j qv) j xs (by rfl) (bc HO.out (al (al bdr hb1) ag))
           ⟨w1.heap.size,0,none⟩ 1 1 [.int .i64 k1,.slice c1 m1 q1] (by rfl) (by rfl) (World.news_of_block (cs:=#[.int .i64 k1,.slice c1 m1 q1]) (t:=25) (fr:=(0,0)) (heap_alloc_new w1 _)) (by simp[Value.oneCell'])
           (by omega) (by have:=HCN.out;unfold maxLen;omega) (by have:=HCN.out;omega) (by simp at hbz ⊢;omega) _ rfl ?_
          intro gg cap2 w2 hown2 hgrow hat hlt2;have hfar:=cI (al (al bdr hb1) ag) HO.out hgrow;have hq:w2.cell? ⟨w.heap.size+1+1+1,1,none⟩=some (.slice cv j qv):=(World.cell?_of_block (a:=⟨w.heap.size+1+1+1,1,none⟩) (hfar (w.heap.size+1+1+1) (by omega) (by omega))).trans hv;have hqf:w2.frozen? ⟨w.heap.size+1+1+1,1,none⟩=false:=(World.frozen?_of_block (a:=⟨w.heap.size+1+1+1,1,none⟩) (hfar (w.heap.size+1+1+1) (by omega) (by omega))).trans (hf2 _);have HFAR:=zq hfar;have hacc2:=aS.push HL.out HO.out HS.out HD.out HFP.out hB3 (al (al bdr hb1) ag) (by simp) (hs1.move _ _ _ fun b hb=>heap_alloc_old w1 _ (bL.lt _ _ _ hs1 b hb)) hd1 hx1 hown2 hgrow hat;have HACC:=zq hacc2;have hbel:=bW hbw (al (al bdr hb1) ag) HO.out (by omega) hgrow;have hsz2:wr.heap.size<=w2.heap.size:=Nat.le_trans (al (al bdr hb1) ag).size hgrow.size;clear hfar hacc2 hown2 hgrow hat hq1))
     all_goals
      go_wp2_with fail
      go_roundw
      case rel=>
       have c1:(w2.setCell ⟨w.heap.size+1+1+1,1,none⟩ (.slice (some ⟨gg,0,none⟩) (j+1) cap2)).heap[w.heap.size+1+1]?=wr.heap[w.heap.size+1+1]?:=
        (Below.heap_setCell w2 ⟨w.heap.size+1+1+1,1,none⟩ _ _ (by show w.heap.size+1+1≠w.heap.size+1+1+1;omega)).trans (HFAR.out (w.heap.size+1+1) (by omega) (by omega))
       have hk2:=(World.cell?_of_block (a:=⟨w.heap.size+1+1+1,0,none⟩) (HFAR.out (w.heap.size+1+1+1) (by omega) (by omega))).trans hk0;have hf4:=fun o=>(World.frozen?_of_block (a:=⟨w.heap.size+1+1+1,o,none⟩) (HFAR.out (w.heap.size+1+1+1) (by omega) (by omega))).trans (hf2 o);refine⟨j+1,by omega,by go_num,hbel.setCell (by show w.heap.size<=w.heap.size+1+1+1;omega) _,by simp[World.setCell];omega,⟨u0,(World.cell?_of_block (a:=⟨w.heap.size+1+1,0,none⟩) c1).trans hu0⟩,⟨u1,(World.cell?_of_block (a:=⟨w.heap.size+1+1,1,none⟩) c1).trans hu1⟩,
         fun o=>(World.frozen?_of_block (a:=⟨w.heap.size+1+1,o,none⟩) c1).trans (hf1 o),fun o=>(dh _ _ _ _).trans (hf4 o),cF hk2 (by simp),(World.cell?_of_block (a:=⟨w.heap.size,1,none⟩) ((Below.heap_setCell w2 ⟨w.heap.size+1+1+1,1,none⟩ _ _ (by show w.heap.size≠w.heap.size+1+1+1;omega)).trans (HFAR.out (w.heap.size) (by omega) (by omega)))).trans hlb0,(World.cell?_of_block (a:=⟨w.heap.size+1,1,none⟩) ((Below.heap_setCell w2 ⟨w.heap.size+1+1+1,1,none⟩ _ _ (by show w.heap.size+1≠w.heap.size+1+1+1;omega)).trans (HFAR.out (w.heap.size+1) (by omega) (by omega)))).trans hlb1,_,bP hq,?_⟩
       have h:=HACC.out.setCell (p:=⟨w.heap.size+1+1+1,1,none⟩) (by show w.heap.size+1+1+1<w.heap.size+1+1+1+1;omega) (.slice (some ⟨gg,0,none⟩) (j+1) cap2);rw[Ty.rows_eq] at h ⊢;rw[eJ _ _ _ _ hjt hju,List.map_append]
       exact h
      case measure=>simp[intOf];omega
    ·obtain⟨cv,qv,rfl⟩:=hacc.shape
     have f0:=hf1 0;have f1:=hf1 1
     go_wp2_with fail
     refine bq (.agg #[.int .i64 k,.slice cv j qv]) (by simp[results,Try.results81,go_sem,hu0,hu1]) ?_;have hjn:j=n:=by omega
     rw[List.take_of_length_le (by rw[HN.out];omega),List.take_of_length_le (by rw[HM.out];omega)] at hacc;refine⟨_,rfl,bp.mono (bx.ty ((hacc.tys.setCell (by show w.heap.size+1+1<w.heap.size+1+1+1+1;omega) _).setCell (by show w.heap.size+1+1<w.heap.size+1+1+1+1;omega) _)) (by omega),?_⟩
     exact(hbw.setCell (by show w.heap.size<=w.heap.size+1+1;omega) _).setCell (by show w.heap.size<=w.heap.size+1+1;omega) _
theorem iY (F G:Nat->Prop)(t:Ty) : ∀(u:Ty) (y z:Value) (w:World),ai F w t y->ai G w u z->t.cons u=true->t.cnt<=1048576->u.cnt<=1048576 ->
  Calls Try.prog 81 #[y,z] w (cJ (t.meet u) w):=
 fun u y z w hy hz sc hcnt hcnu=>jH F G t u y z w hy hz sc hcnt hcnu fun t' ht u' hu W y z a b c=>iY F G t' u' y z W a b c (by have:=Ty.cnt_kid ht;omega) (by have:=Ty.cnt_kid hu;omega)
termination_by SizeOf.sizeOf t
decreasing_by exact Ty.kid_lt ht
end Go.Proofs.Ytfhglkmjibjjoaa

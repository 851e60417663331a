/- Copies by the reference. And what else its parts name. -/
import Derived.Test.YtfahhonmiimmdaaGreatB2
import Derived.Test.YtfahhonmiimmdaaGreatB1
set_option linter.unusedSimpArgs false
set_option linter.unusedVariables false
set_option maxRecDepth 100000
set_option maxHeartbeats 16000000
namespace Go.Proofs.YtfahhonmiimmdaaGreat
open Go.RowKit
theorem bal4 {w:World}{o o' o2 o3:Obj}:Below w.heap.size w ((((w.alloc o).alloc o').alloc o2).alloc o3):=aj cB ai
theorem ug {w:World}{o o' o2:Obj}{cs:Array Value}{T:TypeId}(j:Nat):((((w.alloc o).alloc o').alloc o2).alloc (.cells cs T)).cell? ⟨w.heap.size+1+1+1,j,none⟩=cs[j]?:=by
 have h:=az (w:=((w.alloc o).alloc o').alloc o2) (cs:=cs) (T:=T) j
 simpa using h
theorem fro_n3 {w:World}{o o' o2:Obj}{cs:Array Value}{T:TypeId}(j:Nat):((((w.alloc o).alloc o').alloc o2).alloc (.cells cs T)).frozen? ⟨w.heap.size+1+1+1,j,none⟩=false:=by
 have h:=aV (w:=((w.alloc o).alloc o').alloc o2) (cs:=cs) (T:=T) j
 simpa using h
theorem be (F:Nat→Prop)(t:Ty) : ∀(y:Value) (w:World),ao F w t y→t.cnt≤1048576 →
  Calls Tryz.prog 81 #[y] w (eP t w):=by
 intro y w hy hcnt;have IH : ∀t'∈t.kids,∀(y:Value) (W:World),ao F W t' y→Calls Tryz.prog 81 #[y] W (eP t' W):=
  fun t' ht y W h=>be F t' y W h (by have:=Ty.cnt_kid ht;omega)
 obtain⟨a,cap,rfl,h2,h3,hr⟩:=hy.open
 cases t with | mk k ts=>
 simp only[Ty.kind,Ty.kids] at *;unfold maxLen at h3;have IHH:=zq IH;have HCN:=zq (show ts.length≤1048576 by simp only[Ty.cnt] at hcnt;omega);clear IH hy hcnt;obtain⟨n,hn⟩ : ∃n,ts.length=n:=⟨_,rfl⟩
 rw[hn] at h2 hr HCN;rw[hn];have HN:=zq hn;clear hn;obtain⟨i0,hi,hz0,hz1,hz2⟩:=info_parts Tryz.infoTy;have Z0:=zq hz0;have Z1:=zq hz1;have Z2:=zq hz2;have HI:=zq hi;clear hz0 hz1 hz2 hi
 go_enter Tryz.func81,Tryz.ntmps81
 go_wp2_with fail
 go_loopw [4] (fun i wr=>∃j:Nat,j≤n∧i = .int .i64 j∧Below w.heap.size w wr∧w.heap.size+1+1<wr.heap.size∧(∃u,wr.cell? ⟨w.heap.size+1,0,none⟩=some u)∧(∃u,wr.cell? ⟨w.heap.size+1,1,none⟩=some u) ∧
     (∀o,wr.frozen? ⟨w.heap.size+1,o,none⟩=false)∧(∀o,wr.frozen? ⟨w.heap.size+1+1,o,none⟩=false)∧wr.cell? ⟨w.heap.size+1+1,0,none⟩=some (.int .i64 k)∧wr.cell? ⟨w.heap.size,1,none⟩=some (.slice a n cap) ∧
     ∃v,wr.cell? ⟨w.heap.size+1+1,1,none⟩=some v∧aL (w.heap.size+1+1+1) 25 2 wr v j (Ty.rows (ts.take j))) (fun i _=>n-(intOf i).toNat)
 case atStart=>exact⟨0,by omega,rfl,cB,by simp,⟨.int .i64 0,ah ai (bX 0)⟩,⟨.slice none 0 0,ah ai (bX 1)⟩,fun o=>cC ai (by simp) (fo o),fun o=>eQ o,cN 0,ah ai (ah ai (az 1)),.slice none 0 0,cN 1,by simpa [Ty.rows] using aL.nil _ _ _ _⟩
 case round=>
  obtain⟨j,hj,rfl,hbw,hsz,⟨u0,hu0⟩,⟨u1,hu1⟩,hf1,hf2,hk0,hlb0,v,hv,hacc⟩:=hrel
  by_cases hlt:j<n
  ·have hjt:j<ts.length:=by rw[HN.out];exact hlt
   obtain⟨b,off,k0,a0,m0,q0,rfl,l0,e0,e1,ht⟩:=hr.at hbw hjt;have HC:=zq (fun W (h:Below wr.heap.size wr W)=>IHH.out ts[j] (List.getElem_mem hjt) _ W (ht.below h));obtain⟨xs,fps,ho,hl,hs,hd,hfp⟩:=hacc;have HO:=zq ho;have HS:=zq hs;have HD:=zq hd;have HFP:=zq hfp;have HL:=zq hl;clear ho hs hd hfp hl;obtain⟨cv,qv,rfl⟩ : ∃c q,v = .slice c j q:=by
    rcases HO.out.2 with ⟨h,h0⟩ | ⟨g,cap,cur,h,_⟩
    ·exact⟨none,0,by rw[h,h0]⟩
    ·exact⟨_,cap,h⟩
   go_wp2_with fail
   have hB3:w.heap.size+1+1+1≤wr.heap.size:=by omega
   go_region_law (first
     | (go_simp;go_at_call 81;refine(HC.out _ bdr).mono ?_;rintro e w1 ⟨v1,rfl,hv1,hb1⟩;obtain⟨k1,c1,m1,q1,fp1,rfl,-,-,hs1,hd1,hx1⟩:=hv1.open;have hq1:w1.cell? ⟨w.heap.size+1+1,1,none⟩=some (.slice cv j qv):=ah (aj bdr hb1) hv;have hbz:=hb1.size;have hl1:w.heap.size+1+1<w1.heap.size:=World.block_lt_of_cell? _ _ hq1)
     | (refine step_append_lies _ (by rfl) (.tmp 16) (.tmp 23) 23 (by rfl) (w.heap.size+1+1+1) 25 i0 _ 2 32 Tryz.underlying23 HI.out Z0.out Z1.out Z2.out rfl (by omega) (.slice cv j qv) j xs (by rfl) (aP HO.out (aj (aj bdr hb1) ai))
         ⟨w1.heap.size,0,none⟩ 1 1 [.int .i64 k1,.slice c1 m1 q1] (by rfl) (by rfl) (World.news_of_block (cs:=#[.int .i64 k1,.slice c1 m1 q1]) (t:=25) (fr:=(0,0)) (heap_alloc_new w1 _)) (by simp[Value.oneCell'])
         (by omega) (by have:=HCN.out;unfold maxLen;omega) (by have:=HCN.out;omega) (by simp at hbz ⊢;omega) _ rfl ?_
        intro gg cap2 w2 hown2 hgrow hat hlt2;have hfar:=cr (aj (aj bdr hb1) ai) HO.out hgrow;have hq:w2.cell? ⟨w.heap.size+1+1,1,none⟩=some (.slice cv j qv):=(World.cell?_of_block (a:=⟨w.heap.size+1+1,1,none⟩) (hfar (w.heap.size+1+1) (by omega) (by omega))).trans hv;have hqf:w2.frozen? ⟨w.heap.size+1+1,1,none⟩=false:=(World.frozen?_of_block (a:=⟨w.heap.size+1+1,1,none⟩) (hfar (w.heap.size+1+1) (by omega) (by omega))).trans (hf2 _);have HFAR:=zq hfar;have hacc2:=aL.push HL.out HO.out HS.out HD.out HFP.out hB3 (aj (aj bdr hb1) ai) (by simp) (hs1.move _ _ _ fun b hb=>heap_alloc_old w1 _ (bf.lt _ _ _ hs1 b hb)) hd1 hx1 hown2 hgrow hat;have HACC:=zq hacc2;have hbel:=bj hbw (aj (aj bdr hb1) ai) HO.out (by omega) hgrow;have hsz2:wr.heap.size≤w2.heap.size:=Nat.le_trans (aj (aj bdr hb1) ai).size hgrow.size;clear hfar hacc2 hown2 hgrow hat hq1))
   all_goals
    go_wp2_with fail
    go_roundw
    case rel=>
     have c1:(w2.setCell ⟨w.heap.size+1+1,1,none⟩ (.slice (some ⟨gg,0,none⟩) (j+1) cap2)).heap[w.heap.size+1]?=wr.heap[w.heap.size+1]?:=
      (Below.heap_setCell w2 ⟨w.heap.size+1+1,1,none⟩ _ _ (by show w.heap.size+1≠w.heap.size+1+1;omega)).trans (HFAR.out (w.heap.size+1) (by omega) (by omega))
     have hk2:=(World.cell?_of_block (a:=⟨w.heap.size+1+1,0,none⟩) (HFAR.out (w.heap.size+1+1) (by omega) (by omega))).trans hk0;have hf4:=fun o=>(World.frozen?_of_block (a:=⟨w.heap.size+1+1,o,none⟩) (HFAR.out (w.heap.size+1+1) (by omega) (by omega))).trans (hf2 o);refine⟨j+1,by omega,by go_num,hbel.setCell (by show w.heap.size≤w.heap.size+1+1;omega) _,by simp[World.setCell];omega,⟨u0,(World.cell?_of_block (a:=⟨w.heap.size+1,0,none⟩) c1).trans hu0⟩,⟨u1,(World.cell?_of_block (a:=⟨w.heap.size+1,1,none⟩) c1).trans hu1⟩,
       fun o=>(World.frozen?_of_block (a:=⟨w.heap.size+1,o,none⟩) c1).trans (hf1 o),fun o=>(dK _ _ _ _).trans (hf4 o),cA hk2 (by simp),(World.cell?_of_block (a:=⟨w.heap.size,1,none⟩) ((Below.heap_setCell w2 ⟨w.heap.size+1+1,1,none⟩ _ _ (by show w.heap.size≠w.heap.size+1+1;omega)).trans (HFAR.out (w.heap.size) (by omega) (by omega)))).trans hlb0,_,bE hq,?_⟩
     have h:=HACC.out.setCell (p:=⟨w.heap.size+1+1,1,none⟩) (by show w.heap.size+1+1<w.heap.size+1+1+1;omega) (.slice (some ⟨gg,0,none⟩) (j+1) cap2);rw[Ty.rows_eq] at h ⊢;rw[List.take_succ_eq_append_getElem hjt,List.map_append]
     exact h
    case measure=>simp[intOf];omega
  ·obtain⟨cv,qv,rfl⟩:=hacc.shape
   have f0:=hf1 0;have f1:=hf1 1
   go_wp2_with fail
   refine bodyPost_ret (v:=.agg #[.int .i64 k,.slice cv j qv]) (by simp[results,Tryz.results81,go_sem,hu0,hu1]) rfl ?_;have hjn:j=n:=by omega
   rw[List.take_of_length_le (by rw[HN.out];omega)] at hacc;refine⟨_,rfl,bh.mono (bg.ty ((hacc.tys.setCell (by show w.heap.size+1<w.heap.size+1+1+1;omega) _).setCell (by show w.heap.size+1<w.heap.size+1+1+1;omega) _)) (by omega),?_⟩
   exact(hbw.setCell (by show w.heap.size≤w.heap.size+1;omega) _).setCell (by show w.heap.size≤w.heap.size+1;omega) _
termination_by SizeOf.sizeOf t
decreasing_by exact Ty.kid_lt ht
def ownB (k u l:Int)(nm:ByteArray)(tv n1 n2 cv:Bool):Bool:=
 (if k==1||k==5 then aJ nm else nm.toList == [])&&ay u 0 (if k==2 then 999 else 0)&&(if k==5||k==13||k==14 then tv else n1)&&(if k==14 then cv&&ce l else n2&&l==0)
def nodeB (k u l:Int)(nm:ByteArray)(m:Nat)(tv n1 n2 cv:Bool):Bool:=(aD k==(m:Int))&&ownB k u l nm tv n1 n2 cv
def Tm.ownB (t:Tm):Bool:=Go.Proofs.YtfahhonmiimmdaaGreat.ownB t.kind t.num t.label t.name t.type.valid t.type.noneB t.src.noneB (t.src.valid&&t.type.valid&&t.src.cons t.type)
def Tm.nodeB (t:Tm):Bool:=(aD t.kind==(t.kids.length:Int))&&t.ownB
theorem kinds6 (k:Int):k=1∨k=2∨k=5∨k=13∨k=14∨((k==1)=false∧(k==5)=false∧(k==13)=false∧(k==14)=false∧(k==2)=false):=by
 simp only[beq_eq_false_iff_ne]
 omega
theorem bB (u:Int):(u==0)=ay u 0 0:=by unfold ay;rw[Bool.eq_iff_iff];simp;omega
def Ty.none:Ty:=.mk 0 []
end Go.Proofs.YtfahhonmiimmdaaGreat

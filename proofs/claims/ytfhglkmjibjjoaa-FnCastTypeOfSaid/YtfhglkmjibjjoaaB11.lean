/- Copies by the reference. And what else its parts name. -/
import Derived.Test.YtfhglkmjibjjoaaB7
set_option linter.unusedSimpArgs false
set_option linter.unusedVariables false
set_option maxRecDepth 100000
set_option maxHeartbeats 16000000
namespace Go.Proofs.Ytfhglkmjibjjoaa
open Go.RowKit
theorem bal4 {w:World}{o o' o2 o3:Obj}:Below w.heap.size w ((((w.alloc o).alloc o').alloc o2).alloc o3):=al bG ag
theorem nE {w:World}{o o' o2:Obj}{cs:Array Value}{T:TypeId}(j:Nat):((((w.alloc o).alloc o').alloc o2).alloc (.cells cs T)).cell? ⟨w.heap.size+1+1+1,j,none⟩=cs[j]?:=by
 have h:=aF (w:=((w.alloc o).alloc o').alloc o2) (cs:=cs) (T:=T) j
 simpa using h
theorem fro_n3 {w:World}{o o' o2:Obj}{cs:Array Value}{T:TypeId}(j:Nat):((((w.alloc o).alloc o').alloc o2).alloc (.cells cs T)).frozen? ⟨w.heap.size+1+1+1,j,none⟩=false:=by
 have h:=b9 (w:=((w.alloc o).alloc o').alloc o2) (cs:=cs) (T:=T) j
 simpa using h
theorem b5 (F:Nat->Prop)(t:Ty) : ∀(y:Value) (w:World),ai F w t y->t.cnt<=1048576 ->
  Calls Try.prog 46 #[y] w (cJ t w):=by
 intro y w hy hcnt;have IH : ∀t'∈t.kids,∀(y:Value) (W:World),ai F W t' y->Calls Try.prog 46 #[y] W (cJ t' W):=
  fun t' ht y W h=>b5 F t' y W h (by have:=Ty.cnt_kid ht;omega)
 obtain⟨a,cap,rfl,h2,h3,hr⟩:=hy.open
 cases t with | mk k ts=>
 simp only[Ty.kind,Ty.kids] at *;unfold maxLen at h3;have IHH:=zq IH;have HCN:=zq (show ts.length<=1048576 by simp only[Ty.cnt] at hcnt;omega);clear IH hy hcnt;obtain⟨n,hn⟩ : ∃n,ts.length=n:=⟨_,rfl⟩
 rw[hn] at h2 hr HCN;rw[hn];have HN:=zq hn;clear hn;obtain⟨i0,hi,hz0,hz1,hz2⟩:=info_parts Try.infoTy;have Z0:=zq hz0;have Z1:=zq hz1;have Z2:=zq hz2;have HI:=zq hi;clear hz0 hz1 hz2 hi
 go_enter Try.func46,Try.ntmps46
 go_wp2_with fail
 go_loopw [4] (fun i wr=>∃j:Nat,j<=n∧i = .int .i64 j∧Below w.heap.size w wr∧w.heap.size+1+1<wr.heap.size∧(∃u,wr.cell? ⟨w.heap.size+1,0,none⟩=some u)∧(∃u,wr.cell? ⟨w.heap.size+1,1,none⟩=some u) ∧
     (∀o,wr.frozen? ⟨w.heap.size+1,o,none⟩=false)∧(∀o,wr.frozen? ⟨w.heap.size+1+1,o,none⟩=false)∧wr.cell? ⟨w.heap.size+1+1,0,none⟩=some (.int .i64 k)∧wr.cell? ⟨w.heap.size,1,none⟩=some (.slice a n cap) ∧
     ∃v,wr.cell? ⟨w.heap.size+1+1,1,none⟩=some v∧aS (w.heap.size+1+1+1) 25 2 wr v j (Ty.rows (ts.take j))) (fun i _=>n-(intOf i).toNat)
 case atStart=>exact⟨0,by omega,rfl,bG,by simp,⟨.int .i64 0,af ag (cg 0)⟩,⟨.slice none 0 0,af ag (cg 1)⟩,fun o=>cG ag (by simp) (dV o),fun o=>dK o,cK 0,af ag (af ag (aF 1)),.slice none 0 0,cK 1,by simpa [Ty.rows] using aS.nil _ _ _ _⟩
 case round=>
  obtain⟨j,hj,rfl,hbw,hsz,⟨u0,hu0⟩,⟨u1,hu1⟩,hf1,hf2,hk0,hlb0,v,hv,hacc⟩:=hrel
  by_cases hlt:j<n
  ·have hjt:j<ts.length:=by rw[HN.out];exact hlt
   obtain⟨b,off,k0,a0,m0,q0,rfl,l0,e0,e1,ht⟩:=hr.at hbw hjt;have HC:=zq (fun W (h:Below wr.heap.size wr W)=>IHH.out ts[j] (List.getElem_mem hjt) _ W (ht.below h));obtain⟨xs,fps,ho,hl,hs,hd,hfp⟩:=hacc;have HO:=zq ho;have HS:=zq hs;have HD:=zq hd;have HFP:=zq hfp;have HL:=zq hl;clear ho hs hd hfp hl;obtain⟨cv,qv,rfl⟩ : ∃c q,v = .slice c j q:=by
    rcases HO.out.2 with ⟨h,h0⟩ | ⟨g,cap,cur,h,_⟩
    ·exact⟨none,0,by rw[h,h0]⟩
    ·exact⟨_,cap,h⟩
   go_wp2_with fail
   have hB3:w.heap.size+1+1+1<=wr.heap.size:=by omega
   go_region_law (first
     | (go_simp;go_at_call 46;refine(HC.out _ bdr).mono ?_;rintro e w1 ⟨v1,rfl,hv1,hb1⟩;obtain⟨k1,c1,m1,q1,fp1,rfl,-,-,hs1,hd1,hx1⟩:=hv1.open;have hq1:w1.cell? ⟨w.heap.size+1+1,1,none⟩=some (.slice cv j qv):=af (al bdr hb1) hv;have hbz:=hb1.size;have hl1:w.heap.size+1+1<w1.heap.size:=World.block_lt_of_cell? _ _ hq1)
     | (refine step_append_lies _ (by rfl) (.tmp 16) (.tmp 23) 23 (by rfl) (w.heap.size+1+1+1) 25 i0 _ 2 32 Try.underlying23 HI.out Z0.out Z1.out Z2.out rfl (by omega) (.slice cv j qv) j xs (by rfl) (bc HO.out (al (al bdr hb1) ag))
         ⟨w1.heap.size,0,none⟩ 1 1 [.int .i64 k1,.slice c1 m1 q1] (by rfl) (by rfl) (World.news_of_block (cs:=#[.int .i64 k1,.slice c1 m1 q1]) (t:=25) (fr:=(0,0)) (heap_alloc_new w1 _)) (by simp[Value.oneCell'])
         (by omega) (by have:=HCN.out;unfold maxLen;omega) (by have:=HCN.out;omega) (by simp at hbz ⊢;omega) _ rfl ?_
        intro gg cap2 w2 hown2 hgrow hat hlt2;have hfar:=cI (al (al bdr hb1) ag) HO.out hgrow;have hq:w2.cell? ⟨w.heap.size+1+1,1,none⟩=some (.slice cv j qv):=(World.cell?_of_block (a:=⟨w.heap.size+1+1,1,none⟩) (hfar (w.heap.size+1+1) (by omega) (by omega))).trans hv;have hqf:w2.frozen? ⟨w.heap.size+1+1,1,none⟩=false:=(World.frozen?_of_block (a:=⟨w.heap.size+1+1,1,none⟩) (hfar (w.heap.size+1+1) (by omega) (by omega))).trans (hf2 _);have HFAR:=zq hfar;have hacc2:=aS.push HL.out HO.out HS.out HD.out HFP.out hB3 (al (al bdr hb1) ag) (by simp) (hs1.move _ _ _ fun b hb=>heap_alloc_old w1 _ (bL.lt _ _ _ hs1 b hb)) hd1 hx1 hown2 hgrow hat;have HACC:=zq hacc2;have hbel:=bW hbw (al (al bdr hb1) ag) HO.out (by omega) hgrow;have hsz2:wr.heap.size<=w2.heap.size:=Nat.le_trans (al (al bdr hb1) ag).size hgrow.size;clear hfar hacc2 hown2 hgrow hat hq1))
   all_goals
    go_wp2_with fail
    go_roundw
    case rel=>
     have c1:(w2.setCell ⟨w.heap.size+1+1,1,none⟩ (.slice (some ⟨gg,0,none⟩) (j+1) cap2)).heap[w.heap.size+1]?=wr.heap[w.heap.size+1]?:=
      (Below.heap_setCell w2 ⟨w.heap.size+1+1,1,none⟩ _ _ (by show w.heap.size+1≠w.heap.size+1+1;omega)).trans (HFAR.out (w.heap.size+1) (by omega) (by omega))
     have hk2:=(World.cell?_of_block (a:=⟨w.heap.size+1+1,0,none⟩) (HFAR.out (w.heap.size+1+1) (by omega) (by omega))).trans hk0;have hf4:=fun o=>(World.frozen?_of_block (a:=⟨w.heap.size+1+1,o,none⟩) (HFAR.out (w.heap.size+1+1) (by omega) (by omega))).trans (hf2 o);refine⟨j+1,by omega,by go_num,hbel.setCell (by show w.heap.size<=w.heap.size+1+1;omega) _,by simp[World.setCell];omega,⟨u0,(World.cell?_of_block (a:=⟨w.heap.size+1,0,none⟩) c1).trans hu0⟩,⟨u1,(World.cell?_of_block (a:=⟨w.heap.size+1,1,none⟩) c1).trans hu1⟩,
       fun o=>(World.frozen?_of_block (a:=⟨w.heap.size+1,o,none⟩) c1).trans (hf1 o),fun o=>(dh _ _ _ _).trans (hf4 o),cF hk2 (by simp),(World.cell?_of_block (a:=⟨w.heap.size,1,none⟩) ((Below.heap_setCell w2 ⟨w.heap.size+1+1,1,none⟩ _ _ (by show w.heap.size≠w.heap.size+1+1;omega)).trans (HFAR.out (w.heap.size) (by omega) (by omega)))).trans hlb0,_,bP hq,?_⟩
     have h:=HACC.out.setCell (p:=⟨w.heap.size+1+1,1,none⟩) (by show w.heap.size+1+1<w.heap.size+1+1+1;omega) (.slice (some ⟨gg,0,none⟩) (j+1) cap2);rw[Ty.rows_eq] at h ⊢;rw[List.take_succ_eq_append_getElem hjt,List.map_append]
     exact h
    case measure=>simp[intOf];omega
  ·obtain⟨cv,qv,rfl⟩:=hacc.shape
   have f0:=hf1 0;have f1:=hf1 1
   go_wp2_with fail
   refine bq (.agg #[.int .i64 k,.slice cv j qv]) (by simp[results,Try.results46,go_sem,hu0,hu1]) ?_;have hjn:j=n:=by omega
   rw[List.take_of_length_le (by rw[HN.out];omega)] at hacc;refine⟨_,rfl,bp.mono (bx.ty ((hacc.tys.setCell (by show w.heap.size+1<w.heap.size+1+1+1;omega) _).setCell (by show w.heap.size+1<w.heap.size+1+1+1;omega) _)) (by omega),?_⟩
   exact(hbw.setCell (by show w.heap.size<=w.heap.size+1;omega) _).setCell (by show w.heap.size<=w.heap.size+1;omega) _
termination_by SizeOf.sizeOf t
decreasing_by exact Ty.kid_lt ht
section
variable {P:Program} {ops:Array Oper} {Q:Exit->Act->World->Prop} {md:Region.Mode} {S:World->Prop} {fuel:Nat} {listed:Array Bool} {a:Act} {w:World}
theorem hwn (i:Nat)(oi:Oper)(hS:S w)(h:wpAnyH P md ops Q S fuel (listed.setIfInBounds i true) (a.put oi.dst undef) w)
  (hw:Region.wanted oi (yielded ops a.tmps)=false:=by rfl) (hi:ops[i]?=some oi:=by rfl) (hs:Region.noSelect ops=true:=by kernel_rfl) (hf:Region.free md ops listed i=true:=by kernel_rfl) (hr:(Region.ready md ops listed).contains i=true:=by kernel_rfl)
  (hQ : ∀c a w,Q (.panic c) (a.put oi.dst undef) w->Q (.panic c) a w:=by exact fun _ _ _ h=>h):wpAnyH P md ops Q S (fuel+1) listed a w:=
 wpAnyH_take hi hs hf hr hQ (.inr ⟨hw,rfl⟩) hS h
theorem hwr (i:Nat)(oi:Oper)(h : ∀K':Act->World->Prop,Shut (∀a w,S w->(S w->wpAnyH P md ops Q S fuel (listed.setIfInBounds i true) a w)->K' a w)->if Region.wanted oi (yielded ops a.tmps)=true then Oper.wp P oi a w K' Q else K' (a.put oi.dst undef) w)
  (hi:ops[i]?=some oi:=by rfl) (hr:Region.ready md ops listed = [i]:=by kernel_rfl):wpAnyH P md ops Q S (fuel+1) listed a w:=
 wpAnyH_ready hr (by simp) (AllReadyH.cons hi h AllReadyH.nil)
end
theorem hw1 {α:Type}(l:List α)(i:Nat)(a:α):l.toArray.setIfInBounds i a=(l.set i a).toArray:=by simp
theorem hw2 {α:Type}(l:List α)(a b:α):(a::l).set 0 b=b::l:=rfl
theorem hw3 {α:Type}(l:List α)(i:Nat)(a b:α):(a::l).set (i+1) b=a::l.set i b:=rfl
theorem hwA:(∀(l:List Value) (i:Nat) (a:Value),l.toArray.setIfInBounds i a=(l.set i a).toArray)∧(∀(l:List Value) (a b:Value),(a::l).set 0 b=b::l)∧(∀(l:List Value) (i:Nat) (a b:Value),(a::l).set (i+1) b=a::l.set i b) ∧
  (∀(a:Act) (d:Tmp) (v:Value),a.put (some d) v={a with tmps:=a.tmps.setIfInBounds d v})∧(∀(a:Act) (v:Value),a.put none v=a):=⟨hw1,hw2,hw3,fun _ _ _=>rfl,fun _ _=>rfl⟩
theorem b8 {W:World}{b:Nat}{a0 a1:Value}{T:TypeId}(h:W.heap[b]?=some (.cells #[a0,a1] T (0,0))):W.cell? ⟨b,0,none⟩=some a0∧W.cell? ⟨b,1,none⟩=some a1∧W.frozen? ⟨b,0,none⟩=false∧W.frozen? ⟨b,1,none⟩=false:=
 ⟨ah h rfl,ah h rfl,aj h 0,aj h 1⟩
def HSt (b:Nat)(W X:World):Prop:=(∀c,c≠b->X.heap[c]?=W.heap[c]?)∧(∀w:World,Below w.heap.size w W->w.heap.size<=b->Below w.heap.size w X)∧W.heap.size<=X.heap.size∧X.heap.size<=W.heap.size∧(∀(w:World) (fp:List Nat),Chg fp w W->w.heap.size<=b->Chg fp w X)
theorem HSt.blk {b c:Nat}{W X:World}{x:Obj}(h:HSt b W X)(hn:c≠b)(f:W.heap[c]?=some x):X.heap[c]?=some x:=(h.1 c hn).trans f
theorem HSt.cell {b:Nat}{p:Addr}{W X:World}{v:Value}(h:HSt b W X)(hn:p.block≠b)(f:W.cell? p=some v):X.cell? p=some v:=by
 simp only[World.cell?] at f ⊢;rw[h.1 p.block hn];exact f
theorem HSt.bel {b:Nat}{w W X:World}(h:HSt b W X)(f:Below w.heap.size w W)(hb:w.heap.size<=b):Below w.heap.size w X:=h.2.1 w f hb
theorem HSt.chg {b:Nat}{fp:List Nat}{w W X:World}(h:HSt b W X)(f:Chg fp w W)(hb:w.heap.size<=b):Chg fp w X:=h.2.2.2.2 w fp f hb
theorem HSt.keeps {b:Nat}{W X:World}{F:Nat->Prop}(h:HSt b W X)(hn : ∀c,F c->c≠b):bU F F W X:=⟨h.2.2.1,fun _ hc _=>hc,fun c hc _=>h.1 c (hn c hc)⟩
theorem HSt.refl (b:Nat)(W:World):HSt b W W:=⟨fun _ _=>rfl,fun _ f _=>f,Nat.le_refl _,Nat.le_refl _,fun _ _ f _=>f⟩
theorem HSt.step {b o:Nat}{W X:World}{v:Value}(h:HSt b W X):HSt b W (X.setCell ⟨b,o,none⟩ v):=
 ⟨fun c hc=>(Below.heap_setCell _ ⟨b,o,none⟩ v c hc).trans (h.1 c hc),fun w f hb=>(h.2.1 w f hb).setCell (p:=⟨b,o,none⟩) hb _,by simpa [World.setCell] using h.2.2.1,by simpa [World.setCell] using h.2.2.2.1,fun w fp f hb=>by
   have k:=h.2.2.2.2 w fp f hb
   exact⟨k.os,k.tape,k.output,by simpa [World.setCell] using k.size,fun c hc hn=>(Below.heap_setCell _ ⟨b,o,none⟩ v c (by show c≠b;omega)).trans (k.block c hc hn)⟩⟩
theorem aJ {W:World}{b:Nat}{a0 a1:Value}{T:TypeId}(h:W.heap[b]?=some (.cells #[a0,a1] T (0,0)))(v0 v1:Value) :
  ∃X,World.setCell (World.setCell W ⟨b,0,none⟩ v0) ⟨b,1,none⟩ v1=X∧HSt b W X∧X.heap[b]?=some (.cells #[v0,v1] T (0,0))∧W.heap.size<=X.heap.size∧X.heap.size<=W.heap.size:=
 ⟨_,rfl,(HSt.refl b W).step.step,az (az h rfl) rfl,by simp[World.setCell],by simp[World.setCell]⟩
theorem c7 {W:World}{b:Nat}{a0 a1 a2 a3 a4 a5 a6 a7 a8:Value}{T:TypeId}(h:W.heap[b]?=some (.cells #[a0,a1,a2,a3,a4,a5,a6,a7,a8] T (0,0)))(v0 v1 v2 v3 v4 v5 v6 v7 v8:Value) :
  ∃X,World.setCell (World.setCell (World.setCell (World.setCell (World.setCell (World.setCell (World.setCell (World.setCell (World.setCell W ⟨b,0,none⟩ v0) ⟨b,1,none⟩ v1) ⟨b,2,none⟩ v2) ⟨b,3,none⟩ v3) ⟨b,4,none⟩ v4) ⟨b,5,none⟩ v5) ⟨b,6,none⟩ v6) ⟨b,7,none⟩ v7) ⟨b,8,none⟩ v8=X∧HSt b W X∧X.heap[b]?=some (.cells #[v0,v1,v2,v3,v4,v5,v6,v7,v8] T (0,0))∧W.heap.size<=X.heap.size∧X.heap.size<=W.heap.size:=by
 have h0:=az (v:=v0) h (rfl:(#[a0,a1,a2,a3,a4,a5,a6,a7,a8]:Array Value).setIfInBounds 0 v0 = #[v0,a1,a2,a3,a4,a5,a6,a7,a8]);have h1:=az (v:=v1) h0 (rfl:(#[v0,a1,a2,a3,a4,a5,a6,a7,a8]:Array Value).setIfInBounds 1 v1 = #[v0,v1,a2,a3,a4,a5,a6,a7,a8]);have h2:=az (v:=v2) h1 (rfl:(#[v0,v1,a2,a3,a4,a5,a6,a7,a8]:Array Value).setIfInBounds 2 v2 = #[v0,v1,v2,a3,a4,a5,a6,a7,a8]);have h3:=az (v:=v3) h2 (rfl:(#[v0,v1,v2,a3,a4,a5,a6,a7,a8]:Array Value).setIfInBounds 3 v3 = #[v0,v1,v2,v3,a4,a5,a6,a7,a8]);have h4:=az (v:=v4) h3 (rfl:(#[v0,v1,v2,v3,a4,a5,a6,a7,a8]:Array Value).setIfInBounds 4 v4 = #[v0,v1,v2,v3,v4,a5,a6,a7,a8]);have h5:=az (v:=v5) h4 (rfl:(#[v0,v1,v2,v3,v4,a5,a6,a7,a8]:Array Value).setIfInBounds 5 v5 = #[v0,v1,v2,v3,v4,v5,a6,a7,a8]);have h6:=az (v:=v6) h5 (rfl:(#[v0,v1,v2,v3,v4,v5,a6,a7,a8]:Array Value).setIfInBounds 6 v6 = #[v0,v1,v2,v3,v4,v5,v6,a7,a8]);have h7:=az (v:=v7) h6 (rfl:(#[v0,v1,v2,v3,v4,v5,v6,a7,a8]:Array Value).setIfInBounds 7 v7 = #[v0,v1,v2,v3,v4,v5,v6,v7,a8]);have h8:=az (v:=v8) h7 (rfl:(#[v0,v1,v2,v3,v4,v5,v6,v7,a8]:Array Value).setIfInBounds 8 v8 = #[v0,v1,v2,v3,v4,v5,v6,v7,v8]);have hs:=((((((((((HSt.refl b W).step (o:=0) (v:=v0)).step (o:=1) (v:=v1)).step (o:=2) (v:=v2)).step (o:=3) (v:=v3)).step (o:=4) (v:=v4)).step (o:=5) (v:=v5)).step (o:=6) (v:=v6)).step (o:=7) (v:=v7)).step (o:=8) (v:=v8))
 exact⟨_,rfl,hs,h8,hs.2.2.1,hs.2.2.2.1⟩
theorem HSt.rep {b:Nat}{W X:World}{F:Nat->Prop}{t:Ty}{y:Value}(h:HSt b W X)(hn : ∀c,F c->c≠b)(f:ai F W t y):ai F X t y:=f.move (h.keeps hn)
theorem kpN {r:Nat}{W X:World}{F:Nat->Prop}(h:Chg [r] W X)(hn : ∀b,F b->b≠r):bU F F W X:=h.keeps fun b hb=>by simpa using hn b hb
section
variable {P:Program} {ops:Array Oper} {Q:Exit->Act->World->Prop} {md:Region.Mode} {S:World->Prop} {fuel:Nat} {listed:Array Bool} {a:Act} {w:World} {i:Nat} {oi:Oper}
theorem hwq {L:Array Bool}{A:Act}(hi:ops[i]?=some oi)(v:Value)(hS:S w)(h:wpAnyH P md ops Q S fuel L A w)(hl:listed.setIfInBounds i true=L:=by(try simp only[hwA]);rfl)(ha:a.put oi.dst v=A:=by(try simp only[hwA]);rfl)(hy : ∀w',S w'->(execOp a.eval oi).run P w' = .ok (.value v) w':=by intro w' hSw;go_simp)
  (hw:Region.wanted oi (yielded ops a.tmps)=true:=by rfl) (hs:Region.noSelect ops=true:=by kernel_rfl) (hf:Region.free md ops listed i=true:=by kernel_rfl) (hr:(Region.ready md ops listed).contains i=true:=by kernel_rfl)
  (hQ : ∀c a w,Q (.panic c) (a.put oi.dst v) w->Q (.panic c) a w:=by exact fun _ _ _ h=>h):wpAnyH P md ops Q S (fuel+1) listed a w:=
 wpAnyH_take hi hs hf hr hQ (.inl ⟨hw,hy⟩) hS (hl▸ha▸h)
theorem hwu {L:Array Bool}{A:Act}(hi:ops[i]?=some oi)(hS:S w)(h:wpAnyH P md ops Q S fuel L A w)(hl:listed.setIfInBounds i true=L:=by(try simp only[hwA]);rfl)(ha:a.put oi.dst undef=A:=by(try simp only[hwA]);rfl)
  (hw:Region.wanted oi (yielded ops a.tmps)=false:=by rfl) (hs:Region.noSelect ops=true:=by kernel_rfl) (hf:Region.free md ops listed i=true:=by kernel_rfl) (hr:(Region.ready md ops listed).contains i=true:=by kernel_rfl)
  (hQ : ∀c a w,Q (.panic c) (a.put oi.dst undef) w->Q (.panic c) a w:=by exact fun _ _ _ h=>h):wpAnyH P md ops Q S (fuel+1) listed a w:=
 wpAnyH_take hi hs hf hr hQ (.inr ⟨hw,rfl⟩) hS (hl▸ha▸h)
theorem hwe (hi:ops[i]?=some oi)(h : ∀K':Act->World->Prop,Shut (∀a w,S w->(S w->wpAnyH P md ops Q S fuel (listed.setIfInBounds i true) a w)->K' a w)->if Region.wanted oi (yielded ops a.tmps)=true then Oper.wp P oi a w K' Q else K' (a.put oi.dst undef) w)
  (hr:Region.ready md ops listed = [i]:=by kernel_rfl):wpAnyH P md ops Q S (fuel+1) listed a w:=
 wpAnyH_ready hr (by simp) (AllReadyH.cons hi h AllReadyH.nil)
theorem hwd (h:Q .normal a w)(hr:Region.ready md ops listed = []:=by kernel_rfl):wpAnyH P md ops (NoPanic Q) S fuel listed a w:=wpAnyH_done hr (NoPanic.normal h) _
theorem hko {X K:Act->World->Prop}(hK:Shut (∀a w,S w->(S w->X a w)->K a w))(h:S w->X a w)(hs:S w:=by(repeat' apply And.intro)<;>first | assumption | (apply ah<;>first | assumption | rfl)):K a w:=hK.out a w hs h
end
section
variable {α:Type} {a b c d e f g h i j k l m n o p q r s t u v w x y z A B C D E F G H I J K L M N O P Q R S T U V W X Y Z:α} {zz:List α}
theorem hx0:(a::zz).toArray[0]?=some a:=rfl
theorem hx1:(a::b::zz).toArray[1]?=some b:=rfl
theorem hx2:(a::b::c::zz).toArray[2]?=some c:=rfl
theorem hx3:(a::b::c::d::zz).toArray[3]?=some d:=rfl
theorem hx4:(a::b::c::d::e::zz).toArray[4]?=some e:=rfl
theorem hx5:(a::b::c::d::e::f::zz).toArray[5]?=some f:=rfl
theorem hx6:(a::b::c::d::e::f::g::zz).toArray[6]?=some g:=rfl
theorem hx7:(a::b::c::d::e::f::g::h::zz).toArray[7]?=some h:=rfl
theorem hx8:(a::b::c::d::e::f::g::h::i::zz).toArray[8]?=some i:=rfl
theorem hx9:(a::b::c::d::e::f::g::h::i::j::zz).toArray[9]?=some j:=rfl
theorem bd:(a::b::c::d::e::f::g::h::i::j::k::zz).toArray[10]?=some k:=rfl
theorem bl:(a::b::c::d::e::f::g::h::i::j::k::l::zz).toArray[11]?=some l:=rfl
theorem bz:(a::b::c::d::e::f::g::h::i::j::k::l::m::zz).toArray[12]?=some m:=rfl
theorem bA:(a::b::c::d::e::f::g::h::i::j::k::l::m::n::zz).toArray[13]?=some n:=rfl
theorem bB:(a::b::c::d::e::f::g::h::i::j::k::l::m::n::o::zz).toArray[14]?=some o:=rfl
theorem bF:(a::b::c::d::e::f::g::h::i::j::k::l::m::n::o::p::zz).toArray[15]?=some p:=rfl
theorem bI:(a::b::c::d::e::f::g::h::i::j::k::l::m::n::o::p::q::zz).toArray[16]?=some q:=rfl
theorem co:(a::b::c::d::e::f::g::h::i::j::k::l::m::n::o::p::q::r::zz).toArray[17]?=some r:=rfl
theorem cD:(a::b::c::d::e::f::g::h::i::j::k::l::m::n::o::p::q::r::s::zz).toArray[18]?=some s:=rfl
theorem dp:(a::b::c::d::e::f::g::h::i::j::k::l::m::n::o::p::q::r::s::t::zz).toArray[19]?=some t:=rfl
theorem dM:(a::b::c::d::e::f::g::h::i::j::k::l::m::n::o::p::q::r::s::t::u::zz).toArray[20]?=some u:=rfl
theorem hx21:(a::b::c::d::e::f::g::h::i::j::k::l::m::n::o::p::q::r::s::t::u::v::zz).toArray[21]?=some v:=rfl
theorem hx22:(a::b::c::d::e::f::g::h::i::j::k::l::m::n::o::p::q::r::s::t::u::v::w::zz).toArray[22]?=some w:=rfl
theorem hx23:(a::b::c::d::e::f::g::h::i::j::k::l::m::n::o::p::q::r::s::t::u::v::w::x::zz).toArray[23]?=some x:=rfl
theorem hx24:(a::b::c::d::e::f::g::h::i::j::k::l::m::n::o::p::q::r::s::t::u::v::w::x::y::zz).toArray[24]?=some y:=rfl
theorem hx25:(a::b::c::d::e::f::g::h::i::j::k::l::m::n::o::p::q::r::s::t::u::v::w::x::y::z::zz).toArray[25]?=some z:=rfl
theorem hx26:(a::b::c::d::e::f::g::h::i::j::k::l::m::n::o::p::q::r::s::t::u::v::w::x::y::z::A::zz).toArray[26]?=some A:=rfl
theorem hx27:(a::b::c::d::e::f::g::h::i::j::k::l::m::n::o::p::q::r::s::t::u::v::w::x::y::z::A::B::zz).toArray[27]?=some B:=rfl
theorem hx28:(a::b::c::d::e::f::g::h::i::j::k::l::m::n::o::p::q::r::s::t::u::v::w::x::y::z::A::B::C::zz).toArray[28]?=some C:=rfl
theorem hx29:(a::b::c::d::e::f::g::h::i::j::k::l::m::n::o::p::q::r::s::t::u::v::w::x::y::z::A::B::C::D::zz).toArray[29]?=some D:=rfl
theorem hx30:(a::b::c::d::e::f::g::h::i::j::k::l::m::n::o::p::q::r::s::t::u::v::w::x::y::z::A::B::C::D::E::zz).toArray[30]?=some E:=rfl
theorem hx31:(a::b::c::d::e::f::g::h::i::j::k::l::m::n::o::p::q::r::s::t::u::v::w::x::y::z::A::B::C::D::E::F::zz).toArray[31]?=some F:=rfl
theorem hx32:(a::b::c::d::e::f::g::h::i::j::k::l::m::n::o::p::q::r::s::t::u::v::w::x::y::z::A::B::C::D::E::F::G::zz).toArray[32]?=some G:=rfl
theorem hx33:(a::b::c::d::e::f::g::h::i::j::k::l::m::n::o::p::q::r::s::t::u::v::w::x::y::z::A::B::C::D::E::F::G::H::zz).toArray[33]?=some H:=rfl
theorem hx34:(a::b::c::d::e::f::g::h::i::j::k::l::m::n::o::p::q::r::s::t::u::v::w::x::y::z::A::B::C::D::E::F::G::H::I::zz).toArray[34]?=some I:=rfl
theorem hx35:(a::b::c::d::e::f::g::h::i::j::k::l::m::n::o::p::q::r::s::t::u::v::w::x::y::z::A::B::C::D::E::F::G::H::I::J::zz).toArray[35]?=some J:=rfl
end
section
variable {w:World} {b:Nat} {T:TypeId} {x0 x1 x2 x3 x4 x5 x6 x7 x8:Value} {zz:List Value}
theorem bc0 (h:w.heap[b]?=some (.cells (x0::zz).toArray T (0,0))):w.cell? ⟨b,0,none⟩=some x0:=ah h rfl
theorem bc1 (h:w.heap[b]?=some (.cells (x0::x1::zz).toArray T (0,0))):w.cell? ⟨b,1,none⟩=some x1:=ah h rfl
theorem bc2 (h:w.heap[b]?=some (.cells (x0::x1::x2::zz).toArray T (0,0))):w.cell? ⟨b,2,none⟩=some x2:=ah h rfl
theorem bc3 (h:w.heap[b]?=some (.cells (x0::x1::x2::x3::zz).toArray T (0,0))):w.cell? ⟨b,3,none⟩=some x3:=ah h rfl
theorem bc4 (h:w.heap[b]?=some (.cells (x0::x1::x2::x3::x4::zz).toArray T (0,0))):w.cell? ⟨b,4,none⟩=some x4:=ah h rfl
theorem bc5 (h:w.heap[b]?=some (.cells (x0::x1::x2::x3::x4::x5::zz).toArray T (0,0))):w.cell? ⟨b,5,none⟩=some x5:=ah h rfl
theorem bc6 (h:w.heap[b]?=some (.cells (x0::x1::x2::x3::x4::x5::x6::zz).toArray T (0,0))):w.cell? ⟨b,6,none⟩=some x6:=ah h rfl
theorem bc7 (h:w.heap[b]?=some (.cells (x0::x1::x2::x3::x4::x5::x6::x7::zz).toArray T (0,0))):w.cell? ⟨b,7,none⟩=some x7:=ah h rfl
theorem bc8 (h:w.heap[b]?=some (.cells (x0::x1::x2::x3::x4::x5::x6::x7::x8::zz).toArray T (0,0))):w.cell? ⟨b,8,none⟩=some x8:=ah h rfl
end
section
variable {P:Program} {ops:Array Oper} {Q:Exit->Act->World->Prop} {a:Act} {w:World} {id:Nat} {p0 p1 p2 p3 p4 p5 p6 p7 p8 p9 p10 p11 p12:Addr} {v0 v1 v2 v3 v4 v5 v6 v7 v8 v9 v10 v11 v12:Value}
theorem wh2 (e0:w.cell? p0=some v0)(e1:w.cell? p1=some v1)(h : ∀U,Below w.heap.size w U->w.heap.size<=U.heap.size->U.heap.size<=w.heap.size->(U.cell? p0=some v0∧U.cell? p1=some v1)->wpAnyH P .any ops (NoPanic Q) (fun w'=>w'.cell? p0=some v0∧w'.cell? p1=some v1) ops.size (Array.replicate ops.size false) a U)(hm:P.follows .mixedOrders=true:=by kernel_rfl):(Code.region id ops true).wp P Q a w:=wp_region_noPanic (wp_region_held_drew hm ⟨e0,e1⟩ fun k=>h _ bdr (Nat.le_refl _) (Nat.le_refl _) k)
theorem wh3 (e0:w.cell? p0=some v0)(e1:w.cell? p1=some v1)(e2:w.cell? p2=some v2)(h : ∀U,Below w.heap.size w U->w.heap.size<=U.heap.size->U.heap.size<=w.heap.size->(U.cell? p0=some v0∧U.cell? p1=some v1∧U.cell? p2=some v2)->wpAnyH P .any ops (NoPanic Q) (fun w'=>w'.cell? p0=some v0∧w'.cell? p1=some v1∧w'.cell? p2=some v2) ops.size (Array.replicate ops.size false) a U)(hm:P.follows .mixedOrders=true:=by kernel_rfl):(Code.region id ops true).wp P Q a w:=wp_region_noPanic (wp_region_held_drew hm ⟨e0,e1,e2⟩ fun k=>h _ bdr (Nat.le_refl _) (Nat.le_refl _) k)
theorem wh4 (e0:w.cell? p0=some v0)(e1:w.cell? p1=some v1)(e2:w.cell? p2=some v2)(e3:w.cell? p3=some v3)(h : ∀U,Below w.heap.size w U->w.heap.size<=U.heap.size->U.heap.size<=w.heap.size->(U.cell? p0=some v0∧U.cell? p1=some v1∧U.cell? p2=some v2∧U.cell? p3=some v3)->wpAnyH P .any ops (NoPanic Q) (fun w'=>w'.cell? p0=some v0∧w'.cell? p1=some v1∧w'.cell? p2=some v2∧w'.cell? p3=some v3) ops.size (Array.replicate ops.size false) a U)(hm:P.follows .mixedOrders=true:=by kernel_rfl):(Code.region id ops true).wp P Q a w:=wp_region_noPanic (wp_region_held_drew hm ⟨e0,e1,e2,e3⟩ fun k=>h _ bdr (Nat.le_refl _) (Nat.le_refl _) k)
theorem wh5 (e0:w.cell? p0=some v0)(e1:w.cell? p1=some v1)(e2:w.cell? p2=some v2)(e3:w.cell? p3=some v3)(e4:w.cell? p4=some v4)(h : ∀U,Below w.heap.size w U->w.heap.size<=U.heap.size->U.heap.size<=w.heap.size->(U.cell? p0=some v0∧U.cell? p1=some v1∧U.cell? p2=some v2∧U.cell? p3=some v3∧U.cell? p4=some v4)->wpAnyH P .any ops (NoPanic Q) (fun w'=>w'.cell? p0=some v0∧w'.cell? p1=some v1∧w'.cell? p2=some v2∧w'.cell? p3=some v3∧w'.cell? p4=some v4) ops.size (Array.replicate ops.size false) a U)(hm:P.follows .mixedOrders=true:=by kernel_rfl):(Code.region id ops true).wp P Q a w:=wp_region_noPanic (wp_region_held_drew hm ⟨e0,e1,e2,e3,e4⟩ fun k=>h _ bdr (Nat.le_refl _) (Nat.le_refl _) k)
theorem wh6 (e0:w.cell? p0=some v0)(e1:w.cell? p1=some v1)(e2:w.cell? p2=some v2)(e3:w.cell? p3=some v3)(e4:w.cell? p4=some v4)(e5:w.cell? p5=some v5)(h : ∀U,Below w.heap.size w U->w.heap.size<=U.heap.size->U.heap.size<=w.heap.size->(U.cell? p0=some v0∧U.cell? p1=some v1∧U.cell? p2=some v2∧U.cell? p3=some v3∧U.cell? p4=some v4∧U.cell? p5=some v5)->wpAnyH P .any ops (NoPanic Q) (fun w'=>w'.cell? p0=some v0∧w'.cell? p1=some v1∧w'.cell? p2=some v2∧w'.cell? p3=some v3∧w'.cell? p4=some v4∧w'.cell? p5=some v5) ops.size (Array.replicate ops.size false) a U)(hm:P.follows .mixedOrders=true:=by kernel_rfl):(Code.region id ops true).wp P Q a w:=wp_region_noPanic (wp_region_held_drew hm ⟨e0,e1,e2,e3,e4,e5⟩ fun k=>h _ bdr (Nat.le_refl _) (Nat.le_refl _) k)
theorem wh8 (e0:w.cell? p0=some v0)(e1:w.cell? p1=some v1)(e2:w.cell? p2=some v2)(e3:w.cell? p3=some v3)(e4:w.cell? p4=some v4)(e5:w.cell? p5=some v5)(e6:w.cell? p6=some v6)(e7:w.cell? p7=some v7)(h : ∀U,Below w.heap.size w U->w.heap.size<=U.heap.size->U.heap.size<=w.heap.size->(U.cell? p0=some v0∧U.cell? p1=some v1∧U.cell? p2=some v2∧U.cell? p3=some v3∧U.cell? p4=some v4∧U.cell? p5=some v5∧U.cell? p6=some v6∧U.cell? p7=some v7)->wpAnyH P .any ops (NoPanic Q) (fun w'=>w'.cell? p0=some v0∧w'.cell? p1=some v1∧w'.cell? p2=some v2∧w'.cell? p3=some v3∧w'.cell? p4=some v4∧w'.cell? p5=some v5∧w'.cell? p6=some v6∧w'.cell? p7=some v7) ops.size (Array.replicate ops.size false) a U)(hm:P.follows .mixedOrders=true:=by kernel_rfl):(Code.region id ops true).wp P Q a w:=wp_region_noPanic (wp_region_held_drew hm ⟨e0,e1,e2,e3,e4,e5,e6,e7⟩ fun k=>h _ bdr (Nat.le_refl _) (Nat.le_refl _) k)
theorem wh11 (e0:w.cell? p0=some v0)(e1:w.cell? p1=some v1)(e2:w.cell? p2=some v2)(e3:w.cell? p3=some v3)(e4:w.cell? p4=some v4)(e5:w.cell? p5=some v5)(e6:w.cell? p6=some v6)(e7:w.cell? p7=some v7)(e8:w.cell? p8=some v8)(e9:w.cell? p9=some v9)(e10:w.cell? p10=some v10)(h : ∀U,Below w.heap.size w U->w.heap.size<=U.heap.size->U.heap.size<=w.heap.size->(U.cell? p0=some v0∧U.cell? p1=some v1∧U.cell? p2=some v2∧U.cell? p3=some v3∧U.cell? p4=some v4∧U.cell? p5=some v5∧U.cell? p6=some v6∧U.cell? p7=some v7∧U.cell? p8=some v8∧U.cell? p9=some v9∧U.cell? p10=some v10)->wpAnyH P .any ops (NoPanic Q) (fun w'=>w'.cell? p0=some v0∧w'.cell? p1=some v1∧w'.cell? p2=some v2∧w'.cell? p3=some v3∧w'.cell? p4=some v4∧w'.cell? p5=some v5∧w'.cell? p6=some v6∧w'.cell? p7=some v7∧w'.cell? p8=some v8∧w'.cell? p9=some v9∧w'.cell? p10=some v10) ops.size (Array.replicate ops.size false) a U)(hm:P.follows .mixedOrders=true:=by kernel_rfl):(Code.region id ops true).wp P Q a w:=wp_region_noPanic (wp_region_held_drew hm ⟨e0,e1,e2,e3,e4,e5,e6,e7,e8,e9,e10⟩ fun k=>h _ bdr (Nat.le_refl _) (Nat.le_refl _) k)
theorem wh12 (e0:w.cell? p0=some v0)(e1:w.cell? p1=some v1)(e2:w.cell? p2=some v2)(e3:w.cell? p3=some v3)(e4:w.cell? p4=some v4)(e5:w.cell? p5=some v5)(e6:w.cell? p6=some v6)(e7:w.cell? p7=some v7)(e8:w.cell? p8=some v8)(e9:w.cell? p9=some v9)(e10:w.cell? p10=some v10)(e11:w.cell? p11=some v11)(h : ∀U,Below w.heap.size w U->w.heap.size<=U.heap.size->U.heap.size<=w.heap.size->(U.cell? p0=some v0∧U.cell? p1=some v1∧U.cell? p2=some v2∧U.cell? p3=some v3∧U.cell? p4=some v4∧U.cell? p5=some v5∧U.cell? p6=some v6∧U.cell? p7=some v7∧U.cell? p8=some v8∧U.cell? p9=some v9∧U.cell? p10=some v10∧U.cell? p11=some v11)->wpAnyH P .any ops (NoPanic Q) (fun w'=>w'.cell? p0=some v0∧w'.cell? p1=some v1∧w'.cell? p2=some v2∧w'.cell? p3=some v3∧w'.cell? p4=some v4∧w'.cell? p5=some v5∧w'.cell? p6=some v6∧w'.cell? p7=some v7∧w'.cell? p8=some v8∧w'.cell? p9=some v9∧w'.cell? p10=some v10∧w'.cell? p11=some v11) ops.size (Array.replicate ops.size false) a U)(hm:P.follows .mixedOrders=true:=by kernel_rfl):(Code.region id ops true).wp P Q a w:=wp_region_noPanic (wp_region_held_drew hm ⟨e0,e1,e2,e3,e4,e5,e6,e7,e8,e9,e10,e11⟩ fun k=>h _ bdr (Nat.le_refl _) (Nat.le_refl _) k)
theorem wh13 (e0:w.cell? p0=some v0)(e1:w.cell? p1=some v1)(e2:w.cell? p2=some v2)(e3:w.cell? p3=some v3)(e4:w.cell? p4=some v4)(e5:w.cell? p5=some v5)(e6:w.cell? p6=some v6)(e7:w.cell? p7=some v7)(e8:w.cell? p8=some v8)(e9:w.cell? p9=some v9)(e10:w.cell? p10=some v10)(e11:w.cell? p11=some v11)(e12:w.cell? p12=some v12)(h : ∀U,Below w.heap.size w U->w.heap.size<=U.heap.size->U.heap.size<=w.heap.size->(U.cell? p0=some v0∧U.cell? p1=some v1∧U.cell? p2=some v2∧U.cell? p3=some v3∧U.cell? p4=some v4∧U.cell? p5=some v5∧U.cell? p6=some v6∧U.cell? p7=some v7∧U.cell? p8=some v8∧U.cell? p9=some v9∧U.cell? p10=some v10∧U.cell? p11=some v11∧U.cell? p12=some v12)->wpAnyH P .any ops (NoPanic Q) (fun w'=>w'.cell? p0=some v0∧w'.cell? p1=some v1∧w'.cell? p2=some v2∧w'.cell? p3=some v3∧w'.cell? p4=some v4∧w'.cell? p5=some v5∧w'.cell? p6=some v6∧w'.cell? p7=some v7∧w'.cell? p8=some v8∧w'.cell? p9=some v9∧w'.cell? p10=some v10∧w'.cell? p11=some v11∧w'.cell? p12=some v12) ops.size (Array.replicate ops.size false) a U)(hm:P.follows .mixedOrders=true:=by kernel_rfl):(Code.region id ops true).wp P Q a w:=wp_region_noPanic (wp_region_held_drew hm ⟨e0,e1,e2,e3,e4,e5,e6,e7,e8,e9,e10,e11,e12⟩ fun k=>h _ bdr (Nat.le_refl _) (Nat.le_refl _) k)
end
theorem alE {W X:World}{o:Obj}(h:World.alloc W o=X):Below W.heap.size W X∧X.heap[W.heap.size]?=some o∧W.heap.size+1<=X.heap.size∧X.heap.size<=W.heap.size+1:=h▸⟨ag,aA rfl,by simp,by simp⟩
theorem alE1 {W X:World}{o:Obj}(h:World.alloc W o=X):Below W.heap.size W X∧X.heap[W.heap.size]?=some o∧X.heap.size=W.heap.size+1:=h▸⟨ag,aA rfl,by simp⟩
theorem bO {W X:World}{o p:Obj}(h:World.alloc (World.alloc W o) p=X):Below W.heap.size W X∧X.heap[W.heap.size]?=some o∧X.heap[W.heap.size+1]?=some p∧X.heap.size=W.heap.size+1+1:=h▸⟨al ag ag,a9 (aA rfl) ag,aA (by simp),by simp⟩
theorem alE3 {W X:World}{o p q:Obj}(h:World.alloc (World.alloc (World.alloc W o) p) q=X):Below W.heap.size W X∧X.heap[W.heap.size]?=some o∧X.heap[W.heap.size+1]?=some p∧X.heap[W.heap.size+1+1]?=some q∧X.heap.size=W.heap.size+1+1+1:=h▸⟨al (al ag ag) ag,a9 (a9 (aA rfl) ag) ag,a9 (aA (by simp)) ag,aA (by simp),by simp⟩
theorem HSt.cq {b:Nat}{p:Addr}{W X:World}{v:Value}(h:HSt b W X)(f:W.cell? p=some v)(hn:p.block≠b:=by dsimp only;omega):X.cell? p=some v:=h.cell hn f
theorem HSt.bk {b c:Nat}{W X:World}{x:Obj}(h:HSt b W X)(f:W.heap[c]?=some x)(hn:c≠b:=by omega):X.heap[c]?=some x:=h.blk hn f
theorem HSt.be {b:Nat}{w W X:World}(h:HSt b W X)(f:Hid (Below w.heap.size w W))(hb:w.heap.size<=b:=by omega):Hid (Below w.heap.size w X):=zq (h.bel f.out hb)
mutual
def Ty.any:Ty->Nat
 | .mk k ts=>if k=1 then 1 else Ty.anys ts
def Ty.anys:List Ty->Nat
 | []=>0
 | t::ts=>t.any+Ty.anys ts
end
def RetTyB (t:Ty)(b:Bool)(w:World)(e:Ending)(w':World):Prop:=∃v,e = .returned (.tuple #[v,.bool b])∧bp w.heap.size w' t v∧Below w.heap.size w w'
def Ty.none:Ty:=.mk 0 []
end Go.Proofs.Ytfhglkmjibjjoaa

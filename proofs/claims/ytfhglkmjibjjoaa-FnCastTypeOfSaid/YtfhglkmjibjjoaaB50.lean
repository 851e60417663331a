/- impl.castType at nodes but functions and casts. And what else its parts name. -/
import Derived.Test.YtfhglkmjibjjoaaB16
import Derived.Test.YtfhglkmjibjjoaaB46
import Derived.Deep.DeepCutAuto
set_option linter.unusedSimpArgs false
set_option linter.unusedVariables false
set_option maxRecDepth 100000
set_option maxHeartbeats 16000000
namespace Go.Proofs.Ytfhglkmjibjjoaa
open Go.RowKit
def ec (G:Nat->Prop)(n B:Nat)(P F:Nat->Prop):Prop:=(∀x,G x->x<n->P x)∧(∀x,P x->F x)∧(∀x,B<=x->F x)∧(∀x,F x->x≠n+1)∧(∀x,F x->G x∨n<=x)∧(∀x,P x->x<B)∧(∀x,F x->P x∨B<=x)
theorem ec.start (G:Nat->Prop)(n:Nat):ec G n (n+1+1) (fun x=>G x∧x<n) (fun x=>(G x∧x<n)∨n+1+1<=x):=
 ⟨fun _ h1 h2=>⟨h1,h2⟩,fun _ h=>.inl h,fun _ h=>.inr h,fun x h=>by rcases h with h | h<;>omega,fun x h=>h.elim (fun q=>.inl q.1) (fun q=>.inr (by omega)),fun x h=>by omega,fun _ h=>h⟩
theorem ec.more (G:Nat->Prop)(n B:Nat)(hB:n+1+1<=B):ec G n B (fun x=>(G x∧x<n)∨n+1+1<=x∧x<B) (fun x=>(G x∧x<n)∨n+1+1<=x):=
 ⟨fun _ h1 h2=>.inl ⟨h1,h2⟩,fun _ h=>h.imp id (·.1),fun _ h=>.inr (by omega),fun x h=>by rcases h with h | h<;>omega,fun x h=>h.elim (fun q=>.inl q.1) (fun q=>.inr (by omega)),fun x h=>by rcases h with h | h<;>omega,fun x h=>by rcases h with h | h;exact .inl (.inl h);by_cases q:x<B;exact .inl (.inr ⟨h,q⟩);exact .inr (by omega)⟩
theorem prog_t {ws hs:List S}{t:S}{n:Nat}(hv:t.vd=true)(hn:n=ws.length)(hl:ws.length<=hs.length)(h : ∀x,x<n->ws[x]?=hs[x]?):bv (some (ws,t)) hs=some t:=by
 have e:ws=hs.take ws.length:=by
  apply List.ext_getElem?
  intro x
  by_cases hx:x<ws.length
  ·rw[h x (by omega),List.getElem?_take,if_pos hx]
  ·rw[List.getElem?_eq_none (by omega),List.getElem?_take,if_neg hx]
 simp only[bv,hv,Bool.true_and];rw[if_pos (by simpa using e)]
theorem prog_f {ws hs:List S}{t:S}{i:Nat}(hi:i<ws.length)(hi2:i<hs.length)(h:ws[i]≠hs[i]):bv (some (ws,t)) hs=none:=by
 have e : ¬ws=hs.take ws.length:=by
  intro e;have h1:ws[i]?=hs[i]?:=by
   have:=congrArg (fun q:List S=>q[i]?) e;simp only[List.getElem?_take,if_pos hi] at this
   exact this
  rw[List.getElem?_eq_getElem hi,List.getElem?_eq_getElem hi2] at h1
  exact h (Option.some.inj h1)
 simp[bv,e]
theorem prog_v {ws hs:List S}{t:S}(hv:t.vd=false):bv (some (ws,t)) hs=none:=by simp[bv,hv]
theorem dW (G:Nat->Prop)(k:Int)(nm:ByteArray)(u lb tk fk:Int)(ty src:Ty)(ts:List Tm)(l:List Bd)(xa ta fa ca:Option Addr)(xn xq tn tq fn fq cm cq:Nat)(w:World)(WO:List S->Option (List S × S))
  (he:aB G w (.mk k nm u ty src lb ts) (.agg (nv k nm u tk ta tn tq fk fa fn fq lb ca cm cq)))
  (hb:aE G w l (.slice xa xn xq)) (h5:(k==5)=false) (h14:(k==14)=false)
  (IH : ∀t'∈ts,∀(W:World) (c' y':Value) (P:Nat->Prop),aE P W l c'->(c' = .slice xa xn xq)->aB P W t' y'->Calls Try.prog 13 #[c',y'] W (dI P ((t'.castS l).map S.ty) W))
  (IV : ∀t'∈ts,∀h,t'.castS l=some h->h.vd=true)
  (HW : ∀(hs:List S),hs.length=ts.length->(∀h∈hs,h.vd=true)->∀(W:World) (H:Nat->Prop) (y:Value),ai H W ty (.agg #[.int .i64 tk,.slice ta tn tq])->aE H W l (.slice xa xn xq)->av H W (hs.map S.ty) y->Calls Try.prog 28 #[.slice xa xn xq,.agg (nv k nm u tk ta tn tq fk fa fn fq lb ca cm cq),y] W (cS H (WO hs) W))
  (HWL : ∀hs ws t,WO hs=some (ws,t)->ws.length<=hs.length) (hsm:ts.length<=3) :
  Calls Try.prog 13 #[.slice xa xn xq,.agg (nv k nm u tk ta tn tq fk fa fn fq lb ca cm cq)] w (dI G (((Tm.castsS ts l).bind fun hs=>bv (WO hs) hs).map S.ty) w):=by
 obtain⟨-,-,-,-,-,-,-,-,hm,hnm,hmq,hqm,hty,hsrc,hks⟩:=he.parts;simp only[Tm.type,Tm.src,Tm.kids,Tm.name] at hm hty hsrc hks hnm;obtain⟨i0,hi,hz0,hz1,hz2⟩:=info_parts Try.infoTy;have Z0:=zq hz0;have Z1:=zq hz1;have Z2:=zq hz2;have HI:=zq hi;have hm3:cm<=3:=by omega
 have HM:=zq hm;have HIH:=zq IH;have HIV:=zq IV;obtain⟨PP,FF,B,hPF,hPQ⟩ : ∃(PP FF:Nat->Prop) (B:Nat),ec G w.heap.size B PP FF∧(w.heap.size+1+1<=B∧B<=w.heap.size+1+1):=⟨_,_,_,ec.start G w.heap.size,Nat.le_refl _,Nat.le_refl _⟩
 have HPF:=zq hPF;have HB:=zq hPQ.1;have hBB:=hPQ.2;have HKS:=zq (hks.move (.weaken (G:=PP) fun b h hl=>hPF.1 b h hl));have HCX0:=zq (hb.move (.weaken (G:=PP) fun b h hl=>hPF.1 b h hl));have HWW:=zq (fun hs h1 h2 W (hW:Below w.heap.size w W) y (hy:av FF W (hs.map S.ty) y)=>HW hs h1 h2 W FF y ((hty.move (.weaken (G:=FF) fun b h hl=>hPF.2.1 b (hPF.1 b h hl))).below hW) ((hb.move (.weaken (G:=FF) fun b h hl=>hPF.2.1 b (hPF.1 b h hl))).below hW) hy);have HWLH:=zq HWL;obtain⟨O,hO⟩ : ∃O:Option Ty,O=((Tm.castsS ts l).bind fun hs=>bv (WO hs) hs).map S.ty:=⟨_,rfl⟩
 rw[<-hO];have HO:=zq hO;have fE:=zq (a9 (aA (w:=w) (o:=.cells (nv k nm u tk ta tn tq fk fa fn fq lb ca cm cq) 28) rfl) (ag (o:=.cells #[.int .i64 0,.slice none 0 0] 25)));have fR:=zq (aA (w:=w.alloc (.cells (nv k nm u tk ta tn tq fk fa fn fq lb ca cm cq) 28)) (o:=.cells #[.int .i64 0,.slice none 0 0] 25) (b:=w.heap.size+1) (by simp));clear hO he hb IH IV HW HWL hty hsrc hks hi hz0 hz1 hz2 hm hPF hPQ
 go_enter Try.func13,Try.ntmps13
 go_wp2_with fail
 go_loopw [7,33] (fun s7 s33 wr=>∃(j:Nat) (hs:List S) (cv:Option Addr) (qv:Nat),j<=cm∧s7 = .slice cv j qv∧s33 = .int .i64 j∧Hid (Below w.heap.size w wr)∧B<=wr.heap.size ∧
     Hid (wr.heap[w.heap.size]?=some (.cells (nv k nm u tk ta tn tq fk fa fn fq lb ca cm cq) 28 (0,0)))∧Hid (wr.heap[w.heap.size+1]?=some (.cells #[.int .i64 0,.slice none 0 0] 25 (0,0)))∧Hid (cT FF B 25 2 wr (.slice cv j qv) j (Ty.rows (hs.map S.ty)))∧Hid (aE PP wr l (.slice xa xn xq)) ∧
     Hid (hs.length=j∧(∀h∈hs,h.vd=true)∧Tm.castsS ts l=(Tm.castsS (ts.drop j) l).map (hs ++ ·))) (fun _ i _=>cm-(intOf i).toNat)
 case atStart=>exact⟨0,[],_,_,by omega,rfl,rfl,zq (al ag ag),by simp;omega,fE,fR,zq cT.nil,zq ((HCX0.out.below ag).below ag),zq ⟨rfl,by simp,by simp⟩⟩
 case round=>
  obtain⟨j,hs,cv,qv,hj,rfl,rfl,hbw,hsz,hE,hR,hrow,hcx,hrel2⟩:=hrel;clear fE fR HCX0;have x0:=ah hE.out (o:=0) rfl;have hB1:=HB.out;have lx8:w.heap.size<wr.heap.size:=by omega
  by_cases hlt:j<cm
  ·have hjt:j<ts.length:=by rw[<-HM.out];exact hlt
   obtain⟨b,off,kk0,nn0,uu0,tk0,ta0,tn0,tq0,fk0,fa0,fn0,fq0,ll0,a0,m0,q0,rfl,lb_,e0,e1,e2,e3,e4,e5,e6,e7,e8,ht⟩:=HKS.out.at hbw.out hjt;have HC:=zq (fun W (hW:Below wr.heap.size wr W)=>HIH.out ts[j] (List.getElem_mem hjt) W (.slice xa xn xq) _ PP (hcx.out.below hW) rfl (ht.below hW));have HCV:=zq (HIV.out ts[j] (List.getElem_mem hjt));have HCD:=zq (dO (l:=l) hjt);generalize hoj:ts[j].castS l=oj at HC HCV HCD;have lr:=aw hR.out;have hz3:j+1<=3:=by omega
   clear hoj ht x0
   cases oj with
   | none=>
    have HREL:=zq (show O=none from by rw[HO.out,hrel2.out.2.2,HCD.out];rfl)
    go_wp2_with fail
    refine(HC.out _ ag).mono ?_;rintro e w1 ⟨kt,at_,nt,qt,bt,tt,rfl,hbt,htt,hot,hst⟩;obtain rfl:bt=false:=hbt;have hR1:=a9 (a9 hR.out ag) hst;have HB1:=zq (al (al hbw.out ag) hst);have hz1:=hst.size;simp only[World.size_alloc] at hz1;clear htt hot hst hcx hE hR hrow;obtain⟨r0,r1⟩:=blk2 hR1;have rf0:=aj hR1 0;have rf1:=aj hR1 1;have lr1:=aw hR1;have lr2:w.heap.size+1<w1.heap.size+1:=by omega
    go_wp2_with fail
    have hY:(((w1.setCell ⟨w.heap.size+1,0,none⟩ (.int .i64 0)).setCell ⟨w.heap.size+1,1,none⟩ (.slice none 0 0)).alloc (.cells #[.int .i64 kt,.slice at_ nt qt] 25)).heap[w.heap.size+1]?=some (.cells #[.int .i64 0,.slice none 0 0] 25 (0,0)):=a9 (az (az hR1 rfl) rfl) ag;obtain⟨rc0,rc1⟩:=blk2 hY;refine bq (.tuple #[.agg #[.int .i64 0,.slice none 0 0],.bool false]) (by simp[results,Try.results13,go_sem,rc0,rc1]) ?_
    exact⟨_,_,_,_,_,_,rfl,by rw[HREL.out];rfl,ai.zeroG,(by rw[HREL.out];intro s h;cases h),al ((HB1.out.setCell (p:=⟨w.heap.size+1,0,none⟩) (by show w.heap.size<=w.heap.size+1;omega) _).setCell (p:=⟨w.heap.size+1,1,none⟩) (by show w.heap.size<=w.heap.size+1;omega) _) ag⟩
   | some hh=>
    have HVD:=zq (HCV.out hh rfl);have HNX:=zq (show Tm.castsS ts l=(Tm.castsS (ts.drop (j+1)) l).map ((hs ++ [hh]) ++ ·) from by
      rw[hrel2.out.2.2,HCD.out]
      cases Tm.castsS (ts.drop (j+1)) l<;>simp)
    obtain⟨hlenr,xs,ho,hvals⟩:=hrow.out;have HLEN:=zq hlenr;have HOW:=zq ho;have HV:=zq hvals;clear hlenr ho hvals hrow
    go_wp2_with fail
    refine(HC.out _ ag).mono ?_;rintro e w1 ⟨kt,at_,nt,qt,bt,tt,rfl,hbt,htt,hot,hst⟩;obtain rfl:bt=true:=hbt;obtain rfl:tt=hh.ty:=hot _ rfl;have HST:=zq (al ag hst);have HT1:=zq (htt.move (.weaken (G:=fun b=>FF b∧(Value.slice cv j qv).ownBlock≠some b) fun b h _=>by
      rcases h with h | h
      · have h2:=HPF.out.2.2.2.2.2.1 b h
        exact⟨HPF.out.2.1 b h,fun e=>by have:=(HOW.out.lt b e).1;omega⟩
      · simp only[World.size_alloc] at h
        exact⟨HPF.out.2.2.1 b (by omega),fun e=>by have:=(HOW.out.lt b e).2;omega⟩))
    have hz1:=hst.size;simp only[World.size_alloc] at hz1;have hW:=zq (show Below wr.heap.size wr ((w1.alloc (.cells #[.int .i64 kt,.slice at_ nt qt] 25)).alloc (.cells #[.int .i64 kt,.slice at_ nt qt] 25)) from al (al HST.out ag) ag);clear htt hot hst
    go_wp2_with (first | (at_builtin;refine wpList_append_lies _ rfl (.tmp 46) (.tmp 48) 23 rfl B 25 i0 _ 2 32 Try.underlying23 HI.out Z0.out Z1.out Z2.out rfl (by omega) (.slice cv j qv) j xs rfl (bc HOW.out hW.out) ⟨w1.heap.size+1,0,none⟩ 1 1 [.int .i64 kt,.slice at_ nt qt] rfl rfl (World.news_of_block (cs:=#[.int .i64 kt,.slice at_ nt qt]) (t:=25) (fr:=(0,0)) (aA (by simp))) (by simp[Value.oneCell']) (by omega) (by unfold maxLen;omega) (by omega) (by simp;omega) _ rfl ?_) | fail)
    intro gg cap2 w6 hown2 hgrow hat hlt2;have HROW:=zq (cT.push HLEN.out HV.out hW.out ((HT1.out.below ag).below ag).srep hown2 hgrow (by simpa using hat));have HBEL:=zq (bW hbw.out hW.out HOW.out (by omega) hgrow);have hfar:=cI hW.out HOW.out hgrow;have HFAR:=zq hfar;have hsz6:wr.heap.size<=w6.heap.size:=Nat.le_trans hW.out.size hgrow.size;have HCX6:=zq (show aE PP w6 l (.slice xa xn xq) from hcx.out.move ⟨hsz6,fun _ h _=>h,fun b h hl=>HFAR.out b hl (HPF.out.2.2.2.2.2.1 b h)⟩);clear hown2 hgrow hat hfar hcx
    go_wp2_with fail
    go_roundw
    case rel=>exact⟨j+1,hs ++ [hh],_,_,by omega,rfl,by go_num,HBEL,by omega,zq ((HFAR.out w.heap.size (by omega) (by omega)).trans hE.out),zq ((HFAR.out (w.heap.size+1) (by omega) (by omega)).trans hR.out),(by
        unfold Hid;have e1:Ty.rows ((hs ++ [hh]).map S.ty)=Ty.rows (hs.map S.ty) ++ [hh.ty.row]:=by simp[Ty.rows_eq]
        rw[e1]
        exact HROW.out),HCX6,zq ⟨by simp[hrel2.out.1],fun h hm=>(List.mem_append.1 hm).elim (hrel2.out.2.1 h) (fun q=>by simp at q;subst q;exact HVD.out),HNX.out⟩⟩
    case measure=>simp[intOf];omega
  ·have HJE:=zq (show j=cm by omega)
   have HJL:=zq (show ts.drop j = [] from List.drop_eq_nil_of_le (by have:=HM.out;have:=HJE.out;omega));have HREL0:=zq (show O=(bv (WO hs) hs).map S.ty from by
     rw[HO.out,hrel2.out.2.2,HJL.out,Tm.castsS]
     simp)
   have HTY:=zq (show av FF wr (hs.map S.ty) (.slice cv j qv) from hrow.out.rep HPF.out.2.2.1);have HLJ:=zq (show hs.length=j from hrel2.out.1);have HCX:=zq (HWW.out hs (by have:=hrel2.out.1;have:=HM.out;have:=HJE.out;omega) hrel2.out.2.1 wr hbw.out _ HTY.out);have HWB:=zq (HWLH.out hs);have d1:=ah hE.out (o:=1) rfl;have d2:=ah hE.out (o:=2) rfl;have d3:=ah hE.out (o:=3) rfl;have d4:=ah hE.out (o:=4) rfl;have d5:=ah hE.out (o:=5) rfl;have d6:=ah hE.out (o:=6) rfl;have d7:=ah hE.out (o:=7) rfl;have d8:=ah hE.out (o:=8) rfl;clear hrow hcx hrel2
   go_wp2_with fail
   refine HCX.out.mono ?_;rintro e w1 ⟨kt,at_,nt,qt,za,zn,zqx,bt,rfl,hbt,hot,hst⟩;have hR1:=a9 hR.out hst;have HB1:=zq (al hbw.out hst);have HTYW:=zq (fun W (hW:Below w1.heap.size w1 W)=>HTY.out.below (al hst hW));have hz1:=hst.size;have HOT:=zq hot;clear hot hst hE hR d1 d2 d3 d4 d5 d6 d7 d8 x0 HCX HWW;generalize WO hs=wo at HREL0 HOT HWB hbt
   cases wo with
   | none=>
    obtain rfl:bt=false:=hbt;have HREL:=zq (show O=none from HREL0.out);obtain⟨r0,r1⟩:=blk2 hR1;have rf0:=aj hR1 0;have rf1:=aj hR1 1;have lr1:=aw hR1;have lr2:w.heap.size+1<w1.heap.size+1:=by omega
    go_wp2_with fail
    have hY:(((w1.setCell ⟨w.heap.size+1,0,none⟩ (.int .i64 0)).setCell ⟨w.heap.size+1,1,none⟩ (.slice none 0 0)).alloc (.cells #[.int .i64 kt,.slice at_ nt qt] 25)).heap[w.heap.size+1]?=some (.cells #[.int .i64 0,.slice none 0 0] 25 (0,0)):=a9 (az (az hR1 rfl) rfl) ag;obtain⟨rc0,rc1⟩:=blk2 hY;refine bq (.tuple #[.agg #[.int .i64 0,.slice none 0 0],.bool false]) (by simp[results,Try.results13,go_sem,rc0,rc1]) ?_
    exact⟨_,_,_,_,_,_,rfl,by rw[HREL.out];rfl,ai.zeroG,(by rw[HREL.out];intro s h;cases h),al ((HB1.out.setCell (p:=⟨w.heap.size+1,0,none⟩) (by show w.heap.size<=w.heap.size+1;omega) _).setCell (p:=⟨w.heap.size+1,1,none⟩) (by show w.heap.size<=w.heap.size+1;omega) _) ag⟩
   | some p=>
    obtain⟨ws,t⟩:=p;obtain rfl:bt=true:=hbt;obtain⟨hwsR,htR⟩:=HOT.out ws t rfl;have HLW:=zq (HWB.out ws t rfl);have HTR:=zq (htR.move (.weaken (G:=FF) fun b h _=>h.elim id fun q=>HPF.out.2.2.1 b (by omega)));have HWS:=zq (hwsR.move (.weaken (G:=FF) fun b h _=>h.elim id fun q=>HPF.out.2.2.1 b (by omega)));have hzn:zn=ws.length:=by
     obtain⟨a',cap',he,-⟩:=hwsR.open;simp only[Value.slice.injEq,List.length_map] at he
     exact he.2.1
    have HZN:=zq hzn;clear hwsR htR hzn HOT HWB;have fV0:=aA (w:=w1) (o:=.cells #[.int .i64 kt,.slice at_ nt qt] 25) (b:=w1.heap.size) rfl;obtain⟨vd,hvd⟩ : ∃vd,t.vd=vd:=⟨_,rfl⟩
    have HVD:=zq hvd;have HTV:=zq (fun W (hW:Below w1.heap.size w1 W)=>(S.valid t).trans hvd▸d9 FF t.ty _ W (HTR.out.below hW));clear hvd
    go_wp2_with fail
    refine(HTV.out _ ag).mono ?_;rintro e w2 ⟨rfl,hst2⟩;have hR2:=a9 (a9 hR1 ag) hst2;have HB2:=zq (al (al HB1.out ag) hst2);have fV2:=a9 fV0 hst2;have HST2:=zq (show Below w1.heap.size w1 w2 from al ag hst2);have hz2:=hst2.size;simp only[World.size_alloc] at hz2;have lr1:=aw hR2;clear hst2 hR1 fV0
    cases vd with
    | false=>
     have HREL:=zq (show O=none from by rw[HREL0.out,prog_v HVD.out];rfl);obtain⟨r0,r1⟩:=blk2 hR2;have rf0:=aj hR2 0;have rf1:=aj hR2 1
     go_wp2_with fail
     have hY:((w2.setCell ⟨w.heap.size+1,0,none⟩ (.int .i64 0)).setCell ⟨w.heap.size+1,1,none⟩ (.slice none 0 0)).heap[w.heap.size+1]?=some (.cells #[.int .i64 0,.slice none 0 0] 25 (0,0)):=az (az hR2 rfl) rfl;obtain⟨rc0,rc1⟩:=blk2 hY;refine bq (.tuple #[.agg #[.int .i64 0,.slice none 0 0],.bool false]) (by simp[results,Try.results13,go_sem,rc0,rc1]) ?_
     exact⟨_,_,_,_,_,_,rfl,by rw[HREL.out];rfl,ai.zeroG,(by rw[HREL.out];intro s h;cases h),(HB2.out.setCell (p:=⟨w.heap.size+1,0,none⟩) (by show w.heap.size<=w.heap.size+1;omega) _).setCell (p:=⟨w.heap.size+1,1,none⟩) (by show w.heap.size<=w.heap.size+1;omega) _⟩
    | true=>
     have hz30:zn<=1048576:=by have:=HZN.out;have:=HLW.out;have:=HLJ.out;omega
     obtain⟨fV20,fV21⟩:=blk2 fV2
     go_wp2_with fail
     go_loopw [80] (fun s80 wr=>∃i:Nat,i<=zn∧s80 = .int .i64 i∧Hid (Below w2.heap.size w2 wr)∧Hid (∀x,x<i->ws[x]?=hs[x]?)) (fun i _=>zn-(intOf i).toNat)
     case atStart=>exact⟨0,by omega,rfl,zq (Below.refl _ _),zq (fun x h=>absurd h (Nat.not_lt_zero _))⟩
     case round=>
      obtain⟨i,hi,rfl,hbx,hpre⟩:=hrel;have hRx:=a9 hR2 hbx.out;have fVx:=a9 fV2 hbx.out;have hzx:=hbx.out.size;have HBX:=zq (al HB2.out hbx.out);have HSX:=zq (al HST2.out hbx.out);clear fV20 fV21;have lrx:=aw hRx;have lrx1:w.heap.size+1<wr.heap.size+1:=by omega
      by_cases hli:i<zn
      ·have hiw:i<ws.length:=by have:=HZN.out;omega
       have hih:i<hs.length:=by have:=HLW.out;omega
       have hij:i<j:=by have:=HLJ.out;omega
       obtain⟨bw,ow,kw,cw,mw,qw,rfl,lbw,w0_,w1_,htw⟩:=HWS.out.at HSX.out (i:=i) (by simpa using hiw);obtain⟨bh,oh,kh,ch,mhx,qh,rfl,lbh,h0_,h1_,hth⟩:=(HTYW.out wr HSX.out).at (Below.refl _ _) (i:=i) (by simpa using hih);rw[List.getElem_map] at htw hth;have HTW:=zq htw;have HTH:=zq hth;obtain⟨bs,hbs⟩ : ∃bs,ws[i].ty.same hs[i].ty=bs:=⟨_,rfl⟩
       have HSM:=zq (fun W (hW:Below wr.heap.size wr W)=>hbs▸cA FF FF ws[i].ty hs[i].ty _ _ W (htw.below hW) (hth.below hW));have HBS:=zq (show bs=decide (ws[i]=hs[i]) from by rw[<-hbs,S.same]);clear htw hth hbs
       go_wp2_with fail
       have HBW:=zq (show Below wr.heap.size wr (wr.alloc (.cells #[.int .i64 kw,.slice cw mw qw] 25)) from ag);obtain⟨VV,hVV⟩ : ∃X,X=(wr.alloc (.cells #[.int .i64 kw,.slice cw mw qw] 25)):=⟨_,rfl⟩
       have fT:VV.heap[wr.heap.size]?=some (.cells #[.int .i64 kw,.slice cw mw qw] 25 (0,0)):=by rw[hVV];exact aA rfl
       have fR:VV.heap[w.heap.size+1]?=some (.cells #[.int .i64 0,.slice none 0 0] 25 (0,0)):=by rw[hVV];exact a9 hRx ag
       have ca_:VV.cell? ⟨bh,oh+i*2,none⟩=some (.int .i64 kh):=by rw[hVV];exact af ag h0_
       have cb_:VV.cell? ⟨bh,oh+i*2+1,none⟩=some (.slice ch mhx qh):=by rw[hVV];exact af ag h1_
       have fC:Hid (Below wr.heap.size wr VV):=by rw[hVV];exact HBW
       rw[<-hVV];have zV:VV.heap.size=_:=congrArg (fun X:World=>X.heap.size) hVV;simp only[World.size_alloc] at zV;refine wh4 (bc0 fT) (bc1 fT) ca_ cb_ (fun U1 hb zU1a zU1b hH0=>?_);replace fT:=a9 fT hb;replace fR:=a9 fR hb;replace ca_:=af hb ca_;replace cb_:=af hb cb_;replace fC:=mh hb fC;rw[zV] at zU1a zU1b;clear hb hVV zV;refine hwq hx0 (.agg #[.int .i64 kw,.slice cw mw qw]) hH0 ?_;refine hwq hx1 (.slice (some ⟨bh,oh,none⟩) j qv) hH0 ?_;refine hwq hx2 (.int .i64 i) hH0 ?_;refine hwq hx3 (.pointer (some ⟨bh,oh+i*2,none⟩)) hH0 ?_;refine hwq hx4 (.agg #[.int .i64 kh,.slice ch mhx qh]) hH0 ?_;refine hwe hx5 (fun K hK=>?_)
       go_simp
       go_at_call 8
       refine(HSM.out _ fC.out).mono ?_;rintro e X1 ⟨rfl,hb⟩
       go_wp2_with fail
       have zX1:=hb.size;replace fT:=a9 fT hb;replace fR:=a9 fR hb;replace ca_:=af hb ca_;replace cb_:=af hb cb_;replace fC:=mh hb fC;refine hko hK (fun hH1=>?_);clear hK K hH0 hb
       try simp only[hwA]
       refine hwq hx6 (.bool (!bs)) hH1 ?_;refine hwd ?_;clear hH1
       cases bs with
       | false=>
        have HREL:=zq (show O=none from by rw[HREL0.out,prog_f hiw hih (by have:=HBS.out;simpa using this)];rfl);obtain⟨r0,r1⟩:=blk2 fR;have rf0:=aj fR 0;have rf1:=aj fR 1
        go_wp2_with fail
        have hY:((X1.setCell ⟨w.heap.size+1,0,none⟩ (.int .i64 0)).setCell ⟨w.heap.size+1,1,none⟩ (.slice none 0 0)).heap[w.heap.size+1]?=some (.cells #[.int .i64 0,.slice none 0 0] 25 (0,0)):=az (az fR rfl) rfl;obtain⟨rc0,rc1⟩:=blk2 hY;refine bq (.tuple #[.agg #[.int .i64 0,.slice none 0 0],.bool false]) (by simp[results,Try.results13,go_sem,rc0,rc1]) ?_
        exact⟨_,_,_,_,_,_,rfl,by rw[HREL.out];rfl,ai.zeroG,(by rw[HREL.out];intro s h;cases h),((al HBX.out fC.out).setCell (p:=⟨w.heap.size+1,0,none⟩) (by show w.heap.size<=w.heap.size+1;omega) _).setCell (p:=⟨w.heap.size+1,1,none⟩) (by show w.heap.size<=w.heap.size+1;omega) _⟩
       | true=>
        have HNX:=zq (show ∀x,x<i+1->ws[x]?=hs[x]? from fun x hx=>by
          by_cases q:x=i
          · subst q
            rw[List.getElem?_eq_getElem hiw,List.getElem?_eq_getElem hih];have:=HBS.out
            simp at this
            rw[this]
          · exact hpre.out x (by omega))
        go_wp2_with fail
        go_roundw
        case rel=>exact⟨i+1,by omega,by go_num,zq (al hbx.out fC.out),HNX⟩
        case measure=>simp[intOf];omega
      ·have HIE:=zq (show i=zn by omega)
       have HREL:=zq (show O=some t.ty from by rw[HREL0.out,prog_t HVD.out (show i=ws.length from HIE.out.trans HZN.out) HLW.out hpre.out];rfl);obtain⟨r0,r1⟩:=blk2 hRx;have rf0:=aj hRx 0;have rf1:=aj hRx 1;obtain⟨x0,x1⟩:=blk2 fVx;clear hpre
       go_wp2_with fail
       have hY:((wr.setCell ⟨w.heap.size+1,0,none⟩ (.int .i64 kt)).setCell ⟨w.heap.size+1,1,none⟩ (.slice at_ nt qt)).heap[w.heap.size+1]?=some (.cells #[.int .i64 kt,.slice at_ nt qt] 25 (0,0)):=az (az hRx rfl) rfl;obtain⟨rc0,rc1⟩:=blk2 hY;refine bq (.tuple #[.agg #[.int .i64 kt,.slice at_ nt qt],.bool true]) (by simp[results,Try.results13,go_sem,rc0,rc1]) ?_;have hne : ∀b,FF b->b≠w.heap.size+1:=HPF.out.2.2.2.1
       exact⟨_,_,_,_,_,t.ty,rfl,by rw[HREL.out];rfl,(ai.setN (ai.setN (HTR.out.below HSX.out) hne) hne).move (.weaken fun b h _=>HPF.out.2.2.2.2.1 b h),(by rw[HREL.out];intro s h;exact Option.some.inj h),(HBX.out.setCell (p:=⟨w.heap.size+1,0,none⟩) (by show w.heap.size<=w.heap.size+1;omega) _).setCell (p:=⟨w.heap.size+1,1,none⟩) (by show w.heap.size<=w.heap.size+1;omega) _⟩
theorem BdG.mono {F F':Nat->Prop}{B B':Nat}{w:World}{v:Value}{bs:List Bd}(h:BdG F B w v bs)(hF : ∀x,F x->F' x)(hB:B'<=B):BdG F' B' w v bs:=by
 obtain⟨xs,h1,h2⟩:=h;refine⟨xs,⟨h1.1,h1.2.imp id fun⟨g,cap,cur,a,b,c⟩=>⟨g,cap,cur,a,Nat.le_trans hB b,c⟩⟩,h2.move (.weaken fun b hb _=>⟨hF b hb.1,hb.2⟩) _ _⟩
def CutCx (G:Nat->Prop)(l:List Bd)(E:Array Value)(w:World)(s:Value)(wx:World):Prop:=∃(ga:Addr) (gn gq B:Nat),s = .slice (some ga) gn gq∧Below w.heap.size w wx∧wx.heap[w.heap.size]?=some (.cells E 28 (0,0))∧wx.heap[w.heap.size+1]?=some (.cells #[.int .i64 0,.slice none 0 0] 25 (0,0)) ∧
 w.heap.size+1+1<=B∧B<=wx.heap.size∧aE (fun x=>(G x∧x<w.heap.size)∨w.heap.size+1+1<=x∧x<B) wx l (.slice (some ga) gn gq)
theorem ot (G:Nat->Prop)  (nm:ByteArray)(u lb tk fk:Int)(ty src:Ty)(ts:List Tm)(l:List Bd)(xa ta fa ca:Option Addr)(xn xq tn tq fn fq cm cq:Nat)(w:World)(WO:List S->Option (List S × S))
    (he:aB G w (.mk 5 nm u ty src lb ts) (.agg (nv 5 nm u tk ta tn tq fk fa fn fq lb ca cm cq)))
    (hb:aE G w l (.slice xa xn xq)) (hl:l.length<=1000000) (HCL : ∀W,Below w.heap.size w W->aE (fun x=>G x∧x<w.heap.size) W l (.slice xa xn xq)->Calls Try.prog 27 #[.slice xa xn xq] W (RetMG (fun x=>G x∧x<w.heap.size) l W))
    (IH : ∀t'∈ts,∀(W:World) (c' y':Value) (P:Nat->Prop),aE P W (l ++ [⟨nm,ty⟩]) c'->(∃a m q,c' = .slice (some a) m q)->aB P W t' y'->Calls Try.prog 13 #[c',y'] W (dI P ((t'.castS (l ++ [⟨nm,ty⟩])).map S.ty) W))
    (IV : ∀t'∈ts,∀h,t'.castS (l ++ [⟨nm,ty⟩])=some h->h.vd=true)
    (HW : ∀(hs:List S),hs.length=ts.length->(∀h∈hs,h.vd=true)->∀(W:World) (H:Nat->Prop) (y:Value),ai H W ty (.agg #[.int .i64 tk,.slice ta tn tq])->aE H W l (.slice xa xn xq)->av H W (hs.map S.ty) y->Calls Try.prog 28 #[.slice xa xn xq,.agg (nv 5 nm u tk ta tn tq fk fa fn fq lb ca cm cq),y] W (cS H (WO hs) W))
    (HWL : ∀hs ws t,WO hs=some (ws,t)->ws.length<=hs.length) (hsm:ts.length<=3) :
    Calls Try.prog 13 #[.slice xa xn xq,.agg (nv 5 nm u tk ta tn tq fk fa fn fq lb ca cm cq)] w (dI G (((Tm.castsS ts (l ++ [⟨nm,ty⟩])).bind fun hs=>bv (WO hs) hs).map S.ty) w):=by
  obtain⟨-,-,-,-,-,-,-,-,hm,hnm,hmq,hqm,hty,hsrc,hks⟩:=he.parts;simp only[Tm.type,Tm.src,Tm.kids,Tm.name] at hm hty hsrc hks hnm;obtain⟨i0,hi,hz0,hz1,hz2⟩:=info_parts Try.infoTy;have Z0:=zq hz0;have Z1:=zq hz1;have Z2:=zq hz2;have HI:=zq hi;have hm3:cm<=3:=by omega
  have HM:=zq hm;have HIH:=zq IH;have HIV:=zq IV;obtain⟨i1,hi1,hy0,hy1,hy2⟩:=info_parts Try.infoBdC;have Y0:=zq hy0;have Y1:=zq hy1;have Y2:=zq hy2;have HI1:=zq hi1;have HTYG:=zq (hty.move (.weaken (G:=(fun x=>G x∧x<w.heap.size)) fun b h hl=>⟨h,hl⟩));have HXG:=zq (hb.move (.weaken (G:=(fun x=>G x∧x<w.heap.size)) fun b h hl=>⟨h,hl⟩));have HCLN:=zq (fun W (hW:Below w.heap.size w W)=>HCL W hW (HXG.out.below hW));have HHL:=zq hl;have HTY0:=zq hty;have HB0:=zq hb;have HKS0:=zq hks;have HWL0:=zq HW;have HWLH:=zq HWL;obtain⟨O,hO⟩ : ∃O:Option Ty,O=((Tm.castsS ts (l ++ [⟨nm,ty⟩])).bind fun hs=>bv (WO hs) hs).map S.ty:=⟨_,rfl⟩
  rw[<-hO];have HO:=zq hO;clear hO he hb IH IV HW HWL hty hsrc hks hi hz0 hz1 hz2 hm hi1 hy0 hy1 hy2 HCL hl
  go_enter Try.func13,Try.ntmps13
  go_upto_region 3 with fail
  go_cut [6] (fun s6 wx=>CutCx G (l ++ [⟨nm,ty⟩]) (nv 5 nm u tk ta tn tq fk fa fn fq lb ca cm cq) w s6 wx)
  case first=>
    generalize hVV:World.alloc (World.alloc w _) _=VV;obtain⟨hv,o1,o2,zV⟩:=bO hVV;have fE:=o1;have fR:=o2;have fC:=zq hv;clear hv o1 o2;refine wh3 (bc1 fE) (bc3 fE) (bc4 fE) (fun U3 hb zU3a zU3b hH0=>?_);replace fE:=a9 fE hb;replace fR:=a9 fR hb;replace fC:=mh hb fC;rw[zV] at zU3a zU3b;clear hb hVV zV;refine hwq hx0 (.slice xa xn xq) hH0 ?_;refine hwq hx2 (.pointer (some ⟨w.heap.size,1,none⟩)) hH0 ?_;refine hwq hx3 (.string nm) hH0 ?_;refine hwq hx4 (.pointer (some ⟨w.heap.size,3,none⟩)) hH0 ?_;refine hwq hx5 (.agg #[.int .i64 tk,.slice ta tn tq]) hH0 ?_;refine hwq hx6 (.agg #[.string nm,.int .i64 tk,.slice ta tn tq]) hH0 ?_;refine wpAnyH_ready (rs:= [1,7]) (by kernel_rfl) (by simp) ?_;refine(AllReadyH.cons hx1 (fun K hK=>?_) (AllReadyH.cons hx7 (fun K hK=>?_) AllReadyH.nil))
    ·skip
     go_simp
     go_at_call 27
     refine(HCLN.out _ fC.out).mono ?_;rintro e X401 ⟨ax,qx,rfl,hm0,hb⟩;have hM':Hid (BdG (fun x=>G x∧x<w.heap.size) (w.heap.size+1+1) X401 (.slice ax l.length qx) l):=zq (hm0.mono (fun x h=>h.1) (by omega));clear hm0
     go_wp2_with fail
     have zX401:=hb.size;replace fE:=a9 fE hb;replace fR:=a9 fR hb;replace fC:=mh hb fC;have hM:=hM';clear hM';refine hko hK (fun hH701=>?_);clear hK K hH0 hb
     try simp only[hwA]
     refine hwe hx7 (fun K hK=>?_)
     go_simp
     (try go_wp2_with fail);generalize hXq:World.alloc X401 _=X402;obtain⟨hb,fN,zX402a,zX402b⟩:=alE hXq;replace fE:=a9 fE hb;replace fR:=a9 fR hb;replace fC:=mh hb fC;replace hM:=mh hb hM;refine hko hK (fun hH702=>?_);clear hK K hH701 hb hXq
     try simp only[hwA]
     refine hwe hx8 (fun K hK=>?_);obtain⟨xs5,ho5,hv5⟩:=hM.out;have hv1:b4 (fun b=>(G b∧b<w.heap.size)∧(Value.slice ax l.length qx).ownBlock≠some b) X402 [⟨nm,ty⟩] [.string nm,.int .i64 tk,.slice ta tn tq]:=cL hnm ((HTYG.out.below fC.out).move (.weaken fun b hb _=>⟨hb,fun e=>by have:=(ho5.lt b e).1;have:=hb.2;omega⟩));have hl1:l.length<=1000000:=HHL.out;refine step_append_lies _ (by rfl) (.tmp 22) (.tmp 28) 49 (by rfl) (w.heap.size+1+1) 52 i1 _ 3 48 Try.underlying49 HI1.out Y0.out Y1.out Y2.out rfl (by omega) (.slice ax l.length qx) l.length xs5 (by rfl) ho5 ⟨X401.heap.size,0,none⟩ 1 1 [.string nm,.int .i64 tk,.slice ta tn tq] (by rfl) (by rfl) (World.news_of_block (cs:=#[.string nm,.int .i64 tk,.slice ta tn tq]) (t:=52) (fr:=(0,0)) fN) (by simp[Value.oneCell']) (by omega) (by unfold maxLen;omega) (by omega) (by omega) _ rfl ?_;intro g6 cap6 w6 hown hgrow hat hlt3;have M6:BdG (fun x=>G x∧x<w.heap.size) (w.heap.size+1+1) w6 (.slice (some ⟨g6,0,none⟩) (l.length+1) cap6) (l ++ [⟨nm,ty⟩]):=BdG.push (W:=X402) (v:=.slice ax l.length qx) hv5 hv1 hown hgrow (by rcases hat with h | h;exact .inl (h.symm▸rfl);exact .inr (by rw[h];rfl));have hb56:Below (w.heap.size+1+1) X402 w6:=Below.grown (Below.refl _ _) hgrow (by omega) (fun k hk=>(ho5.lt k hk).1);have RF:=zq (show aE (fun x=>(G x∧x<w.heap.size)∨w.heap.size+1+1<=x∧x<w6.heap.size) w6 (l ++ [⟨nm,ty⟩]) (.slice (some ⟨g6,0,none⟩) (l.length+1) cap6) from M6.rep.move (.weaken fun b h hl=>h.imp id fun q=>⟨q,hl⟩));have fC2:=zq (fC.out.trans (hb56.mono (by omega)));have fE2:w6.heap[w.heap.size]?=some (.cells (nv 5 nm u tk ta tn tq fk fa fn fq lb ca cm cq) 28 (0,0)):=(hb56.block _ (by omega)).trans fE;have fR2:w6.heap[w.heap.size+1]?=some (.cells #[.int .i64 0,.slice none 0 0] 25 (0,0)):=(hb56.block _ (by omega)).trans fR;have zz6:X402.heap.size<=w6.heap.size:=hgrow.size;refine hko hK (fun hH703=>?_);clear hK K hH702 fE fC fR fN hM ho5 hv5 hv1 hown hgrow hat M6 hb56
     try simp only[hwA]
     have fC:=fC2;have fE:=fE2;have fR:=fR2;clear fC2 fE2 fR2;refine hwq hx9 (.slice (some ⟨g6,0,none⟩) (l.length+1) cap6) hH703 ?_;refine hwd ?_;clear hH703
     go_wp2_with fail
     go_meet
     exact⟨_,_,_,w6.heap.size,rfl,fC.out,fE,fR,by omega,Nat.le_refl _,RF.out⟩
    ·skip
     go_simp
     (try go_wp2_with fail);generalize hXq:World.alloc U3 _=X404;obtain⟨hb,fN,zX404a,zX404b⟩:=alE hXq;replace fE:=a9 fE hb;replace fR:=a9 fR hb;replace fC:=mh hb fC;refine hko hK (fun hH701=>?_);clear hK K hH0 hb hXq
     try simp only[hwA]
     refine hwe hx1 (fun K hK=>?_)
     go_simp
     go_at_call 27
     refine(HCLN.out _ fC.out).mono ?_;rintro e X405 ⟨ax,qx,rfl,hm0,hb⟩;have hM':Hid (BdG (fun x=>G x∧x<w.heap.size) (w.heap.size+1+1) X405 (.slice ax l.length qx) l):=zq (hm0.mono (fun x h=>h.1) (by omega));clear hm0
     go_wp2_with fail
     have zX405:=hb.size;replace fE:=a9 fE hb;replace fR:=a9 fR hb;replace fC:=mh hb fC;replace fN:=a9 fN hb;have hM:=hM';clear hM';refine hko hK (fun hH704=>?_);clear hK K hH701 hb
     try simp only[hwA]
     refine hwe hx8 (fun K hK=>?_);obtain⟨xs5,ho5,hv5⟩:=hM.out;have hv1:b4 (fun b=>(G b∧b<w.heap.size)∧(Value.slice ax l.length qx).ownBlock≠some b) X405 [⟨nm,ty⟩] [.string nm,.int .i64 tk,.slice ta tn tq]:=cL hnm ((HTYG.out.below fC.out).move (.weaken fun b hb _=>⟨hb,fun e=>by have:=(ho5.lt b e).1;have:=hb.2;omega⟩));have hl1:l.length<=1000000:=HHL.out;refine step_append_lies _ (by rfl) (.tmp 22) (.tmp 28) 49 (by rfl) (w.heap.size+1+1) 52 i1 _ 3 48 Try.underlying49 HI1.out Y0.out Y1.out Y2.out rfl (by omega) (.slice ax l.length qx) l.length xs5 (by rfl) ho5 ⟨U3.heap.size,0,none⟩ 1 1 [.string nm,.int .i64 tk,.slice ta tn tq] (by rfl) (by rfl) (World.news_of_block (cs:=#[.string nm,.int .i64 tk,.slice ta tn tq]) (t:=52) (fr:=(0,0)) fN) (by simp[Value.oneCell']) (by omega) (by unfold maxLen;omega) (by omega) (by omega) _ rfl ?_;intro g6 cap6 w6 hown hgrow hat hlt3;have M6:BdG (fun x=>G x∧x<w.heap.size) (w.heap.size+1+1) w6 (.slice (some ⟨g6,0,none⟩) (l.length+1) cap6) (l ++ [⟨nm,ty⟩]):=BdG.push (W:=X405) (v:=.slice ax l.length qx) hv5 hv1 hown hgrow (by rcases hat with h | h;exact .inl (h.symm▸rfl);exact .inr (by rw[h];rfl));have hb56:Below (w.heap.size+1+1) X405 w6:=Below.grown (Below.refl _ _) hgrow (by omega) (fun k hk=>(ho5.lt k hk).1);have RF:=zq (show aE (fun x=>(G x∧x<w.heap.size)∨w.heap.size+1+1<=x∧x<w6.heap.size) w6 (l ++ [⟨nm,ty⟩]) (.slice (some ⟨g6,0,none⟩) (l.length+1) cap6) from M6.rep.move (.weaken fun b h hl=>h.imp id fun q=>⟨q,hl⟩));have fC2:=zq (fC.out.trans (hb56.mono (by omega)));have fE2:w6.heap[w.heap.size]?=some (.cells (nv 5 nm u tk ta tn tq fk fa fn fq lb ca cm cq) 28 (0,0)):=(hb56.block _ (by omega)).trans fE;have fR2:w6.heap[w.heap.size+1]?=some (.cells #[.int .i64 0,.slice none 0 0] 25 (0,0)):=(hb56.block _ (by omega)).trans fR;have zz6:X405.heap.size<=w6.heap.size:=hgrow.size;refine hko hK (fun hH705=>?_);clear hK K hH704 fE fC fR fN hM ho5 hv5 hv1 hown hgrow hat M6 hb56
     try simp only[hwA]
     have fC:=fC2;have fE:=fE2;have fR:=fR2;clear fC2 fE2 fR2;refine hwq hx9 (.slice (some ⟨g6,0,none⟩) (l.length+1) cap6) hH705 ?_;refine hwd ?_;clear hH705
     go_wp2_with fail
     go_meet
     exact⟨_,_,_,w6.heap.size,rfl,fC.out,fE,fR,by omega,Nat.le_refl _,RF.out⟩
  case rest=>
    obtain⟨ga,gn,gq,B,rfl,hbc,hEc,hRc,hBl,hBu,hctx⟩:=hcut;obtain⟨PP,FF,hPF,hPQ⟩ : ∃(PP FF:Nat->Prop),ec G w.heap.size B PP FF∧PP=(fun x=>(G x∧x<w.heap.size)∨w.heap.size+1+1<=x∧x<B):=⟨_,_,ec.more G w.heap.size B hBl,rfl⟩
    rw[<-hPQ] at hctx;have HPF:=zq hPF;have HB:=zq hBl;have HKS:=zq (HKS0.out.move (.weaken (G:=PP) fun b h hl=>hPF.1 b h hl));have HCX0:=zq hctx;have HBC:=zq hbc;have fE:=zq hEc;have fR:=zq hRc;have HWW:=zq (fun hs h1 h2 W (hW:Below w.heap.size w W) y (hy:av FF W (hs.map S.ty) y)=>HWL0.out hs h1 h2 W FF y ((HTY0.out.move (.weaken (G:=FF) fun b h hl=>hPF.2.1 b (hPF.1 b h hl))).below hW) ((HB0.out.move (.weaken (G:=FF) fun b h hl=>hPF.2.1 b (hPF.1 b h hl))).below hW) hy);have y8:=ah hEc (o:=8) rfl;have lEc:=aw hEc;clear hPF hPQ hctx hbc hEc hRc HTY0 HB0 HKS0 HWL0 HTYG HXG HCLN
    go_wp2_with fail
    go_loopw [7,33] (fun s7 s33 wr=>∃(j:Nat) (hs:List S) (cv:Option Addr) (qv:Nat),j<=cm∧s7 = .slice cv j qv∧s33 = .int .i64 j∧Hid (Below w.heap.size w wr)∧B<=wr.heap.size ∧
        Hid (wr.heap[w.heap.size]?=some (.cells (nv 5 nm u tk ta tn tq fk fa fn fq lb ca cm cq) 28 (0,0)))∧Hid (wr.heap[w.heap.size+1]?=some (.cells #[.int .i64 0,.slice none 0 0] 25 (0,0)))∧Hid (cT FF B 25 2 wr (.slice cv j qv) j (Ty.rows (hs.map S.ty)))∧Hid (aE PP wr (l ++ [⟨nm,ty⟩]) (.slice (some ga) gn gq)) ∧
        Hid (hs.length=j∧(∀h∈hs,h.vd=true)∧Tm.castsS ts (l ++ [⟨nm,ty⟩])=(Tm.castsS (ts.drop j) (l ++ [⟨nm,ty⟩])).map (hs ++ ·))) (fun _ i _=>cm-(intOf i).toNat)
    case atStart=>exact⟨0,[],_,_,by omega,rfl,rfl,HBC,hBu,fE,fR,zq cT.nil,HCX0,zq ⟨rfl,by simp,by simp⟩⟩
    case round=>
      obtain⟨j,hs,cv,qv,hj,rfl,rfl,hbw,hsz,hE,hR,hrow,hcx,hrel2⟩:=hrel;clear fE fR HCX0 HBC y8;have x0:=ah hE.out (o:=0) rfl;have hB1:=HB.out;have lx8:w.heap.size<wr.heap.size:=by omega
      by_cases hlt:j<cm
      · have hjt:j<ts.length:=by rw[<-HM.out];exact hlt
        obtain⟨b,off,kk0,nn0,uu0,tk0,ta0,tn0,tq0,fk0,fa0,fn0,fq0,ll0,a0,m0,q0,rfl,lb_,e0,e1,e2,e3,e4,e5,e6,e7,e8,ht⟩:=HKS.out.at hbw.out hjt;have HC:=zq (fun W (hW:Below wr.heap.size wr W)=>HIH.out ts[j] (List.getElem_mem hjt) W (.slice (some ga) gn gq) _ PP (hcx.out.below hW) ⟨_,_,_,rfl⟩ (ht.below hW));have HCV:=zq (HIV.out ts[j] (List.getElem_mem hjt));have HCD:=zq (dO (l:=(l ++ [⟨nm,ty⟩])) hjt);generalize hoj:ts[j].castS (l ++ [⟨nm,ty⟩])=oj at HC HCV HCD;have lr:=aw hR.out;have hz3:j+1<=3:=by omega
        clear hoj ht x0
        cases oj with
        | none=>
          have HREL:=zq (show O=none from by rw[HO.out,hrel2.out.2.2,HCD.out];rfl)
          go_wp2_with fail
          refine(HC.out _ ag).mono ?_;rintro e w1 ⟨kt,at_,nt,qt,bt,tt,rfl,hbt,htt,hot,hst⟩;obtain rfl:bt=false:=hbt;have hR1:=a9 (a9 hR.out ag) hst;have HB1:=zq (al (al hbw.out ag) hst);have hz1:=hst.size;simp only[World.size_alloc] at hz1;clear htt hot hst hcx hE hR hrow;obtain⟨r0,r1⟩:=blk2 hR1;have rf0:=aj hR1 0;have rf1:=aj hR1 1;have lr1:=aw hR1;have lr2:w.heap.size+1<w1.heap.size+1:=by omega
          go_wp2_with fail
          have hY:(((w1.setCell ⟨w.heap.size+1,0,none⟩ (.int .i64 0)).setCell ⟨w.heap.size+1,1,none⟩ (.slice none 0 0)).alloc (.cells #[.int .i64 kt,.slice at_ nt qt] 25)).heap[w.heap.size+1]?=some (.cells #[.int .i64 0,.slice none 0 0] 25 (0,0)):=a9 (az (az hR1 rfl) rfl) ag;obtain⟨rc0,rc1⟩:=blk2 hY;refine bq (.tuple #[.agg #[.int .i64 0,.slice none 0 0],.bool false]) (by simp[results,Try.results13,go_sem,rc0,rc1]) ?_
          exact⟨_,_,_,_,_,_,rfl,by rw[HREL.out];rfl,ai.zeroG,(by rw[HREL.out];intro s h;cases h),al ((HB1.out.setCell (p:=⟨w.heap.size+1,0,none⟩) (by show w.heap.size<=w.heap.size+1;omega) _).setCell (p:=⟨w.heap.size+1,1,none⟩) (by show w.heap.size<=w.heap.size+1;omega) _) ag⟩
        | some hh=>
          have HVD:=zq (HCV.out hh rfl);have HNX:=zq (show Tm.castsS ts (l ++ [⟨nm,ty⟩])=(Tm.castsS (ts.drop (j+1)) (l ++ [⟨nm,ty⟩])).map ((hs ++ [hh]) ++ ·) from by
            rw[hrel2.out.2.2,HCD.out]
            cases Tm.castsS (ts.drop (j+1)) (l ++ [⟨nm,ty⟩])<;>simp)
          obtain⟨hlenr,xs,ho,hvals⟩:=hrow.out;have HLEN:=zq hlenr;have HOW:=zq ho;have HV:=zq hvals;clear hlenr ho hvals hrow
          go_wp2_with fail
          refine(HC.out _ ag).mono ?_;rintro e w1 ⟨kt,at_,nt,qt,bt,tt,rfl,hbt,htt,hot,hst⟩;obtain rfl:bt=true:=hbt;obtain rfl:tt=hh.ty:=hot _ rfl;have HST:=zq (al ag hst);have HT1:=zq (htt.move (.weaken (G:=fun b=>FF b∧(Value.slice cv j qv).ownBlock≠some b) fun b h _=>by
            rcases h with h | h
            · have h2:=HPF.out.2.2.2.2.2.1 b h
              exact⟨HPF.out.2.1 b h,fun e=>by have:=(HOW.out.lt b e).1;omega⟩
            · simp only[World.size_alloc] at h
              exact⟨HPF.out.2.2.1 b (by omega),fun e=>by have:=(HOW.out.lt b e).2;omega⟩))
          have hz1:=hst.size;simp only[World.size_alloc] at hz1;have hW:=zq (show Below wr.heap.size wr ((w1.alloc (.cells #[.int .i64 kt,.slice at_ nt qt] 25)).alloc (.cells #[.int .i64 kt,.slice at_ nt qt] 25)) from al (al HST.out ag) ag);clear htt hot hst
          go_wp2_with (first | (at_builtin;refine wpList_append_lies _ rfl (.tmp 46) (.tmp 48) 23 rfl B 25 i0 _ 2 32 Try.underlying23 HI.out Z0.out Z1.out Z2.out rfl (by omega) (.slice cv j qv) j xs rfl (bc HOW.out hW.out) ⟨w1.heap.size+1,0,none⟩ 1 1 [.int .i64 kt,.slice at_ nt qt] rfl rfl (World.news_of_block (cs:=#[.int .i64 kt,.slice at_ nt qt]) (t:=25) (fr:=(0,0)) (aA (by simp))) (by simp[Value.oneCell']) (by omega) (by unfold maxLen;omega) (by omega) (by simp;omega) _ rfl ?_) | fail)
          intro gg cap2 w6 hown2 hgrow hat hlt2;have HROW:=zq (cT.push HLEN.out HV.out hW.out ((HT1.out.below ag).below ag).srep hown2 hgrow (by simpa using hat));have HBEL:=zq (bW hbw.out hW.out HOW.out (by omega) hgrow);have hfar:=cI hW.out HOW.out hgrow;have HFAR:=zq hfar;have hsz6:wr.heap.size<=w6.heap.size:=Nat.le_trans hW.out.size hgrow.size;have HCX6:=zq (show aE PP w6 (l ++ [⟨nm,ty⟩]) (.slice (some ga) gn gq) from hcx.out.move ⟨hsz6,fun _ h _=>h,fun b h hl=>HFAR.out b hl (HPF.out.2.2.2.2.2.1 b h)⟩);clear hown2 hgrow hat hfar hcx
          go_wp2_with fail
          go_roundw
          case rel=>exact⟨j+1,hs ++ [hh],_,_,by omega,rfl,by go_num,HBEL,by omega,zq ((HFAR.out w.heap.size (by omega) (by omega)).trans hE.out),zq ((HFAR.out (w.heap.size+1) (by omega) (by omega)).trans hR.out),(by
              unfold Hid;have e1:Ty.rows ((hs ++ [hh]).map S.ty)=Ty.rows (hs.map S.ty) ++ [hh.ty.row]:=by simp[Ty.rows_eq]
              rw[e1]
              exact HROW.out),HCX6,zq ⟨by simp[hrel2.out.1],fun h hm=>(List.mem_append.1 hm).elim (hrel2.out.2.1 h) (fun q=>by simp at q;subst q;exact HVD.out),HNX.out⟩⟩
          case measure=>simp[intOf];omega
      · have HJE:=zq (show j=cm by omega)
        have HJL:=zq (show ts.drop j = [] from List.drop_eq_nil_of_le (by have:=HM.out;have:=HJE.out;omega));have HREL0:=zq (show O=(bv (WO hs) hs).map S.ty from by
          rw[HO.out,hrel2.out.2.2,HJL.out,Tm.castsS]
          simp)
        have HTY:=zq (show av FF wr (hs.map S.ty) (.slice cv j qv) from hrow.out.rep HPF.out.2.2.1);have HLJ:=zq (show hs.length=j from hrel2.out.1);have HCX:=zq (HWW.out hs (by have:=hrel2.out.1;have:=HM.out;have:=HJE.out;omega) hrel2.out.2.1 wr hbw.out _ HTY.out);have HWB:=zq (HWLH.out hs);have d1:=ah hE.out (o:=1) rfl;have d2:=ah hE.out (o:=2) rfl;have d3:=ah hE.out (o:=3) rfl;have d4:=ah hE.out (o:=4) rfl;have d5:=ah hE.out (o:=5) rfl;have d6:=ah hE.out (o:=6) rfl;have d7:=ah hE.out (o:=7) rfl;have d8:=ah hE.out (o:=8) rfl;clear hrow hcx hrel2
        go_wp2_with fail
        refine HCX.out.mono ?_;rintro e w1 ⟨kt,at_,nt,qt,za,zn,zqx,bt,rfl,hbt,hot,hst⟩;have hR1:=a9 hR.out hst;have HB1:=zq (al hbw.out hst);have HTYW:=zq (fun W (hW:Below w1.heap.size w1 W)=>HTY.out.below (al hst hW));have hz1:=hst.size;have HOT:=zq hot;clear hot hst hE hR d1 d2 d3 d4 d5 d6 d7 d8 x0 HCX HWW;generalize WO hs=wo at HREL0 HOT HWB hbt
        cases wo with
        | none=>
          obtain rfl:bt=false:=hbt;have HREL:=zq (show O=none from HREL0.out);obtain⟨r0,r1⟩:=blk2 hR1;have rf0:=aj hR1 0;have rf1:=aj hR1 1;have lr1:=aw hR1;have lr2:w.heap.size+1<w1.heap.size+1:=by omega
          go_wp2_with fail
          have hY:(((w1.setCell ⟨w.heap.size+1,0,none⟩ (.int .i64 0)).setCell ⟨w.heap.size+1,1,none⟩ (.slice none 0 0)).alloc (.cells #[.int .i64 kt,.slice at_ nt qt] 25)).heap[w.heap.size+1]?=some (.cells #[.int .i64 0,.slice none 0 0] 25 (0,0)):=a9 (az (az hR1 rfl) rfl) ag;obtain⟨rc0,rc1⟩:=blk2 hY;refine bq (.tuple #[.agg #[.int .i64 0,.slice none 0 0],.bool false]) (by simp[results,Try.results13,go_sem,rc0,rc1]) ?_
          exact⟨_,_,_,_,_,_,rfl,by rw[HREL.out];rfl,ai.zeroG,(by rw[HREL.out];intro s h;cases h),al ((HB1.out.setCell (p:=⟨w.heap.size+1,0,none⟩) (by show w.heap.size<=w.heap.size+1;omega) _).setCell (p:=⟨w.heap.size+1,1,none⟩) (by show w.heap.size<=w.heap.size+1;omega) _) ag⟩
        | some p=>
          obtain⟨ws,t⟩:=p;obtain rfl:bt=true:=hbt;obtain⟨hwsR,htR⟩:=HOT.out ws t rfl;have HLW:=zq (HWB.out ws t rfl);have HTR:=zq (htR.move (.weaken (G:=FF) fun b h _=>h.elim id fun q=>HPF.out.2.2.1 b (by omega)));have HWS:=zq (hwsR.move (.weaken (G:=FF) fun b h _=>h.elim id fun q=>HPF.out.2.2.1 b (by omega)));have hzn:zn=ws.length:=by
            obtain⟨a',cap',he,-⟩:=hwsR.open;simp only[Value.slice.injEq,List.length_map] at he
            exact he.2.1
          have HZN:=zq hzn;clear hwsR htR hzn HOT HWB;have fV0:=aA (w:=w1) (o:=.cells #[.int .i64 kt,.slice at_ nt qt] 25) (b:=w1.heap.size) rfl;obtain⟨vd,hvd⟩ : ∃vd,t.vd=vd:=⟨_,rfl⟩
          have HVD:=zq hvd;have HTV:=zq (fun W (hW:Below w1.heap.size w1 W)=>(S.valid t).trans hvd▸d9 FF t.ty _ W (HTR.out.below hW));clear hvd
          go_wp2_with fail
          refine(HTV.out _ ag).mono ?_;rintro e w2 ⟨rfl,hst2⟩;have hR2:=a9 (a9 hR1 ag) hst2;have HB2:=zq (al (al HB1.out ag) hst2);have fV2:=a9 fV0 hst2;have HST2:=zq (show Below w1.heap.size w1 w2 from al ag hst2);have hz2:=hst2.size;simp only[World.size_alloc] at hz2;have lr1:=aw hR2;clear hst2 hR1 fV0
          cases vd with
          | false=>
            have HREL:=zq (show O=none from by rw[HREL0.out,prog_v HVD.out];rfl);obtain⟨r0,r1⟩:=blk2 hR2;have rf0:=aj hR2 0;have rf1:=aj hR2 1
            go_wp2_with fail
            have hY:((w2.setCell ⟨w.heap.size+1,0,none⟩ (.int .i64 0)).setCell ⟨w.heap.size+1,1,none⟩ (.slice none 0 0)).heap[w.heap.size+1]?=some (.cells #[.int .i64 0,.slice none 0 0] 25 (0,0)):=az (az hR2 rfl) rfl;obtain⟨rc0,rc1⟩:=blk2 hY;refine bq (.tuple #[.agg #[.int .i64 0,.slice none 0 0],.bool false]) (by simp[results,Try.results13,go_sem,rc0,rc1]) ?_
            exact⟨_,_,_,_,_,_,rfl,by rw[HREL.out];rfl,ai.zeroG,(by rw[HREL.out];intro s h;cases h),(HB2.out.setCell (p:=⟨w.heap.size+1,0,none⟩) (by show w.heap.size<=w.heap.size+1;omega) _).setCell (p:=⟨w.heap.size+1,1,none⟩) (by show w.heap.size<=w.heap.size+1;omega) _⟩
          | true=>
            have hz30:zn<=1048576:=by have:=HZN.out;have:=HLW.out;have:=HLJ.out;omega
            obtain⟨fV20,fV21⟩:=blk2 fV2
            go_wp2_with fail
            go_loopw [80] (fun s80 wr=>∃i:Nat,i<=zn∧s80 = .int .i64 i∧Hid (Below w2.heap.size w2 wr)∧Hid (∀x,x<i->ws[x]?=hs[x]?)) (fun i _=>zn-(intOf i).toNat)
            case atStart=>exact⟨0,by omega,rfl,zq (Below.refl _ _),zq (fun x h=>absurd h (Nat.not_lt_zero _))⟩
            case round=>
              obtain⟨i,hi,rfl,hbx,hpre⟩:=hrel;have hRx:=a9 hR2 hbx.out;have fVx:=a9 fV2 hbx.out;have hzx:=hbx.out.size;have HBX:=zq (al HB2.out hbx.out);have HSX:=zq (al HST2.out hbx.out);clear fV20 fV21;have lrx:=aw hRx;have lrx1:w.heap.size+1<wr.heap.size+1:=by omega
              by_cases hli:i<zn
              · have hiw:i<ws.length:=by have:=HZN.out;omega
                have hih:i<hs.length:=by have:=HLW.out;omega
                have hij:i<j:=by have:=HLJ.out;omega
                obtain⟨bw,ow,kw,cw,mw,qw,rfl,lbw,w0_,w1_,htw⟩:=HWS.out.at HSX.out (i:=i) (by simpa using hiw);obtain⟨bh,oh,kh,ch,mhx,qh,rfl,lbh,h0_,h1_,hth⟩:=(HTYW.out wr HSX.out).at (Below.refl _ _) (i:=i) (by simpa using hih);rw[List.getElem_map] at htw hth;have HTW:=zq htw;have HTH:=zq hth;obtain⟨bs,hbs⟩ : ∃bs,ws[i].ty.same hs[i].ty=bs:=⟨_,rfl⟩
                have HSM:=zq (fun W (hW:Below wr.heap.size wr W)=>hbs▸cA FF FF ws[i].ty hs[i].ty _ _ W (htw.below hW) (hth.below hW));have HBS:=zq (show bs=decide (ws[i]=hs[i]) from by rw[<-hbs,S.same]);clear htw hth hbs
                go_wp2_with fail
                have HBW:=zq (show Below wr.heap.size wr (wr.alloc (.cells #[.int .i64 kw,.slice cw mw qw] 25)) from ag);obtain⟨VV,hVV⟩ : ∃X,X=(wr.alloc (.cells #[.int .i64 kw,.slice cw mw qw] 25)):=⟨_,rfl⟩
                have fT:VV.heap[wr.heap.size]?=some (.cells #[.int .i64 kw,.slice cw mw qw] 25 (0,0)):=by rw[hVV];exact aA rfl
                have fR:VV.heap[w.heap.size+1]?=some (.cells #[.int .i64 0,.slice none 0 0] 25 (0,0)):=by rw[hVV];exact a9 hRx ag
                have ca_:VV.cell? ⟨bh,oh+i*2,none⟩=some (.int .i64 kh):=by rw[hVV];exact af ag h0_
                have cb_:VV.cell? ⟨bh,oh+i*2+1,none⟩=some (.slice ch mhx qh):=by rw[hVV];exact af ag h1_
                have fC:Hid (Below wr.heap.size wr VV):=by rw[hVV];exact HBW
                rw[<-hVV];have zV:VV.heap.size=_:=congrArg (fun X:World=>X.heap.size) hVV;simp only[World.size_alloc] at zV;refine wh4 (bc0 fT) (bc1 fT) ca_ cb_ (fun U2 hb zU2a zU2b hH0=>?_);replace fT:=a9 fT hb;replace fR:=a9 fR hb;replace ca_:=af hb ca_;replace cb_:=af hb cb_;replace fC:=mh hb fC;rw[zV] at zU2a zU2b;clear hb hVV zV;refine hwq hx0 (.agg #[.int .i64 kw,.slice cw mw qw]) hH0 ?_;refine hwq hx1 (.slice (some ⟨bh,oh,none⟩) j qv) hH0 ?_;refine hwq hx2 (.int .i64 i) hH0 ?_;refine hwq hx3 (.pointer (some ⟨bh,oh+i*2,none⟩)) hH0 ?_;refine hwq hx4 (.agg #[.int .i64 kh,.slice ch mhx qh]) hH0 ?_;refine hwe hx5 (fun K hK=>?_)
                go_simp
                go_at_call 8
                refine(HSM.out _ fC.out).mono ?_;rintro e X1 ⟨rfl,hb⟩
                go_wp2_with fail
                have zX1:=hb.size;replace fT:=a9 fT hb;replace fR:=a9 fR hb;replace ca_:=af hb ca_;replace cb_:=af hb cb_;replace fC:=mh hb fC;refine hko hK (fun hH1=>?_);clear hK K hH0 hb
                try simp only[hwA]
                refine hwq hx6 (.bool (!bs)) hH1 ?_;refine hwd ?_;clear hH1
                cases bs with
                | false=>
                  have HREL:=zq (show O=none from by rw[HREL0.out,prog_f hiw hih (by have:=HBS.out;simpa using this)];rfl);obtain⟨r0,r1⟩:=blk2 fR;have rf0:=aj fR 0;have rf1:=aj fR 1
                  go_wp2_with fail
                  have hY:((X1.setCell ⟨w.heap.size+1,0,none⟩ (.int .i64 0)).setCell ⟨w.heap.size+1,1,none⟩ (.slice none 0 0)).heap[w.heap.size+1]?=some (.cells #[.int .i64 0,.slice none 0 0] 25 (0,0)):=az (az fR rfl) rfl;obtain⟨rc0,rc1⟩:=blk2 hY;refine bq (.tuple #[.agg #[.int .i64 0,.slice none 0 0],.bool false]) (by simp[results,Try.results13,go_sem,rc0,rc1]) ?_
                  exact⟨_,_,_,_,_,_,rfl,by rw[HREL.out];rfl,ai.zeroG,(by rw[HREL.out];intro s h;cases h),((al HBX.out fC.out).setCell (p:=⟨w.heap.size+1,0,none⟩) (by show w.heap.size<=w.heap.size+1;omega) _).setCell (p:=⟨w.heap.size+1,1,none⟩) (by show w.heap.size<=w.heap.size+1;omega) _⟩
                | true=>
                  have HNX:=zq (show ∀x,x<i+1->ws[x]?=hs[x]? from fun x hx=>by
                    by_cases q:x=i
                    · subst q
                      rw[List.getElem?_eq_getElem hiw,List.getElem?_eq_getElem hih];have:=HBS.out
                      simp at this
                      rw[this]
                    · exact hpre.out x (by omega))
                  go_wp2_with fail
                  go_roundw
                  case rel=>exact⟨i+1,by omega,by go_num,zq (al hbx.out fC.out),HNX⟩
                  case measure=>simp[intOf];omega
              · have HIE:=zq (show i=zn by omega)
                have HREL:=zq (show O=some t.ty from by rw[HREL0.out,prog_t HVD.out (show i=ws.length from HIE.out.trans HZN.out) HLW.out hpre.out];rfl);obtain⟨r0,r1⟩:=blk2 hRx;have rf0:=aj hRx 0;have rf1:=aj hRx 1;obtain⟨x0,x1⟩:=blk2 fVx;clear hpre
                go_wp2_with fail
                have hY:((wr.setCell ⟨w.heap.size+1,0,none⟩ (.int .i64 kt)).setCell ⟨w.heap.size+1,1,none⟩ (.slice at_ nt qt)).heap[w.heap.size+1]?=some (.cells #[.int .i64 kt,.slice at_ nt qt] 25 (0,0)):=az (az hRx rfl) rfl;obtain⟨rc0,rc1⟩:=blk2 hY;refine bq (.tuple #[.agg #[.int .i64 kt,.slice at_ nt qt],.bool true]) (by simp[results,Try.results13,go_sem,rc0,rc1]) ?_;have hne : ∀b,FF b->b≠w.heap.size+1:=HPF.out.2.2.2.1
                exact⟨_,_,_,_,_,t.ty,rfl,by rw[HREL.out];rfl,(ai.setN (ai.setN (HTR.out.below HSX.out) hne) hne).move (.weaken fun b h _=>HPF.out.2.2.2.2.1 b h),(by rw[HREL.out];intro s h;exact Option.some.inj h),(HBX.out.setCell (p:=⟨w.heap.size+1,0,none⟩) (by show w.heap.size<=w.heap.size+1;omega) _).setCell (p:=⟨w.heap.size+1,1,none⟩) (by show w.heap.size<=w.heap.size+1;omega) _⟩
end Go.Proofs.Ytfhglkmjibjjoaa

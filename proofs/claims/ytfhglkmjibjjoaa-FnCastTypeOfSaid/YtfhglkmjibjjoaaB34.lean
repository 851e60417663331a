/- spec.l3Type at a function. And what else its parts name. -/
import Derived.Test.YtfhglkmjibjjoaaB33
set_option linter.unusedSimpArgs false
set_option linter.unusedVariables false
set_option maxRecDepth 100000
set_option maxHeartbeats 16000000
namespace Go.Proofs.Ytfhglkmjibjjoaa
open Go.RowKit
theorem jM (G:Nat->Prop)(nm:ByteArray)(u lb tk fk:Int)(ty src:Ty)(t1:Tm)(l:List Bd)(xa ta fa ca:Option Addr)(xn xq tn tq fn fq cm cq:Nat)(w:World)
    (he:aB G w (.mk 5 nm u ty src lb [t1]) (.agg (nv 5 nm u tk ta tn tq fk fa fn fq lb ca cm cq))) (hv:ty.valid=true)
    (HM:Hid (∀W,Below w.heap.size w W->Calls Try.prog 32 #[.slice xa xn xq,.string nm,.agg #[.int .i64 tk,.slice ta tn tq]] W (em (l ++ [⟨nm,ty⟩]) W)))
    (IH:Hid (∀(W:World) (c' y':Value),Below w.heap.size w W->aE (fun _=>True) W (l ++ [⟨nm,ty⟩]) c'->aB G W t1 y'->(∃a m q,c' = .slice (some a) m q)->Calls Try.prog 31 #[c',y'] W (aX ((t1.typS (l ++ [⟨nm,ty⟩])).map S.ty) W)))
    (hco:t1.typS (l ++ [⟨nm,ty⟩])=none) :
    Calls Try.prog 31 #[.slice xa xn xq,.agg (nv 5 nm u tk ta tn tq fk fa fn fq lb ca cm cq)] w (aX (((Tm.mk 5 nm u ty src lb [t1]).typS l).map S.ty) w):=by
  obtain⟨-,-,-,-,-,-,-,-,hm,hnm,hmq,hqm,hty,hsrc,hks⟩:=he.parts;simp only[Tm.type,Tm.src,Tm.kids,List.length_cons,List.length_nil] at hm hty hsrc hks;obtain rfl:cm=1:=by omega
  obtain⟨b,off,kk0,nn0,uu0,tk0,ta0,tn0,tq0,fk0,fa0,fn0,fq0,ll0,a0,m0,q0,rfl,hlb,e0,e1,e2,e3,e4,e5,e6,e7,e8,ht⟩:=hks.at (Below.refl _ _) (i:=0) (by simp);simp only[Nat.zero_mul,Nat.add_zero] at e0 e1 e2 e3 e4 e5 e6 e7 e8;have HTK:=zq (show aB G w t1 _ from ht);have HTY:=zq hty.old;have HCN:=zq (Ty.cnt_valid hv);have HVT:=zq hv;have HCO:=zq hco;obtain⟨O,hO⟩ : ∃O:Option Ty,O=(((Tm.mk 5 nm u ty src lb [t1]).typS l).map S.ty):=⟨_,rfl⟩
  rw[<-hO];have HO:=zq hO;clear hO he hm hty hsrc hks ht hv hco
  go_enter Try.func31,Try.ntmps31
  go_wp2_with fail
  generalize hVV:World.alloc (World.alloc w _) _=VV;obtain⟨hv,o1,o2,zV⟩:=bO hVV;have fE:=o1;have fR:=o2;have c0_:=af hv e0;have c1_:=af hv e1;have c2_:=af hv e2;have c3_:=af hv e3;have c4_:=af hv e4;have c5_:=af hv e5;have c6_:=af hv e6;have c7_:=af hv e7;have c8_:=af hv e8;have fC:=zq hv;have hT:=zq (HTY.out.below hv);clear hv o1 o2;refine wh13 (bc1 fE) (bc3 fE) (bc4 fE) (bc8 fE) c0_ c1_ c2_ c3_ c4_ c5_ c6_ c7_ c8_ (fun U1 hb zU1a zU1b hH0=>?_);replace fE:=a9 fE hb;replace fR:=a9 fR hb;replace c0_:=af hb c0_;replace c1_:=af hb c1_;replace c2_:=af hb c2_;replace c3_:=af hb c3_;replace c4_:=af hb c4_;replace c5_:=af hb c5_;replace c6_:=af hb c6_;replace c7_:=af hb c7_;replace c8_:=af hb c8_;replace fC:=mh hb fC;replace hT:=mh hb hT;rw[zV] at zU1a zU1b;clear hb hVV zV;refine hwq hx0 (.slice xa xn xq) hH0 ?_;refine hwq hx1 (.pointer (some ⟨w.heap.size,1,none⟩)) hH0 ?_;refine hwq hx2 (.string nm) hH0 ?_;refine hwq hx3 (.pointer (some ⟨w.heap.size,3,none⟩)) hH0 ?_;refine hwq hx4 (.agg #[.int .i64 tk,.slice ta tn tq]) hH0 ?_;refine hwq hx6 (.pointer (some ⟨w.heap.size,8,none⟩)) hH0 ?_;refine hwq hx7 (.slice (some ⟨b,off,none⟩) 1 cq) hH0 ?_;refine hwq hx8 (.pointer (some ⟨b,off,none⟩)) hH0 ?_;refine hwq hx9 (.agg (nv kk0 nn0 uu0 tk0 ta0 tn0 tq0 fk0 fa0 fn0 fq0 ll0 a0 m0 q0)) hH0 ?_;refine wpAnyH_ready (rs:= [5,14]) (by kernel_rfl) (by simp) ?_;refine(AllReadyH.cons hx5 (fun K hK=>?_) (AllReadyH.cons bB (fun K hK=>?_) AllReadyH.nil))
  ·skip
   go_simp
   go_at_call 32
   refine(HM.out _ fC.out).mono ?_;rintro e X1 ⟨xa2,xm2,xq2,rfl,hcx,hb⟩;have hX':Hid (aE (fun _=>True) X1 (l ++ [⟨nm,ty⟩]) (.slice (some xa2) xm2 xq2)):=zq hcx;clear hcx
   go_wp2_with fail
   have zX1:=hb.size;replace fE:=a9 fE hb;replace fR:=a9 fR hb;replace c0_:=af hb c0_;replace c1_:=af hb c1_;replace c2_:=af hb c2_;replace c3_:=af hb c3_;replace c4_:=af hb c4_;replace c5_:=af hb c5_;replace c6_:=af hb c6_;replace c7_:=af hb c7_;replace c8_:=af hb c8_;replace fC:=mh hb fC;replace hT:=mh hb hT;have hX:=hX';clear hX';refine hko hK (fun hH1=>?_);clear hK K hH0 hb
   try simp only[hwA]
   refine wpAnyH_ready (rs:= [10,14]) (by kernel_rfl) (by simp) ?_;refine(AllReadyH.cons bd (fun K hK=>?_) (AllReadyH.cons bB (fun K hK=>?_) AllReadyH.nil))
   ·skip
    go_simp
    go_at_call 31
    refine(IH.out _ _ _ fC.out hX.out (HTK.out.below fC.out) ⟨_,_,_,rfl⟩).mono ?_;rintro e X2 ⟨kt,at_,nt,qt,bt,tt,rfl,hbt,htt,hot,hb⟩;rw[HCO.out] at hbt hot;obtain rfl:bt=false:=hbt;have hN':Hid (ai (fun b=>X1.heap.size<=b∧b<X2.heap.size) X2 tt (.agg #[.int .i64 kt,.slice at_ nt qt])):=zq (htt.move (.weaken fun b h1 h2=>⟨h1.elim False.elim id,h2⟩));clear htt hot
    go_wp2_with fail
    have zX2:=hb.size;replace fE:=a9 fE hb;replace fR:=a9 fR hb;replace c0_:=af hb c0_;replace c1_:=af hb c1_;replace c2_:=af hb c2_;replace c3_:=af hb c3_;replace c4_:=af hb c4_;replace c5_:=af hb c5_;replace c6_:=af hb c6_;replace c7_:=af hb c7_;replace c8_:=af hb c8_;replace fC:=mh hb fC;replace hT:=mh hb hT;replace hX:=mh hb hX;have hN:=hN';clear hN';refine hko hK (fun hH2=>?_);clear hK K hH1 hb
    try simp only[hwA]
    refine hwq bl (.tuple #[.agg #[.int .i64 kt,.slice at_ nt qt],.bool false]) hH2 ?_;refine hwq bz (.agg #[.int .i64 kt,.slice at_ nt qt]) hH2 ?_;refine hwq bA (.bool false) hH2 ?_;refine hwe bB (fun K hK=>?_)
    go_simp
    (try go_wp2_with fail);generalize hXq:World.alloc X2 _=X3;obtain⟨hb,fV,zX3a,zX3b⟩:=alE hXq;replace fE:=a9 fE hb;replace fR:=a9 fR hb;replace c0_:=af hb c0_;replace c1_:=af hb c1_;replace c2_:=af hb c2_;replace c3_:=af hb c3_;replace c4_:=af hb c4_;replace c5_:=af hb c5_;replace c6_:=af hb c6_;replace c7_:=af hb c7_;replace c8_:=af hb c8_;replace fC:=mh hb fC;replace hT:=mh hb hT;replace hX:=mh hb hX;replace hN:=mh hb hN;refine hko hK (fun hH3=>?_);clear hK K hH2 hb hXq
    try simp only[hwA]
    refine hwe bF (fun K hK=>?_);obtain⟨r0,r1,rf0,rf1⟩:=b8 fV
    go_simp
    (try go_wp2_with fail);have hQq:=aJ fV (.int .i64 kt) (.slice at_ nt qt);clear fV r0 rf0 r1 rf1;obtain⟨X4,hXq,hsq,fV,zX4a,zX4b⟩:=hQq;rw[hXq];replace fE:=hsq.bk fE;replace fR:=hsq.bk fR;replace c0_:=hsq.cq c0_;replace c1_:=hsq.cq c1_;replace c2_:=hsq.cq c2_;replace c3_:=hsq.cq c3_;replace c4_:=hsq.cq c4_;replace c5_:=hsq.cq c5_;replace c6_:=hsq.cq c6_;replace c7_:=hsq.cq c7_;replace c8_:=hsq.cq c8_;replace fC:=hsq.be fC;replace hT:=zq (hsq.rep (fun b hb=>by have:b<w.heap.size:=hb;omega) hT.out);replace hN:=zq (hsq.rep (fun b hb=>by have h1:X1.heap.size<=b:=hb.1;have h2:b<X2.heap.size:=hb.2;omega) hN.out);refine hko hK (fun hH4=>?_);clear hK K hH3 hsq hXq hX
    try simp only[hwA]
    refine hwq bI (.bool false) hH4 ?_;refine hwd ?_;clear hH4;obtain⟨r0,r1⟩:=blk2 fR;have rf0:=aj fR 0;have rf1:=aj fR 1
    go_wp2_with fail
    have hY:((X4.setCell ⟨w.heap.size+1,0,none⟩ (.int .i64 0)).setCell ⟨w.heap.size+1,1,none⟩ (.slice none 0 0)).heap[w.heap.size+1]?=some (.cells #[.int .i64 0,.slice none 0 0] 25 (0,0)):=az (az fR rfl) rfl;obtain⟨rc0,rc1⟩:=blk2 hY;refine bq (.tuple #[.agg #[.int .i64 0,.slice none 0 0],.bool false]) (by simp[results,Try.results31,go_sem,rc0,rc1]) ?_
    exact⟨_,_,_,_,_,_,rfl,by rw[HO.out,dv HCO.out];rfl,ai.zeroG,(by rw[HO.out,dv HCO.out];intro s h;simp at h),(fC.out.setCell (p:=⟨w.heap.size+1,0,none⟩) (by show w.heap.size<=w.heap.size+1;omega) _).setCell (p:=⟨w.heap.size+1,1,none⟩) (by show w.heap.size<=w.heap.size+1;omega) _⟩
   ·skip
    go_simp
    (try go_wp2_with fail);generalize hXq:World.alloc X1 _=X5;obtain⟨hb,fV,zX5a,zX5b⟩:=alE hXq;replace fE:=a9 fE hb;replace fR:=a9 fR hb;replace c0_:=af hb c0_;replace c1_:=af hb c1_;replace c2_:=af hb c2_;replace c3_:=af hb c3_;replace c4_:=af hb c4_;replace c5_:=af hb c5_;replace c6_:=af hb c6_;replace c7_:=af hb c7_;replace c8_:=af hb c8_;replace fC:=mh hb fC;replace hT:=mh hb hT;replace hX:=mh hb hX;refine hko hK (fun hH2=>?_);clear hK K hH1 hb hXq
    try simp only[hwA]
    refine hwe bd (fun K hK=>?_)
    go_simp
    go_at_call 31
    refine(IH.out _ _ _ fC.out hX.out (HTK.out.below fC.out) ⟨_,_,_,rfl⟩).mono ?_;rintro e X6 ⟨kt,at_,nt,qt,bt,tt,rfl,hbt,htt,hot,hb⟩;rw[HCO.out] at hbt hot;obtain rfl:bt=false:=hbt;have hN':Hid (ai (fun b=>X5.heap.size<=b∧b<X6.heap.size) X6 tt (.agg #[.int .i64 kt,.slice at_ nt qt])):=zq (htt.move (.weaken fun b h1 h2=>⟨h1.elim False.elim id,h2⟩));clear htt hot
    go_wp2_with fail
    have zX6:=hb.size;replace fE:=a9 fE hb;replace fR:=a9 fR hb;replace c0_:=af hb c0_;replace c1_:=af hb c1_;replace c2_:=af hb c2_;replace c3_:=af hb c3_;replace c4_:=af hb c4_;replace c5_:=af hb c5_;replace c6_:=af hb c6_;replace c7_:=af hb c7_;replace c8_:=af hb c8_;replace fC:=mh hb fC;replace hT:=mh hb hT;replace hX:=mh hb hX;replace fV:=a9 fV hb;have hN:=hN';clear hN';refine hko hK (fun hH5=>?_);clear hK K hH2 hb
    try simp only[hwA]
    refine hwq bl (.tuple #[.agg #[.int .i64 kt,.slice at_ nt qt],.bool false]) hH5 ?_;refine hwq bz (.agg #[.int .i64 kt,.slice at_ nt qt]) hH5 ?_;refine hwq bA (.bool false) hH5 ?_;refine hwe bF (fun K hK=>?_);obtain⟨r0,r1,rf0,rf1⟩:=b8 fV
    go_simp
    (try go_wp2_with fail);have hQq:=aJ fV (.int .i64 kt) (.slice at_ nt qt);clear fV r0 rf0 r1 rf1;obtain⟨X7,hXq,hsq,fV,zX7a,zX7b⟩:=hQq;rw[hXq];replace fE:=hsq.bk fE;replace fR:=hsq.bk fR;replace c0_:=hsq.cq c0_;replace c1_:=hsq.cq c1_;replace c2_:=hsq.cq c2_;replace c3_:=hsq.cq c3_;replace c4_:=hsq.cq c4_;replace c5_:=hsq.cq c5_;replace c6_:=hsq.cq c6_;replace c7_:=hsq.cq c7_;replace c8_:=hsq.cq c8_;replace fC:=hsq.be fC;replace hT:=zq (hsq.rep (fun b hb=>by have:b<w.heap.size:=hb;omega) hT.out);replace hN:=zq (hsq.rep (fun b hb=>by have h1:X5.heap.size<=b:=hb.1;have h2:b<X6.heap.size:=hb.2;omega) hN.out);refine hko hK (fun hH6=>?_);clear hK K hH5 hsq hXq hX
    try simp only[hwA]
    refine hwq bI (.bool false) hH6 ?_;refine hwd ?_;clear hH6;obtain⟨r0,r1⟩:=blk2 fR;have rf0:=aj fR 0;have rf1:=aj fR 1
    go_wp2_with fail
    have hY:((X7.setCell ⟨w.heap.size+1,0,none⟩ (.int .i64 0)).setCell ⟨w.heap.size+1,1,none⟩ (.slice none 0 0)).heap[w.heap.size+1]?=some (.cells #[.int .i64 0,.slice none 0 0] 25 (0,0)):=az (az fR rfl) rfl;obtain⟨rc0,rc1⟩:=blk2 hY;refine bq (.tuple #[.agg #[.int .i64 0,.slice none 0 0],.bool false]) (by simp[results,Try.results31,go_sem,rc0,rc1]) ?_
    exact⟨_,_,_,_,_,_,rfl,by rw[HO.out,dv HCO.out];rfl,ai.zeroG,(by rw[HO.out,dv HCO.out];intro s h;simp at h),(fC.out.setCell (p:=⟨w.heap.size+1,0,none⟩) (by show w.heap.size<=w.heap.size+1;omega) _).setCell (p:=⟨w.heap.size+1,1,none⟩) (by show w.heap.size<=w.heap.size+1;omega) _⟩
  ·skip
   go_simp
   (try go_wp2_with fail);generalize hXq:World.alloc U1 _=X8;obtain⟨hb,fV,zX8a,zX8b⟩:=alE hXq;replace fE:=a9 fE hb;replace fR:=a9 fR hb;replace c0_:=af hb c0_;replace c1_:=af hb c1_;replace c2_:=af hb c2_;replace c3_:=af hb c3_;replace c4_:=af hb c4_;replace c5_:=af hb c5_;replace c6_:=af hb c6_;replace c7_:=af hb c7_;replace c8_:=af hb c8_;replace fC:=mh hb fC;replace hT:=mh hb hT;refine hko hK (fun hH1=>?_);clear hK K hH0 hb hXq
   try simp only[hwA]
   refine hwe hx5 (fun K hK=>?_)
   go_simp
   go_at_call 32
   refine(HM.out _ fC.out).mono ?_;rintro e X9 ⟨xa2,xm2,xq2,rfl,hcx,hb⟩;have hX':Hid (aE (fun _=>True) X9 (l ++ [⟨nm,ty⟩]) (.slice (some xa2) xm2 xq2)):=zq hcx;clear hcx
   go_wp2_with fail
   have zX9:=hb.size;replace fE:=a9 fE hb;replace fR:=a9 fR hb;replace c0_:=af hb c0_;replace c1_:=af hb c1_;replace c2_:=af hb c2_;replace c3_:=af hb c3_;replace c4_:=af hb c4_;replace c5_:=af hb c5_;replace c6_:=af hb c6_;replace c7_:=af hb c7_;replace c8_:=af hb c8_;replace fC:=mh hb fC;replace hT:=mh hb hT;replace fV:=a9 fV hb;have hX:=hX';clear hX';refine hko hK (fun hH7=>?_);clear hK K hH1 hb
   try simp only[hwA]
   refine hwe bd (fun K hK=>?_)
   go_simp
   go_at_call 31
   refine(IH.out _ _ _ fC.out hX.out (HTK.out.below fC.out) ⟨_,_,_,rfl⟩).mono ?_;rintro e X10 ⟨kt,at_,nt,qt,bt,tt,rfl,hbt,htt,hot,hb⟩;rw[HCO.out] at hbt hot;obtain rfl:bt=false:=hbt;have hN':Hid (ai (fun b=>X9.heap.size<=b∧b<X10.heap.size) X10 tt (.agg #[.int .i64 kt,.slice at_ nt qt])):=zq (htt.move (.weaken fun b h1 h2=>⟨h1.elim False.elim id,h2⟩));clear htt hot
   go_wp2_with fail
   have zX10:=hb.size;replace fE:=a9 fE hb;replace fR:=a9 fR hb;replace c0_:=af hb c0_;replace c1_:=af hb c1_;replace c2_:=af hb c2_;replace c3_:=af hb c3_;replace c4_:=af hb c4_;replace c5_:=af hb c5_;replace c6_:=af hb c6_;replace c7_:=af hb c7_;replace c8_:=af hb c8_;replace fC:=mh hb fC;replace hT:=mh hb hT;replace fV:=a9 fV hb;replace hX:=mh hb hX;have hN:=hN';clear hN';refine hko hK (fun hH8=>?_);clear hK K hH7 hb
   try simp only[hwA]
   refine hwq bl (.tuple #[.agg #[.int .i64 kt,.slice at_ nt qt],.bool false]) hH8 ?_;refine hwq bz (.agg #[.int .i64 kt,.slice at_ nt qt]) hH8 ?_;refine hwq bA (.bool false) hH8 ?_;refine hwe bF (fun K hK=>?_);obtain⟨r0,r1,rf0,rf1⟩:=b8 fV
   go_simp
   (try go_wp2_with fail);have hQq:=aJ fV (.int .i64 kt) (.slice at_ nt qt);clear fV r0 rf0 r1 rf1;obtain⟨X11,hXq,hsq,fV,zX11a,zX11b⟩:=hQq;rw[hXq];replace fE:=hsq.bk fE;replace fR:=hsq.bk fR;replace c0_:=hsq.cq c0_;replace c1_:=hsq.cq c1_;replace c2_:=hsq.cq c2_;replace c3_:=hsq.cq c3_;replace c4_:=hsq.cq c4_;replace c5_:=hsq.cq c5_;replace c6_:=hsq.cq c6_;replace c7_:=hsq.cq c7_;replace c8_:=hsq.cq c8_;replace fC:=hsq.be fC;replace hT:=zq (hsq.rep (fun b hb=>by have:b<w.heap.size:=hb;omega) hT.out);replace hN:=zq (hsq.rep (fun b hb=>by have h1:X9.heap.size<=b:=hb.1;have h2:b<X10.heap.size:=hb.2;omega) hN.out);refine hko hK (fun hH9=>?_);clear hK K hH8 hsq hXq hX
   try simp only[hwA]
   refine hwq bI (.bool false) hH9 ?_;refine hwd ?_;clear hH9;obtain⟨r0,r1⟩:=blk2 fR;have rf0:=aj fR 0;have rf1:=aj fR 1
   go_wp2_with fail
   have hY:((X11.setCell ⟨w.heap.size+1,0,none⟩ (.int .i64 0)).setCell ⟨w.heap.size+1,1,none⟩ (.slice none 0 0)).heap[w.heap.size+1]?=some (.cells #[.int .i64 0,.slice none 0 0] 25 (0,0)):=az (az fR rfl) rfl;obtain⟨rc0,rc1⟩:=blk2 hY;refine bq (.tuple #[.agg #[.int .i64 0,.slice none 0 0],.bool false]) (by simp[results,Try.results31,go_sem,rc0,rc1]) ?_
   exact⟨_,_,_,_,_,_,rfl,by rw[HO.out,dv HCO.out];rfl,ai.zeroG,(by rw[HO.out,dv HCO.out];intro s h;simp at h),(fC.out.setCell (p:=⟨w.heap.size+1,0,none⟩) (by show w.heap.size<=w.heap.size+1;omega) _).setCell (p:=⟨w.heap.size+1,1,none⟩) (by show w.heap.size<=w.heap.size+1;omega) _⟩
theorem jN (G:Nat->Prop)(nm:ByteArray)(u lb tk fk:Int)(ty src:Ty)(t1:Tm)(l:List Bd)(xa ta fa ca:Option Addr)(xn xq tn tq fn fq cm cq:Nat)(w:World)
    (he:aB G w (.mk 5 nm u ty src lb [t1]) (.agg (nv 5 nm u tk ta tn tq fk fa fn fq lb ca cm cq))) (hv:ty.valid=true)
    (HM:Hid (∀W,Below w.heap.size w W->Calls Try.prog 32 #[.slice xa xn xq,.string nm,.agg #[.int .i64 tk,.slice ta tn tq]] W (em (l ++ [⟨nm,ty⟩]) W)))
    (IH:Hid (∀(W:World) (c' y':Value),Below w.heap.size w W->aE (fun _=>True) W (l ++ [⟨nm,ty⟩]) c'->aB G W t1 y'->(∃a m q,c' = .slice (some a) m q)->Calls Try.prog 31 #[c',y'] W (aX ((t1.typS (l ++ [⟨nm,ty⟩])).map S.ty) W)))
    (h1:S) (hv1:h1.vd=true) (hco:t1.typS (l ++ [⟨nm,ty⟩])=some h1) :
    Calls Try.prog 31 #[.slice xa xn xq,.agg (nv 5 nm u tk ta tn tq fk fa fn fq lb ca cm cq)] w (aX (((Tm.mk 5 nm u ty src lb [t1]).typS l).map S.ty) w):=by
  obtain⟨-,-,-,-,-,-,-,-,hm,hnm,hmq,hqm,hty,hsrc,hks⟩:=he.parts;simp only[Tm.type,Tm.src,Tm.kids,List.length_cons,List.length_nil] at hm hty hsrc hks;obtain rfl:cm=1:=by omega
  obtain⟨b,off,kk0,nn0,uu0,tk0,ta0,tn0,tq0,fk0,fa0,fn0,fq0,ll0,a0,m0,q0,rfl,hlb,e0,e1,e2,e3,e4,e5,e6,e7,e8,ht⟩:=hks.at (Below.refl _ _) (i:=0) (by simp);simp only[Nat.zero_mul,Nat.add_zero] at e0 e1 e2 e3 e4 e5 e6 e7 e8;have HTK:=zq (show aB G w t1 _ from ht);have HTY:=zq hty.old;have HCN:=zq (Ty.cnt_valid hv);have HVT:=zq hv;have HCO:=zq hco;have HV1:=zq hv1;clear hv1;obtain⟨O,hO⟩ : ∃O:Option Ty,O=(((Tm.mk 5 nm u ty src lb [t1]).typS l).map S.ty):=⟨_,rfl⟩
  rw[<-hO];have HO:=zq hO;clear hO he hm hty hsrc hks ht hv hco
  go_enter Try.func31,Try.ntmps31
  go_wp2_with fail
  generalize hVV:World.alloc (World.alloc w _) _=VV;obtain⟨hv,o1,o2,zV⟩:=bO hVV;have fE:=o1;have fR:=o2;have c0_:=af hv e0;have c1_:=af hv e1;have c2_:=af hv e2;have c3_:=af hv e3;have c4_:=af hv e4;have c5_:=af hv e5;have c6_:=af hv e6;have c7_:=af hv e7;have c8_:=af hv e8;have fC:=zq hv;have hT:=zq (HTY.out.below hv);clear hv o1 o2;refine wh13 (bc1 fE) (bc3 fE) (bc4 fE) (bc8 fE) c0_ c1_ c2_ c3_ c4_ c5_ c6_ c7_ c8_ (fun U2 hb zU2a zU2b hH0=>?_);replace fE:=a9 fE hb;replace fR:=a9 fR hb;replace c0_:=af hb c0_;replace c1_:=af hb c1_;replace c2_:=af hb c2_;replace c3_:=af hb c3_;replace c4_:=af hb c4_;replace c5_:=af hb c5_;replace c6_:=af hb c6_;replace c7_:=af hb c7_;replace c8_:=af hb c8_;replace fC:=mh hb fC;replace hT:=mh hb hT;rw[zV] at zU2a zU2b;clear hb hVV zV;refine hwq hx0 (.slice xa xn xq) hH0 ?_;refine hwq hx1 (.pointer (some ⟨w.heap.size,1,none⟩)) hH0 ?_;refine hwq hx2 (.string nm) hH0 ?_;refine hwq hx3 (.pointer (some ⟨w.heap.size,3,none⟩)) hH0 ?_;refine hwq hx4 (.agg #[.int .i64 tk,.slice ta tn tq]) hH0 ?_;refine hwq hx6 (.pointer (some ⟨w.heap.size,8,none⟩)) hH0 ?_;refine hwq hx7 (.slice (some ⟨b,off,none⟩) 1 cq) hH0 ?_;refine hwq hx8 (.pointer (some ⟨b,off,none⟩)) hH0 ?_;refine hwq hx9 (.agg (nv kk0 nn0 uu0 tk0 ta0 tn0 tq0 fk0 fa0 fn0 fq0 ll0 a0 m0 q0)) hH0 ?_;refine wpAnyH_ready (rs:= [5,14]) (by kernel_rfl) (by simp) ?_;refine(AllReadyH.cons hx5 (fun K hK=>?_) (AllReadyH.cons bB (fun K hK=>?_) AllReadyH.nil))
  ·skip
   go_simp
   go_at_call 32
   refine(HM.out _ fC.out).mono ?_;rintro e X1 ⟨xa2,xm2,xq2,rfl,hcx,hb⟩;have hX':Hid (aE (fun _=>True) X1 (l ++ [⟨nm,ty⟩]) (.slice (some xa2) xm2 xq2)):=zq hcx;clear hcx
   go_wp2_with fail
   have zX1:=hb.size;replace fE:=a9 fE hb;replace fR:=a9 fR hb;replace c0_:=af hb c0_;replace c1_:=af hb c1_;replace c2_:=af hb c2_;replace c3_:=af hb c3_;replace c4_:=af hb c4_;replace c5_:=af hb c5_;replace c6_:=af hb c6_;replace c7_:=af hb c7_;replace c8_:=af hb c8_;replace fC:=mh hb fC;replace hT:=mh hb hT;have hX:=hX';clear hX';refine hko hK (fun hH1=>?_);clear hK K hH0 hb
   try simp only[hwA]
   refine wpAnyH_ready (rs:= [10,14]) (by kernel_rfl) (by simp) ?_;refine(AllReadyH.cons bd (fun K hK=>?_) (AllReadyH.cons bB (fun K hK=>?_) AllReadyH.nil))
   ·skip
    go_simp
    go_at_call 31
    refine(IH.out _ _ _ fC.out hX.out (HTK.out.below fC.out) ⟨_,_,_,rfl⟩).mono ?_;rintro e X2 ⟨kt,at_,nt,qt,bt,tt,rfl,hbt,htt,hot,hb⟩;rw[HCO.out] at hbt hot;obtain rfl:bt=true:=hbt;obtain rfl:tt=h1.ty:=hot _ rfl;have hN':Hid (ai (fun b=>X1.heap.size<=b∧b<X2.heap.size) X2 h1.ty (.agg #[.int .i64 kt,.slice at_ nt qt])):=zq (htt.move (.weaken fun b h1 h2=>⟨h1.elim False.elim id,h2⟩));clear htt hot
    go_wp2_with fail
    have zX2:=hb.size;replace fE:=a9 fE hb;replace fR:=a9 fR hb;replace c0_:=af hb c0_;replace c1_:=af hb c1_;replace c2_:=af hb c2_;replace c3_:=af hb c3_;replace c4_:=af hb c4_;replace c5_:=af hb c5_;replace c6_:=af hb c6_;replace c7_:=af hb c7_;replace c8_:=af hb c8_;replace fC:=mh hb fC;replace hT:=mh hb hT;replace hX:=mh hb hX;have hN:=hN';clear hN';refine hko hK (fun hH2=>?_);clear hK K hH1 hb
    try simp only[hwA]
    refine hwq bl (.tuple #[.agg #[.int .i64 kt,.slice at_ nt qt],.bool true]) hH2 ?_;refine hwq bz (.agg #[.int .i64 kt,.slice at_ nt qt]) hH2 ?_;refine hwq bA (.bool true) hH2 ?_;refine hwe bB (fun K hK=>?_)
    go_simp
    (try go_wp2_with fail);generalize hXq:World.alloc X2 _=X3;obtain⟨hb,fV,zX3a,zX3b⟩:=alE hXq;replace fE:=a9 fE hb;replace fR:=a9 fR hb;replace c0_:=af hb c0_;replace c1_:=af hb c1_;replace c2_:=af hb c2_;replace c3_:=af hb c3_;replace c4_:=af hb c4_;replace c5_:=af hb c5_;replace c6_:=af hb c6_;replace c7_:=af hb c7_;replace c8_:=af hb c8_;replace fC:=mh hb fC;replace hT:=mh hb hT;replace hX:=mh hb hX;replace hN:=mh hb hN;refine hko hK (fun hH3=>?_);clear hK K hH2 hb hXq
    try simp only[hwA]
    refine hwe bF (fun K hK=>?_);obtain⟨r0,r1,rf0,rf1⟩:=b8 fV
    go_simp
    (try go_wp2_with fail);have hQq:=aJ fV (.int .i64 kt) (.slice at_ nt qt);clear fV r0 rf0 r1 rf1;obtain⟨X4,hXq,hsq,fV,zX4a,zX4b⟩:=hQq;rw[hXq];replace fE:=hsq.bk fE;replace fR:=hsq.bk fR;replace c0_:=hsq.cq c0_;replace c1_:=hsq.cq c1_;replace c2_:=hsq.cq c2_;replace c3_:=hsq.cq c3_;replace c4_:=hsq.cq c4_;replace c5_:=hsq.cq c5_;replace c6_:=hsq.cq c6_;replace c7_:=hsq.cq c7_;replace c8_:=hsq.cq c8_;replace fC:=hsq.be fC;replace hT:=zq (hsq.rep (fun b hb=>by have:b<w.heap.size:=hb;omega) hT.out);replace hN:=zq (hsq.rep (fun b hb=>by have h1:X1.heap.size<=b:=hb.1;have h2:b<X2.heap.size:=hb.2;omega) hN.out);refine hko hK (fun hH4=>?_);clear hK K hH3 hsq hXq hX
    try simp only[hwA]
    refine hwq bI (.bool true) hH4 ?_;refine hwd ?_;clear hH4;have d3:=ah fE (o:=3) rfl;have d4:=ah fE (o:=4) rfl;obtain⟨v0,v1⟩:=blk2 fV;have HT9:=zq (cB _ _ 4 ty h1.ty _ _ _ _ _ _ _ _ _ hT.out hN.out HCN.out (S.cnt_ok HV1.out))
    go_wp2_with fail
    refine HT9.out.mono ?_;rintro e X9 ⟨kr,ar,nr,qr,br,tr,rfl,hbr,htr,hor,hb⟩;have HBR:=zq hbr;have HTR:=zq htr;have HOR:=zq hor;have fR9:=a9 fR hb;have fC9:=zq (al fC.out hb);have z9:=hb.size;have lR9:=aw fR;clear hbr htr hor hb d3 d4 v0 v1;obtain⟨r0,r1⟩:=blk2 fR9;have rf0:=aj fR9 0;have rf1:=aj fR9 1
    go_wp2_with fail
    have hY:((X9.setCell ⟨w.heap.size+1,0,none⟩ (.int .i64 kr)).setCell ⟨w.heap.size+1,1,none⟩ (.slice ar nr qr)).heap[w.heap.size+1]?=some (.cells #[.int .i64 kr,.slice ar nr qr] 25 (0,0)):=az (az fR9 rfl) rfl;obtain⟨rc0,rc1⟩:=blk2 hY;refine bq (.tuple #[.agg #[.int .i64 kr,.slice ar nr qr],.bool br]) (by simp[results,Try.results31,go_sem,rc0,rc1]) ?_;have hne : ∀b,(False∨X4.heap.size<=b)->b≠w.heap.size+1:=fun b h=>by
      have h1:=h.elim False.elim id
      omega
    have hw0:=fC.out.size
    exact⟨_,_,_,_,_,tr,rfl,by rw[HO.out,dw HVT.out HCO.out];exact HBR.out,(ai.setN (ai.setN HTR.out hne) hne).move (.weaken fun b h _=>.inr (by have h1:=h.elim False.elim id;omega)),(by rw[HO.out,dw HVT.out HCO.out];exact HOR.out),(fC9.out.setCell (p:=⟨w.heap.size+1,0,none⟩) (by show w.heap.size<=w.heap.size+1;omega) _).setCell (p:=⟨w.heap.size+1,1,none⟩) (by show w.heap.size<=w.heap.size+1;omega) _⟩
   ·skip
    go_simp
    (try go_wp2_with fail);generalize hXq:World.alloc X1 _=X5;obtain⟨hb,fV,zX5a,zX5b⟩:=alE hXq;replace fE:=a9 fE hb;replace fR:=a9 fR hb;replace c0_:=af hb c0_;replace c1_:=af hb c1_;replace c2_:=af hb c2_;replace c3_:=af hb c3_;replace c4_:=af hb c4_;replace c5_:=af hb c5_;replace c6_:=af hb c6_;replace c7_:=af hb c7_;replace c8_:=af hb c8_;replace fC:=mh hb fC;replace hT:=mh hb hT;replace hX:=mh hb hX;refine hko hK (fun hH2=>?_);clear hK K hH1 hb hXq
    try simp only[hwA]
    refine hwe bd (fun K hK=>?_)
    go_simp
    go_at_call 31
    refine(IH.out _ _ _ fC.out hX.out (HTK.out.below fC.out) ⟨_,_,_,rfl⟩).mono ?_;rintro e X6 ⟨kt,at_,nt,qt,bt,tt,rfl,hbt,htt,hot,hb⟩;rw[HCO.out] at hbt hot;obtain rfl:bt=true:=hbt;obtain rfl:tt=h1.ty:=hot _ rfl;have hN':Hid (ai (fun b=>X5.heap.size<=b∧b<X6.heap.size) X6 h1.ty (.agg #[.int .i64 kt,.slice at_ nt qt])):=zq (htt.move (.weaken fun b h1 h2=>⟨h1.elim False.elim id,h2⟩));clear htt hot
    go_wp2_with fail
    have zX6:=hb.size;replace fE:=a9 fE hb;replace fR:=a9 fR hb;replace c0_:=af hb c0_;replace c1_:=af hb c1_;replace c2_:=af hb c2_;replace c3_:=af hb c3_;replace c4_:=af hb c4_;replace c5_:=af hb c5_;replace c6_:=af hb c6_;replace c7_:=af hb c7_;replace c8_:=af hb c8_;replace fC:=mh hb fC;replace hT:=mh hb hT;replace hX:=mh hb hX;replace fV:=a9 fV hb;have hN:=hN';clear hN';refine hko hK (fun hH5=>?_);clear hK K hH2 hb
    try simp only[hwA]
    refine hwq bl (.tuple #[.agg #[.int .i64 kt,.slice at_ nt qt],.bool true]) hH5 ?_;refine hwq bz (.agg #[.int .i64 kt,.slice at_ nt qt]) hH5 ?_;refine hwq bA (.bool true) hH5 ?_;refine hwe bF (fun K hK=>?_);obtain⟨r0,r1,rf0,rf1⟩:=b8 fV
    go_simp
    (try go_wp2_with fail);have hQq:=aJ fV (.int .i64 kt) (.slice at_ nt qt);clear fV r0 rf0 r1 rf1;obtain⟨X7,hXq,hsq,fV,zX7a,zX7b⟩:=hQq;rw[hXq];replace fE:=hsq.bk fE;replace fR:=hsq.bk fR;replace c0_:=hsq.cq c0_;replace c1_:=hsq.cq c1_;replace c2_:=hsq.cq c2_;replace c3_:=hsq.cq c3_;replace c4_:=hsq.cq c4_;replace c5_:=hsq.cq c5_;replace c6_:=hsq.cq c6_;replace c7_:=hsq.cq c7_;replace c8_:=hsq.cq c8_;replace fC:=hsq.be fC;replace hT:=zq (hsq.rep (fun b hb=>by have:b<w.heap.size:=hb;omega) hT.out);replace hN:=zq (hsq.rep (fun b hb=>by have h1:X5.heap.size<=b:=hb.1;have h2:b<X6.heap.size:=hb.2;omega) hN.out);refine hko hK (fun hH6=>?_);clear hK K hH5 hsq hXq hX
    try simp only[hwA]
    refine hwq bI (.bool true) hH6 ?_;refine hwd ?_;clear hH6;have d3:=ah fE (o:=3) rfl;have d4:=ah fE (o:=4) rfl;obtain⟨v0,v1⟩:=blk2 fV;have HT9:=zq (cB _ _ 4 ty h1.ty _ _ _ _ _ _ _ _ _ hT.out hN.out HCN.out (S.cnt_ok HV1.out))
    go_wp2_with fail
    refine HT9.out.mono ?_;rintro e X9 ⟨kr,ar,nr,qr,br,tr,rfl,hbr,htr,hor,hb⟩;have HBR:=zq hbr;have HTR:=zq htr;have HOR:=zq hor;have fR9:=a9 fR hb;have fC9:=zq (al fC.out hb);have z9:=hb.size;have lR9:=aw fR;clear hbr htr hor hb d3 d4 v0 v1;obtain⟨r0,r1⟩:=blk2 fR9;have rf0:=aj fR9 0;have rf1:=aj fR9 1
    go_wp2_with fail
    have hY:((X9.setCell ⟨w.heap.size+1,0,none⟩ (.int .i64 kr)).setCell ⟨w.heap.size+1,1,none⟩ (.slice ar nr qr)).heap[w.heap.size+1]?=some (.cells #[.int .i64 kr,.slice ar nr qr] 25 (0,0)):=az (az fR9 rfl) rfl;obtain⟨rc0,rc1⟩:=blk2 hY;refine bq (.tuple #[.agg #[.int .i64 kr,.slice ar nr qr],.bool br]) (by simp[results,Try.results31,go_sem,rc0,rc1]) ?_;have hne : ∀b,(False∨X7.heap.size<=b)->b≠w.heap.size+1:=fun b h=>by
      have h1:=h.elim False.elim id
      omega
    have hw0:=fC.out.size
    exact⟨_,_,_,_,_,tr,rfl,by rw[HO.out,dw HVT.out HCO.out];exact HBR.out,(ai.setN (ai.setN HTR.out hne) hne).move (.weaken fun b h _=>.inr (by have h1:=h.elim False.elim id;omega)),(by rw[HO.out,dw HVT.out HCO.out];exact HOR.out),(fC9.out.setCell (p:=⟨w.heap.size+1,0,none⟩) (by show w.heap.size<=w.heap.size+1;omega) _).setCell (p:=⟨w.heap.size+1,1,none⟩) (by show w.heap.size<=w.heap.size+1;omega) _⟩
  ·skip
   go_simp
   (try go_wp2_with fail);generalize hXq:World.alloc U2 _=X8;obtain⟨hb,fV,zX8a,zX8b⟩:=alE hXq;replace fE:=a9 fE hb;replace fR:=a9 fR hb;replace c0_:=af hb c0_;replace c1_:=af hb c1_;replace c2_:=af hb c2_;replace c3_:=af hb c3_;replace c4_:=af hb c4_;replace c5_:=af hb c5_;replace c6_:=af hb c6_;replace c7_:=af hb c7_;replace c8_:=af hb c8_;replace fC:=mh hb fC;replace hT:=mh hb hT;refine hko hK (fun hH1=>?_);clear hK K hH0 hb hXq
   try simp only[hwA]
   refine hwe hx5 (fun K hK=>?_)
   go_simp
   go_at_call 32
   refine(HM.out _ fC.out).mono ?_;rintro e X9 ⟨xa2,xm2,xq2,rfl,hcx,hb⟩;have hX':Hid (aE (fun _=>True) X9 (l ++ [⟨nm,ty⟩]) (.slice (some xa2) xm2 xq2)):=zq hcx;clear hcx
   go_wp2_with fail
   have zX9:=hb.size;replace fE:=a9 fE hb;replace fR:=a9 fR hb;replace c0_:=af hb c0_;replace c1_:=af hb c1_;replace c2_:=af hb c2_;replace c3_:=af hb c3_;replace c4_:=af hb c4_;replace c5_:=af hb c5_;replace c6_:=af hb c6_;replace c7_:=af hb c7_;replace c8_:=af hb c8_;replace fC:=mh hb fC;replace hT:=mh hb hT;replace fV:=a9 fV hb;have hX:=hX';clear hX';refine hko hK (fun hH7=>?_);clear hK K hH1 hb
   try simp only[hwA]
   refine hwe bd (fun K hK=>?_)
   go_simp
   go_at_call 31
   refine(IH.out _ _ _ fC.out hX.out (HTK.out.below fC.out) ⟨_,_,_,rfl⟩).mono ?_;rintro e X10 ⟨kt,at_,nt,qt,bt,tt,rfl,hbt,htt,hot,hb⟩;rw[HCO.out] at hbt hot;obtain rfl:bt=true:=hbt;obtain rfl:tt=h1.ty:=hot _ rfl;have hN':Hid (ai (fun b=>X9.heap.size<=b∧b<X10.heap.size) X10 h1.ty (.agg #[.int .i64 kt,.slice at_ nt qt])):=zq (htt.move (.weaken fun b h1 h2=>⟨h1.elim False.elim id,h2⟩));clear htt hot
   go_wp2_with fail
   have zX10:=hb.size;replace fE:=a9 fE hb;replace fR:=a9 fR hb;replace c0_:=af hb c0_;replace c1_:=af hb c1_;replace c2_:=af hb c2_;replace c3_:=af hb c3_;replace c4_:=af hb c4_;replace c5_:=af hb c5_;replace c6_:=af hb c6_;replace c7_:=af hb c7_;replace c8_:=af hb c8_;replace fC:=mh hb fC;replace hT:=mh hb hT;replace fV:=a9 fV hb;replace hX:=mh hb hX;have hN:=hN';clear hN';refine hko hK (fun hH8=>?_);clear hK K hH7 hb
   try simp only[hwA]
   refine hwq bl (.tuple #[.agg #[.int .i64 kt,.slice at_ nt qt],.bool true]) hH8 ?_;refine hwq bz (.agg #[.int .i64 kt,.slice at_ nt qt]) hH8 ?_;refine hwq bA (.bool true) hH8 ?_;refine hwe bF (fun K hK=>?_);obtain⟨r0,r1,rf0,rf1⟩:=b8 fV
   go_simp
   (try go_wp2_with fail);have hQq:=aJ fV (.int .i64 kt) (.slice at_ nt qt);clear fV r0 rf0 r1 rf1;obtain⟨X11,hXq,hsq,fV,zX11a,zX11b⟩:=hQq;rw[hXq];replace fE:=hsq.bk fE;replace fR:=hsq.bk fR;replace c0_:=hsq.cq c0_;replace c1_:=hsq.cq c1_;replace c2_:=hsq.cq c2_;replace c3_:=hsq.cq c3_;replace c4_:=hsq.cq c4_;replace c5_:=hsq.cq c5_;replace c6_:=hsq.cq c6_;replace c7_:=hsq.cq c7_;replace c8_:=hsq.cq c8_;replace fC:=hsq.be fC;replace hT:=zq (hsq.rep (fun b hb=>by have:b<w.heap.size:=hb;omega) hT.out);replace hN:=zq (hsq.rep (fun b hb=>by have h1:X9.heap.size<=b:=hb.1;have h2:b<X10.heap.size:=hb.2;omega) hN.out);refine hko hK (fun hH9=>?_);clear hK K hH8 hsq hXq hX
   try simp only[hwA]
   refine hwq bI (.bool true) hH9 ?_;refine hwd ?_;clear hH9;have d3:=ah fE (o:=3) rfl;have d4:=ah fE (o:=4) rfl;obtain⟨v0,v1⟩:=blk2 fV;have HT9:=zq (cB _ _ 4 ty h1.ty _ _ _ _ _ _ _ _ _ hT.out hN.out HCN.out (S.cnt_ok HV1.out))
   go_wp2_with fail
   refine HT9.out.mono ?_;rintro e X9 ⟨kr,ar,nr,qr,br,tr,rfl,hbr,htr,hor,hb⟩;have HBR:=zq hbr;have HTR:=zq htr;have HOR:=zq hor;have fR9:=a9 fR hb;have fC9:=zq (al fC.out hb);have z9:=hb.size;have lR9:=aw fR;clear hbr htr hor hb d3 d4 v0 v1;obtain⟨r0,r1⟩:=blk2 fR9;have rf0:=aj fR9 0;have rf1:=aj fR9 1
   go_wp2_with fail
   have hY:((X9.setCell ⟨w.heap.size+1,0,none⟩ (.int .i64 kr)).setCell ⟨w.heap.size+1,1,none⟩ (.slice ar nr qr)).heap[w.heap.size+1]?=some (.cells #[.int .i64 kr,.slice ar nr qr] 25 (0,0)):=az (az fR9 rfl) rfl;obtain⟨rc0,rc1⟩:=blk2 hY;refine bq (.tuple #[.agg #[.int .i64 kr,.slice ar nr qr],.bool br]) (by simp[results,Try.results31,go_sem,rc0,rc1]) ?_;have hne : ∀b,(False∨X11.heap.size<=b)->b≠w.heap.size+1:=fun b h=>by
     have h1:=h.elim False.elim id
     omega
   have hw0:=fC.out.size
   exact⟨_,_,_,_,_,tr,rfl,by rw[HO.out,dw HVT.out HCO.out];exact HBR.out,(ai.setN (ai.setN HTR.out hne) hne).move (.weaken fun b h _=>.inr (by have h1:=h.elim False.elim id;omega)),(by rw[HO.out,dw HVT.out HCO.out];exact HOR.out),(fC9.out.setCell (p:=⟨w.heap.size+1,0,none⟩) (by show w.heap.size<=w.heap.size+1;omega) _).setCell (p:=⟨w.heap.size+1,1,none⟩) (by show w.heap.size<=w.heap.size+1;omega) _⟩
def L3t (t:Tm)(d:Int):Prop:=∀(l:List Bd) (c y:Value) (W:World) (F G:Nat->Prop),t.shape 14 d=true->(l.length:Int)+d<=1000->cz l->dz l c->aE F W l c->aB G W t y->Calls Try.prog 31 #[c,y] W (aX ((t.typS l).map S.ty) W)
theorem jL (t:Tm)(d:Int)(IH : ∀t'∈t.kids,L3t t' (d-1)):L3t t d:=by
 intro l c y W F G hsh hld hc hcv hb he
 cases t with
 | mk k nm u ty src lb ts=>
  obtain⟨hd,hk13,hlen,hown,hkids⟩:=Tm.shape_parts hsh;have hcnt : ∀b∈l,b.ty.cnt<=1048576:=fun b hb=>Ty.cnt_valid (hc b hb);obtain⟨k',nm',u',tk,ta,tn,tq,fk,fa,fn,fq,lb',ca,cm,cq,rfl⟩:=he.shape;obtain⟨e1,e2,e3,-,-,-,-,e8,hcm,hnm,-,-,hty,hsrc,hks⟩:=he.parts;simp only[Tm.kind,Tm.name,Tm.num,Tm.label,Tm.type] at e1 e2 e3 e8 hty;subst e1 e2 e3 e8;have hl0:(0:Int)<=aD k':=by rw[hlen];omega
  by_cases h1:k'=1
  ·subst h1
   have hL:=gK F l c nm' u' lb' tk fk ta fa ca tn tq fn fq cm cq W hb hcnt;rw[Tm.typS,if_pos rfl,gX hc]
   exact hL
  by_cases h2:k'=2
  ·subst h2
   rw[Tm.typS,if_neg (by omega),if_pos rfl]
   exact gL c nm' u' lb' tk fk ta fa ca tn tq fn fq cm cq W
  by_cases h3:k'=3
  ·subst h3
   rw[Tm.typS,if_neg (by omega),if_neg (by omega),if_pos (by omega)]
   exact gM c nm' u' lb' tk fk ta fa ca tn tq fn fq cm cq W
  by_cases h4:k'=4
  ·subst h4
   rw[Tm.typS,if_neg (by omega),if_neg (by omega),if_pos (by omega)]
   exact gN c nm' u' lb' tk fk ta fa ca tn tq fn fq cm cq W
  by_cases h5:k'=5
  ·subst h5
   have hv:=gZ hown (.inl rfl);obtain⟨t1,rfl⟩ : ∃t1,ts = [t1]:=List.length_eq_one_iff.1 (by simp[aD] at hlen;omega);have hc2:=hc.snoc (nm:=nm') hv;have hs1:t1.shape 14 (d-1)=true:=Tm.shapes_mem hkids (by simp);obtain⟨xa,xn,xq,rfl⟩:=hcv.shape;have HM:Hid (∀W',Below W.heap.size W W'->Calls Try.prog 32 #[.slice xa xn xq,.string nm',.agg #[.int .i64 tk,.slice ta tn tq]] W' (em (l ++ [⟨nm',ty⟩]) W')):=zq fun W' hW=>by
    rcases hcv with ⟨rfl,hx⟩ | ⟨hl1,a,m,q,hx⟩
    ·rw[hx];exact el F G nm' ty tk ta tn tq W' hnm (hty.below hW)
    ·simp only[Value.slice.injEq] at hx
     obtain⟨rfl,rfl,rfl⟩:=hx
     exact il F G l a xn xq nm' ty tk ta tn tq W' (hb.below hW) (by omega) hl1 hnm (hty.below hW)
   have IHL:Hid (∀(W':World) (c' y':Value),Below W.heap.size W W'->aE (fun _=>True) W' (l ++ [⟨nm',ty⟩]) c'->aB G W' t1 y'->(∃a m q,c' = .slice (some a) m q)->Calls Try.prog 31 #[c',y'] W' (aX ((t1.typS (l ++ [⟨nm',ty⟩])).map S.ty) W')):=zq fun W' c' y' hW hb' he' hx=>
    IH t1 (by simp[Tm.kids]) _ c' y' W' _ G hs1 (by simp;omega) hc2 (.inr ⟨by simp,hx⟩) hb' he'
   cases hco:t1.typS (l ++ [⟨nm',ty⟩]) with
   | none=>exact jM G nm' u' lb' tk fk ty src t1 l xa ta fa ca xn xq tn tq fn fq cm cq W he hv HM IHL hco
   | some h1'=>exact jN G nm' u' lb' tk fk ty src t1 l xa ta fa ca xn xq tn tq fn fq cm cq W he hv HM IHL h1' (dT t1 _ _ hs1 hc2 _ hco) hco
  have hk:6<=k'∧k'<=13:=by
   unfold aD at hl0
   split at hl0
   ·omega
   split at hl0
   ·omega
   split at hl0
   ·omega
   split at hl0
   ·omega
   ·omega
  have hsm:ts.length<=3:=by
   have:aD k'<=3:=by unfold aD;repeat' split<;>omega
   omega
  obtain⟨xa,xn,xq,rfl⟩:=hcv.shape
  exact nA G k' nm' u' lb' tk fk ty src ts l xa ta fa ca xn xq tn tq fn fq cm cq W he
   (fun t' ht' W' y' hW he'=>IH t' ht' l _ y' W' F G (Tm.shapes_mem hkids ht') (by omega) hc hcv (hb.below hW) he')
   (fun t' ht' h e=>dT t' _ l (Tm.shapes_mem hkids ht') hc h e) hk hlen (fun h13=>gZ hown (.inr h13)) hsm
theorem eE : ∀(t:Tm) (d:Int),L3t t d
 | t,d=>jL t d fun t' ht'=>eE t' (d-1)
termination_by t=>SizeOf.sizeOf t
decreasing_by exact Tm.kid_lt ht'
end Go.Proofs.Ytfhglkmjibjjoaa

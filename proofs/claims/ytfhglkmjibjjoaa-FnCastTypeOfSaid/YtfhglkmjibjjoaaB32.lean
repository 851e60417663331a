/- A term with other types, by the program (k). And what else its parts name. -/
import Derived.Test.YtfhglkmjibjjoaaB23
import Derived.Test.YtfhglkmjibjjoaaB18
import Derived.Test.YtfhglkmjibjjoaaB31
set_option linter.unusedSimpArgs false
set_option linter.unusedVariables false
set_option maxRecDepth 100000
set_option maxHeartbeats 16000000
namespace Go.Proofs.Ytfhglkmjibjjoaa
open Go.RowKit
theorem ja (G1 G2 G3:Nat->Prop)(nm:ByteArray)(u lb tk fk:Int)(ty src:Ty)(ta fa ca:Option Addr)(tn tq fn fq cm cq:Nat)(w:World)(hty:ai G1 w ty (.agg #[.int .i64 tk,.slice ta tn tq]))(hsrc:ai G2 w src (.agg #[.int .i64 fk,.slice fa fn fq]))(y:Value)(h1:S)(hv1:h1.vd=true)(hy:av G3 w [h1.ty] y) :
  Calls Try.prog 60 #[.agg (nv 11 nm u tk ta tn tq fk fa fn fq lb ca cm cq),y] w (aX ((bi 11 ty [h1]).map S.ty) w):=by
 obtain⟨b,off,cap,k1,c1,m1,q1,rfl,hlb,e1a,e1b,ht1⟩:=hy.one;obtain⟨O,hOO⟩ : ∃O:Option Ty,O=((bi 11 ty [h1]).map S.ty):=⟨_,rfl⟩
 rw[<-hOO];have HO:=zq hOO;clear hOO;have HOO:=zq (nH (k:=11) (ty:=ty) (h:=h1) (by omega));have H1:=zq ht1.old;have HC1:=zq (dq hv1);have HM:=zq (fun W (h:Below w.heap.size w W)=>di _ h1 5 (.inr rfl) HC1.out _ W (H1.out.below h));generalize h1.mat 5=mm at HOO HM;obtain⟨ma,mb,okk⟩:=mm;simp only at HOO HM;have fR0:=aA (w:=w.alloc (.cells (nv 11 nm u tk ta tn tq fk fa fn fq lb ca cm cq) 28)) (o:=.cells #[.int .i64 0,.slice none 0 0] 25) (b:=w.heap.size+1) (by simp);have HBV:=zq (show Below w.heap.size w ((w.alloc (.cells (nv 11 nm u tk ta tn tq fk fa fn fq lb ca cm cq) 28)).alloc (.cells #[.int .i64 0,.slice none 0 0] 25)) from al ag ag);have m0:=af (ag (o:=.cells (nv 11 nm u tk ta tn tq fk fa fn fq lb ca cm cq) 28)) e1a;have m1:=af (ag (o:=.cells (nv 11 nm u tk ta tn tq fk fa fn fq lb ca cm cq) 28)) e1b;have lb1:b<w.heap.size+1:=by omega
 have lb2:b<w.heap.size+1+1:=by omega
 clear hty hsrc hy ht1 hv1
 go_enter Try.func60,Try.ntmps60
 go_wp2_with fail
 refine(HM.out _ HBV.out).mono ?_;rintro e w3 ⟨ya,yb,rfl,hab,hst⟩;obtain⟨k3,a3,n3,q3,k4,a4,n4,q4,rfl,rfl⟩:=hab.shape;obtain⟨fa_,fb_,oa_,ob_,-,hBB⟩:=hab;have HYA:=zq (oa_.rep.move (.weaken (G:=fun x=>((w.alloc (.cells (nv 11 nm u tk ta tn tq fk fa fn fq lb ca cm cq) 28)).alloc (.cells #[.int .i64 0,.slice none 0 0] 25)).heap.size<=x∧x<w3.heap.size) fun b h hl=>⟨hBB b (by simp[h]),hl⟩));have HYB:=zq (ob_.rep.move (.weaken (G:=fun x=>((w.alloc (.cells (nv 11 nm u tk ta tn tq fk fa fn fq lb ca cm cq) 28)).alloc (.cells #[.int .i64 0,.slice none 0 0] 25)).heap.size<=x∧x<w3.heap.size) fun b h hl=>⟨hBB b (by simp[h]),hl⟩));have fR3:=a9 fR0 hst;have fC3:=zq (al HBV.out hst);have z3:=hst.size;simp only[World.size_alloc] at z3;clear oa_ ob_ hBB hst;obtain⟨r0,r1⟩:=blk2 fR3;have rf0:=aj fR3 0;have rf1:=aj fR3 1;have lR:=aw fR3;have lR1:w.heap.size+1<w3.heap.size+1:=by omega
 have lR2:w.heap.size+1<w3.heap.size+1+1:=by omega
 clear m0 m1
 go_wp2_with fail
 have hY:((((w3.setCell ⟨w.heap.size+1,0,none⟩ (.int .i64 k3)).setCell ⟨w.heap.size+1,1,none⟩ (.slice a3 n3 q3)).alloc (.cells #[.int .i64 k3,.slice a3 n3 q3] 25)).alloc (.cells #[.int .i64 k4,.slice a4 n4 q4] 25)).heap[w.heap.size+1]?=some (.cells #[.int .i64 k3,.slice a3 n3 q3] 25 (0,0)):=a9 (a9 (az (az fR3 rfl) rfl) ag) ag;obtain⟨rc0,rc1⟩:=blk2 hY;refine bq (.tuple #[.agg #[.int .i64 k3,.slice a3 n3 q3],.bool okk]) (by simp[results,Try.results60,go_sem,rc0,rc1]) ?_;have HN:O=if okk=true then some ma.ty else none:=by rw[HO.out,HOO.out];cases okk<;>rfl
 have hne : ∀b,(((w.alloc (.cells (nv 11 nm u tk ta tn tq fk fa fn fq lb ca cm cq) 28)).alloc (.cells #[.int .i64 0,.slice none 0 0] 25)).heap.size<=b∧b<w3.heap.size)->b≠w.heap.size+1:=fun b h=>by have:=h.1;simp at this;omega
 exact⟨_,_,_,_,_,ma.ty,rfl,by rw[HN];cases okk<;>rfl,(((ai.setN (ai.setN HYA.out hne) hne).below ag).below ag).move (.weaken fun b h _=>.inr (by have h1:=h.1;simp at h1;omega)),(by rw[HN];intro s h;cases okk with | false=>cases h | true=>exact Option.some.inj h),al (al ((fC3.out.setCell (p:=⟨w.heap.size+1,0,none⟩) (by show w.heap.size<=w.heap.size+1;omega) _).setCell (p:=⟨w.heap.size+1,1,none⟩) (by show w.heap.size<=w.heap.size+1;omega) _) ag) ag⟩
theorem jb (G1 G2 G3:Nat->Prop)(nm:ByteArray)(u lb tk fk:Int)(ty src:Ty)(ta fa ca:Option Addr)(tn tq fn fq cm cq:Nat)(w:World)(hty:ai G1 w ty (.agg #[.int .i64 tk,.slice ta tn tq]))(hsrc:ai G2 w src (.agg #[.int .i64 fk,.slice fa fn fq]))(y:Value)(h1:S)(hv1:h1.vd=true)(hy:av G3 w [h1.ty] y) :
  Calls Try.prog 60 #[.agg (nv 12 nm u tk ta tn tq fk fa fn fq lb ca cm cq),y] w (aX ((bi 12 ty [h1]).map S.ty) w):=by
 obtain⟨b,off,cap,k1,c1,m1,q1,rfl,hlb,e1a,e1b,ht1⟩:=hy.one;obtain⟨O,hOO⟩ : ∃O:Option Ty,O=((bi 12 ty [h1]).map S.ty):=⟨_,rfl⟩
 rw[<-hOO];have HO:=zq hOO;clear hOO;have HOO:=zq (nH (k:=12) (ty:=ty) (h:=h1) (by omega));have H1:=zq ht1.old;have HC1:=zq (dq hv1);have HM:=zq (fun W (h:Below w.heap.size w W)=>di _ h1 5 (.inr rfl) HC1.out _ W (H1.out.below h));generalize h1.mat 5=mm at HOO HM;obtain⟨ma,mb,okk⟩:=mm;simp only at HOO HM;have fR0:=aA (w:=w.alloc (.cells (nv 12 nm u tk ta tn tq fk fa fn fq lb ca cm cq) 28)) (o:=.cells #[.int .i64 0,.slice none 0 0] 25) (b:=w.heap.size+1) (by simp);have HBV:=zq (show Below w.heap.size w ((w.alloc (.cells (nv 12 nm u tk ta tn tq fk fa fn fq lb ca cm cq) 28)).alloc (.cells #[.int .i64 0,.slice none 0 0] 25)) from al ag ag);have m0:=af (ag (o:=.cells (nv 12 nm u tk ta tn tq fk fa fn fq lb ca cm cq) 28)) e1a;have m1:=af (ag (o:=.cells (nv 12 nm u tk ta tn tq fk fa fn fq lb ca cm cq) 28)) e1b;have lb1:b<w.heap.size+1:=by omega
 have lb2:b<w.heap.size+1+1:=by omega
 clear hty hsrc hy ht1 hv1
 go_enter Try.func60,Try.ntmps60
 go_wp2_with fail
 refine(HM.out _ HBV.out).mono ?_;rintro e w3 ⟨ya,yb,rfl,hab,hst⟩;obtain⟨k3,a3,n3,q3,k4,a4,n4,q4,rfl,rfl⟩:=hab.shape;obtain⟨fa_,fb_,oa_,ob_,-,hBB⟩:=hab;have HYA:=zq (oa_.rep.move (.weaken (G:=fun x=>((w.alloc (.cells (nv 12 nm u tk ta tn tq fk fa fn fq lb ca cm cq) 28)).alloc (.cells #[.int .i64 0,.slice none 0 0] 25)).heap.size<=x∧x<w3.heap.size) fun b h hl=>⟨hBB b (by simp[h]),hl⟩));have HYB:=zq (ob_.rep.move (.weaken (G:=fun x=>((w.alloc (.cells (nv 12 nm u tk ta tn tq fk fa fn fq lb ca cm cq) 28)).alloc (.cells #[.int .i64 0,.slice none 0 0] 25)).heap.size<=x∧x<w3.heap.size) fun b h hl=>⟨hBB b (by simp[h]),hl⟩));have fR3:=a9 fR0 hst;have fC3:=zq (al HBV.out hst);have z3:=hst.size;simp only[World.size_alloc] at z3;clear oa_ ob_ hBB hst;obtain⟨r0,r1⟩:=blk2 fR3;have rf0:=aj fR3 0;have rf1:=aj fR3 1;have lR:=aw fR3;have lR1:w.heap.size+1<w3.heap.size+1:=by omega
 have lR2:w.heap.size+1<w3.heap.size+1+1:=by omega
 clear m0 m1
 go_wp2_with fail
 have hY:((((w3.setCell ⟨w.heap.size+1,0,none⟩ (.int .i64 k4)).setCell ⟨w.heap.size+1,1,none⟩ (.slice a4 n4 q4)).alloc (.cells #[.int .i64 k3,.slice a3 n3 q3] 25)).alloc (.cells #[.int .i64 k4,.slice a4 n4 q4] 25)).heap[w.heap.size+1]?=some (.cells #[.int .i64 k4,.slice a4 n4 q4] 25 (0,0)):=a9 (a9 (az (az fR3 rfl) rfl) ag) ag;obtain⟨rc0,rc1⟩:=blk2 hY;refine bq (.tuple #[.agg #[.int .i64 k4,.slice a4 n4 q4],.bool okk]) (by simp[results,Try.results60,go_sem,rc0,rc1]) ?_;have HN:O=if okk=true then some mb.ty else none:=by rw[HO.out,HOO.out];cases okk<;>rfl
 have hne : ∀b,(((w.alloc (.cells (nv 12 nm u tk ta tn tq fk fa fn fq lb ca cm cq) 28)).alloc (.cells #[.int .i64 0,.slice none 0 0] 25)).heap.size<=b∧b<w3.heap.size)->b≠w.heap.size+1:=fun b h=>by have:=h.1;simp at this;omega
 exact⟨_,_,_,_,_,mb.ty,rfl,by rw[HN];cases okk<;>rfl,(((ai.setN (ai.setN HYB.out hne) hne).below ag).below ag).move (.weaken fun b h _=>.inr (by have h1:=h.1;simp at h1;omega)),(by rw[HN];intro s h;cases okk with | false=>cases h | true=>exact Option.some.inj h),al (al ((fC3.out.setCell (p:=⟨w.heap.size+1,0,none⟩) (by show w.heap.size<=w.heap.size+1;omega) _).setCell (p:=⟨w.heap.size+1,1,none⟩) (by show w.heap.size<=w.heap.size+1;omega) _) ag) ag⟩
theorem it (G1 G2 G3:Nat->Prop)(nm:ByteArray)(u lb tk fk:Int)(ty src:Ty)(ta fa ca:Option Addr)(tn tq fn fq cm cq:Nat)(w:World)(hty:ai G1 w ty (.agg #[.int .i64 tk,.slice ta tn tq]))(hsrc:ai G2 w src (.agg #[.int .i64 fk,.slice fa fn fq]))(y:Value)(h1 h2:S)(hd:(h1.mat 4).2.2=false)(hv1:h1.vd=true)(hv2:h2.vd=true)(hy:av G3 w [h1.ty,h2.ty] y) :
  Calls Try.prog 60 #[.agg (nv 6 nm u tk ta tn tq fk fa fn fq lb ca cm cq),y] w (aX ((bi 6 ty [h1,h2]).map S.ty) w):=by
 obtain⟨b,off,cap,k1,c1,m1,q1,k2,c2,m2,q2,rfl,-,-,hlb,e1a,e1b,e2a,e2b,ht1,ht2⟩:=hy.two;obtain⟨O,hOO⟩ : ∃O:Option Ty,O=((bi 6 ty [h1,h2]).map S.ty):=⟨_,rfl⟩
 rw[<-hOO];have HO:=zq hOO;clear hOO;have HOO:=zq (show bi 6 ty [h1,h2]=if ((h1.mat 4).2.2&&h2.cons (h1.mat 4).1)=true then some (h1.mat 4).2.1 else none from by simp only[bi,if_true]);have H1:=zq ht1.old;have H2:=zq ht2.old;have HC1:=zq (dq hv1);have HM:=zq (fun W (h:Below w.heap.size w W)=>di _ h1 4 (.inl rfl) HC1.out _ W (H1.out.below h));have HMV:=zq (iU (k:=4) hv1);have V2:=zq hv2;generalize h1.mat 4=mm at HOO HM hd HMV;obtain⟨ma,mb,okk⟩:=mm;simp only at HOO HM hd HMV;subst hd;obtain⟨d2,hd2⟩ : ∃d2,h2.cons ma=d2:=⟨_,rfl⟩
 have HD2:=zq hd2;have fR0:=aA (w:=w.alloc (.cells (nv 6 nm u tk ta tn tq fk fa fn fq lb ca cm cq) 28)) (o:=.cells #[.int .i64 0,.slice none 0 0] 25) (b:=w.heap.size+1) (by simp);have HBV:=zq (show Below w.heap.size w ((w.alloc (.cells (nv 6 nm u tk ta tn tq fk fa fn fq lb ca cm cq) 28)).alloc (.cells #[.int .i64 0,.slice none 0 0] 25)) from al ag ag);have m0:=af (ag (o:=.cells (nv 6 nm u tk ta tn tq fk fa fn fq lb ca cm cq) 28)) e1a;have m1:=af (ag (o:=.cells (nv 6 nm u tk ta tn tq fk fa fn fq lb ca cm cq) 28)) e1b;have lb1:b<w.heap.size+1:=by omega
 have lb2:b<w.heap.size+1+1:=by omega
 clear hty hsrc hy ht1 ht2 hv1 hv2 hd2
 go_enter Try.func60,Try.ntmps60
 go_wp2_with fail
 refine(HM.out _ HBV.out).mono ?_;rintro e w3 ⟨ya,yb,rfl,hab,hst⟩;obtain⟨k3,a3,n3,q3,k4,a4,n4,q4,rfl,rfl⟩:=hab.shape;obtain⟨fa_,fb_,oa_,ob_,-,hBB⟩:=hab;have HYA:=zq (oa_.rep.move (.weaken (G:=fun x=>((w.alloc (.cells (nv 6 nm u tk ta tn tq fk fa fn fq lb ca cm cq) 28)).alloc (.cells #[.int .i64 0,.slice none 0 0] 25)).heap.size<=x∧x<w3.heap.size) fun b h hl=>⟨hBB b (by simp[h]),hl⟩));have HYB:=zq (ob_.rep.move (.weaken (G:=fun x=>((w.alloc (.cells (nv 6 nm u tk ta tn tq fk fa fn fq lb ca cm cq) 28)).alloc (.cells #[.int .i64 0,.slice none 0 0] 25)).heap.size<=x∧x<w3.heap.size) fun b h hl=>⟨hBB b (by simp[h]),hl⟩));have fR3:=a9 fR0 hst;have fC3:=zq (al HBV.out hst);have z3:=hst.size;simp only[World.size_alloc] at z3;clear oa_ ob_ hBB hst;simp only[World.size_alloc] at HYA HYB;clear m0 m1
 go_wp2_with fail
 generalize hVV:World.alloc (World.alloc w3 _) _=VV;obtain⟨hv,o1,o2,zV⟩:=bO hVV;have fR:=a9 fR3 hv;have fA:=o1;have fB:=o2;have fC:=zq (al fC3.out hv);have hA:=zq (HYA.out.below hv);have hB_:=zq (HYB.out.below hv);clear hv o1 o2;refine wh4 (bc0 fA) (bc1 fA) (bc0 fB) (bc1 fB) (fun U7 hb zU7a zU7b hH0=>?_);replace fR:=a9 fR hb;replace fA:=a9 fA hb;replace fB:=a9 fB hb;replace fC:=mh hb fC;replace hA:=mh hb hA;replace hB_:=mh hb hB_;rw[zV] at zU7a zU7b;clear hb hVV zV;refine hwq hx0 (.agg #[.int .i64 k4,.slice a4 n4 q4]) hH0 ?_;refine hwq hx1 (.bool false) hH0 ?_;refine hwq hx2 (.bool false) hH0 ?_;refine hwu hx3 hH0 ?_;refine hwu hx4 hH0 ?_;refine hwu hx5 hH0 ?_;refine hwu hx6 hH0 ?_;refine hwu hx7 hH0 ?_;refine hwq hx8 (.bool false) hH0 ?_;refine hwe hx9 (fun K hK=>?_);obtain⟨r0,r1,rf0,rf1⟩:=b8 fR
 go_simp
 (try go_wp2_with fail);have hQq:=aJ fR (.int .i64 k4) (.slice a4 n4 q4);clear fR r0 rf0 r1 rf1;obtain⟨X1,hXq,hsq,fR,zX1a,zX1b⟩:=hQq;rw[hXq];replace fA:=hsq.bk fA;replace fB:=hsq.bk fB;replace fC:=hsq.be fC;replace hA:=zq (hsq.rep (fun b hb=>by have h1:=hb.1;have h2:=hb.2;omega) hA.out);replace hB_:=zq (hsq.rep (fun b hb=>by have h1:=hb.1;have h2:=hb.2;omega) hB_.out);refine hko hK (fun hH1=>?_);clear hK K hH0 hsq hXq
 try simp only[hwA]
 refine hwq bd (.bool false) hH1 ?_;refine hwd ?_;clear hH1;have HN:O=none:=by rw[HO.out,HOO.out];rfl
 obtain⟨rc0,rc1⟩:=blk2 fR
 go_wp2_with fail
 refine bq (.tuple #[.agg #[.int .i64 k4,.slice a4 n4 q4],.bool false]) (by simp[results,Try.results60,go_sem,rc0,rc1]) ?_
 exact⟨_,_,_,_,_,mb.ty,rfl,by rw[HN];rfl,hB_.out.move (.weaken fun b h _=>.inr (by have h1:=h.1;omega)),(by rw[HN];intro s h;cases h),fC.out⟩
theorem iu (G1 G2 G3:Nat->Prop)(nm:ByteArray)(u lb tk fk:Int)(ty src:Ty)(ta fa ca:Option Addr)(tn tq fn fq cm cq:Nat)(w:World)(hty:ai G1 w ty (.agg #[.int .i64 tk,.slice ta tn tq]))(hsrc:ai G2 w src (.agg #[.int .i64 fk,.slice fa fn fq]))(y:Value)(h1 h2:S)(hd:(h1.mat 4).2.2=true)(hv1:h1.vd=true)(hv2:h2.vd=true)(hy:av G3 w [h1.ty,h2.ty] y) :
  Calls Try.prog 60 #[.agg (nv 6 nm u tk ta tn tq fk fa fn fq lb ca cm cq),y] w (aX ((bi 6 ty [h1,h2]).map S.ty) w):=by
 obtain⟨b,off,cap,k1,c1,m1,q1,k2,c2,m2,q2,rfl,-,-,hlb,e1a,e1b,e2a,e2b,ht1,ht2⟩:=hy.two;obtain⟨O,hOO⟩ : ∃O:Option Ty,O=((bi 6 ty [h1,h2]).map S.ty):=⟨_,rfl⟩
 rw[<-hOO];have HO:=zq hOO;clear hOO;have HOO:=zq (show bi 6 ty [h1,h2]=if ((h1.mat 4).2.2&&h2.cons (h1.mat 4).1)=true then some (h1.mat 4).2.1 else none from by simp only[bi,if_true]);have H1:=zq ht1.old;have H2:=zq ht2.old;have HC1:=zq (dq hv1);have HM:=zq (fun W (h:Below w.heap.size w W)=>di _ h1 4 (.inl rfl) HC1.out _ W (H1.out.below h));have HMV:=zq (iU (k:=4) hv1);have V2:=zq hv2;generalize h1.mat 4=mm at HOO HM hd HMV;obtain⟨ma,mb,okk⟩:=mm;simp only at HOO HM hd HMV;subst hd;obtain⟨d2,hd2⟩ : ∃d2,h2.cons ma=d2:=⟨_,rfl⟩
 have HD2:=zq hd2;have fR0:=aA (w:=w.alloc (.cells (nv 6 nm u tk ta tn tq fk fa fn fq lb ca cm cq) 28)) (o:=.cells #[.int .i64 0,.slice none 0 0] 25) (b:=w.heap.size+1) (by simp);have HBV:=zq (show Below w.heap.size w ((w.alloc (.cells (nv 6 nm u tk ta tn tq fk fa fn fq lb ca cm cq) 28)).alloc (.cells #[.int .i64 0,.slice none 0 0] 25)) from al ag ag);have m0:=af (ag (o:=.cells (nv 6 nm u tk ta tn tq fk fa fn fq lb ca cm cq) 28)) e1a;have m1:=af (ag (o:=.cells (nv 6 nm u tk ta tn tq fk fa fn fq lb ca cm cq) 28)) e1b;have lb1:b<w.heap.size+1:=by omega
 have lb2:b<w.heap.size+1+1:=by omega
 clear hty hsrc hy ht1 ht2 hv1 hv2 hd2
 go_enter Try.func60,Try.ntmps60
 go_wp2_with fail
 refine(HM.out _ HBV.out).mono ?_;rintro e w3 ⟨ya,yb,rfl,hab,hst⟩;obtain⟨k3,a3,n3,q3,k4,a4,n4,q4,rfl,rfl⟩:=hab.shape;obtain⟨fa_,fb_,oa_,ob_,-,hBB⟩:=hab;have HYA:=zq (oa_.rep.move (.weaken (G:=fun x=>((w.alloc (.cells (nv 6 nm u tk ta tn tq fk fa fn fq lb ca cm cq) 28)).alloc (.cells #[.int .i64 0,.slice none 0 0] 25)).heap.size<=x∧x<w3.heap.size) fun b h hl=>⟨hBB b (by simp[h]),hl⟩));have HYB:=zq (ob_.rep.move (.weaken (G:=fun x=>((w.alloc (.cells (nv 6 nm u tk ta tn tq fk fa fn fq lb ca cm cq) 28)).alloc (.cells #[.int .i64 0,.slice none 0 0] 25)).heap.size<=x∧x<w3.heap.size) fun b h hl=>⟨hBB b (by simp[h]),hl⟩));have fR3:=a9 fR0 hst;have fC3:=zq (al HBV.out hst);have z3:=hst.size;simp only[World.size_alloc] at z3;clear oa_ ob_ hBB hst;simp only[World.size_alloc] at HYA HYB;clear m0 m1
 go_wp2_with fail
 generalize hVV:World.alloc (World.alloc w3 _) _=VV;obtain⟨hv,o1,o2,zV⟩:=bO hVV;have fR:=a9 fR3 hv;have fA:=o1;have fB:=o2;have fC:=zq (al fC3.out hv);have hA:=zq (HYA.out.below hv);have hB_:=zq (HYB.out.below hv);have c2a_:=af hv (af fC3.out e2a);have c2b_:=af hv (af fC3.out e2b);have h2_:=zq ((H2.out.below fC3.out).below hv);clear hv o1 o2;refine wh6 (bc0 fA) (bc1 fA) (bc0 fB) (bc1 fB) c2a_ c2b_ (fun U8 hb zU8a zU8b hH0=>?_);replace fR:=a9 fR hb;replace fA:=a9 fA hb;replace fB:=a9 fB hb;replace fC:=mh hb fC;replace hA:=mh hb hA;replace hB_:=mh hb hB_;replace c2a_:=af hb c2a_;replace c2b_:=af hb c2b_;replace h2_:=mh hb h2_;rw[zV] at zU8a zU8b;clear hb hVV zV;refine hwq hx0 (.agg #[.int .i64 k4,.slice a4 n4 q4]) hH0 ?_;refine hwq hx1 (.bool true) hH0 ?_;refine hwq hx2 (.bool true) hH0 ?_;refine hwq hx3 (.slice (some ⟨b,off,none⟩) 2 cap) hH0 ?_;refine hwq hx4 (.pointer (some ⟨b,off+2,none⟩)) hH0 ?_;refine hwq hx5 (.agg #[.int .i64 k2,.slice c2 m2 q2]) hH0 ?_;refine hwq hx6 (.agg #[.int .i64 k3,.slice a3 n3 q3]) hH0 ?_;refine hwe hx7 (fun K hK=>?_)
 go_simp
 go_at_call 44
 refine(cj _ _ _ _ _ _ _ h2_.out hA.out V2.out (HMV.out (by simp)).1).mono ?_;rintro e X1 ⟨rfl,hb⟩;rw[HD2.out]
 go_wp2_with fail
 have zX1:=hb.size;replace fR:=a9 fR hb;replace fA:=a9 fA hb;replace fB:=a9 fB hb;replace fC:=mh hb fC;replace hA:=mh hb hA;replace hB_:=mh hb hB_;replace c2a_:=af hb c2a_;replace c2b_:=af hb c2b_;replace h2_:=mh hb h2_;refine hko hK (fun hH1=>?_);clear hK K hH0 hb
 try simp only[hwA]
 refine hwq hx8 (.bool d2) hH1 ?_;refine hwe hx9 (fun K hK=>?_);obtain⟨r0,r1,rf0,rf1⟩:=b8 fR
 go_simp
 (try go_wp2_with fail);have hQq:=aJ fR (.int .i64 k4) (.slice a4 n4 q4);clear fR r0 rf0 r1 rf1;obtain⟨X2,hXq,hsq,fR,zX2a,zX2b⟩:=hQq;rw[hXq];replace fA:=hsq.bk fA;replace fB:=hsq.bk fB;replace fC:=hsq.be fC;replace hA:=zq (hsq.rep (fun b hb=>by have h1:=hb.1;have h2:=hb.2;omega) hA.out);replace hB_:=zq (hsq.rep (fun b hb=>by have h1:=hb.1;have h2:=hb.2;omega) hB_.out);replace c2a_:=hsq.cq c2a_;replace c2b_:=hsq.cq c2b_;replace h2_:=zq (hsq.rep (fun b hb=>by have:b<w.heap.size:=hb;omega) h2_.out);refine hko hK (fun hH2=>?_);clear hK K hH1 hsq hXq
 try simp only[hwA]
 refine hwq bd (.bool d2) hH2 ?_;refine hwd ?_;clear hH2;have HN:O=if d2=true then some mb.ty else none:=by rw[HO.out,HOO.out];rw[HD2.out];cases d2<;>rfl
 obtain⟨rc0,rc1⟩:=blk2 fR
 go_wp2_with fail
 refine bq (.tuple #[.agg #[.int .i64 k4,.slice a4 n4 q4],.bool d2]) (by simp[results,Try.results60,go_sem,rc0,rc1]) ?_
 exact⟨_,_,_,_,_,mb.ty,rfl,by rw[HN];cases d2<;>rfl,hB_.out.move (.weaken fun b h _=>.inr (by have h1:=h.1;omega)),(by rw[HN];intro s h;cases d2 with | false=>cases h | true=>exact Option.some.inj h),fC.out⟩
theorem S.ty_meetT : ∀s u:S,s.cons u=true->s.ty.meet u.ty=(s.meet u).ty:=by
 intro s
 induction s with
 | fn a b ha hb=>
  intro u h
  cases u<;>simp[S.cons] at h
  ·simp[S.ty,Ty.meet,S.meet]
  ·simp[S.ty,Ty.meet,Ty.meets,S.meet,ha _ h.1,hb _ h.2]
 | pr a b ha hb=>
  intro u h
  cases u<;>simp[S.cons] at h
  ·simp[S.ty,Ty.meet,S.meet]
  ·simp[S.ty,Ty.meet,Ty.meets,S.meet,ha _ h.1,hb _ h.2]
 | _=>intro u h;cases u<;>simp[S.cons] at h<;>simp[S.ty,Ty.meet,Ty.meets,S.meet]
theorem iz (G1 G2 G3:Nat->Prop)(nm:ByteArray)(u lb tk fk:Int)(ty src:Ty)(ta fa ca:Option Addr)(tn tq fn fq cm cq:Nat)(w:World)(hty:ai G1 w ty (.agg #[.int .i64 tk,.slice ta tn tq]))(hsrc:ai G2 w src (.agg #[.int .i64 fk,.slice fa fn fq]))(y:Value)(h1 h2 h3:S)(d2:h2.cons h3=false)(hv1:h1.vd=true)(hv2:h2.vd=true)(hv3:h3.vd=true)(hy:av G3 w [h1.ty,h2.ty,h3.ty] y) :
  Calls Try.prog 60 #[.agg (nv 9 nm u tk ta tn tq fk fa fn fq lb ca cm cq),y] w (aX ((bi 9 ty [h1,h2,h3]).map S.ty) w):=by
 obtain⟨b,off,cap,k1,c1,m1,q1,k2,c2,m2,q2,k3,c3,m3,q3,rfl,hlb,e1a,e1b,e2a,e2b,e3a,e3b,ht1,ht2,ht3⟩:=hy.three;obtain⟨O,hOO⟩ : ∃O:Option Ty,O=((bi 9 ty [h1,h2,h3]).map S.ty):=⟨_,rfl⟩
 rw[<-hOO];have HO:=zq hOO;clear hOO;have D2:=zq d2;have V1:=zq hv1;have V2:=zq hv2;have V3:=zq hv3;obtain⟨d1,hd1⟩ : ∃d1,h1.cons .bool=d1:=⟨_,rfl⟩
 have D1:=zq hd1;clear d2 hv1 hv2 hv3 hd1;have H1:=zq ht1.old;have H2:=zq ht2.old;have H3:=zq ht3.old;clear hty hsrc hy ht1 ht2 ht3
 go_enter Try.func60,Try.ntmps60
 go_wp2_with fail
 generalize hVV:World.alloc (World.alloc w _) _=VV;obtain⟨hv,o1,o2,zV⟩:=bO hVV;have fE:=o1;have fR:=o2;have c1a_:=af hv e1a;have c1b_:=af hv e1b;have h1_:=zq (H1.out.below hv);have c2a_:=af hv e2a;have c2b_:=af hv e2b;have h2_:=zq (H2.out.below hv);have c3a_:=af hv e3a;have c3b_:=af hv e3b;have h3_:=zq (H3.out.below hv);have fC:=zq hv;clear hv o1 o2;refine wh4 c2a_ c2b_ c3a_ c3b_ (fun U9 hb zU9a zU9b hH0=>?_);replace fE:=a9 fE hb;replace fR:=a9 fR hb;replace c1a_:=af hb c1a_;replace c1b_:=af hb c1b_;replace h1_:=mh hb h1_;replace c2a_:=af hb c2a_;replace c2b_:=af hb c2b_;replace h2_:=mh hb h2_;replace c3a_:=af hb c3a_;replace c3b_:=af hb c3b_;replace h3_:=mh hb h3_;replace fC:=mh hb fC;rw[zV] at zU9a zU9b;clear hb hVV zV;refine hwq hx0 (.slice (some ⟨b,off,none⟩) 3 cap) hH0 ?_;refine hwq hx1 (.pointer (some ⟨b,off+2,none⟩)) hH0 ?_;refine hwq hx2 (.agg #[.int .i64 k2,.slice c2 m2 q2]) hH0 ?_;refine hwq hx3 (.slice (some ⟨b,off,none⟩) 3 cap) hH0 ?_;refine hwq hx4 (.pointer (some ⟨b,off+4,none⟩)) hH0 ?_;refine hwq hx5 (.agg #[.int .i64 k3,.slice c3 m3 q3]) hH0 ?_;refine hwe hx6 (fun K hK=>?_)
 go_simp
 go_at_call 44
 refine(cj _ _ _ _ _ _ _ h2_.out h3_.out V2.out V3.out).mono ?_;rintro e X1 ⟨rfl,hb⟩;rw[D2.out]
 go_wp2_with fail
 have zX1:=hb.size;replace fE:=a9 fE hb;replace fR:=a9 fR hb;replace c1a_:=af hb c1a_;replace c1b_:=af hb c1b_;replace h1_:=mh hb h1_;replace c2a_:=af hb c2a_;replace c2b_:=af hb c2b_;replace h2_:=mh hb h2_;replace c3a_:=af hb c3a_;replace c3b_:=af hb c3b_;replace h3_:=mh hb h3_;replace fC:=mh hb fC;refine hko hK (fun hH1=>?_);clear hK K hH0 hb
 try simp only[hwA]
 refine hwq hx7 (.bool true) hH1 ?_;refine hwd ?_;clear hH1;obtain⟨r0,r1,rf0,rf1⟩:=b8 fR
 go_wp2_with fail
 have hY:((X1.setCell ⟨w.heap.size+1,0,none⟩ (.int .i64 0)).setCell ⟨w.heap.size+1,1,none⟩ (.slice none 0 0)).heap[w.heap.size+1]?=some (.cells #[.int .i64 0,.slice none 0 0] 25 (0,0)):=az (az fR rfl) rfl;obtain⟨rc0,rc1⟩:=blk2 hY;refine bq (.tuple #[.agg #[.int .i64 0,.slice none 0 0],.bool false]) (by simp[results,Try.results60,go_sem,rc0,rc1]) ?_;have HN:O=none:=by rw[HO.out];simp only[bi,D2.out];rfl
 exact⟨_,_,_,_,_,_,rfl,by rw[HN];rfl,ai.zeroG,(by rw[HN];intro s h;cases h),(fC.out.setCell (p:=⟨w.heap.size+1,0,none⟩) (by show w.heap.size<=w.heap.size+1;omega) _).setCell (p:=⟨w.heap.size+1,1,none⟩) (by show w.heap.size<=w.heap.size+1;omega) _⟩
theorem iA (G1 G2 G3:Nat->Prop)(nm:ByteArray)(u lb tk fk:Int)(ty src:Ty)(ta fa ca:Option Addr)(tn tq fn fq cm cq:Nat)(w:World)(hty:ai G1 w ty (.agg #[.int .i64 tk,.slice ta tn tq]))(hsrc:ai G2 w src (.agg #[.int .i64 fk,.slice fa fn fq]))(y:Value)(h1 h2 h3:S)(d2:h2.cons h3=true)(hv1:h1.vd=true)(hv2:h2.vd=true)(hv3:h3.vd=true)(hy:av G3 w [h1.ty,h2.ty,h3.ty] y) :
  Calls Try.prog 60 #[.agg (nv 9 nm u tk ta tn tq fk fa fn fq lb ca cm cq),y] w (aX ((bi 9 ty [h1,h2,h3]).map S.ty) w):=by
 obtain⟨b,off,cap,k1,c1,m1,q1,k2,c2,m2,q2,k3,c3,m3,q3,rfl,hlb,e1a,e1b,e2a,e2b,e3a,e3b,ht1,ht2,ht3⟩:=hy.three;obtain⟨O,hOO⟩ : ∃O:Option Ty,O=((bi 9 ty [h1,h2,h3]).map S.ty):=⟨_,rfl⟩
 rw[<-hOO];have HO:=zq hOO;clear hOO;have D2:=zq d2;have V1:=zq hv1;have V2:=zq hv2;have V3:=zq hv3;obtain⟨d1,hd1⟩ : ∃d1,h1.cons .bool=d1:=⟨_,rfl⟩
 have D1:=zq hd1;have HMT:=zq (fun(Fa Fb:Nat->Prop) (ya yb:Value) (W:World) (ha:ai Fa W h2.ty ya) (hb:ai Fb W h3.ty yb)=>(by
   have h:=iY Fa Fb h2.ty h3.ty ya yb W ha hb (by rw[S.ty_cons];exact d2) (S.cnt_ok hv2) (S.cnt_ok hv3)
   rwa [S.ty_meetT _ _ d2] at h:Calls Try.prog 81 #[ya,yb] W (cJ (h2.meet h3).ty W)))
 clear d2 hv1 hv2 hv3 hd1;have H1:=zq ht1.old;have H2:=zq ht2.old;have H3:=zq ht3.old;clear hty hsrc hy ht1 ht2 ht3
 go_enter Try.func60,Try.ntmps60
 go_wp2_with fail
 generalize hVV:World.alloc (World.alloc w _) _=VV;obtain⟨hv,o1,o2,zV⟩:=bO hVV;have fE:=o1;have fR:=o2;have c1a_:=af hv e1a;have c1b_:=af hv e1b;have h1_:=zq (H1.out.below hv);have c2a_:=af hv e2a;have c2b_:=af hv e2b;have h2_:=zq (H2.out.below hv);have c3a_:=af hv e3a;have c3b_:=af hv e3b;have h3_:=zq (H3.out.below hv);have fC:=zq hv;clear hv o1 o2;refine wh4 c2a_ c2b_ c3a_ c3b_ (fun U10 hb zU10a zU10b hH0=>?_);replace fE:=a9 fE hb;replace fR:=a9 fR hb;replace c1a_:=af hb c1a_;replace c1b_:=af hb c1b_;replace h1_:=mh hb h1_;replace c2a_:=af hb c2a_;replace c2b_:=af hb c2b_;replace h2_:=mh hb h2_;replace c3a_:=af hb c3a_;replace c3b_:=af hb c3b_;replace h3_:=mh hb h3_;replace fC:=mh hb fC;rw[zV] at zU10a zU10b;clear hb hVV zV;refine hwq hx0 (.slice (some ⟨b,off,none⟩) 3 cap) hH0 ?_;refine hwq hx1 (.pointer (some ⟨b,off+2,none⟩)) hH0 ?_;refine hwq hx2 (.agg #[.int .i64 k2,.slice c2 m2 q2]) hH0 ?_;refine hwq hx3 (.slice (some ⟨b,off,none⟩) 3 cap) hH0 ?_;refine hwq hx4 (.pointer (some ⟨b,off+4,none⟩)) hH0 ?_;refine hwq hx5 (.agg #[.int .i64 k3,.slice c3 m3 q3]) hH0 ?_;refine hwe hx6 (fun K hK=>?_)
 go_simp
 go_at_call 44
 refine(cj _ _ _ _ _ _ _ h2_.out h3_.out V2.out V3.out).mono ?_;rintro e X1 ⟨rfl,hb⟩;rw[D2.out]
 go_wp2_with fail
 have zX1:=hb.size;replace fE:=a9 fE hb;replace fR:=a9 fR hb;replace c1a_:=af hb c1a_;replace c1b_:=af hb c1b_;replace h1_:=mh hb h1_;replace c2a_:=af hb c2a_;replace c2b_:=af hb c2b_;replace h2_:=mh hb h2_;replace c3a_:=af hb c3a_;replace c3b_:=af hb c3b_;replace h3_:=mh hb h3_;replace fC:=mh hb fC;refine hko hK (fun hH1=>?_);clear hK K hH0 hb
 try simp only[hwA]
 refine hwq hx7 (.bool false) hH1 ?_;refine hwd ?_;clear hH1
 go_wp2_with fail
 refine wh6 c1a_ c1b_ c2a_ c2b_ c3a_ c3b_ (fun U11 hb zU11a zU11b hH0=>?_);replace fE:=a9 fE hb;replace fR:=a9 fR hb;replace c1a_:=af hb c1a_;replace c1b_:=af hb c1b_;replace h1_:=mh hb h1_;replace c2a_:=af hb c2a_;replace c2b_:=af hb c2b_;replace h2_:=mh hb h2_;replace c3a_:=af hb c3a_;replace c3b_:=af hb c3b_;replace h3_:=mh hb h3_;replace fC:=mh hb fC;clear hb;refine hwq hx0 (.slice (some ⟨b,off,none⟩) 3 cap) hH0 ?_;refine hwq hx1 (.pointer (some ⟨b,off+2,none⟩)) hH0 ?_;refine hwq hx2 (.agg #[.int .i64 k2,.slice c2 m2 q2]) hH0 ?_;refine hwq hx3 (.slice (some ⟨b,off,none⟩) 3 cap) hH0 ?_;refine hwq hx4 (.pointer (some ⟨b,off+4,none⟩)) hH0 ?_;refine hwq hx5 (.agg #[.int .i64 k3,.slice c3 m3 q3]) hH0 ?_;refine hwq hx7 (.slice (some ⟨b,off,none⟩) 3 cap) hH0 ?_;refine hwq hx8 (.pointer (some ⟨b,off,none⟩)) hH0 ?_;refine hwq hx9 (.agg #[.int .i64 k1,.slice c1 m1 q1]) hH0 ?_;refine hwe hx6 (fun K hK=>?_)
 go_simp
 go_at_call 81
 refine(HMT.out _ _ _ _ _ h2_.out h3_.out).mono ?_;rintro e X22 ⟨v,rfl,hv,hb⟩;obtain⟨km,am,nx,qm,rfl⟩:=hv.shape;have hM':=hv.rep.rg;clear hv
 go_wp2_with fail
 have zX22:=hb.size;replace fE:=a9 fE hb;replace fR:=a9 fR hb;replace c1a_:=af hb c1a_;replace c1b_:=af hb c1b_;replace h1_:=mh hb h1_;replace c2a_:=af hb c2a_;replace c2b_:=af hb c2b_;replace h2_:=mh hb h2_;replace c3a_:=af hb c3a_;replace c3b_:=af hb c3b_;replace h3_:=mh hb h3_;replace fC:=mh hb fC;have hM:=hM';clear hM';refine hko hK (fun hH42=>?_);clear hK K hH0 hb
 try simp only[hwA]
 refine hwe bd (fun K hK=>?_)
 go_simp
 go_at_call 59
 refine(bX _).mono ?_;rintro e X23 ⟨rfl,hb⟩
 go_wp2_with fail
 have zX23:=hb.size;replace fE:=a9 fE hb;replace fR:=a9 fR hb;replace c1a_:=af hb c1a_;replace c1b_:=af hb c1b_;replace h1_:=mh hb h1_;replace c2a_:=af hb c2a_;replace c2b_:=af hb c2b_;replace h2_:=mh hb h2_;replace c3a_:=af hb c3a_;replace c3b_:=af hb c3b_;replace h3_:=mh hb h3_;replace fC:=mh hb fC;replace hM:=mh hb hM;refine hko hK (fun hH43=>?_);clear hK K hH42 hb
 try simp only[hwA]
 refine hwe bl (fun K hK=>?_)
 go_simp
 go_at_call 44
 refine(cj _ _ _ S.bool _ _ _ h1_.out (ai.leaf 3) V1.out rfl).mono ?_;rintro e X24 ⟨rfl,hb⟩;rw[D1.out]
 go_wp2_with fail
 have zX24:=hb.size;replace fE:=a9 fE hb;replace fR:=a9 fR hb;replace c1a_:=af hb c1a_;replace c1b_:=af hb c1b_;replace h1_:=mh hb h1_;replace c2a_:=af hb c2a_;replace c2b_:=af hb c2b_;replace h2_:=mh hb h2_;replace c3a_:=af hb c3a_;replace c3b_:=af hb c3b_;replace h3_:=mh hb h3_;replace fC:=mh hb fC;replace hM:=mh hb hM;refine hko hK (fun hH44=>?_);clear hK K hH43 hb
 try simp only[hwA]
 refine hwe bz (fun K hK=>?_);obtain⟨r0,r1,rf0,rf1⟩:=b8 fR
 go_simp
 (try go_wp2_with fail);have hQq:=aJ fR (.int .i64 km) (.slice am nx qm);clear fR r0 rf0 r1 rf1;obtain⟨X25,hXq,hsq,fR,zX25a,zX25b⟩:=hQq;rw[hXq];replace fE:=hsq.bk fE;replace c1a_:=hsq.cq c1a_;replace c1b_:=hsq.cq c1b_;replace h1_:=zq (hsq.rep (fun b hb=>by have:b<w.heap.size:=hb;omega) h1_.out);replace c2a_:=hsq.cq c2a_;replace c2b_:=hsq.cq c2b_;replace h2_:=zq (hsq.rep (fun b hb=>by have:b<w.heap.size:=hb;omega) h2_.out);replace c3a_:=hsq.cq c3a_;replace c3b_:=hsq.cq c3b_;replace h3_:=zq (hsq.rep (fun b hb=>by have:b<w.heap.size:=hb;omega) h3_.out);replace fC:=hsq.be fC;replace hM:=zq (hsq.rep (fun b hb=>by have h1:U11.heap.size<=b:=hb.1;have h2:b<X22.heap.size:=hb.2;omega) hM.out);refine hko hK (fun hH45=>?_);clear hK K hH44 hsq hXq
 try simp only[hwA]
 refine hwq bA (.bool d1) hH45 ?_;refine hwd ?_;clear hH45;have HN:O=if d1=true then some (h2.meet h3).ty else none:=by rw[HO.out];simp only[bi,D2.out,D1.out,Bool.true_and];cases d1<;>rfl
 obtain⟨rc0,rc1⟩:=blk2 fR
 go_wp2_with fail
 refine bq (.tuple #[.agg #[.int .i64 km,.slice am nx qm],.bool d1]) (by simp[results,Try.results60,go_sem,rc0,rc1]) ?_
 exact⟨_,_,_,_,_,(h2.meet h3).ty,rfl,by rw[HN];cases d1<;>rfl,hM.out.move (.weaken fun b h _=>.inr (by have h1:=h.1;omega)),(by rw[HN];intro s h;cases d1 with | false=>cases h | true=>exact Option.some.inj h),fC.out⟩
end Go.Proofs.Ytfhglkmjibjjoaa

/- spec.l3Result at sums, comparisons, pairs, statements of a type. And what else its parts name. -/
import Derived.Test.YtfhglkmjibjjoaaB18
set_option linter.unusedSimpArgs false
set_option linter.unusedVariables false
set_option maxRecDepth 100000
set_option maxHeartbeats 16000000
namespace Go.Proofs.Ytfhglkmjibjjoaa
open Go.RowKit
theorem iv (G1 G2 G3:Nat->Prop)(nm:ByteArray)(u lb tk fk:Int)(ty src:Ty)(ta fa ca:Option Addr)(tn tq fn fq cm cq:Nat)(w:World)(hty:ai G1 w ty (.agg #[.int .i64 tk,.slice ta tn tq]))(hsrc:ai G2 w src (.agg #[.int .i64 fk,.slice fa fn fq]))(y:Value)(h1 h2:S)(d1:h1.cons .int=false)(hv1:h1.vd=true)(hv2:h2.vd=true)(hy:av G3 w [h1.ty,h2.ty] y) :
  Calls Try.prog 60 #[.agg (nv 7 nm u tk ta tn tq fk fa fn fq lb ca cm cq),y] w (aX ((bi 7 ty [h1,h2]).map S.ty) w):=by
 obtain⟨b,off,cap,k1,c1,m1,q1,k2,c2,m2,q2,rfl,-,-,hlb,e1a,e1b,e2a,e2b,ht1,ht2⟩:=hy.two;obtain⟨O,hOO⟩ : ∃O:Option Ty,O=((bi 7 ty [h1,h2]).map S.ty):=⟨_,rfl⟩
 rw[<-hOO];have HO:=zq hOO;clear hOO;have HOO:=zq (l6 (k:=7) (ty:=ty) (g:=h1) (h:=h2) (by omega));obtain⟨d2,hd2⟩ : ∃d2,h2.cons .int=d2:=⟨_,rfl⟩
 have D1:=zq d1;have D2:=zq hd2;have V1:=zq hv1;have V2:=zq hv2;clear d1 hd2 hv1 hv2;have H1:=zq ht1.old;have H2:=zq ht2.old;clear hty hsrc hy ht1 ht2
 go_enter Try.func60,Try.ntmps60
 go_wp2_with fail
 generalize hVV:World.alloc (World.alloc w _) _=VV;obtain⟨hv,o1,o2,zV⟩:=bO hVV;have fE:=o1;have fR:=o2;have c1a_:=af hv e1a;have c1b_:=af hv e1b;have h1_:=zq (H1.out.below hv);have c2a_:=af hv e2a;have c2b_:=af hv e2b;have h2_:=zq (H2.out.below hv);have fC:=zq hv;clear hv o1 o2;refine wh4 c1a_ c1b_ c2a_ c2b_ (fun U1 hb zU1a zU1b hH0=>?_);replace fE:=a9 fE hb;replace fR:=a9 fR hb;replace c1a_:=af hb c1a_;replace c1b_:=af hb c1b_;replace h1_:=mh hb h1_;replace c2a_:=af hb c2a_;replace c2b_:=af hb c2b_;replace h2_:=mh hb h2_;replace fC:=mh hb fC;rw[zV] at zU1a zU1b;clear hb hVV zV;refine hwq hx1 (.slice (some ⟨b,off,none⟩) 2 cap) hH0 ?_;refine hwq hx2 (.pointer (some ⟨b,off,none⟩)) hH0 ?_;refine hwq hx3 (.agg #[.int .i64 k1,.slice c1 m1 q1]) hH0 ?_;refine hwe hx0 (fun K hK=>?_)
 go_simp
 go_at_call 58
 refine(b7 _).mono ?_;rintro e X1 ⟨rfl,hb⟩
 go_wp2_with fail
 have zX1:=hb.size;replace fE:=a9 fE hb;replace fR:=a9 fR hb;replace c1a_:=af hb c1a_;replace c1b_:=af hb c1b_;replace h1_:=mh hb h1_;replace c2a_:=af hb c2a_;replace c2b_:=af hb c2b_;replace h2_:=mh hb h2_;replace fC:=mh hb fC;refine hko hK (fun hH1=>?_);clear hK K hH0 hb
 try simp only[hwA]
 refine hwe hx4 (fun K hK=>?_)
 go_simp
 go_at_call 58
 refine(b7 _).mono ?_;rintro e X2 ⟨rfl,hb⟩
 go_wp2_with fail
 have zX2:=hb.size;replace fE:=a9 fE hb;replace fR:=a9 fR hb;replace c1a_:=af hb c1a_;replace c1b_:=af hb c1b_;replace h1_:=mh hb h1_;replace c2a_:=af hb c2a_;replace c2b_:=af hb c2b_;replace h2_:=mh hb h2_;replace fC:=mh hb fC;refine hko hK (fun hH2=>?_);clear hK K hH1 hb
 try simp only[hwA]
 refine hwe hx5 (fun K hK=>?_)
 go_simp
 go_at_call 44
 refine(cj _ _ _ S.int _ _ _ h1_.out (ai.leaf 2) V1.out rfl).mono ?_;rintro e X3 ⟨rfl,hb⟩;rw[D1.out]
 go_wp2_with fail
 have zX3:=hb.size;replace fE:=a9 fE hb;replace fR:=a9 fR hb;replace c1a_:=af hb c1a_;replace c1b_:=af hb c1b_;replace h1_:=mh hb h1_;replace c2a_:=af hb c2a_;replace c2b_:=af hb c2b_;replace h2_:=mh hb h2_;replace fC:=mh hb fC;refine hko hK (fun hH3=>?_);clear hK K hH2 hb
 try simp only[hwA]
 refine hwq hx6 (.bool false) hH3 ?_;refine hwu hx7 hH3 ?_;refine hwu hx8 hH3 ?_;refine hwu hx9 hH3 ?_;refine hwu bd hH3 ?_;refine hwu bl hH3 ?_;refine hwq bz (.bool false) hH3 ?_;refine hwe bA (fun K hK=>?_);obtain⟨r0,r1,rf0,rf1⟩:=b8 fR
 go_simp
 (try go_wp2_with fail);have hQq:=aJ fR (.int .i64 2) (.slice none 0 0);clear fR r0 rf0 r1 rf1;obtain⟨X4,hXq,hsq,fR,zX4a,zX4b⟩:=hQq;rw[hXq];replace fE:=hsq.bk fE;replace c1a_:=hsq.cq c1a_;replace c1b_:=hsq.cq c1b_;replace h1_:=zq (hsq.rep (fun b hb=>by have:b<w.heap.size:=hb;omega) h1_.out);replace c2a_:=hsq.cq c2a_;replace c2b_:=hsq.cq c2b_;replace h2_:=zq (hsq.rep (fun b hb=>by have:b<w.heap.size:=hb;omega) h2_.out);replace fC:=hsq.be fC;refine hko hK (fun hH4=>?_);clear hK K hH3 hsq hXq
 try simp only[hwA]
 refine hwq bB (.bool false) hH4 ?_;refine hwd ?_;clear hH4;have HN:O=none:=by rw[HO.out,HOO.out,D1.out,D2.out];rfl
 obtain⟨rc0,rc1⟩:=blk2 fR
 go_wp2_with fail
 refine bq (.tuple #[.agg #[.int .i64 2,.slice none 0 0],.bool false]) (by simp[results,Try.results60,go_sem,rc0,rc1]) ?_
 exact⟨_,_,_,_,_,.mk 2 [],rfl,by rw[HN];rfl,ai.leafG 2,(by rw[HN];intro s h;cases h),fC.out⟩
theorem iw (G1 G2 G3:Nat->Prop)(nm:ByteArray)(u lb tk fk:Int)(ty src:Ty)(ta fa ca:Option Addr)(tn tq fn fq cm cq:Nat)(w:World)(hty:ai G1 w ty (.agg #[.int .i64 tk,.slice ta tn tq]))(hsrc:ai G2 w src (.agg #[.int .i64 fk,.slice fa fn fq]))(y:Value)(h1 h2:S)(d1:h1.cons .int=true)(hv1:h1.vd=true)(hv2:h2.vd=true)(hy:av G3 w [h1.ty,h2.ty] y) :
  Calls Try.prog 60 #[.agg (nv 7 nm u tk ta tn tq fk fa fn fq lb ca cm cq),y] w (aX ((bi 7 ty [h1,h2]).map S.ty) w):=by
 obtain⟨b,off,cap,k1,c1,m1,q1,k2,c2,m2,q2,rfl,-,-,hlb,e1a,e1b,e2a,e2b,ht1,ht2⟩:=hy.two;obtain⟨O,hOO⟩ : ∃O:Option Ty,O=((bi 7 ty [h1,h2]).map S.ty):=⟨_,rfl⟩
 rw[<-hOO];have HO:=zq hOO;clear hOO;have HOO:=zq (l6 (k:=7) (ty:=ty) (g:=h1) (h:=h2) (by omega));obtain⟨d2,hd2⟩ : ∃d2,h2.cons .int=d2:=⟨_,rfl⟩
 have D1:=zq d1;have D2:=zq hd2;have V1:=zq hv1;have V2:=zq hv2;clear d1 hd2 hv1 hv2;have H1:=zq ht1.old;have H2:=zq ht2.old;clear hty hsrc hy ht1 ht2
 go_enter Try.func60,Try.ntmps60
 go_wp2_with fail
 generalize hVV:World.alloc (World.alloc w _) _=VV;obtain⟨hv,o1,o2,zV⟩:=bO hVV;have fE:=o1;have fR:=o2;have c1a_:=af hv e1a;have c1b_:=af hv e1b;have h1_:=zq (H1.out.below hv);have c2a_:=af hv e2a;have c2b_:=af hv e2b;have h2_:=zq (H2.out.below hv);have fC:=zq hv;clear hv o1 o2;refine wh4 c1a_ c1b_ c2a_ c2b_ (fun U2 hb zU2a zU2b hH0=>?_);replace fE:=a9 fE hb;replace fR:=a9 fR hb;replace c1a_:=af hb c1a_;replace c1b_:=af hb c1b_;replace h1_:=mh hb h1_;replace c2a_:=af hb c2a_;replace c2b_:=af hb c2b_;replace h2_:=mh hb h2_;replace fC:=mh hb fC;rw[zV] at zU2a zU2b;clear hb hVV zV;refine hwq hx1 (.slice (some ⟨b,off,none⟩) 2 cap) hH0 ?_;refine hwq hx2 (.pointer (some ⟨b,off,none⟩)) hH0 ?_;refine hwq hx3 (.agg #[.int .i64 k1,.slice c1 m1 q1]) hH0 ?_;refine hwe hx0 (fun K hK=>?_)
 go_simp
 go_at_call 58
 refine(b7 _).mono ?_;rintro e X1 ⟨rfl,hb⟩
 go_wp2_with fail
 have zX1:=hb.size;replace fE:=a9 fE hb;replace fR:=a9 fR hb;replace c1a_:=af hb c1a_;replace c1b_:=af hb c1b_;replace h1_:=mh hb h1_;replace c2a_:=af hb c2a_;replace c2b_:=af hb c2b_;replace h2_:=mh hb h2_;replace fC:=mh hb fC;refine hko hK (fun hH1=>?_);clear hK K hH0 hb
 try simp only[hwA]
 refine hwe hx4 (fun K hK=>?_)
 go_simp
 go_at_call 58
 refine(b7 _).mono ?_;rintro e X2 ⟨rfl,hb⟩
 go_wp2_with fail
 have zX2:=hb.size;replace fE:=a9 fE hb;replace fR:=a9 fR hb;replace c1a_:=af hb c1a_;replace c1b_:=af hb c1b_;replace h1_:=mh hb h1_;replace c2a_:=af hb c2a_;replace c2b_:=af hb c2b_;replace h2_:=mh hb h2_;replace fC:=mh hb fC;refine hko hK (fun hH2=>?_);clear hK K hH1 hb
 try simp only[hwA]
 refine hwe hx5 (fun K hK=>?_)
 go_simp
 go_at_call 44
 refine(cj _ _ _ S.int _ _ _ h1_.out (ai.leaf 2) V1.out rfl).mono ?_;rintro e X3 ⟨rfl,hb⟩;rw[D1.out]
 go_wp2_with fail
 have zX3:=hb.size;replace fE:=a9 fE hb;replace fR:=a9 fR hb;replace c1a_:=af hb c1a_;replace c1b_:=af hb c1b_;replace h1_:=mh hb h1_;replace c2a_:=af hb c2a_;replace c2b_:=af hb c2b_;replace h2_:=mh hb h2_;replace fC:=mh hb fC;refine hko hK (fun hH3=>?_);clear hK K hH2 hb
 try simp only[hwA]
 refine hwq hx6 (.bool true) hH3 ?_;refine hwq hx7 (.slice (some ⟨b,off,none⟩) 2 cap) hH3 ?_;refine hwq hx8 (.pointer (some ⟨b,off+2,none⟩)) hH3 ?_;refine hwq hx9 (.agg #[.int .i64 k2,.slice c2 m2 q2]) hH3 ?_;refine hwe bd (fun K hK=>?_)
 go_simp
 go_at_call 58
 refine(b7 _).mono ?_;rintro e X4 ⟨rfl,hb⟩
 go_wp2_with fail
 have zX4:=hb.size;replace fE:=a9 fE hb;replace fR:=a9 fR hb;replace c1a_:=af hb c1a_;replace c1b_:=af hb c1b_;replace h1_:=mh hb h1_;replace c2a_:=af hb c2a_;replace c2b_:=af hb c2b_;replace h2_:=mh hb h2_;replace fC:=mh hb fC;refine hko hK (fun hH4=>?_);clear hK K hH3 hb
 try simp only[hwA]
 refine hwe bl (fun K hK=>?_)
 go_simp
 go_at_call 44
 refine(cj _ _ _ S.int _ _ _ h2_.out (ai.leaf 2) V2.out rfl).mono ?_;rintro e X5 ⟨rfl,hb⟩;rw[D2.out]
 go_wp2_with fail
 have zX5:=hb.size;replace fE:=a9 fE hb;replace fR:=a9 fR hb;replace c1a_:=af hb c1a_;replace c1b_:=af hb c1b_;replace h1_:=mh hb h1_;replace c2a_:=af hb c2a_;replace c2b_:=af hb c2b_;replace h2_:=mh hb h2_;replace fC:=mh hb fC;refine hko hK (fun hH5=>?_);clear hK K hH4 hb
 try simp only[hwA]
 refine hwq bz (.bool d2) hH5 ?_;refine hwe bA (fun K hK=>?_);obtain⟨r0,r1,rf0,rf1⟩:=b8 fR
 go_simp
 (try go_wp2_with fail);have hQq:=aJ fR (.int .i64 2) (.slice none 0 0);clear fR r0 rf0 r1 rf1;obtain⟨X6,hXq,hsq,fR,zX6a,zX6b⟩:=hQq;rw[hXq];replace fE:=hsq.bk fE;replace c1a_:=hsq.cq c1a_;replace c1b_:=hsq.cq c1b_;replace h1_:=zq (hsq.rep (fun b hb=>by have:b<w.heap.size:=hb;omega) h1_.out);replace c2a_:=hsq.cq c2a_;replace c2b_:=hsq.cq c2b_;replace h2_:=zq (hsq.rep (fun b hb=>by have:b<w.heap.size:=hb;omega) h2_.out);replace fC:=hsq.be fC;refine hko hK (fun hH6=>?_);clear hK K hH5 hsq hXq
 try simp only[hwA]
 refine hwq bB (.bool d2) hH6 ?_;refine hwd ?_;clear hH6;have HN:O=if d2=true then some (.mk 2 []) else none:=by rw[HO.out,HOO.out,D1.out,D2.out];cases d2<;>rfl
 obtain⟨rc0,rc1⟩:=blk2 fR
 go_wp2_with fail
 refine bq (.tuple #[.agg #[.int .i64 2,.slice none 0 0],.bool d2]) (by simp[results,Try.results60,go_sem,rc0,rc1]) ?_
 exact⟨_,_,_,_,_,.mk 2 [],rfl,by rw[HN];cases d2<;>rfl,ai.leafG 2,(by rw[HN];intro s h;cases d2 with | false=>cases h | true=>exact Option.some.inj h),fC.out⟩
theorem ix (G1 G2 G3:Nat->Prop)(nm:ByteArray)(u lb tk fk:Int)(ty src:Ty)(ta fa ca:Option Addr)(tn tq fn fq cm cq:Nat)(w:World)(hty:ai G1 w ty (.agg #[.int .i64 tk,.slice ta tn tq]))(hsrc:ai G2 w src (.agg #[.int .i64 fk,.slice fa fn fq]))(y:Value)(h1 h2:S)(d1:h1.cons .int=false)(hv1:h1.vd=true)(hv2:h2.vd=true)(hy:av G3 w [h1.ty,h2.ty] y) :
  Calls Try.prog 60 #[.agg (nv 8 nm u tk ta tn tq fk fa fn fq lb ca cm cq),y] w (aX ((bi 8 ty [h1,h2]).map S.ty) w):=by
 obtain⟨b,off,cap,k1,c1,m1,q1,k2,c2,m2,q2,rfl,-,-,hlb,e1a,e1b,e2a,e2b,ht1,ht2⟩:=hy.two;obtain⟨O,hOO⟩ : ∃O:Option Ty,O=((bi 8 ty [h1,h2]).map S.ty):=⟨_,rfl⟩
 rw[<-hOO];have HO:=zq hOO;clear hOO;have HOO:=zq (l6 (k:=8) (ty:=ty) (g:=h1) (h:=h2) (by omega));obtain⟨d2,hd2⟩ : ∃d2,h2.cons .int=d2:=⟨_,rfl⟩
 have D1:=zq d1;have D2:=zq hd2;have V1:=zq hv1;have V2:=zq hv2;clear d1 hd2 hv1 hv2;have H1:=zq ht1.old;have H2:=zq ht2.old;clear hty hsrc hy ht1 ht2
 go_enter Try.func60,Try.ntmps60
 go_wp2_with fail
 generalize hVV:World.alloc (World.alloc w _) _=VV;obtain⟨hv,o1,o2,zV⟩:=bO hVV;have fE:=o1;have fR:=o2;have c1a_:=af hv e1a;have c1b_:=af hv e1b;have h1_:=zq (H1.out.below hv);have c2a_:=af hv e2a;have c2b_:=af hv e2b;have h2_:=zq (H2.out.below hv);have fC:=zq hv;clear hv o1 o2;refine wh4 c1a_ c1b_ c2a_ c2b_ (fun U3 hb zU3a zU3b hH0=>?_);replace fE:=a9 fE hb;replace fR:=a9 fR hb;replace c1a_:=af hb c1a_;replace c1b_:=af hb c1b_;replace h1_:=mh hb h1_;replace c2a_:=af hb c2a_;replace c2b_:=af hb c2b_;replace h2_:=mh hb h2_;replace fC:=mh hb fC;rw[zV] at zU3a zU3b;clear hb hVV zV;refine hwq hx1 (.slice (some ⟨b,off,none⟩) 2 cap) hH0 ?_;refine hwq hx2 (.pointer (some ⟨b,off,none⟩)) hH0 ?_;refine hwq hx3 (.agg #[.int .i64 k1,.slice c1 m1 q1]) hH0 ?_;refine hwe hx0 (fun K hK=>?_)
 go_simp
 go_at_call 59
 refine(bX _).mono ?_;rintro e X1 ⟨rfl,hb⟩
 go_wp2_with fail
 have zX1:=hb.size;replace fE:=a9 fE hb;replace fR:=a9 fR hb;replace c1a_:=af hb c1a_;replace c1b_:=af hb c1b_;replace h1_:=mh hb h1_;replace c2a_:=af hb c2a_;replace c2b_:=af hb c2b_;replace h2_:=mh hb h2_;replace fC:=mh hb fC;refine hko hK (fun hH1=>?_);clear hK K hH0 hb
 try simp only[hwA]
 refine hwe hx4 (fun K hK=>?_)
 go_simp
 go_at_call 58
 refine(b7 _).mono ?_;rintro e X2 ⟨rfl,hb⟩
 go_wp2_with fail
 have zX2:=hb.size;replace fE:=a9 fE hb;replace fR:=a9 fR hb;replace c1a_:=af hb c1a_;replace c1b_:=af hb c1b_;replace h1_:=mh hb h1_;replace c2a_:=af hb c2a_;replace c2b_:=af hb c2b_;replace h2_:=mh hb h2_;replace fC:=mh hb fC;refine hko hK (fun hH2=>?_);clear hK K hH1 hb
 try simp only[hwA]
 refine hwe hx5 (fun K hK=>?_)
 go_simp
 go_at_call 44
 refine(cj _ _ _ S.int _ _ _ h1_.out (ai.leaf 2) V1.out rfl).mono ?_;rintro e X3 ⟨rfl,hb⟩;rw[D1.out]
 go_wp2_with fail
 have zX3:=hb.size;replace fE:=a9 fE hb;replace fR:=a9 fR hb;replace c1a_:=af hb c1a_;replace c1b_:=af hb c1b_;replace h1_:=mh hb h1_;replace c2a_:=af hb c2a_;replace c2b_:=af hb c2b_;replace h2_:=mh hb h2_;replace fC:=mh hb fC;refine hko hK (fun hH3=>?_);clear hK K hH2 hb
 try simp only[hwA]
 refine hwq hx6 (.bool false) hH3 ?_;refine hwu hx7 hH3 ?_;refine hwu hx8 hH3 ?_;refine hwu hx9 hH3 ?_;refine hwu bd hH3 ?_;refine hwu bl hH3 ?_;refine hwq bz (.bool false) hH3 ?_;refine hwe bA (fun K hK=>?_);obtain⟨r0,r1,rf0,rf1⟩:=b8 fR
 go_simp
 (try go_wp2_with fail);have hQq:=aJ fR (.int .i64 3) (.slice none 0 0);clear fR r0 rf0 r1 rf1;obtain⟨X4,hXq,hsq,fR,zX4a,zX4b⟩:=hQq;rw[hXq];replace fE:=hsq.bk fE;replace c1a_:=hsq.cq c1a_;replace c1b_:=hsq.cq c1b_;replace h1_:=zq (hsq.rep (fun b hb=>by have:b<w.heap.size:=hb;omega) h1_.out);replace c2a_:=hsq.cq c2a_;replace c2b_:=hsq.cq c2b_;replace h2_:=zq (hsq.rep (fun b hb=>by have:b<w.heap.size:=hb;omega) h2_.out);replace fC:=hsq.be fC;refine hko hK (fun hH4=>?_);clear hK K hH3 hsq hXq
 try simp only[hwA]
 refine hwq bB (.bool false) hH4 ?_;refine hwd ?_;clear hH4;have HN:O=none:=by rw[HO.out,HOO.out,D1.out,D2.out];rfl
 obtain⟨rc0,rc1⟩:=blk2 fR
 go_wp2_with fail
 refine bq (.tuple #[.agg #[.int .i64 3,.slice none 0 0],.bool false]) (by simp[results,Try.results60,go_sem,rc0,rc1]) ?_
 exact⟨_,_,_,_,_,.mk 3 [],rfl,by rw[HN];rfl,ai.leafG 3,(by rw[HN];intro s h;cases h),fC.out⟩
theorem iy (G1 G2 G3:Nat->Prop)(nm:ByteArray)(u lb tk fk:Int)(ty src:Ty)(ta fa ca:Option Addr)(tn tq fn fq cm cq:Nat)(w:World)(hty:ai G1 w ty (.agg #[.int .i64 tk,.slice ta tn tq]))(hsrc:ai G2 w src (.agg #[.int .i64 fk,.slice fa fn fq]))(y:Value)(h1 h2:S)(d1:h1.cons .int=true)(hv1:h1.vd=true)(hv2:h2.vd=true)(hy:av G3 w [h1.ty,h2.ty] y) :
  Calls Try.prog 60 #[.agg (nv 8 nm u tk ta tn tq fk fa fn fq lb ca cm cq),y] w (aX ((bi 8 ty [h1,h2]).map S.ty) w):=by
 obtain⟨b,off,cap,k1,c1,m1,q1,k2,c2,m2,q2,rfl,-,-,hlb,e1a,e1b,e2a,e2b,ht1,ht2⟩:=hy.two;obtain⟨O,hOO⟩ : ∃O:Option Ty,O=((bi 8 ty [h1,h2]).map S.ty):=⟨_,rfl⟩
 rw[<-hOO];have HO:=zq hOO;clear hOO;have HOO:=zq (l6 (k:=8) (ty:=ty) (g:=h1) (h:=h2) (by omega));obtain⟨d2,hd2⟩ : ∃d2,h2.cons .int=d2:=⟨_,rfl⟩
 have D1:=zq d1;have D2:=zq hd2;have V1:=zq hv1;have V2:=zq hv2;clear d1 hd2 hv1 hv2;have H1:=zq ht1.old;have H2:=zq ht2.old;clear hty hsrc hy ht1 ht2
 go_enter Try.func60,Try.ntmps60
 go_wp2_with fail
 generalize hVV:World.alloc (World.alloc w _) _=VV;obtain⟨hv,o1,o2,zV⟩:=bO hVV;have fE:=o1;have fR:=o2;have c1a_:=af hv e1a;have c1b_:=af hv e1b;have h1_:=zq (H1.out.below hv);have c2a_:=af hv e2a;have c2b_:=af hv e2b;have h2_:=zq (H2.out.below hv);have fC:=zq hv;clear hv o1 o2;refine wh4 c1a_ c1b_ c2a_ c2b_ (fun U4 hb zU4a zU4b hH0=>?_);replace fE:=a9 fE hb;replace fR:=a9 fR hb;replace c1a_:=af hb c1a_;replace c1b_:=af hb c1b_;replace h1_:=mh hb h1_;replace c2a_:=af hb c2a_;replace c2b_:=af hb c2b_;replace h2_:=mh hb h2_;replace fC:=mh hb fC;rw[zV] at zU4a zU4b;clear hb hVV zV;refine hwq hx1 (.slice (some ⟨b,off,none⟩) 2 cap) hH0 ?_;refine hwq hx2 (.pointer (some ⟨b,off,none⟩)) hH0 ?_;refine hwq hx3 (.agg #[.int .i64 k1,.slice c1 m1 q1]) hH0 ?_;refine hwe hx0 (fun K hK=>?_)
 go_simp
 go_at_call 59
 refine(bX _).mono ?_;rintro e X1 ⟨rfl,hb⟩
 go_wp2_with fail
 have zX1:=hb.size;replace fE:=a9 fE hb;replace fR:=a9 fR hb;replace c1a_:=af hb c1a_;replace c1b_:=af hb c1b_;replace h1_:=mh hb h1_;replace c2a_:=af hb c2a_;replace c2b_:=af hb c2b_;replace h2_:=mh hb h2_;replace fC:=mh hb fC;refine hko hK (fun hH1=>?_);clear hK K hH0 hb
 try simp only[hwA]
 refine hwe hx4 (fun K hK=>?_)
 go_simp
 go_at_call 58
 refine(b7 _).mono ?_;rintro e X2 ⟨rfl,hb⟩
 go_wp2_with fail
 have zX2:=hb.size;replace fE:=a9 fE hb;replace fR:=a9 fR hb;replace c1a_:=af hb c1a_;replace c1b_:=af hb c1b_;replace h1_:=mh hb h1_;replace c2a_:=af hb c2a_;replace c2b_:=af hb c2b_;replace h2_:=mh hb h2_;replace fC:=mh hb fC;refine hko hK (fun hH2=>?_);clear hK K hH1 hb
 try simp only[hwA]
 refine hwe hx5 (fun K hK=>?_)
 go_simp
 go_at_call 44
 refine(cj _ _ _ S.int _ _ _ h1_.out (ai.leaf 2) V1.out rfl).mono ?_;rintro e X3 ⟨rfl,hb⟩;rw[D1.out]
 go_wp2_with fail
 have zX3:=hb.size;replace fE:=a9 fE hb;replace fR:=a9 fR hb;replace c1a_:=af hb c1a_;replace c1b_:=af hb c1b_;replace h1_:=mh hb h1_;replace c2a_:=af hb c2a_;replace c2b_:=af hb c2b_;replace h2_:=mh hb h2_;replace fC:=mh hb fC;refine hko hK (fun hH3=>?_);clear hK K hH2 hb
 try simp only[hwA]
 refine hwq hx6 (.bool true) hH3 ?_;refine hwq hx7 (.slice (some ⟨b,off,none⟩) 2 cap) hH3 ?_;refine hwq hx8 (.pointer (some ⟨b,off+2,none⟩)) hH3 ?_;refine hwq hx9 (.agg #[.int .i64 k2,.slice c2 m2 q2]) hH3 ?_;refine hwe bd (fun K hK=>?_)
 go_simp
 go_at_call 58
 refine(b7 _).mono ?_;rintro e X4 ⟨rfl,hb⟩
 go_wp2_with fail
 have zX4:=hb.size;replace fE:=a9 fE hb;replace fR:=a9 fR hb;replace c1a_:=af hb c1a_;replace c1b_:=af hb c1b_;replace h1_:=mh hb h1_;replace c2a_:=af hb c2a_;replace c2b_:=af hb c2b_;replace h2_:=mh hb h2_;replace fC:=mh hb fC;refine hko hK (fun hH4=>?_);clear hK K hH3 hb
 try simp only[hwA]
 refine hwe bl (fun K hK=>?_)
 go_simp
 go_at_call 44
 refine(cj _ _ _ S.int _ _ _ h2_.out (ai.leaf 2) V2.out rfl).mono ?_;rintro e X5 ⟨rfl,hb⟩;rw[D2.out]
 go_wp2_with fail
 have zX5:=hb.size;replace fE:=a9 fE hb;replace fR:=a9 fR hb;replace c1a_:=af hb c1a_;replace c1b_:=af hb c1b_;replace h1_:=mh hb h1_;replace c2a_:=af hb c2a_;replace c2b_:=af hb c2b_;replace h2_:=mh hb h2_;replace fC:=mh hb fC;refine hko hK (fun hH5=>?_);clear hK K hH4 hb
 try simp only[hwA]
 refine hwq bz (.bool d2) hH5 ?_;refine hwe bA (fun K hK=>?_);obtain⟨r0,r1,rf0,rf1⟩:=b8 fR
 go_simp
 (try go_wp2_with fail);have hQq:=aJ fR (.int .i64 3) (.slice none 0 0);clear fR r0 rf0 r1 rf1;obtain⟨X6,hXq,hsq,fR,zX6a,zX6b⟩:=hQq;rw[hXq];replace fE:=hsq.bk fE;replace c1a_:=hsq.cq c1a_;replace c1b_:=hsq.cq c1b_;replace h1_:=zq (hsq.rep (fun b hb=>by have:b<w.heap.size:=hb;omega) h1_.out);replace c2a_:=hsq.cq c2a_;replace c2b_:=hsq.cq c2b_;replace h2_:=zq (hsq.rep (fun b hb=>by have:b<w.heap.size:=hb;omega) h2_.out);replace fC:=hsq.be fC;refine hko hK (fun hH6=>?_);clear hK K hH5 hsq hXq
 try simp only[hwA]
 refine hwq bB (.bool d2) hH6 ?_;refine hwd ?_;clear hH6;have HN:O=if d2=true then some (.mk 3 []) else none:=by rw[HO.out,HOO.out,D1.out,D2.out];cases d2<;>rfl
 obtain⟨rc0,rc1⟩:=blk2 fR
 go_wp2_with fail
 refine bq (.tuple #[.agg #[.int .i64 3,.slice none 0 0],.bool d2]) (by simp[results,Try.results60,go_sem,rc0,rc1]) ?_
 exact⟨_,_,_,_,_,.mk 3 [],rfl,by rw[HN];cases d2<;>rfl,ai.leafG 3,(by rw[HN];intro s h;cases d2 with | false=>cases h | true=>exact Option.some.inj h),fC.out⟩
theorem j9 (G1 G2 G3:Nat->Prop)(nm:ByteArray)(u lb tk fk:Int)(ty src:Ty)(ta fa ca:Option Addr)(tn tq fn fq cm cq:Nat)(w:World)(hty:ai G1 w ty (.agg #[.int .i64 tk,.slice ta tn tq]))(hsrc:ai G2 w src (.agg #[.int .i64 fk,.slice fa fn fq]))(y:Value)(h1 h2:S)(hv1:h1.vd=true)(hv2:h2.vd=true)(hy:av G3 w [h1.ty,h2.ty] y) :
  Calls Try.prog 60 #[.agg (nv 10 nm u tk ta tn tq fk fa fn fq lb ca cm cq),y] w (aX ((bi 10 ty [h1,h2]).map S.ty) w):=by
 obtain⟨b,off,cap,k1,c1,m1,q1,k2,c2,m2,q2,rfl,-,-,hlb,e1a,e1b,e2a,e2b,ht1,ht2⟩:=hy.two;obtain⟨OO',hOO⟩ : ∃O:Option Ty,O=((bi 10 ty [h1,h2]).map S.ty):=⟨_,rfl⟩
 rw[<-hOO];have HO:=zq hOO;clear hOO;have HC1:=zq (S.cnt_ok hv1);have HC2:=zq (S.cnt_ok hv2);clear hv1 hv2;have H1:=zq ht1.old;have H2:=zq ht2.old;clear hty hsrc hy ht1 ht2
 go_enter Try.func60,Try.ntmps60
 go_wp2_with fail
 generalize hVV:World.alloc (World.alloc w _) _=VV;obtain⟨hv,o1,o2,zV⟩:=bO hVV;have fE:=o1;have fR:=o2;have c1a_:=af hv e1a;have c1b_:=af hv e1b;have h1_:=zq (H1.out.below hv);have c2a_:=af hv e2a;have c2b_:=af hv e2b;have h2_:=zq (H2.out.below hv);have fC:=zq hv;clear hv o1 o2;refine wh4 c1a_ c1b_ c2a_ c2b_ (fun U5 hb zU5a zU5b hH0=>?_);replace fE:=a9 fE hb;replace fR:=a9 fR hb;replace c1a_:=af hb c1a_;replace c1b_:=af hb c1b_;replace h1_:=mh hb h1_;replace c2a_:=af hb c2a_;replace c2b_:=af hb c2b_;replace h2_:=mh hb h2_;replace fC:=mh hb fC;rw[zV] at zU5a zU5b;clear hb hVV zV;refine hwq hx0 (.slice (some ⟨b,off,none⟩) 2 cap) hH0 ?_;refine hwq hx1 (.pointer (some ⟨b,off,none⟩)) hH0 ?_;refine hwq hx2 (.agg #[.int .i64 k1,.slice c1 m1 q1]) hH0 ?_;refine hwq hx3 (.slice (some ⟨b,off,none⟩) 2 cap) hH0 ?_;refine hwq hx4 (.pointer (some ⟨b,off+2,none⟩)) hH0 ?_;refine hwq hx5 (.agg #[.int .i64 k2,.slice c2 m2 q2]) hH0 ?_;refine hwe hx6 (fun K hK=>?_)
 go_simp
 go_at_call 33
 refine(cB _ _ 5 h1.ty h2.ty _ _ _ _ _ _ _ _ _ h1_.out h2_.out HC1.out HC2.out).mono ?_;rintro e X1 ⟨kr,ar,nr,qr,br,tr,rfl,hbr,htr,hor,hb⟩;have hN1':Hid (ai (fun b=>U5.heap.size<=b∧b<X1.heap.size) X1 tr (.agg #[.int .i64 kr,.slice ar nr qr])):=zq (htr.move (.weaken fun b h1 h2=>⟨h1.elim False.elim id,h2⟩));have HBR:=zq hbr;have HOR:=zq hor;clear hbr htr hor
 go_wp2_with fail
 have zX1:=hb.size;replace fE:=a9 fE hb;replace fR:=a9 fR hb;replace c1a_:=af hb c1a_;replace c1b_:=af hb c1b_;replace h1_:=mh hb h1_;replace c2a_:=af hb c2a_;replace c2b_:=af hb c2b_;replace h2_:=mh hb h2_;replace fC:=mh hb fC;have hN1:=hN1';clear hN1';refine hko hK (fun hH1=>?_);clear hK K hH0 hb
 try simp only[hwA]
 refine hwq hx7 (.agg #[.int .i64 kr,.slice ar nr qr]) hH1 ?_;refine hwq hx8 (.bool br) hH1 ?_;refine hwe hx9 (fun K hK=>?_);obtain⟨r0,r1,rf0,rf1⟩:=b8 fR
 go_simp
 (try go_wp2_with fail);have hQq:=aJ fR (.int .i64 kr) (.slice ar nr qr);clear fR r0 rf0 r1 rf1;obtain⟨X2,hXq,hsq,fR,zX2a,zX2b⟩:=hQq;rw[hXq];replace fE:=hsq.bk fE;replace c1a_:=hsq.cq c1a_;replace c1b_:=hsq.cq c1b_;replace h1_:=zq (hsq.rep (fun b hb=>by have:b<w.heap.size:=hb;omega) h1_.out);replace c2a_:=hsq.cq c2a_;replace c2b_:=hsq.cq c2b_;replace h2_:=zq (hsq.rep (fun b hb=>by have:b<w.heap.size:=hb;omega) h2_.out);replace fC:=hsq.be fC;replace hN1:=zq (hsq.rep (fun b hb=>by have h1:U5.heap.size<=b:=hb.1;have h2:b<X1.heap.size:=hb.2;omega) hN1.out);refine hko hK (fun hH2=>?_);clear hK K hH1 hsq hXq
 try simp only[hwA]
 refine hwq bd (.bool br) hH2 ?_;refine hwd ?_;clear hH2;obtain⟨rc0,rc1⟩:=blk2 fR
 go_wp2_with fail
 refine bq (.tuple #[.agg #[.int .i64 kr,.slice ar nr qr],.bool br]) (by simp[results,Try.results60,go_sem,rc0,rc1]) ?_
 exact⟨_,_,_,_,_,tr,rfl,by rw[HO.out,nG,HBR.out],hN1.out.move (.weaken fun b h _=>.inr (by have h1:=h.1;omega)),(by rw[HO.out,nG];intro s h;exact HOR.out s h),fC.out⟩
theorem jc (G1 G2 G3:Nat->Prop)(nm:ByteArray)(u lb tk fk:Int)(ty src:Ty)(ta fa ca:Option Addr)(tn tq fn fq cm cq:Nat)(w:World)(hty:ai G1 w ty (.agg #[.int .i64 tk,.slice ta tn tq]))(hsrc:ai G2 w src (.agg #[.int .i64 fk,.slice fa fn fq]))(y:Value)(hv:ty.valid=true)(h1:S)(hv1:h1.vd=true)(hy:av G3 w [h1.ty] y) :
  Calls Try.prog 60 #[.agg (nv 13 nm u tk ta tn tq fk fa fn fq lb ca cm cq),y] w (aX ((bi 13 ty [h1]).map S.ty) w):=by
 obtain⟨b,off,cap,k1,c1,m1,q1,rfl,hlb,e1a,e1b,ht1⟩:=hy.one;obtain⟨O,hOO⟩ : ∃O:Option Ty,O=((bi 13 ty [h1]).map S.ty):=⟨_,rfl⟩
 rw[<-hOO];have HO:=zq hOO;clear hOO;have HCN:=zq (Ty.cnt_valid hv);have HVT:=zq hv;have HTY0:=zq hty.old;obtain⟨dd,hdd⟩ : ∃dd,h1.cons ty.toS=dd:=⟨_,rfl⟩
 have HD:=zq hdd;have HCC:=zq (fun(Fa Fb:Nat->Prop) (ya yb:Value) (W:World) (ha:ai Fa W h1.ty ya) (hb:ai Fb W ty yb)=>(by
   have h:=cj Fa Fb h1 ty.toS ya yb W ha (by rw[Ty.toS_ty hv];exact hb) hv1 (Ty.toS_vd hv)
   rwa [hdd] at h:Calls Try.prog 44 #[ya,yb] W fun e w'=>e = .returned (.bool dd)∧Below W.heap.size W w'))
 clear hdd hv hv1;have H1:=zq ht1.old;clear hty hsrc hy ht1
 go_enter Try.func60,Try.ntmps60
 go_wp2_with fail
 generalize hVV:World.alloc (World.alloc w _) _=VV;obtain⟨hv,o1,o2,zV⟩:=bO hVV;have fE:=o1;have fR:=o2;have c1a_:=af hv e1a;have c1b_:=af hv e1b;have h1_:=zq (H1.out.below hv);have fC:=zq hv;have hT:=zq (HTY0.out.below hv);clear hv o1 o2;refine wh4 (bc3 fE) (bc4 fE) c1a_ c1b_ (fun U6 hb zU6a zU6b hH0=>?_);replace fE:=a9 fE hb;replace fR:=a9 fR hb;replace c1a_:=af hb c1a_;replace c1b_:=af hb c1b_;replace h1_:=mh hb h1_;replace fC:=mh hb fC;replace hT:=mh hb hT;rw[zV] at zU6a zU6b;clear hb hVV zV;refine hwq hx0 (.pointer (some ⟨w.heap.size,3,none⟩)) hH0 ?_;refine hwq hx1 (.agg #[.int .i64 tk,.slice ta tn tq]) hH0 ?_;refine hwq hx3 (.slice (some ⟨b,off,none⟩) 1 cap) hH0 ?_;refine hwq hx4 (.pointer (some ⟨b,off,none⟩)) hH0 ?_;refine hwq hx5 (.agg #[.int .i64 k1,.slice c1 m1 q1]) hH0 ?_;refine hwq hx6 (.pointer (some ⟨w.heap.size,3,none⟩)) hH0 ?_;refine hwq hx7 (.agg #[.int .i64 tk,.slice ta tn tq]) hH0 ?_;refine hwe hx2 (fun K hK=>?_)
 go_simp
 go_at_call 46
 refine(b5 _ ty _ _ hT.out HCN.out).mono ?_;rintro e X1 ⟨v,rfl,hv,hb⟩;obtain⟨ke,ae,ne,qe,rfl⟩:=hv.shape;have hN1':=hv.rep.rg;clear hv
 go_wp2_with fail
 have zX1:=hb.size;replace fE:=a9 fE hb;replace fR:=a9 fR hb;replace c1a_:=af hb c1a_;replace c1b_:=af hb c1b_;replace h1_:=mh hb h1_;replace fC:=mh hb fC;replace hT:=mh hb hT;have hN1:=hN1';clear hN1';refine hko hK (fun hH1=>?_);clear hK K hH0 hb
 try simp only[hwA]
 refine hwe hx8 (fun K hK=>?_)
 go_simp
 go_at_call 44
 refine(HCC.out _ _ _ _ _ h1_.out hT.out).mono ?_;rintro e X2 ⟨rfl,hb⟩
 go_wp2_with fail
 have zX2:=hb.size;replace fE:=a9 fE hb;replace fR:=a9 fR hb;replace c1a_:=af hb c1a_;replace c1b_:=af hb c1b_;replace h1_:=mh hb h1_;replace fC:=mh hb fC;replace hT:=mh hb hT;replace hN1:=mh hb hN1;refine hko hK (fun hH2=>?_);clear hK K hH1 hb
 try simp only[hwA]
 refine hwe hx9 (fun K hK=>?_);obtain⟨r0,r1,rf0,rf1⟩:=b8 fR
 go_simp
 (try go_wp2_with fail);have hQq:=aJ fR (.int .i64 ke) (.slice ae ne qe);clear fR r0 rf0 r1 rf1;obtain⟨X3,hXq,hsq,fR,zX3a,zX3b⟩:=hQq;rw[hXq];replace fE:=hsq.bk fE;replace c1a_:=hsq.cq c1a_;replace c1b_:=hsq.cq c1b_;replace h1_:=zq (hsq.rep (fun b hb=>by have:b<w.heap.size:=hb;omega) h1_.out);replace fC:=hsq.be fC;replace hT:=zq (hsq.rep (fun b hb=>by have:b<w.heap.size:=hb;omega) hT.out);replace hN1:=zq (hsq.rep (fun b hb=>by have h1:U6.heap.size<=b:=hb.1;have h2:b<X1.heap.size:=hb.2;omega) hN1.out);refine hko hK (fun hH3=>?_);clear hK K hH2 hsq hXq
 try simp only[hwA]
 refine hwq bd (.bool dd) hH3 ?_;refine hwd ?_;clear hH3;have HN:O=if dd=true then some ty else none:=by rw[HO.out];simp only[bi,HD.out];cases dd<;>simp[Ty.toS_ty HVT.out]
 obtain⟨rc0,rc1⟩:=blk2 fR
 go_wp2_with fail
 refine bq (.tuple #[.agg #[.int .i64 ke,.slice ae ne qe],.bool dd]) (by simp[results,Try.results60,go_sem,rc0,rc1]) ?_
 exact⟨_,_,_,_,_,ty,rfl,by rw[HN];cases dd<;>rfl,hN1.out.move (.weaken fun b h _=>.inr (by have h1:=h.1;omega)),(by rw[HN];intro s h;cases dd with | false=>cases h | true=>exact Option.some.inj h),fC.out⟩
theorem jT (G:Nat->Prop)(nm:ByteArray)(u lb tk fk:Int)(ty src:Ty)(t1:Tm)(l:List Bd)(xa ta fa ca:Option Addr)(xn xq tn tq fn fq cm cq:Nat)(w:World)
    (he:aB G w (.mk 5 nm u ty src lb [t1]) (.agg (nv 5 nm u tk ta tn tq fk fa fn fq lb ca cm cq))) (hv:ty.valid=true)
    (HM:Hid (∀W,Below w.heap.size w W->Calls Try.prog 32 #[.slice xa xn xq,.string nm,.agg #[.int .i64 tk,.slice ta tn tq]] W (em (l ++ [⟨nm,ty⟩]) W)))
    (IH:Hid (∀(W:World) (c' y':Value),Below w.heap.size w W->aE (fun _=>True) W (l ++ [⟨nm,ty⟩]) c'->aB G W t1 y'->(∃a m q,c' = .slice (some a) m q)->Calls Try.prog 17 #[c',y'] W (aX ((t1.castS (l ++ [⟨nm,ty⟩])).map S.ty) W)))
    (hco:t1.castS (l ++ [⟨nm,ty⟩])=none) :
    Calls Try.prog 17 #[.slice xa xn xq,.agg (nv 5 nm u tk ta tn tq fk fa fn fq lb ca cm cq)] w (aX (((Tm.mk 5 nm u ty src lb [t1]).castS l).map S.ty) w):=by
  obtain⟨-,-,-,-,-,-,-,-,hm,hnm,hmq,hqm,hty,hsrc,hks⟩:=he.parts;simp only[Tm.type,Tm.src,Tm.kids,List.length_cons,List.length_nil] at hm hty hsrc hks;obtain rfl:cm=1:=by omega
  obtain⟨b,off,kk0,nn0,uu0,tk0,ta0,tn0,tq0,fk0,fa0,fn0,fq0,ll0,a0,m0,q0,rfl,hlb,e0,e1,e2,e3,e4,e5,e6,e7,e8,ht⟩:=hks.at (Below.refl _ _) (i:=0) (by simp);simp only[Nat.zero_mul,Nat.add_zero] at e0 e1 e2 e3 e4 e5 e6 e7 e8;have HTK:=zq (show aB G w t1 _ from ht);have HTY:=zq hty.old;have HCN:=zq (Ty.cnt_valid hv);have HVT:=zq hv;have HCO:=zq hco;obtain⟨O,hO⟩ : ∃O:Option Ty,O=(((Tm.mk 5 nm u ty src lb [t1]).castS l).map S.ty):=⟨_,rfl⟩
  rw[<-hO];have HO:=zq hO;clear hO he hm hty hsrc hks ht hv hco
  go_enter Try.func17,Try.ntmps17
  go_wp2_with fail
  generalize hVV:World.alloc (World.alloc w _) _=VV;obtain⟨hv,o1,o2,zV⟩:=bO hVV;have fE:=o1;have fR:=o2;have c0_:=af hv e0;have c1_:=af hv e1;have c2_:=af hv e2;have c3_:=af hv e3;have c4_:=af hv e4;have c5_:=af hv e5;have c6_:=af hv e6;have c7_:=af hv e7;have c8_:=af hv e8;have fC:=zq hv;have hT:=zq (HTY.out.below hv);clear hv o1 o2;refine wh13 (bc1 fE) (bc3 fE) (bc4 fE) (bc8 fE) c0_ c1_ c2_ c3_ c4_ c5_ c6_ c7_ c8_ (fun U1 hb zU1a zU1b hH0=>?_);replace fE:=a9 fE hb;replace fR:=a9 fR hb;replace c0_:=af hb c0_;replace c1_:=af hb c1_;replace c2_:=af hb c2_;replace c3_:=af hb c3_;replace c4_:=af hb c4_;replace c5_:=af hb c5_;replace c6_:=af hb c6_;replace c7_:=af hb c7_;replace c8_:=af hb c8_;replace fC:=mh hb fC;replace hT:=mh hb hT;rw[zV] at zU1a zU1b;clear hb hVV zV;refine hwq hx0 (.slice xa xn xq) hH0 ?_;refine hwq hx1 (.pointer (some ⟨w.heap.size,1,none⟩)) hH0 ?_;refine hwq hx2 (.string nm) hH0 ?_;refine hwq hx3 (.pointer (some ⟨w.heap.size,3,none⟩)) hH0 ?_;refine hwq hx4 (.agg #[.int .i64 tk,.slice ta tn tq]) hH0 ?_;refine hwq hx6 (.pointer (some ⟨w.heap.size,8,none⟩)) hH0 ?_;refine hwq hx7 (.slice (some ⟨b,off,none⟩) 1 cq) hH0 ?_;refine hwq hx8 (.pointer (some ⟨b,off,none⟩)) hH0 ?_;refine hwq hx9 (.agg (nv kk0 nn0 uu0 tk0 ta0 tn0 tq0 fk0 fa0 fn0 fq0 ll0 a0 m0 q0)) hH0 ?_;refine wpAnyH_ready (rs:= [5,14]) (by kernel_rfl) (by simp) ?_;refine(AllReadyH.cons hx5 (fun K hK=>?_) (AllReadyH.cons bB (fun K hK=>?_) AllReadyH.nil))
  ·skip
   go_simp
   go_at_call 32
   refine(HM.out _ fC.out).mono ?_;rintro e X1 ⟨xa2,xm2,xq2,rfl,hcx,hb⟩;have hX':Hid (aE (fun _=>True) X1 (l ++ [⟨nm,ty⟩]) (.slice (some xa2) xm2 xq2)):=zq hcx;clear hcx
   go_wp2_with fail
   have zX1:=hb.size;replace fE:=a9 fE hb;replace fR:=a9 fR hb;replace c0_:=af hb c0_;replace c1_:=af hb c1_;replace c2_:=af hb c2_;replace c3_:=af hb c3_;replace c4_:=af hb c4_;replace c5_:=af hb c5_;replace c6_:=af hb c6_;replace c7_:=af hb c7_;replace c8_:=af hb c8_;replace fC:=mh hb fC;replace hT:=mh hb hT;have hX:=hX';clear hX';refine hko hK (fun hH1=>?_);clear hK K hH0 hb
   try simp only[hwA]
   refine wpAnyH_ready (rs:= [10,14]) (by kernel_rfl) (by simp) ?_;refine(AllReadyH.cons bd (fun K hK=>?_) (AllReadyH.cons bB (fun K hK=>?_) AllReadyH.nil))
   ·skip
    go_simp
    go_at_call 17
    refine(IH.out _ _ _ fC.out hX.out (HTK.out.below fC.out) ⟨_,_,_,rfl⟩).mono ?_;rintro e X2 ⟨kt,at_,nt,qt,bt,tt,rfl,hbt,htt,hot,hb⟩;rw[HCO.out] at hbt hot;obtain rfl:bt=false:=hbt;have hN':Hid (ai (fun b=>X1.heap.size<=b∧b<X2.heap.size) X2 tt (.agg #[.int .i64 kt,.slice at_ nt qt])):=zq (htt.move (.weaken fun b h1 h2=>⟨h1.elim False.elim id,h2⟩));clear htt hot
    go_wp2_with fail
    have zX2:=hb.size;replace fE:=a9 fE hb;replace fR:=a9 fR hb;replace c0_:=af hb c0_;replace c1_:=af hb c1_;replace c2_:=af hb c2_;replace c3_:=af hb c3_;replace c4_:=af hb c4_;replace c5_:=af hb c5_;replace c6_:=af hb c6_;replace c7_:=af hb c7_;replace c8_:=af hb c8_;replace fC:=mh hb fC;replace hT:=mh hb hT;replace hX:=mh hb hX;have hN:=hN';clear hN';refine hko hK (fun hH2=>?_);clear hK K hH1 hb
    try simp only[hwA]
    refine hwq bl (.tuple #[.agg #[.int .i64 kt,.slice at_ nt qt],.bool false]) hH2 ?_;refine hwq bz (.agg #[.int .i64 kt,.slice at_ nt qt]) hH2 ?_;refine hwq bA (.bool false) hH2 ?_;refine hwe bB (fun K hK=>?_)
    go_simp
    (try go_wp2_with fail);generalize hXq:World.alloc X2 _=X3;obtain⟨hb,fV,zX3a,zX3b⟩:=alE hXq;replace fE:=a9 fE hb;replace fR:=a9 fR hb;replace c0_:=af hb c0_;replace c1_:=af hb c1_;replace c2_:=af hb c2_;replace c3_:=af hb c3_;replace c4_:=af hb c4_;replace c5_:=af hb c5_;replace c6_:=af hb c6_;replace c7_:=af hb c7_;replace c8_:=af hb c8_;replace fC:=mh hb fC;replace hT:=mh hb hT;replace hX:=mh hb hX;replace hN:=mh hb hN;refine hko hK (fun hH3=>?_);clear hK K hH2 hb hXq
    try simp only[hwA]
    refine hwe bF (fun K hK=>?_);obtain⟨r0,r1,rf0,rf1⟩:=b8 fV
    go_simp
    (try go_wp2_with fail);have hQq:=aJ fV (.int .i64 kt) (.slice at_ nt qt);clear fV r0 rf0 r1 rf1;obtain⟨X4,hXq,hsq,fV,zX4a,zX4b⟩:=hQq;rw[hXq];replace fE:=hsq.bk fE;replace fR:=hsq.bk fR;replace c0_:=hsq.cq c0_;replace c1_:=hsq.cq c1_;replace c2_:=hsq.cq c2_;replace c3_:=hsq.cq c3_;replace c4_:=hsq.cq c4_;replace c5_:=hsq.cq c5_;replace c6_:=hsq.cq c6_;replace c7_:=hsq.cq c7_;replace c8_:=hsq.cq c8_;replace fC:=hsq.be fC;replace hT:=zq (hsq.rep (fun b hb=>by have:b<w.heap.size:=hb;omega) hT.out);replace hN:=zq (hsq.rep (fun b hb=>by have h1:X1.heap.size<=b:=hb.1;have h2:b<X2.heap.size:=hb.2;omega) hN.out);refine hko hK (fun hH4=>?_);clear hK K hH3 hsq hXq hX
    try simp only[hwA]
    refine hwq bI (.bool false) hH4 ?_;refine hwd ?_;clear hH4;obtain⟨r0,r1⟩:=blk2 fR;have rf0:=aj fR 0;have rf1:=aj fR 1
    go_wp2_with fail
    have hY:((X4.setCell ⟨w.heap.size+1,0,none⟩ (.int .i64 0)).setCell ⟨w.heap.size+1,1,none⟩ (.slice none 0 0)).heap[w.heap.size+1]?=some (.cells #[.int .i64 0,.slice none 0 0] 25 (0,0)):=az (az fR rfl) rfl;obtain⟨rc0,rc1⟩:=blk2 hY;refine bq (.tuple #[.agg #[.int .i64 0,.slice none 0 0],.bool false]) (by simp[results,Try.results17,go_sem,rc0,rc1]) ?_
    exact⟨_,_,_,_,_,_,rfl,by rw[HO.out,dD HCO.out];rfl,ai.zeroG,(by rw[HO.out,dD HCO.out];intro s h;simp at h),(fC.out.setCell (p:=⟨w.heap.size+1,0,none⟩) (by show w.heap.size<=w.heap.size+1;omega) _).setCell (p:=⟨w.heap.size+1,1,none⟩) (by show w.heap.size<=w.heap.size+1;omega) _⟩
   ·skip
    go_simp
    (try go_wp2_with fail);generalize hXq:World.alloc X1 _=X5;obtain⟨hb,fV,zX5a,zX5b⟩:=alE hXq;replace fE:=a9 fE hb;replace fR:=a9 fR hb;replace c0_:=af hb c0_;replace c1_:=af hb c1_;replace c2_:=af hb c2_;replace c3_:=af hb c3_;replace c4_:=af hb c4_;replace c5_:=af hb c5_;replace c6_:=af hb c6_;replace c7_:=af hb c7_;replace c8_:=af hb c8_;replace fC:=mh hb fC;replace hT:=mh hb hT;replace hX:=mh hb hX;refine hko hK (fun hH2=>?_);clear hK K hH1 hb hXq
    try simp only[hwA]
    refine hwe bd (fun K hK=>?_)
    go_simp
    go_at_call 17
    refine(IH.out _ _ _ fC.out hX.out (HTK.out.below fC.out) ⟨_,_,_,rfl⟩).mono ?_;rintro e X6 ⟨kt,at_,nt,qt,bt,tt,rfl,hbt,htt,hot,hb⟩;rw[HCO.out] at hbt hot;obtain rfl:bt=false:=hbt;have hN':Hid (ai (fun b=>X5.heap.size<=b∧b<X6.heap.size) X6 tt (.agg #[.int .i64 kt,.slice at_ nt qt])):=zq (htt.move (.weaken fun b h1 h2=>⟨h1.elim False.elim id,h2⟩));clear htt hot
    go_wp2_with fail
    have zX6:=hb.size;replace fE:=a9 fE hb;replace fR:=a9 fR hb;replace c0_:=af hb c0_;replace c1_:=af hb c1_;replace c2_:=af hb c2_;replace c3_:=af hb c3_;replace c4_:=af hb c4_;replace c5_:=af hb c5_;replace c6_:=af hb c6_;replace c7_:=af hb c7_;replace c8_:=af hb c8_;replace fC:=mh hb fC;replace hT:=mh hb hT;replace hX:=mh hb hX;replace fV:=a9 fV hb;have hN:=hN';clear hN';refine hko hK (fun hH5=>?_);clear hK K hH2 hb
    try simp only[hwA]
    refine hwq bl (.tuple #[.agg #[.int .i64 kt,.slice at_ nt qt],.bool false]) hH5 ?_;refine hwq bz (.agg #[.int .i64 kt,.slice at_ nt qt]) hH5 ?_;refine hwq bA (.bool false) hH5 ?_;refine hwe bF (fun K hK=>?_);obtain⟨r0,r1,rf0,rf1⟩:=b8 fV
    go_simp
    (try go_wp2_with fail);have hQq:=aJ fV (.int .i64 kt) (.slice at_ nt qt);clear fV r0 rf0 r1 rf1;obtain⟨X7,hXq,hsq,fV,zX7a,zX7b⟩:=hQq;rw[hXq];replace fE:=hsq.bk fE;replace fR:=hsq.bk fR;replace c0_:=hsq.cq c0_;replace c1_:=hsq.cq c1_;replace c2_:=hsq.cq c2_;replace c3_:=hsq.cq c3_;replace c4_:=hsq.cq c4_;replace c5_:=hsq.cq c5_;replace c6_:=hsq.cq c6_;replace c7_:=hsq.cq c7_;replace c8_:=hsq.cq c8_;replace fC:=hsq.be fC;replace hT:=zq (hsq.rep (fun b hb=>by have:b<w.heap.size:=hb;omega) hT.out);replace hN:=zq (hsq.rep (fun b hb=>by have h1:X5.heap.size<=b:=hb.1;have h2:b<X6.heap.size:=hb.2;omega) hN.out);refine hko hK (fun hH6=>?_);clear hK K hH5 hsq hXq hX
    try simp only[hwA]
    refine hwq bI (.bool false) hH6 ?_;refine hwd ?_;clear hH6;obtain⟨r0,r1⟩:=blk2 fR;have rf0:=aj fR 0;have rf1:=aj fR 1
    go_wp2_with fail
    have hY:((X7.setCell ⟨w.heap.size+1,0,none⟩ (.int .i64 0)).setCell ⟨w.heap.size+1,1,none⟩ (.slice none 0 0)).heap[w.heap.size+1]?=some (.cells #[.int .i64 0,.slice none 0 0] 25 (0,0)):=az (az fR rfl) rfl;obtain⟨rc0,rc1⟩:=blk2 hY;refine bq (.tuple #[.agg #[.int .i64 0,.slice none 0 0],.bool false]) (by simp[results,Try.results17,go_sem,rc0,rc1]) ?_
    exact⟨_,_,_,_,_,_,rfl,by rw[HO.out,dD HCO.out];rfl,ai.zeroG,(by rw[HO.out,dD HCO.out];intro s h;simp at h),(fC.out.setCell (p:=⟨w.heap.size+1,0,none⟩) (by show w.heap.size<=w.heap.size+1;omega) _).setCell (p:=⟨w.heap.size+1,1,none⟩) (by show w.heap.size<=w.heap.size+1;omega) _⟩
  ·skip
   go_simp
   (try go_wp2_with fail);generalize hXq:World.alloc U1 _=X8;obtain⟨hb,fV,zX8a,zX8b⟩:=alE hXq;replace fE:=a9 fE hb;replace fR:=a9 fR hb;replace c0_:=af hb c0_;replace c1_:=af hb c1_;replace c2_:=af hb c2_;replace c3_:=af hb c3_;replace c4_:=af hb c4_;replace c5_:=af hb c5_;replace c6_:=af hb c6_;replace c7_:=af hb c7_;replace c8_:=af hb c8_;replace fC:=mh hb fC;replace hT:=mh hb hT;refine hko hK (fun hH1=>?_);clear hK K hH0 hb hXq
   try simp only[hwA]
   refine hwe hx5 (fun K hK=>?_)
   go_simp
   go_at_call 32
   refine(HM.out _ fC.out).mono ?_;rintro e X9 ⟨xa2,xm2,xq2,rfl,hcx,hb⟩;have hX':Hid (aE (fun _=>True) X9 (l ++ [⟨nm,ty⟩]) (.slice (some xa2) xm2 xq2)):=zq hcx;clear hcx
   go_wp2_with fail
   have zX9:=hb.size;replace fE:=a9 fE hb;replace fR:=a9 fR hb;replace c0_:=af hb c0_;replace c1_:=af hb c1_;replace c2_:=af hb c2_;replace c3_:=af hb c3_;replace c4_:=af hb c4_;replace c5_:=af hb c5_;replace c6_:=af hb c6_;replace c7_:=af hb c7_;replace c8_:=af hb c8_;replace fC:=mh hb fC;replace hT:=mh hb hT;replace fV:=a9 fV hb;have hX:=hX';clear hX';refine hko hK (fun hH7=>?_);clear hK K hH1 hb
   try simp only[hwA]
   refine hwe bd (fun K hK=>?_)
   go_simp
   go_at_call 17
   refine(IH.out _ _ _ fC.out hX.out (HTK.out.below fC.out) ⟨_,_,_,rfl⟩).mono ?_;rintro e X10 ⟨kt,at_,nt,qt,bt,tt,rfl,hbt,htt,hot,hb⟩;rw[HCO.out] at hbt hot;obtain rfl:bt=false:=hbt;have hN':Hid (ai (fun b=>X9.heap.size<=b∧b<X10.heap.size) X10 tt (.agg #[.int .i64 kt,.slice at_ nt qt])):=zq (htt.move (.weaken fun b h1 h2=>⟨h1.elim False.elim id,h2⟩));clear htt hot
   go_wp2_with fail
   have zX10:=hb.size;replace fE:=a9 fE hb;replace fR:=a9 fR hb;replace c0_:=af hb c0_;replace c1_:=af hb c1_;replace c2_:=af hb c2_;replace c3_:=af hb c3_;replace c4_:=af hb c4_;replace c5_:=af hb c5_;replace c6_:=af hb c6_;replace c7_:=af hb c7_;replace c8_:=af hb c8_;replace fC:=mh hb fC;replace hT:=mh hb hT;replace fV:=a9 fV hb;replace hX:=mh hb hX;have hN:=hN';clear hN';refine hko hK (fun hH8=>?_);clear hK K hH7 hb
   try simp only[hwA]
   refine hwq bl (.tuple #[.agg #[.int .i64 kt,.slice at_ nt qt],.bool false]) hH8 ?_;refine hwq bz (.agg #[.int .i64 kt,.slice at_ nt qt]) hH8 ?_;refine hwq bA (.bool false) hH8 ?_;refine hwe bF (fun K hK=>?_);obtain⟨r0,r1,rf0,rf1⟩:=b8 fV
   go_simp
   (try go_wp2_with fail);have hQq:=aJ fV (.int .i64 kt) (.slice at_ nt qt);clear fV r0 rf0 r1 rf1;obtain⟨X11,hXq,hsq,fV,zX11a,zX11b⟩:=hQq;rw[hXq];replace fE:=hsq.bk fE;replace fR:=hsq.bk fR;replace c0_:=hsq.cq c0_;replace c1_:=hsq.cq c1_;replace c2_:=hsq.cq c2_;replace c3_:=hsq.cq c3_;replace c4_:=hsq.cq c4_;replace c5_:=hsq.cq c5_;replace c6_:=hsq.cq c6_;replace c7_:=hsq.cq c7_;replace c8_:=hsq.cq c8_;replace fC:=hsq.be fC;replace hT:=zq (hsq.rep (fun b hb=>by have:b<w.heap.size:=hb;omega) hT.out);replace hN:=zq (hsq.rep (fun b hb=>by have h1:X9.heap.size<=b:=hb.1;have h2:b<X10.heap.size:=hb.2;omega) hN.out);refine hko hK (fun hH9=>?_);clear hK K hH8 hsq hXq hX
   try simp only[hwA]
   refine hwq bI (.bool false) hH9 ?_;refine hwd ?_;clear hH9;obtain⟨r0,r1⟩:=blk2 fR;have rf0:=aj fR 0;have rf1:=aj fR 1
   go_wp2_with fail
   have hY:((X11.setCell ⟨w.heap.size+1,0,none⟩ (.int .i64 0)).setCell ⟨w.heap.size+1,1,none⟩ (.slice none 0 0)).heap[w.heap.size+1]?=some (.cells #[.int .i64 0,.slice none 0 0] 25 (0,0)):=az (az fR rfl) rfl;obtain⟨rc0,rc1⟩:=blk2 hY;refine bq (.tuple #[.agg #[.int .i64 0,.slice none 0 0],.bool false]) (by simp[results,Try.results17,go_sem,rc0,rc1]) ?_
   exact⟨_,_,_,_,_,_,rfl,by rw[HO.out,dD HCO.out];rfl,ai.zeroG,(by rw[HO.out,dD HCO.out];intro s h;simp at h),(fC.out.setCell (p:=⟨w.heap.size+1,0,none⟩) (by show w.heap.size<=w.heap.size+1;omega) _).setCell (p:=⟨w.heap.size+1,1,none⟩) (by show w.heap.size<=w.heap.size+1;omega) _⟩
theorem jU (G:Nat->Prop)(nm:ByteArray)(u lb tk fk:Int)(ty src:Ty)(t1:Tm)(l:List Bd)(xa ta fa ca:Option Addr)(xn xq tn tq fn fq cm cq:Nat)(w:World)
    (he:aB G w (.mk 5 nm u ty src lb [t1]) (.agg (nv 5 nm u tk ta tn tq fk fa fn fq lb ca cm cq))) (hv:ty.valid=true)
    (HM:Hid (∀W,Below w.heap.size w W->Calls Try.prog 32 #[.slice xa xn xq,.string nm,.agg #[.int .i64 tk,.slice ta tn tq]] W (em (l ++ [⟨nm,ty⟩]) W)))
    (IH:Hid (∀(W:World) (c' y':Value),Below w.heap.size w W->aE (fun _=>True) W (l ++ [⟨nm,ty⟩]) c'->aB G W t1 y'->(∃a m q,c' = .slice (some a) m q)->Calls Try.prog 17 #[c',y'] W (aX ((t1.castS (l ++ [⟨nm,ty⟩])).map S.ty) W)))
    (h1:S) (hv1:h1.vd=true) (hco:t1.castS (l ++ [⟨nm,ty⟩])=some h1) :
    Calls Try.prog 17 #[.slice xa xn xq,.agg (nv 5 nm u tk ta tn tq fk fa fn fq lb ca cm cq)] w (aX (((Tm.mk 5 nm u ty src lb [t1]).castS l).map S.ty) w):=by
  obtain⟨-,-,-,-,-,-,-,-,hm,hnm,hmq,hqm,hty,hsrc,hks⟩:=he.parts;simp only[Tm.type,Tm.src,Tm.kids,List.length_cons,List.length_nil] at hm hty hsrc hks;obtain rfl:cm=1:=by omega
  obtain⟨b,off,kk0,nn0,uu0,tk0,ta0,tn0,tq0,fk0,fa0,fn0,fq0,ll0,a0,m0,q0,rfl,hlb,e0,e1,e2,e3,e4,e5,e6,e7,e8,ht⟩:=hks.at (Below.refl _ _) (i:=0) (by simp);simp only[Nat.zero_mul,Nat.add_zero] at e0 e1 e2 e3 e4 e5 e6 e7 e8;have HTK:=zq (show aB G w t1 _ from ht);have HTY:=zq hty.old;have HCN:=zq (Ty.cnt_valid hv);have HVT:=zq hv;have HCO:=zq hco;have HV1:=zq hv1;clear hv1;obtain⟨O,hO⟩ : ∃O:Option Ty,O=(((Tm.mk 5 nm u ty src lb [t1]).castS l).map S.ty):=⟨_,rfl⟩
  rw[<-hO];have HO:=zq hO;clear hO he hm hty hsrc hks ht hv hco
  go_enter Try.func17,Try.ntmps17
  go_wp2_with fail
  generalize hVV:World.alloc (World.alloc w _) _=VV;obtain⟨hv,o1,o2,zV⟩:=bO hVV;have fE:=o1;have fR:=o2;have c0_:=af hv e0;have c1_:=af hv e1;have c2_:=af hv e2;have c3_:=af hv e3;have c4_:=af hv e4;have c5_:=af hv e5;have c6_:=af hv e6;have c7_:=af hv e7;have c8_:=af hv e8;have fC:=zq hv;have hT:=zq (HTY.out.below hv);clear hv o1 o2;refine wh13 (bc1 fE) (bc3 fE) (bc4 fE) (bc8 fE) c0_ c1_ c2_ c3_ c4_ c5_ c6_ c7_ c8_ (fun U2 hb zU2a zU2b hH0=>?_);replace fE:=a9 fE hb;replace fR:=a9 fR hb;replace c0_:=af hb c0_;replace c1_:=af hb c1_;replace c2_:=af hb c2_;replace c3_:=af hb c3_;replace c4_:=af hb c4_;replace c5_:=af hb c5_;replace c6_:=af hb c6_;replace c7_:=af hb c7_;replace c8_:=af hb c8_;replace fC:=mh hb fC;replace hT:=mh hb hT;rw[zV] at zU2a zU2b;clear hb hVV zV;refine hwq hx0 (.slice xa xn xq) hH0 ?_;refine hwq hx1 (.pointer (some ⟨w.heap.size,1,none⟩)) hH0 ?_;refine hwq hx2 (.string nm) hH0 ?_;refine hwq hx3 (.pointer (some ⟨w.heap.size,3,none⟩)) hH0 ?_;refine hwq hx4 (.agg #[.int .i64 tk,.slice ta tn tq]) hH0 ?_;refine hwq hx6 (.pointer (some ⟨w.heap.size,8,none⟩)) hH0 ?_;refine hwq hx7 (.slice (some ⟨b,off,none⟩) 1 cq) hH0 ?_;refine hwq hx8 (.pointer (some ⟨b,off,none⟩)) hH0 ?_;refine hwq hx9 (.agg (nv kk0 nn0 uu0 tk0 ta0 tn0 tq0 fk0 fa0 fn0 fq0 ll0 a0 m0 q0)) hH0 ?_;refine wpAnyH_ready (rs:= [5,14]) (by kernel_rfl) (by simp) ?_;refine(AllReadyH.cons hx5 (fun K hK=>?_) (AllReadyH.cons bB (fun K hK=>?_) AllReadyH.nil))
  ·skip
   go_simp
   go_at_call 32
   refine(HM.out _ fC.out).mono ?_;rintro e X1 ⟨xa2,xm2,xq2,rfl,hcx,hb⟩;have hX':Hid (aE (fun _=>True) X1 (l ++ [⟨nm,ty⟩]) (.slice (some xa2) xm2 xq2)):=zq hcx;clear hcx
   go_wp2_with fail
   have zX1:=hb.size;replace fE:=a9 fE hb;replace fR:=a9 fR hb;replace c0_:=af hb c0_;replace c1_:=af hb c1_;replace c2_:=af hb c2_;replace c3_:=af hb c3_;replace c4_:=af hb c4_;replace c5_:=af hb c5_;replace c6_:=af hb c6_;replace c7_:=af hb c7_;replace c8_:=af hb c8_;replace fC:=mh hb fC;replace hT:=mh hb hT;have hX:=hX';clear hX';refine hko hK (fun hH1=>?_);clear hK K hH0 hb
   try simp only[hwA]
   refine wpAnyH_ready (rs:= [10,14]) (by kernel_rfl) (by simp) ?_;refine(AllReadyH.cons bd (fun K hK=>?_) (AllReadyH.cons bB (fun K hK=>?_) AllReadyH.nil))
   ·skip
    go_simp
    go_at_call 17
    refine(IH.out _ _ _ fC.out hX.out (HTK.out.below fC.out) ⟨_,_,_,rfl⟩).mono ?_;rintro e X2 ⟨kt,at_,nt,qt,bt,tt,rfl,hbt,htt,hot,hb⟩;rw[HCO.out] at hbt hot;obtain rfl:bt=true:=hbt;obtain rfl:tt=h1.ty:=hot _ rfl;have hN':Hid (ai (fun b=>X1.heap.size<=b∧b<X2.heap.size) X2 h1.ty (.agg #[.int .i64 kt,.slice at_ nt qt])):=zq (htt.move (.weaken fun b h1 h2=>⟨h1.elim False.elim id,h2⟩));clear htt hot
    go_wp2_with fail
    have zX2:=hb.size;replace fE:=a9 fE hb;replace fR:=a9 fR hb;replace c0_:=af hb c0_;replace c1_:=af hb c1_;replace c2_:=af hb c2_;replace c3_:=af hb c3_;replace c4_:=af hb c4_;replace c5_:=af hb c5_;replace c6_:=af hb c6_;replace c7_:=af hb c7_;replace c8_:=af hb c8_;replace fC:=mh hb fC;replace hT:=mh hb hT;replace hX:=mh hb hX;have hN:=hN';clear hN';refine hko hK (fun hH2=>?_);clear hK K hH1 hb
    try simp only[hwA]
    refine hwq bl (.tuple #[.agg #[.int .i64 kt,.slice at_ nt qt],.bool true]) hH2 ?_;refine hwq bz (.agg #[.int .i64 kt,.slice at_ nt qt]) hH2 ?_;refine hwq bA (.bool true) hH2 ?_;refine hwe bB (fun K hK=>?_)
    go_simp
    (try go_wp2_with fail);generalize hXq:World.alloc X2 _=X3;obtain⟨hb,fV,zX3a,zX3b⟩:=alE hXq;replace fE:=a9 fE hb;replace fR:=a9 fR hb;replace c0_:=af hb c0_;replace c1_:=af hb c1_;replace c2_:=af hb c2_;replace c3_:=af hb c3_;replace c4_:=af hb c4_;replace c5_:=af hb c5_;replace c6_:=af hb c6_;replace c7_:=af hb c7_;replace c8_:=af hb c8_;replace fC:=mh hb fC;replace hT:=mh hb hT;replace hX:=mh hb hX;replace hN:=mh hb hN;refine hko hK (fun hH3=>?_);clear hK K hH2 hb hXq
    try simp only[hwA]
    refine hwe bF (fun K hK=>?_);obtain⟨r0,r1,rf0,rf1⟩:=b8 fV
    go_simp
    (try go_wp2_with fail);have hQq:=aJ fV (.int .i64 kt) (.slice at_ nt qt);clear fV r0 rf0 r1 rf1;obtain⟨X4,hXq,hsq,fV,zX4a,zX4b⟩:=hQq;rw[hXq];replace fE:=hsq.bk fE;replace fR:=hsq.bk fR;replace c0_:=hsq.cq c0_;replace c1_:=hsq.cq c1_;replace c2_:=hsq.cq c2_;replace c3_:=hsq.cq c3_;replace c4_:=hsq.cq c4_;replace c5_:=hsq.cq c5_;replace c6_:=hsq.cq c6_;replace c7_:=hsq.cq c7_;replace c8_:=hsq.cq c8_;replace fC:=hsq.be fC;replace hT:=zq (hsq.rep (fun b hb=>by have:b<w.heap.size:=hb;omega) hT.out);replace hN:=zq (hsq.rep (fun b hb=>by have h1:X1.heap.size<=b:=hb.1;have h2:b<X2.heap.size:=hb.2;omega) hN.out);refine hko hK (fun hH4=>?_);clear hK K hH3 hsq hXq hX
    try simp only[hwA]
    refine hwq bI (.bool true) hH4 ?_;refine hwd ?_;clear hH4;have d3:=ah fE (o:=3) rfl;have d4:=ah fE (o:=4) rfl;obtain⟨v0,v1⟩:=blk2 fV;have HT9:=zq (cB _ _ 4 ty h1.ty _ _ _ _ _ _ _ _ _ hT.out hN.out HCN.out (S.cnt_ok HV1.out))
    go_wp2_with fail
    refine HT9.out.mono ?_;rintro e X9 ⟨kr,ar,nr,qr,br,tr,rfl,hbr,htr,hor,hb⟩;have HBR:=zq hbr;have HTR:=zq htr;have HOR:=zq hor;have fR9:=a9 fR hb;have fC9:=zq (al fC.out hb);have z9:=hb.size;have lR9:=aw fR;clear hbr htr hor hb d3 d4 v0 v1;obtain⟨r0,r1⟩:=blk2 fR9;have rf0:=aj fR9 0;have rf1:=aj fR9 1
    go_wp2_with fail
    have hY:((X9.setCell ⟨w.heap.size+1,0,none⟩ (.int .i64 kr)).setCell ⟨w.heap.size+1,1,none⟩ (.slice ar nr qr)).heap[w.heap.size+1]?=some (.cells #[.int .i64 kr,.slice ar nr qr] 25 (0,0)):=az (az fR9 rfl) rfl;obtain⟨rc0,rc1⟩:=blk2 hY;refine bq (.tuple #[.agg #[.int .i64 kr,.slice ar nr qr],.bool br]) (by simp[results,Try.results17,go_sem,rc0,rc1]) ?_;have hne : ∀b,(False∨X4.heap.size<=b)->b≠w.heap.size+1:=fun b h=>by
      have h1:=h.elim False.elim id
      omega
    have hw0:=fC.out.size
    exact⟨_,_,_,_,_,tr,rfl,by rw[HO.out,dE HVT.out HCO.out];exact HBR.out,(ai.setN (ai.setN HTR.out hne) hne).move (.weaken fun b h _=>.inr (by have h1:=h.elim False.elim id;omega)),(by rw[HO.out,dE HVT.out HCO.out];exact HOR.out),(fC9.out.setCell (p:=⟨w.heap.size+1,0,none⟩) (by show w.heap.size<=w.heap.size+1;omega) _).setCell (p:=⟨w.heap.size+1,1,none⟩) (by show w.heap.size<=w.heap.size+1;omega) _⟩
   ·skip
    go_simp
    (try go_wp2_with fail);generalize hXq:World.alloc X1 _=X5;obtain⟨hb,fV,zX5a,zX5b⟩:=alE hXq;replace fE:=a9 fE hb;replace fR:=a9 fR hb;replace c0_:=af hb c0_;replace c1_:=af hb c1_;replace c2_:=af hb c2_;replace c3_:=af hb c3_;replace c4_:=af hb c4_;replace c5_:=af hb c5_;replace c6_:=af hb c6_;replace c7_:=af hb c7_;replace c8_:=af hb c8_;replace fC:=mh hb fC;replace hT:=mh hb hT;replace hX:=mh hb hX;refine hko hK (fun hH2=>?_);clear hK K hH1 hb hXq
    try simp only[hwA]
    refine hwe bd (fun K hK=>?_)
    go_simp
    go_at_call 17
    refine(IH.out _ _ _ fC.out hX.out (HTK.out.below fC.out) ⟨_,_,_,rfl⟩).mono ?_;rintro e X6 ⟨kt,at_,nt,qt,bt,tt,rfl,hbt,htt,hot,hb⟩;rw[HCO.out] at hbt hot;obtain rfl:bt=true:=hbt;obtain rfl:tt=h1.ty:=hot _ rfl;have hN':Hid (ai (fun b=>X5.heap.size<=b∧b<X6.heap.size) X6 h1.ty (.agg #[.int .i64 kt,.slice at_ nt qt])):=zq (htt.move (.weaken fun b h1 h2=>⟨h1.elim False.elim id,h2⟩));clear htt hot
    go_wp2_with fail
    have zX6:=hb.size;replace fE:=a9 fE hb;replace fR:=a9 fR hb;replace c0_:=af hb c0_;replace c1_:=af hb c1_;replace c2_:=af hb c2_;replace c3_:=af hb c3_;replace c4_:=af hb c4_;replace c5_:=af hb c5_;replace c6_:=af hb c6_;replace c7_:=af hb c7_;replace c8_:=af hb c8_;replace fC:=mh hb fC;replace hT:=mh hb hT;replace hX:=mh hb hX;replace fV:=a9 fV hb;have hN:=hN';clear hN';refine hko hK (fun hH5=>?_);clear hK K hH2 hb
    try simp only[hwA]
    refine hwq bl (.tuple #[.agg #[.int .i64 kt,.slice at_ nt qt],.bool true]) hH5 ?_;refine hwq bz (.agg #[.int .i64 kt,.slice at_ nt qt]) hH5 ?_;refine hwq bA (.bool true) hH5 ?_;refine hwe bF (fun K hK=>?_);obtain⟨r0,r1,rf0,rf1⟩:=b8 fV
    go_simp
    (try go_wp2_with fail);have hQq:=aJ fV (.int .i64 kt) (.slice at_ nt qt);clear fV r0 rf0 r1 rf1;obtain⟨X7,hXq,hsq,fV,zX7a,zX7b⟩:=hQq;rw[hXq];replace fE:=hsq.bk fE;replace fR:=hsq.bk fR;replace c0_:=hsq.cq c0_;replace c1_:=hsq.cq c1_;replace c2_:=hsq.cq c2_;replace c3_:=hsq.cq c3_;replace c4_:=hsq.cq c4_;replace c5_:=hsq.cq c5_;replace c6_:=hsq.cq c6_;replace c7_:=hsq.cq c7_;replace c8_:=hsq.cq c8_;replace fC:=hsq.be fC;replace hT:=zq (hsq.rep (fun b hb=>by have:b<w.heap.size:=hb;omega) hT.out);replace hN:=zq (hsq.rep (fun b hb=>by have h1:X5.heap.size<=b:=hb.1;have h2:b<X6.heap.size:=hb.2;omega) hN.out);refine hko hK (fun hH6=>?_);clear hK K hH5 hsq hXq hX
    try simp only[hwA]
    refine hwq bI (.bool true) hH6 ?_;refine hwd ?_;clear hH6;have d3:=ah fE (o:=3) rfl;have d4:=ah fE (o:=4) rfl;obtain⟨v0,v1⟩:=blk2 fV;have HT9:=zq (cB _ _ 4 ty h1.ty _ _ _ _ _ _ _ _ _ hT.out hN.out HCN.out (S.cnt_ok HV1.out))
    go_wp2_with fail
    refine HT9.out.mono ?_;rintro e X9 ⟨kr,ar,nr,qr,br,tr,rfl,hbr,htr,hor,hb⟩;have HBR:=zq hbr;have HTR:=zq htr;have HOR:=zq hor;have fR9:=a9 fR hb;have fC9:=zq (al fC.out hb);have z9:=hb.size;have lR9:=aw fR;clear hbr htr hor hb d3 d4 v0 v1;obtain⟨r0,r1⟩:=blk2 fR9;have rf0:=aj fR9 0;have rf1:=aj fR9 1
    go_wp2_with fail
    have hY:((X9.setCell ⟨w.heap.size+1,0,none⟩ (.int .i64 kr)).setCell ⟨w.heap.size+1,1,none⟩ (.slice ar nr qr)).heap[w.heap.size+1]?=some (.cells #[.int .i64 kr,.slice ar nr qr] 25 (0,0)):=az (az fR9 rfl) rfl;obtain⟨rc0,rc1⟩:=blk2 hY;refine bq (.tuple #[.agg #[.int .i64 kr,.slice ar nr qr],.bool br]) (by simp[results,Try.results17,go_sem,rc0,rc1]) ?_;have hne : ∀b,(False∨X7.heap.size<=b)->b≠w.heap.size+1:=fun b h=>by
      have h1:=h.elim False.elim id
      omega
    have hw0:=fC.out.size
    exact⟨_,_,_,_,_,tr,rfl,by rw[HO.out,dE HVT.out HCO.out];exact HBR.out,(ai.setN (ai.setN HTR.out hne) hne).move (.weaken fun b h _=>.inr (by have h1:=h.elim False.elim id;omega)),(by rw[HO.out,dE HVT.out HCO.out];exact HOR.out),(fC9.out.setCell (p:=⟨w.heap.size+1,0,none⟩) (by show w.heap.size<=w.heap.size+1;omega) _).setCell (p:=⟨w.heap.size+1,1,none⟩) (by show w.heap.size<=w.heap.size+1;omega) _⟩
  ·skip
   go_simp
   (try go_wp2_with fail);generalize hXq:World.alloc U2 _=X8;obtain⟨hb,fV,zX8a,zX8b⟩:=alE hXq;replace fE:=a9 fE hb;replace fR:=a9 fR hb;replace c0_:=af hb c0_;replace c1_:=af hb c1_;replace c2_:=af hb c2_;replace c3_:=af hb c3_;replace c4_:=af hb c4_;replace c5_:=af hb c5_;replace c6_:=af hb c6_;replace c7_:=af hb c7_;replace c8_:=af hb c8_;replace fC:=mh hb fC;replace hT:=mh hb hT;refine hko hK (fun hH1=>?_);clear hK K hH0 hb hXq
   try simp only[hwA]
   refine hwe hx5 (fun K hK=>?_)
   go_simp
   go_at_call 32
   refine(HM.out _ fC.out).mono ?_;rintro e X9 ⟨xa2,xm2,xq2,rfl,hcx,hb⟩;have hX':Hid (aE (fun _=>True) X9 (l ++ [⟨nm,ty⟩]) (.slice (some xa2) xm2 xq2)):=zq hcx;clear hcx
   go_wp2_with fail
   have zX9:=hb.size;replace fE:=a9 fE hb;replace fR:=a9 fR hb;replace c0_:=af hb c0_;replace c1_:=af hb c1_;replace c2_:=af hb c2_;replace c3_:=af hb c3_;replace c4_:=af hb c4_;replace c5_:=af hb c5_;replace c6_:=af hb c6_;replace c7_:=af hb c7_;replace c8_:=af hb c8_;replace fC:=mh hb fC;replace hT:=mh hb hT;replace fV:=a9 fV hb;have hX:=hX';clear hX';refine hko hK (fun hH7=>?_);clear hK K hH1 hb
   try simp only[hwA]
   refine hwe bd (fun K hK=>?_)
   go_simp
   go_at_call 17
   refine(IH.out _ _ _ fC.out hX.out (HTK.out.below fC.out) ⟨_,_,_,rfl⟩).mono ?_;rintro e X10 ⟨kt,at_,nt,qt,bt,tt,rfl,hbt,htt,hot,hb⟩;rw[HCO.out] at hbt hot;obtain rfl:bt=true:=hbt;obtain rfl:tt=h1.ty:=hot _ rfl;have hN':Hid (ai (fun b=>X9.heap.size<=b∧b<X10.heap.size) X10 h1.ty (.agg #[.int .i64 kt,.slice at_ nt qt])):=zq (htt.move (.weaken fun b h1 h2=>⟨h1.elim False.elim id,h2⟩));clear htt hot
   go_wp2_with fail
   have zX10:=hb.size;replace fE:=a9 fE hb;replace fR:=a9 fR hb;replace c0_:=af hb c0_;replace c1_:=af hb c1_;replace c2_:=af hb c2_;replace c3_:=af hb c3_;replace c4_:=af hb c4_;replace c5_:=af hb c5_;replace c6_:=af hb c6_;replace c7_:=af hb c7_;replace c8_:=af hb c8_;replace fC:=mh hb fC;replace hT:=mh hb hT;replace fV:=a9 fV hb;replace hX:=mh hb hX;have hN:=hN';clear hN';refine hko hK (fun hH8=>?_);clear hK K hH7 hb
   try simp only[hwA]
   refine hwq bl (.tuple #[.agg #[.int .i64 kt,.slice at_ nt qt],.bool true]) hH8 ?_;refine hwq bz (.agg #[.int .i64 kt,.slice at_ nt qt]) hH8 ?_;refine hwq bA (.bool true) hH8 ?_;refine hwe bF (fun K hK=>?_);obtain⟨r0,r1,rf0,rf1⟩:=b8 fV
   go_simp
   (try go_wp2_with fail);have hQq:=aJ fV (.int .i64 kt) (.slice at_ nt qt);clear fV r0 rf0 r1 rf1;obtain⟨X11,hXq,hsq,fV,zX11a,zX11b⟩:=hQq;rw[hXq];replace fE:=hsq.bk fE;replace fR:=hsq.bk fR;replace c0_:=hsq.cq c0_;replace c1_:=hsq.cq c1_;replace c2_:=hsq.cq c2_;replace c3_:=hsq.cq c3_;replace c4_:=hsq.cq c4_;replace c5_:=hsq.cq c5_;replace c6_:=hsq.cq c6_;replace c7_:=hsq.cq c7_;replace c8_:=hsq.cq c8_;replace fC:=hsq.be fC;replace hT:=zq (hsq.rep (fun b hb=>by have:b<w.heap.size:=hb;omega) hT.out);replace hN:=zq (hsq.rep (fun b hb=>by have h1:X9.heap.size<=b:=hb.1;have h2:b<X10.heap.size:=hb.2;omega) hN.out);refine hko hK (fun hH9=>?_);clear hK K hH8 hsq hXq hX
   try simp only[hwA]
   refine hwq bI (.bool true) hH9 ?_;refine hwd ?_;clear hH9;have d3:=ah fE (o:=3) rfl;have d4:=ah fE (o:=4) rfl;obtain⟨v0,v1⟩:=blk2 fV;have HT9:=zq (cB _ _ 4 ty h1.ty _ _ _ _ _ _ _ _ _ hT.out hN.out HCN.out (S.cnt_ok HV1.out))
   go_wp2_with fail
   refine HT9.out.mono ?_;rintro e X9 ⟨kr,ar,nr,qr,br,tr,rfl,hbr,htr,hor,hb⟩;have HBR:=zq hbr;have HTR:=zq htr;have HOR:=zq hor;have fR9:=a9 fR hb;have fC9:=zq (al fC.out hb);have z9:=hb.size;have lR9:=aw fR;clear hbr htr hor hb d3 d4 v0 v1;obtain⟨r0,r1⟩:=blk2 fR9;have rf0:=aj fR9 0;have rf1:=aj fR9 1
   go_wp2_with fail
   have hY:((X9.setCell ⟨w.heap.size+1,0,none⟩ (.int .i64 kr)).setCell ⟨w.heap.size+1,1,none⟩ (.slice ar nr qr)).heap[w.heap.size+1]?=some (.cells #[.int .i64 kr,.slice ar nr qr] 25 (0,0)):=az (az fR9 rfl) rfl;obtain⟨rc0,rc1⟩:=blk2 hY;refine bq (.tuple #[.agg #[.int .i64 kr,.slice ar nr qr],.bool br]) (by simp[results,Try.results17,go_sem,rc0,rc1]) ?_;have hne : ∀b,(False∨X11.heap.size<=b)->b≠w.heap.size+1:=fun b h=>by
     have h1:=h.elim False.elim id
     omega
   have hw0:=fC.out.size
   exact⟨_,_,_,_,_,tr,rfl,by rw[HO.out,dE HVT.out HCO.out];exact HBR.out,(ai.setN (ai.setN HTR.out hne) hne).move (.weaken fun b h _=>.inr (by have h1:=h.elim False.elim id;omega)),(by rw[HO.out,dE HVT.out HCO.out];exact HOR.out),(fC9.out.setCell (p:=⟨w.heap.size+1,0,none⟩) (by show w.heap.size<=w.heap.size+1;omega) _).setCell (p:=⟨w.heap.size+1,1,none⟩) (by show w.heap.size<=w.heap.size+1;omega) _⟩
end Go.Proofs.Ytfhglkmjibjjoaa

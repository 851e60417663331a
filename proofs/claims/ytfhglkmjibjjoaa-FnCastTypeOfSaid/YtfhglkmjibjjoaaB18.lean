/- spec.l4Exact: the type of a node of a term with casts by its operands' types. And what else its parts name. -/
import Derived.Test.YtfhglkmjibjjoaaB17
import Derived.Test.YtfhglkmjibjjoaaB19
set_option linter.unusedSimpArgs false
set_option linter.unusedVariables false
set_option maxRecDepth 100000
set_option maxHeartbeats 16000000
namespace Go.Proofs.Ytfhglkmjibjjoaa
open Go.RowKit
theorem pair_o {ty src:Ty}{g h:S}:(aM 10 ty src [g,h]).map S.ty=if (Ty.mk 5 [g.ty,h.ty]).valid=true then some (.mk 5 [g.ty,h.ty]) else none:=by
 rw[show(Ty.mk 5 [g.ty,h.ty])=(S.pr g h).ty from rfl,S.valid];simp only[aM]
 cases (S.pr g h).vd<;>simp
theorem iW {k:Int}{ty src:Ty}{a b:S}(hk:k=11∨k=12):aM k ty src [.pr a b]=some (if k=12 then b else a):=by
 have h5 : ¬k=5:=by omega
 have h14 : ¬k=14:=by omega
 simp[aM,h5,h14]
theorem proj_f {k:Int}{ty src:Ty}{h:S}(hk:k=11∨k=12)(hh:h.ty.kind≠5):aM k ty src [h]=none:=by
 have h5 : ¬k=5:=by omega
 have h14 : ¬k=14:=by omega
 cases h with
 | pr a b=>exact absurd rfl hh
 | _=>simp[aM,h5,h14]
theorem app_t {ty src:Ty}{a b h:S}(d:a.ty.same h.ty=true):aM 6 ty src [.fn a b,h]=some b:=by
 rw[S.same,decide_eq_true_eq] at d;subst d
 simp[aM]
theorem app_f {ty src:Ty}{a b h:S}(d:a.ty.same h.ty=false):aM 6 ty src [.fn a b,h]=none:=by
 rw[S.same,decide_eq_false_iff_not] at d
 simp[aM,d]
theorem app_n {ty src:Ty}{g h:S}(hh:g.ty.kind≠4):aM 6 ty src [g,h]=none:=by
 cases g with
 | fn a b=>exact absurd rfl hh
 | _=>simp[aM]
theorem ai.kindE {F:Nat->Prop}{w:World}{t:Ty}{k:Int}{s:Value}(h:ai F w t (.agg #[.int .i64 k,s])):k=t.kind:=by
 obtain⟨s',he,-⟩:=h;simp only[Value.agg.injEq,Array.mk.injEq,List.cons.injEq,Value.int.injEq,true_and] at he
 exact he.1
theorem jO (G1 G2 G3:Nat->Prop)(nm:ByteArray)(u lb tk fk:Int)(ty src:Ty)(ta fa ca:Option Addr)(tn tq fn fq cm cq:Nat)(w:World)(hty:ai G1 w ty (.agg #[.int .i64 tk,.slice ta tn tq]))(hsrc:ai G2 w src (.agg #[.int .i64 fk,.slice fa fn fq]))(y:Value)(h1 h2:S)(hv1:h1.vd=true)(hv2:h2.vd=true)(hy:av G3 w [h1.ty,h2.ty] y) :
  Calls Try.prog 34 #[.agg (nv 10 nm u tk ta tn tq fk fa fn fq lb ca cm cq),y] w (aX ((aM 10 ty src [h1,h2]).map S.ty) w):=by
 obtain⟨b,off,cap,k1,c1,m1,q1,k2,c2,m2,q2,rfl,-,-,hlb,e1a,e1b,e2a,e2b,ht1,ht2⟩:=hy.two;obtain⟨OO',hOO⟩ : ∃O:Option Ty,O=((aM 10 ty src [h1,h2]).map S.ty):=⟨_,rfl⟩
 rw[<-hOO];have HO:=zq hOO;clear hOO;have HC1:=zq (S.cnt_ok hv1);have HC2:=zq (S.cnt_ok hv2);clear hv1 hv2;have H1:=zq ht1.old;have H2:=zq ht2.old;clear hty hsrc hy ht1 ht2
 go_enter Try.func34,Try.ntmps34
 go_wp2_with fail
 generalize hVV:World.alloc (World.alloc w _) _=VV;obtain⟨hv,o1,o2,zV⟩:=bO hVV;have fE:=o1;have fR:=o2;have c1a_:=af hv e1a;have c1b_:=af hv e1b;have h1_:=zq (H1.out.below hv);have c2a_:=af hv e2a;have c2b_:=af hv e2b;have h2_:=zq (H2.out.below hv);have fC:=zq hv;clear hv o1 o2;refine wh4 c1a_ c1b_ c2a_ c2b_ (fun U16 hb zU16a zU16b hH0=>?_);replace fE:=a9 fE hb;replace fR:=a9 fR hb;replace c1a_:=af hb c1a_;replace c1b_:=af hb c1b_;replace h1_:=mh hb h1_;replace c2a_:=af hb c2a_;replace c2b_:=af hb c2b_;replace h2_:=mh hb h2_;replace fC:=mh hb fC;rw[zV] at zU16a zU16b;clear hb hVV zV;refine hwq hx0 (.slice (some ⟨b,off,none⟩) 2 cap) hH0 ?_;refine hwq hx1 (.pointer (some ⟨b,off,none⟩)) hH0 ?_;refine hwq hx2 (.agg #[.int .i64 k1,.slice c1 m1 q1]) hH0 ?_;refine hwq hx3 (.slice (some ⟨b,off,none⟩) 2 cap) hH0 ?_;refine hwq hx4 (.pointer (some ⟨b,off+2,none⟩)) hH0 ?_;refine hwq hx5 (.agg #[.int .i64 k2,.slice c2 m2 q2]) hH0 ?_;refine hwe hx6 (fun K hK=>?_)
 go_simp
 go_at_call 33
 refine(cB _ _ 5 h1.ty h2.ty _ _ _ _ _ _ _ _ _ h1_.out h2_.out HC1.out HC2.out).mono ?_;rintro e X1 ⟨kr,ar,nr,qr,br,tr,rfl,hbr,htr,hor,hb⟩;have hN1':Hid (ai (fun b=>U16.heap.size<=b∧b<X1.heap.size) X1 tr (.agg #[.int .i64 kr,.slice ar nr qr])):=zq (htr.move (.weaken fun b h1 h2=>⟨h1.elim False.elim id,h2⟩));have HBR:=zq hbr;have HOR:=zq hor;clear hbr htr hor
 go_wp2_with fail
 have zX1:=hb.size;replace fE:=a9 fE hb;replace fR:=a9 fR hb;replace c1a_:=af hb c1a_;replace c1b_:=af hb c1b_;replace h1_:=mh hb h1_;replace c2a_:=af hb c2a_;replace c2b_:=af hb c2b_;replace h2_:=mh hb h2_;replace fC:=mh hb fC;have hN1:=hN1';clear hN1';refine hko hK (fun hH1=>?_);clear hK K hH0 hb
 try simp only[hwA]
 refine hwq hx7 (.agg #[.int .i64 kr,.slice ar nr qr]) hH1 ?_;refine hwq hx8 (.bool br) hH1 ?_;refine hwe hx9 (fun K hK=>?_);obtain⟨r0,r1,rf0,rf1⟩:=b8 fR
 go_simp
 (try go_wp2_with fail);have hQq:=aJ fR (.int .i64 kr) (.slice ar nr qr);clear fR r0 rf0 r1 rf1;obtain⟨X2,hXq,hsq,fR,zX2a,zX2b⟩:=hQq;rw[hXq];replace fE:=hsq.bk fE;replace c1a_:=hsq.cq c1a_;replace c1b_:=hsq.cq c1b_;replace h1_:=zq (hsq.rep (fun b hb=>by have:b<w.heap.size:=hb;omega) h1_.out);replace c2a_:=hsq.cq c2a_;replace c2b_:=hsq.cq c2b_;replace h2_:=zq (hsq.rep (fun b hb=>by have:b<w.heap.size:=hb;omega) h2_.out);replace fC:=hsq.be fC;replace hN1:=zq (hsq.rep (fun b hb=>by have h1:U16.heap.size<=b:=hb.1;have h2:b<X1.heap.size:=hb.2;omega) hN1.out);refine hko hK (fun hH2=>?_);clear hK K hH1 hsq hXq
 try simp only[hwA]
 refine hwq bd (.bool br) hH2 ?_;refine hwd ?_;clear hH2;obtain⟨rc0,rc1⟩:=blk2 fR
 go_wp2_with fail
 refine bq (.tuple #[.agg #[.int .i64 kr,.slice ar nr qr],.bool br]) (by simp[results,Try.results34,go_sem,rc0,rc1]) ?_
 exact⟨_,_,_,_,_,tr,rfl,by rw[HO.out,pair_o,HBR.out],hN1.out.move (.weaken fun b h _=>.inr (by have h1:=h.1;omega)),(by rw[HO.out,pair_o];intro s h;exact HOR.out s h),fC.out⟩
theorem jP (G1 G2 G3:Nat->Prop)(nm:ByteArray)(u lb tk fk:Int)(ty src:Ty)(ta fa ca:Option Addr)(tn tq fn fq cm cq:Nat)(w:World)(hty:ai G1 w ty (.agg #[.int .i64 tk,.slice ta tn tq]))(hsrc:ai G2 w src (.agg #[.int .i64 fk,.slice fa fn fq]))(y:Value)(p1 p2:S)(hvp:p1.vd=true)(hy:av G3 w [(S.pr p1 p2).ty] y) :
  Calls Try.prog 34 #[.agg (nv 11 nm u tk ta tn tq fk fa fn fq lb ca cm cq),y] w (aX ((aM 11 ty src [S.pr p1 p2]).map S.ty) w):=by
 obtain⟨b,off,cap,k1,c1,m1,q1,rfl,hlb,e1a,e1b,ht1⟩:=hy.one;obtain⟨OO',hOO⟩ : ∃O:Option Ty,O=((aM 11 ty src [S.pr p1 p2]).map S.ty):=⟨_,rfl⟩
 rw[<-hOO];have HO:=zq hOO;clear hOO;have HCN:=zq (S.cnt_ok hvp);clear hvp;obtain⟨rfl,hks⟩:=ai.pairK ht1;obtain⟨b2,off2,cap2,k5,c5,m5,q5,k6,c6,m6,q6,hsl,-,-,hlb2,e5a,e5b,e6a,e6b,ht5,ht6⟩:=hks.two;simp only[Value.slice.injEq] at hsl;obtain⟨rfl,rfl,rfl⟩:=hsl;have H1:=zq ht1.old;have H5:=zq ht5.old;have H6:=zq ht6.old;clear hty hsrc hy ht1 ht5 ht6;clear hks
 go_enter Try.func34,Try.ntmps34
 go_wp2_with fail
 generalize hVV:World.alloc (World.alloc w _) _=VV;obtain⟨hv,o1,o2,zV⟩:=bO hVV;have fE:=o1;have fR:=o2;have c1a_:=af hv e1a;have c1b_:=af hv e1b;have h1_:=zq (H1.out.below hv);have c5a_:=af hv e5a;have c5b_:=af hv e5b;have h5_:=zq (H5.out.below hv);have c6a_:=af hv e6a;have c6b_:=af hv e6b;have h6_:=zq (H6.out.below hv);have fC:=zq hv;clear hv o1 o2;refine wh5 c1a_ c1b_ c5a_ c5b_ (bc0 fE) (fun U17 hb zU17a zU17b hH0=>?_);replace fE:=a9 fE hb;replace fR:=a9 fR hb;replace c1a_:=af hb c1a_;replace c1b_:=af hb c1b_;replace h1_:=mh hb h1_;replace c5a_:=af hb c5a_;replace c5b_:=af hb c5b_;replace h5_:=mh hb h5_;replace c6a_:=af hb c6a_;replace c6b_:=af hb c6b_;replace h6_:=mh hb h6_;replace fC:=mh hb fC;rw[zV] at zU17a zU17b;clear hb hVV zV;refine hwq hx0 (.slice (some ⟨b,off,none⟩) 1 cap) hH0 ?_;refine hwq hx1 (.pointer (some ⟨b,off,none⟩)) hH0 ?_;refine hwq hx2 (.pointer (some ⟨b,off+1,none⟩)) hH0 ?_;refine hwq hx3 (.slice (some ⟨b2,off2,none⟩) 2 q1) hH0 ?_;refine hwq hx4 (.pointer (some ⟨w.heap.size,0,none⟩)) hH0 ?_;refine hwq hx5 (.int .i64 11) hH0 ?_;refine hwq hx6 (.int .i64 0) hH0 ?_ (hy:=by intro w' hSw;go_simp;rfl);refine hwq hx7 (.pointer (some ⟨b2,off2,none⟩)) hH0 ?_;refine hwq hx8 (.agg #[.int .i64 k5,.slice c5 m5 q5]) hH0 ?_;refine hwe hx9 (fun K hK=>?_)
 go_simp
 go_at_call 46
 refine(b5 _ p1.ty _ _ h5_.out HCN.out).mono ?_;rintro e X1 ⟨v,rfl,hv,hb⟩;obtain⟨ke,ae,ne,qe,rfl⟩:=hv.shape;have hN1':=hv.rep.rg;clear hv
 go_wp2_with fail
 have zX1:=hb.size;replace fE:=a9 fE hb;replace fR:=a9 fR hb;replace c1a_:=af hb c1a_;replace c1b_:=af hb c1b_;replace h1_:=mh hb h1_;replace c5a_:=af hb c5a_;replace c5b_:=af hb c5b_;replace h5_:=mh hb h5_;replace c6a_:=af hb c6a_;replace c6b_:=af hb c6b_;replace h6_:=mh hb h6_;replace fC:=mh hb fC;have hN1:=hN1';clear hN1';refine hko hK (fun hH1=>?_);clear hK K hH0 hb
 try simp only[hwA]
 refine hwe bd (fun K hK=>?_);obtain⟨r0,r1,rf0,rf1⟩:=b8 fR
 go_simp
 (try go_wp2_with fail);have hQq:=aJ fR (.int .i64 ke) (.slice ae ne qe);clear fR r0 rf0 r1 rf1;obtain⟨X2,hXq,hsq,fR,zX2a,zX2b⟩:=hQq;rw[hXq];replace fE:=hsq.bk fE;replace c1a_:=hsq.cq c1a_;replace c1b_:=hsq.cq c1b_;replace h1_:=zq (hsq.rep (fun b hb=>by have:b<w.heap.size:=hb;omega) h1_.out);replace c5a_:=hsq.cq c5a_;replace c5b_:=hsq.cq c5b_;replace h5_:=zq (hsq.rep (fun b hb=>by have:b<w.heap.size:=hb;omega) h5_.out);replace c6a_:=hsq.cq c6a_;replace c6b_:=hsq.cq c6b_;replace h6_:=zq (hsq.rep (fun b hb=>by have:b<w.heap.size:=hb;omega) h6_.out);replace fC:=hsq.be fC;replace hN1:=zq (hsq.rep (fun b hb=>by have h1:U17.heap.size<=b:=hb.1;have h2:b<X1.heap.size:=hb.2;omega) hN1.out);refine hko hK (fun hH2=>?_);clear hK K hH1 hsq hXq
 try simp only[hwA]
 refine hwq bl (.bool true) hH2 ?_;refine hwd ?_;clear hH2;obtain⟨rc0,rc1⟩:=blk2 fR
 go_wp2_with fail
 refine bq (.tuple #[.agg #[.int .i64 ke,.slice ae ne qe],.bool true]) (by simp[results,Try.results34,go_sem,rc0,rc1]) ?_
 exact⟨_,_,_,_,_,p1.ty,rfl,by rw[HO.out,iW (k:=11) (by omega)];rfl,hN1.out.move (.weaken fun b h _=>.inr (by have h1:=h.1;omega)),(by rw[HO.out,iW (k:=11) (by omega)];intro s h;exact Option.some.inj h),fC.out⟩
theorem iB (G1 G2 G3:Nat->Prop)(nm:ByteArray)(u lb tk fk:Int)(ty src:Ty)(ta fa ca:Option Addr)(tn tq fn fq cm cq:Nat)(w:World)(hty:ai G1 w ty (.agg #[.int .i64 tk,.slice ta tn tq]))(hsrc:ai G2 w src (.agg #[.int .i64 fk,.slice fa fn fq]))(y:Value)(h1:S)(hh:h1.ty.kind≠5)(hy:av G3 w [h1.ty] y) :
  Calls Try.prog 34 #[.agg (nv 11 nm u tk ta tn tq fk fa fn fq lb ca cm cq),y] w (aX ((aM 11 ty src [h1]).map S.ty) w):=by
 obtain⟨b,off,cap,k1,c1,m1,q1,rfl,hlb,e1a,e1b,ht1⟩:=hy.one;have hk1:(k1==5)=false:=by rw[ht1.kindE];simpa using hh
 have hk2:(k1 != 5)=true:=by simp only[bne,hk1];rfl
 rw[proj_f (k:=11) (by omega) hh];have e1a':=af (ag (o:=.cells (nv 11 nm u tk ta tn tq fk fa fn fq lb ca cm cq) 28)) e1a;have hlb1:b<w.heap.size+1:=by omega
 clear hty hsrc hy ht1 hh
 go_enter Try.func34,Try.ntmps34
 go_wp2_with fail
 refine bq (.tuple #[.agg #[.int .i64 0,.slice none 0 0],.bool false]) (by simp[results,Try.results34,go_sem]) ?_
 exact⟨_,_,_,_,_,_,rfl,rfl,ai.zeroG,(by intro s h;cases h),al ag ag⟩
theorem jQ (G1 G2 G3:Nat->Prop)(nm:ByteArray)(u lb tk fk:Int)(ty src:Ty)(ta fa ca:Option Addr)(tn tq fn fq cm cq:Nat)(w:World)(hty:ai G1 w ty (.agg #[.int .i64 tk,.slice ta tn tq]))(hsrc:ai G2 w src (.agg #[.int .i64 fk,.slice fa fn fq]))(y:Value)(p1 p2:S)(hvp:p2.vd=true)(hy:av G3 w [(S.pr p1 p2).ty] y) :
  Calls Try.prog 34 #[.agg (nv 12 nm u tk ta tn tq fk fa fn fq lb ca cm cq),y] w (aX ((aM 12 ty src [S.pr p1 p2]).map S.ty) w):=by
 obtain⟨b,off,cap,k1,c1,m1,q1,rfl,hlb,e1a,e1b,ht1⟩:=hy.one;obtain⟨OO',hOO⟩ : ∃O:Option Ty,O=((aM 12 ty src [S.pr p1 p2]).map S.ty):=⟨_,rfl⟩
 rw[<-hOO];have HO:=zq hOO;clear hOO;have HCN:=zq (S.cnt_ok hvp);clear hvp;obtain⟨rfl,hks⟩:=ai.pairK ht1;obtain⟨b2,off2,cap2,k5,c5,m5,q5,k6,c6,m6,q6,hsl,-,-,hlb2,e5a,e5b,e6a,e6b,ht5,ht6⟩:=hks.two;simp only[Value.slice.injEq] at hsl;obtain⟨rfl,rfl,rfl⟩:=hsl;have H1:=zq ht1.old;have H5:=zq ht5.old;have H6:=zq ht6.old;clear hty hsrc hy ht1 ht5 ht6;clear hks
 go_enter Try.func34,Try.ntmps34
 go_wp2_with fail
 generalize hVV:World.alloc (World.alloc w _) _=VV;obtain⟨hv,o1,o2,zV⟩:=bO hVV;have fE:=o1;have fR:=o2;have c1a_:=af hv e1a;have c1b_:=af hv e1b;have h1_:=zq (H1.out.below hv);have c5a_:=af hv e5a;have c5b_:=af hv e5b;have h5_:=zq (H5.out.below hv);have c6a_:=af hv e6a;have c6b_:=af hv e6b;have h6_:=zq (H6.out.below hv);have fC:=zq hv;clear hv o1 o2;refine wh5 c1a_ c1b_ c6a_ c6b_ (bc0 fE) (fun U18 hb zU18a zU18b hH0=>?_);replace fE:=a9 fE hb;replace fR:=a9 fR hb;replace c1a_:=af hb c1a_;replace c1b_:=af hb c1b_;replace h1_:=mh hb h1_;replace c5a_:=af hb c5a_;replace c5b_:=af hb c5b_;replace h5_:=mh hb h5_;replace c6a_:=af hb c6a_;replace c6b_:=af hb c6b_;replace h6_:=mh hb h6_;replace fC:=mh hb fC;rw[zV] at zU18a zU18b;clear hb hVV zV;refine hwq hx0 (.slice (some ⟨b,off,none⟩) 1 cap) hH0 ?_;refine hwq hx1 (.pointer (some ⟨b,off,none⟩)) hH0 ?_;refine hwq hx2 (.pointer (some ⟨b,off+1,none⟩)) hH0 ?_;refine hwq hx3 (.slice (some ⟨b2,off2,none⟩) 2 q1) hH0 ?_;refine hwq hx4 (.pointer (some ⟨w.heap.size,0,none⟩)) hH0 ?_;refine hwq hx5 (.int .i64 12) hH0 ?_;refine hwq hx6 (.int .i64 1) hH0 ?_ (hy:=by intro w' hSw;go_simp;rfl);refine hwq hx7 (.pointer (some ⟨b2,off2+2,none⟩)) hH0 ?_;refine hwq hx8 (.agg #[.int .i64 k6,.slice c6 m6 q6]) hH0 ?_;refine hwe hx9 (fun K hK=>?_)
 go_simp
 go_at_call 46
 refine(b5 _ p2.ty _ _ h6_.out HCN.out).mono ?_;rintro e X1 ⟨v,rfl,hv,hb⟩;obtain⟨ke,ae,ne,qe,rfl⟩:=hv.shape;have hN1':=hv.rep.rg;clear hv
 go_wp2_with fail
 have zX1:=hb.size;replace fE:=a9 fE hb;replace fR:=a9 fR hb;replace c1a_:=af hb c1a_;replace c1b_:=af hb c1b_;replace h1_:=mh hb h1_;replace c5a_:=af hb c5a_;replace c5b_:=af hb c5b_;replace h5_:=mh hb h5_;replace c6a_:=af hb c6a_;replace c6b_:=af hb c6b_;replace h6_:=mh hb h6_;replace fC:=mh hb fC;have hN1:=hN1';clear hN1';refine hko hK (fun hH1=>?_);clear hK K hH0 hb
 try simp only[hwA]
 refine hwe bd (fun K hK=>?_);obtain⟨r0,r1,rf0,rf1⟩:=b8 fR
 go_simp
 (try go_wp2_with fail);have hQq:=aJ fR (.int .i64 ke) (.slice ae ne qe);clear fR r0 rf0 r1 rf1;obtain⟨X2,hXq,hsq,fR,zX2a,zX2b⟩:=hQq;rw[hXq];replace fE:=hsq.bk fE;replace c1a_:=hsq.cq c1a_;replace c1b_:=hsq.cq c1b_;replace h1_:=zq (hsq.rep (fun b hb=>by have:b<w.heap.size:=hb;omega) h1_.out);replace c5a_:=hsq.cq c5a_;replace c5b_:=hsq.cq c5b_;replace h5_:=zq (hsq.rep (fun b hb=>by have:b<w.heap.size:=hb;omega) h5_.out);replace c6a_:=hsq.cq c6a_;replace c6b_:=hsq.cq c6b_;replace h6_:=zq (hsq.rep (fun b hb=>by have:b<w.heap.size:=hb;omega) h6_.out);replace fC:=hsq.be fC;replace hN1:=zq (hsq.rep (fun b hb=>by have h1:U18.heap.size<=b:=hb.1;have h2:b<X1.heap.size:=hb.2;omega) hN1.out);refine hko hK (fun hH2=>?_);clear hK K hH1 hsq hXq
 try simp only[hwA]
 refine hwq bl (.bool true) hH2 ?_;refine hwd ?_;clear hH2;obtain⟨rc0,rc1⟩:=blk2 fR
 go_wp2_with fail
 refine bq (.tuple #[.agg #[.int .i64 ke,.slice ae ne qe],.bool true]) (by simp[results,Try.results34,go_sem,rc0,rc1]) ?_
 exact⟨_,_,_,_,_,p2.ty,rfl,by rw[HO.out,iW (k:=12) (by omega)];rfl,hN1.out.move (.weaken fun b h _=>.inr (by have h1:=h.1;omega)),(by rw[HO.out,iW (k:=12) (by omega)];intro s h;exact Option.some.inj h),fC.out⟩
theorem iC (G1 G2 G3:Nat->Prop)(nm:ByteArray)(u lb tk fk:Int)(ty src:Ty)(ta fa ca:Option Addr)(tn tq fn fq cm cq:Nat)(w:World)(hty:ai G1 w ty (.agg #[.int .i64 tk,.slice ta tn tq]))(hsrc:ai G2 w src (.agg #[.int .i64 fk,.slice fa fn fq]))(y:Value)(h1:S)(hh:h1.ty.kind≠5)(hy:av G3 w [h1.ty] y) :
  Calls Try.prog 34 #[.agg (nv 12 nm u tk ta tn tq fk fa fn fq lb ca cm cq),y] w (aX ((aM 12 ty src [h1]).map S.ty) w):=by
 obtain⟨b,off,cap,k1,c1,m1,q1,rfl,hlb,e1a,e1b,ht1⟩:=hy.one;have hk1:(k1==5)=false:=by rw[ht1.kindE];simpa using hh
 have hk2:(k1 != 5)=true:=by simp only[bne,hk1];rfl
 rw[proj_f (k:=12) (by omega) hh];have e1a':=af (ag (o:=.cells (nv 12 nm u tk ta tn tq fk fa fn fq lb ca cm cq) 28)) e1a;have hlb1:b<w.heap.size+1:=by omega
 clear hty hsrc hy ht1 hh
 go_enter Try.func34,Try.ntmps34
 go_wp2_with fail
 refine bq (.tuple #[.agg #[.int .i64 0,.slice none 0 0],.bool false]) (by simp[results,Try.results34,go_sem]) ?_
 exact⟨_,_,_,_,_,_,rfl,rfl,ai.zeroG,(by intro s h;cases h),al ag ag⟩
theorem jg (G1 G2 G3:Nat->Prop)(nm:ByteArray)(u lb tk fk:Int)(ty src:Ty)(ta fa ca:Option Addr)(tn tq fn fq cm cq:Nat)(w:World)(hty:ai G1 w ty (.agg #[.int .i64 tk,.slice ta tn tq]))(hsrc:ai G2 w src (.agg #[.int .i64 fk,.slice fa fn fq]))(y:Value)(p1 p2 h2:S)(hvp:p2.vd=true)(d1:p1.ty.same h2.ty=true)(hy:av G3 w [(S.fn p1 p2).ty,h2.ty] y) :
  Calls Try.prog 34 #[.agg (nv 6 nm u tk ta tn tq fk fa fn fq lb ca cm cq),y] w (aX ((aM 6 ty src [S.fn p1 p2,h2]).map S.ty) w):=by
 obtain⟨b,off,cap,k1,c1,m1,q1,k2,c2,m2,q2,rfl,-,-,hlb,e1a,e1b,e2a,e2b,ht1,ht2⟩:=hy.two;obtain⟨OO',hOO⟩ : ∃O:Option Ty,O=((aM 6 ty src [S.fn p1 p2,h2]).map S.ty):=⟨_,rfl⟩
 rw[<-hOO];have HO:=zq hOO;clear hOO;have D1:=zq d1;have HCN:=zq (S.cnt_ok hvp);clear d1 hvp;obtain⟨rfl,hks⟩:=ai.pairK ht1;obtain⟨b2,off2,cap2,k5,c5,m5,q5,k6,c6,m6,q6,hsl,-,-,hlb2,e5a,e5b,e6a,e6b,ht5,ht6⟩:=hks.two;simp only[Value.slice.injEq] at hsl;obtain⟨rfl,rfl,rfl⟩:=hsl;have H1:=zq ht1.old;have H2:=zq ht2.old;have H5:=zq ht5.old;have H6:=zq ht6.old;clear hty hsrc hy ht1 ht2 ht5 ht6;clear hks
 go_enter Try.func34,Try.ntmps34
 go_wp2_with fail
 generalize hVV:World.alloc (World.alloc w _) _=VV;obtain⟨hv,o1,o2,zV⟩:=bO hVV;have fE:=o1;have fR:=o2;have c1a_:=af hv e1a;have c1b_:=af hv e1b;have h1_:=zq (H1.out.below hv);have c2a_:=af hv e2a;have c2b_:=af hv e2b;have h2_:=zq (H2.out.below hv);have c5a_:=af hv e5a;have c5b_:=af hv e5b;have h5_:=zq (H5.out.below hv);have c6a_:=af hv e6a;have c6b_:=af hv e6b;have h6_:=zq (H6.out.below hv);have fC:=zq hv;clear hv o1 o2;refine wh6 c1a_ c1b_ c2a_ c2b_ c5a_ c5b_ (fun U19 hb zU19a zU19b hH0=>?_);replace fE:=a9 fE hb;replace fR:=a9 fR hb;replace c1a_:=af hb c1a_;replace c1b_:=af hb c1b_;replace h1_:=mh hb h1_;replace c2a_:=af hb c2a_;replace c2b_:=af hb c2b_;replace h2_:=mh hb h2_;replace c5a_:=af hb c5a_;replace c5b_:=af hb c5b_;replace h5_:=mh hb h5_;replace c6a_:=af hb c6a_;replace c6b_:=af hb c6b_;replace h6_:=mh hb h6_;replace fC:=mh hb fC;rw[zV] at zU19a zU19b;clear hb hVV zV;refine hwq hx0 (.slice (some ⟨b,off,none⟩) 2 cap) hH0 ?_;refine hwq hx1 (.pointer (some ⟨b,off,none⟩)) hH0 ?_;refine hwq hx2 (.pointer (some ⟨b,off,none⟩)) hH0 ?_;refine hwq hx3 (.int .i64 4) hH0 ?_;refine hwq hx4 (.bool false) hH0 ?_;refine hwq hx5 (.bool false) hH0 ?_;refine hwq hx6 (.slice (some ⟨b,off,none⟩) 2 cap) hH0 ?_;refine hwq hx7 (.pointer (some ⟨b,off,none⟩)) hH0 ?_;refine hwq hx8 (.pointer (some ⟨b,off+1,none⟩)) hH0 ?_;refine hwq hx9 (.slice (some ⟨b2,off2,none⟩) 2 q1) hH0 ?_;refine hwq bd (.pointer (some ⟨b2,off2,none⟩)) hH0 ?_;refine hwq bl (.agg #[.int .i64 k5,.slice c5 m5 q5]) hH0 ?_;refine hwq bz (.slice (some ⟨b,off,none⟩) 2 cap) hH0 ?_;refine hwq bA (.pointer (some ⟨b,off+2,none⟩)) hH0 ?_;refine hwq bB (.agg #[.int .i64 k2,.slice c2 m2 q2]) hH0 ?_;refine hwe bF (fun K hK=>?_)
 go_simp
 go_at_call 62
 refine(bm _ _ _ _ _ _ _ h5_.out h2_.out).mono ?_;rintro e X1 ⟨rfl,hb⟩;rw[D1.out]
 go_wp2_with fail
 have zX1:=hb.size;replace fE:=a9 fE hb;replace fR:=a9 fR hb;replace c1a_:=af hb c1a_;replace c1b_:=af hb c1b_;replace h1_:=mh hb h1_;replace c2a_:=af hb c2a_;replace c2b_:=af hb c2b_;replace h2_:=mh hb h2_;replace c5a_:=af hb c5a_;replace c5b_:=af hb c5b_;replace h5_:=mh hb h5_;replace c6a_:=af hb c6a_;replace c6b_:=af hb c6b_;replace h6_:=mh hb h6_;replace fC:=mh hb fC;refine hko hK (fun hH1=>?_);clear hK K hH0 hb
 try simp only[hwA]
 refine hwq bI (.bool false) hH1 ?_;refine hwq co (.bool false) hH1 ?_;refine hwd ?_;clear hH1
 go_wp2_with fail
 refine(b5 _ p2.ty _ _ h6_.out HCN.out).mono ?_;rintro e X9 ⟨v,rfl,hv,hb⟩;obtain⟨ke,ae,ne,qe,rfl⟩:=hv.shape;have HN:=zq hv;have fR9:=a9 fR hb;have fC9:=zq (al fC.out hb);have z9:=hb.size;clear hv hb;obtain⟨r0,r1⟩:=blk2 fR9;have rf0:=aj fR9 0;have rf1:=aj fR9 1
 go_wp2_with fail
 have hY:((X9.setCell ⟨w.heap.size+1,0,none⟩ (.int .i64 ke)).setCell ⟨w.heap.size+1,1,none⟩ (.slice ae ne qe)).heap[w.heap.size+1]?=some (.cells #[.int .i64 ke,.slice ae ne qe] 25 (0,0)):=az (az fR9 rfl) rfl;obtain⟨rc0,rc1⟩:=blk2 hY;refine bq (.tuple #[.agg #[.int .i64 ke,.slice ae ne qe],.bool true]) (by simp[results,Try.results34,go_sem,rc0,rc1]) ?_
 exact⟨_,_,_,_,_,p2.ty,rfl,by rw[HO.out,app_t D1.out];rfl,((HN.out.setCell (p:=⟨w.heap.size+1,0,none⟩) (by show w.heap.size+1<X1.heap.size;omega) _).setCell (p:=⟨w.heap.size+1,1,none⟩) (by show w.heap.size+1<X1.heap.size;omega) _).rep.move (.weaken fun b h _=>.inr (by have h1:X1.heap.size<=b:=h;omega)),(by rw[HO.out,app_t D1.out];intro s h;exact Option.some.inj h),(fC9.out.setCell (p:=⟨w.heap.size+1,0,none⟩) (by show w.heap.size<=w.heap.size+1;omega) _).setCell (p:=⟨w.heap.size+1,1,none⟩) (by show w.heap.size<=w.heap.size+1;omega) _⟩
theorem je (G1 G2 G3:Nat->Prop)(nm:ByteArray)(u lb tk fk:Int)(ty src:Ty)(ta fa ca:Option Addr)(tn tq fn fq cm cq:Nat)(w:World)(hty:ai G1 w ty (.agg #[.int .i64 tk,.slice ta tn tq]))(hsrc:ai G2 w src (.agg #[.int .i64 fk,.slice fa fn fq]))(y:Value)(p1 p2 h2:S)(hvp:p2.vd=true)(d1:p1.ty.same h2.ty=false)(hy:av G3 w [(S.fn p1 p2).ty,h2.ty] y) :
  Calls Try.prog 34 #[.agg (nv 6 nm u tk ta tn tq fk fa fn fq lb ca cm cq),y] w (aX ((aM 6 ty src [S.fn p1 p2,h2]).map S.ty) w):=by
 obtain⟨b,off,cap,k1,c1,m1,q1,k2,c2,m2,q2,rfl,-,-,hlb,e1a,e1b,e2a,e2b,ht1,ht2⟩:=hy.two;obtain⟨OO',hOO⟩ : ∃O:Option Ty,O=((aM 6 ty src [S.fn p1 p2,h2]).map S.ty):=⟨_,rfl⟩
 rw[<-hOO];have HO:=zq hOO;clear hOO;have D1:=zq d1;have HCN:=zq (S.cnt_ok hvp);clear d1 hvp;obtain⟨rfl,hks⟩:=ai.pairK ht1;obtain⟨b2,off2,cap2,k5,c5,m5,q5,k6,c6,m6,q6,hsl,-,-,hlb2,e5a,e5b,e6a,e6b,ht5,ht6⟩:=hks.two;simp only[Value.slice.injEq] at hsl;obtain⟨rfl,rfl,rfl⟩:=hsl;have H1:=zq ht1.old;have H2:=zq ht2.old;have H5:=zq ht5.old;have H6:=zq ht6.old;clear hty hsrc hy ht1 ht2 ht5 ht6;clear hks
 go_enter Try.func34,Try.ntmps34
 go_wp2_with fail
 generalize hVV:World.alloc (World.alloc w _) _=VV;obtain⟨hv,o1,o2,zV⟩:=bO hVV;have fE:=o1;have fR:=o2;have c1a_:=af hv e1a;have c1b_:=af hv e1b;have h1_:=zq (H1.out.below hv);have c2a_:=af hv e2a;have c2b_:=af hv e2b;have h2_:=zq (H2.out.below hv);have c5a_:=af hv e5a;have c5b_:=af hv e5b;have h5_:=zq (H5.out.below hv);have c6a_:=af hv e6a;have c6b_:=af hv e6b;have h6_:=zq (H6.out.below hv);have fC:=zq hv;clear hv o1 o2;refine wh6 c1a_ c1b_ c2a_ c2b_ c5a_ c5b_ (fun U20 hb zU20a zU20b hH0=>?_);replace fE:=a9 fE hb;replace fR:=a9 fR hb;replace c1a_:=af hb c1a_;replace c1b_:=af hb c1b_;replace h1_:=mh hb h1_;replace c2a_:=af hb c2a_;replace c2b_:=af hb c2b_;replace h2_:=mh hb h2_;replace c5a_:=af hb c5a_;replace c5b_:=af hb c5b_;replace h5_:=mh hb h5_;replace c6a_:=af hb c6a_;replace c6b_:=af hb c6b_;replace h6_:=mh hb h6_;replace fC:=mh hb fC;rw[zV] at zU20a zU20b;clear hb hVV zV;refine hwq hx0 (.slice (some ⟨b,off,none⟩) 2 cap) hH0 ?_;refine hwq hx1 (.pointer (some ⟨b,off,none⟩)) hH0 ?_;refine hwq hx2 (.pointer (some ⟨b,off,none⟩)) hH0 ?_;refine hwq hx3 (.int .i64 4) hH0 ?_;refine hwq hx4 (.bool false) hH0 ?_;refine hwq hx5 (.bool false) hH0 ?_;refine hwq hx6 (.slice (some ⟨b,off,none⟩) 2 cap) hH0 ?_;refine hwq hx7 (.pointer (some ⟨b,off,none⟩)) hH0 ?_;refine hwq hx8 (.pointer (some ⟨b,off+1,none⟩)) hH0 ?_;refine hwq hx9 (.slice (some ⟨b2,off2,none⟩) 2 q1) hH0 ?_;refine hwq bd (.pointer (some ⟨b2,off2,none⟩)) hH0 ?_;refine hwq bl (.agg #[.int .i64 k5,.slice c5 m5 q5]) hH0 ?_;refine hwq bz (.slice (some ⟨b,off,none⟩) 2 cap) hH0 ?_;refine hwq bA (.pointer (some ⟨b,off+2,none⟩)) hH0 ?_;refine hwq bB (.agg #[.int .i64 k2,.slice c2 m2 q2]) hH0 ?_;refine hwe bF (fun K hK=>?_)
 go_simp
 go_at_call 62
 refine(bm _ _ _ _ _ _ _ h5_.out h2_.out).mono ?_;rintro e X1 ⟨rfl,hb⟩;rw[D1.out]
 go_wp2_with fail
 have zX1:=hb.size;replace fE:=a9 fE hb;replace fR:=a9 fR hb;replace c1a_:=af hb c1a_;replace c1b_:=af hb c1b_;replace h1_:=mh hb h1_;replace c2a_:=af hb c2a_;replace c2b_:=af hb c2b_;replace h2_:=mh hb h2_;replace c5a_:=af hb c5a_;replace c5b_:=af hb c5b_;replace h5_:=mh hb h5_;replace c6a_:=af hb c6a_;replace c6b_:=af hb c6b_;replace h6_:=mh hb h6_;replace fC:=mh hb fC;refine hko hK (fun hH1=>?_);clear hK K hH0 hb
 try simp only[hwA]
 refine hwq bI (.bool true) hH1 ?_;refine hwq co (.bool true) hH1 ?_;refine hwd ?_;clear hH1;obtain⟨r0,r1⟩:=blk2 fR;have rf0:=aj fR 0;have rf1:=aj fR 1
 go_wp2_with fail
 have hY:((X1.setCell ⟨w.heap.size+1,0,none⟩ (.int .i64 0)).setCell ⟨w.heap.size+1,1,none⟩ (.slice none 0 0)).heap[w.heap.size+1]?=some (.cells #[.int .i64 0,.slice none 0 0] 25 (0,0)):=az (az fR rfl) rfl;obtain⟨rc0,rc1⟩:=blk2 hY;refine bq (.tuple #[.agg #[.int .i64 0,.slice none 0 0],.bool false]) (by simp[results,Try.results34,go_sem,rc0,rc1]) ?_
 exact⟨_,_,_,_,_,_,rfl,by rw[HO.out,app_f D1.out];rfl,ai.zeroG,(by rw[HO.out,app_f D1.out];intro s h;simp at h),(fC.out.setCell (p:=⟨w.heap.size+1,0,none⟩) (by show w.heap.size<=w.heap.size+1;omega) _).setCell (p:=⟨w.heap.size+1,1,none⟩) (by show w.heap.size<=w.heap.size+1;omega) _⟩
theorem jf (G1 G2 G3:Nat->Prop)(nm:ByteArray)(u lb tk fk:Int)(ty src:Ty)(ta fa ca:Option Addr)(tn tq fn fq cm cq:Nat)(w:World)(hty:ai G1 w ty (.agg #[.int .i64 tk,.slice ta tn tq]))(hsrc:ai G2 w src (.agg #[.int .i64 fk,.slice fa fn fq]))(y:Value)(h1 h2:S)(hh:h1.ty.kind≠4)(hy:av G3 w [h1.ty,h2.ty] y) :
  Calls Try.prog 34 #[.agg (nv 6 nm u tk ta tn tq fk fa fn fq lb ca cm cq),y] w (aX ((aM 6 ty src [h1,h2]).map S.ty) w):=by
 obtain⟨b,off,cap,k1,c1,m1,q1,k2,c2,m2,q2,rfl,-,-,hlb,e1a,e1b,e2a,e2b,ht1,ht2⟩:=hy.two;obtain⟨OO',hOO⟩ : ∃O:Option Ty,O=((aM 6 ty src [h1,h2]).map S.ty):=⟨_,rfl⟩
 rw[<-hOO];have HO:=zq hOO;clear hOO;have hk1:(k1==4)=false:=by rw[ht1.kindE];simpa using hh
 have hk2:(k1 != 4)=true:=by simp only[bne,hk1];rfl
 have HH:=zq hh;clear hh;have H1:=zq ht1.old;have H2:=zq ht2.old;clear hty hsrc hy ht1 ht2
 go_enter Try.func34,Try.ntmps34
 go_wp2_with fail
 generalize hVV:World.alloc (World.alloc w _) _=VV;obtain⟨hv,o1,o2,zV⟩:=bO hVV;have fE:=o1;have fR:=o2;have c1a_:=af hv e1a;have c1b_:=af hv e1b;have h1_:=zq (H1.out.below hv);have c2a_:=af hv e2a;have c2b_:=af hv e2b;have h2_:=zq (H2.out.below hv);have fC:=zq hv;clear hv o1 o2;refine wh2 c1a_ c1b_ (fun U21 hb zU21a zU21b hH0=>?_);replace fE:=a9 fE hb;replace fR:=a9 fR hb;replace c1a_:=af hb c1a_;replace c1b_:=af hb c1b_;replace h1_:=mh hb h1_;replace c2a_:=af hb c2a_;replace c2b_:=af hb c2b_;replace h2_:=mh hb h2_;replace fC:=mh hb fC;rw[zV] at zU21a zU21b;clear hb hVV zV;refine hwq hx0 (.slice (some ⟨b,off,none⟩) 2 cap) hH0 ?_;refine hwq hx1 (.pointer (some ⟨b,off,none⟩)) hH0 ?_;refine hwq hx2 (.pointer (some ⟨b,off,none⟩)) hH0 ?_;refine hwq hx3 (.int .i64 k1) hH0 ?_;refine hwq hx4 (.bool true) hH0 ?_;refine hwq hx5 (.bool true) hH0 ?_;refine hwu hx6 hH0 ?_;refine hwu hx7 hH0 ?_;refine hwu hx8 hH0 ?_;refine hwu hx9 hH0 ?_;refine hwu bd hH0 ?_;refine hwu bl hH0 ?_;refine hwu bz hH0 ?_;refine hwu bA hH0 ?_;refine hwu bB hH0 ?_;refine hwu bF hH0 ?_;refine hwu bI hH0 ?_;refine hwq co (.bool true) hH0 ?_;refine hwd ?_;clear hH0;obtain⟨r0,r1⟩:=blk2 fR;have rf0:=aj fR 0;have rf1:=aj fR 1
 go_wp2_with fail
 have hY:((U21.setCell ⟨w.heap.size+1,0,none⟩ (.int .i64 0)).setCell ⟨w.heap.size+1,1,none⟩ (.slice none 0 0)).heap[w.heap.size+1]?=some (.cells #[.int .i64 0,.slice none 0 0] 25 (0,0)):=az (az fR rfl) rfl;obtain⟨rc0,rc1⟩:=blk2 hY;refine bq (.tuple #[.agg #[.int .i64 0,.slice none 0 0],.bool false]) (by simp[results,Try.results34,go_sem,rc0,rc1]) ?_
 exact⟨_,_,_,_,_,_,rfl,by rw[HO.out,app_n HH.out];rfl,ai.zeroG,(by rw[HO.out,app_n HH.out];intro s h;simp at h),(fC.out.setCell (p:=⟨w.heap.size+1,0,none⟩) (by show w.heap.size<=w.heap.size+1;omega) _).setCell (p:=⟨w.heap.size+1,1,none⟩) (by show w.heap.size<=w.heap.size+1;omega) _⟩
theorem nC (k:Int)(hs:List S)(hk:6<=k∧k<=12∨k=14)(hlen:aD k=(hs.length:Int))(hv : ∀h∈hs,h.vd=true)(G1 G2 G3:Nat->Prop)(nm:ByteArray)(u lb tk fk:Int)(ty src:Ty)(ta fa ca:Option Addr)(tn tq fn fq cm cq:Nat)(w:World)(hty:ai G1 w ty (.agg #[.int .i64 tk,.slice ta tn tq]))(hsrc:ai G2 w src (.agg #[.int .i64 fk,.slice fa fn fq]))(hvt:k=14->ty.valid=true)(y:Value)(hy:av G3 w (hs.map S.ty) y) :
  Calls Try.prog 34 #[.agg (nv k nm u tk ta tn tq fk fa fn fq lb ca cm cq),y] w (aX ((aM k ty src hs).map S.ty) w):=by
 have one:k=11∨k=12∨k=14->∃h,hs = [h]:=fun h=>by
  have:hs.length=1:=by rcases h with rfl | rfl | rfl<;>simp[aD] at hlen<;>omega
  exact List.length_eq_one_iff.1 this
 have two:k=6∨k=7∨k=8∨k=10->∃g h,hs = [g,h]:=fun h=>by
  have:hs.length=2:=by rcases h with rfl | rfl | rfl | rfl<;>simp[aD] at hlen<;>omega
  match hs,this with
  | [a,b],_=>exact⟨a,b,rfl⟩
 have three:k=9->∃c g h,hs = [c,g,h]:=fun h=>by
  have:hs.length=3:=by subst h;simp[aD] at hlen;omega
  match hs,this with
  | [a,b,c],_=>exact⟨a,b,c,rfl⟩
 rcases(show k=6∨k=7∨k=8∨k=9∨k=10∨k=11∨k=12∨k=14 by omega) with rfl | rfl | rfl | rfl | rfl | rfl | rfl | rfl
 ·obtain⟨g,h,rfl⟩:=two (by omega)
  have hg:=hv g (by simp)
  by_cases h4:g.ty.kind=4
  ·cases g with
   | fn a b=>
    cases d:a.ty.same h.ty with
    | true=>exact jg G1 G2 G3 nm u lb tk fk ty src ta fa ca tn tq fn fq cm cq w hty hsrc y a b h (dJ hg).2 d hy
    | false=>exact je G1 G2 G3 nm u lb tk fk ty src ta fa ca tn tq fn fq cm cq w hty hsrc y a b h (dJ hg).2 d hy
   | zero=>simp[S.ty,Ty.kind] at h4
   | any=>simp[S.ty,Ty.kind] at h4
   | int=>simp[S.ty,Ty.kind] at h4
   | bool=>simp[S.ty,Ty.kind] at h4
   | pr a b=>simp[S.ty,Ty.kind] at h4
  ·exact jf G1 G2 G3 nm u lb tk fk ty src ta fa ca tn tq fn fq cm cq w hty hsrc y g h h4 hy
 ·obtain⟨g,h,rfl⟩:=two (by omega)
  cases d1:g.ty.same (.mk 2 []) with
  | false=>exact jh G1 G2 G3 nm u lb tk fk ty src ta fa ca tn tq fn fq cm cq w hty hsrc y g h d1 hy
  | true=>
   cases d2:h.ty.same (.mk 2 []) with
   | false=>exact iD G1 G2 G3 nm u lb tk fk ty src ta fa ca tn tq fn fq cm cq w hty hsrc y g h d1 d2 hy
   | true=>exact iE G1 G2 G3 nm u lb tk fk ty src ta fa ca tn tq fn fq cm cq w hty hsrc y g h d1 d2 hy
 ·obtain⟨g,h,rfl⟩:=two (by omega)
  cases d1:g.ty.same (.mk 2 []) with
  | false=>exact ji G1 G2 G3 nm u lb tk fk ty src ta fa ca tn tq fn fq cm cq w hty hsrc y g h d1 hy
  | true=>
   cases d2:h.ty.same (.mk 2 []) with
   | false=>exact iF G1 G2 G3 nm u lb tk fk ty src ta fa ca tn tq fn fq cm cq w hty hsrc y g h d1 d2 hy
   | true=>exact iG G1 G2 G3 nm u lb tk fk ty src ta fa ca tn tq fn fq cm cq w hty hsrc y g h d1 d2 hy
 ·obtain⟨c,g,h,rfl⟩:=three rfl
  have hg:=hv g (by simp)
  cases d1:c.ty.same (.mk 3 []) with
  | false=>exact jl G1 G2 G3 nm u lb tk fk ty src ta fa ca tn tq fn fq cm cq w hty hsrc y c g h hg d1 hy
  | true=>
   cases d2:g.ty.same h.ty with
   | false=>exact iH G1 G2 G3 nm u lb tk fk ty src ta fa ca tn tq fn fq cm cq w hty hsrc y c g h hg d1 d2 hy
   | true=>exact iI G1 G2 G3 nm u lb tk fk ty src ta fa ca tn tq fn fq cm cq w hty hsrc y c g h hg d1 d2 hy
 ·obtain⟨g,h,rfl⟩:=two (by omega)
  exact jO G1 G2 G3 nm u lb tk fk ty src ta fa ca tn tq fn fq cm cq w hty hsrc y g h (hv g (by simp)) (hv h (by simp)) hy
 ·obtain⟨h,rfl⟩:=one (by omega)
  have hh:=hv h (by simp)
  by_cases h5:h.ty.kind=5
  ·cases h with
   | pr a b=>exact jP G1 G2 G3 nm u lb tk fk ty src ta fa ca tn tq fn fq cm cq w hty hsrc y a b (dx hh).1 hy
   | zero=>simp[S.ty,Ty.kind] at h5
   | any=>simp[S.ty,Ty.kind] at h5
   | int=>simp[S.ty,Ty.kind] at h5
   | bool=>simp[S.ty,Ty.kind] at h5
   | fn a b=>simp[S.ty,Ty.kind] at h5
  ·exact iB G1 G2 G3 nm u lb tk fk ty src ta fa ca tn tq fn fq cm cq w hty hsrc y h h5 hy
 ·obtain⟨h,rfl⟩:=one (by omega)
  have hh:=hv h (by simp)
  by_cases h5:h.ty.kind=5
  ·cases h with
   | pr a b=>exact jQ G1 G2 G3 nm u lb tk fk ty src ta fa ca tn tq fn fq cm cq w hty hsrc y a b (dx hh).2 hy
   | zero=>simp[S.ty,Ty.kind] at h5
   | any=>simp[S.ty,Ty.kind] at h5
   | int=>simp[S.ty,Ty.kind] at h5
   | bool=>simp[S.ty,Ty.kind] at h5
   | fn a b=>simp[S.ty,Ty.kind] at h5
  ·exact iC G1 G2 G3 nm u lb tk fk ty src ta fa ca tn tq fn fq cm cq w hty hsrc y h h5 hy
 ·obtain⟨h,rfl⟩:=one (by omega)
  exact jR G1 G2 G3 nm u lb tk fk ty src ta fa ca tn tq fn fq cm cq w hty hsrc (hvt rfl) h y hy
theorem ai.srep {F:Nat->Prop}{w:World}{t:Ty}{k:Int}{c:Option Addr}{m q:Nat}(h:ai F w t (.agg #[.int .i64 k,.slice c m q])):cn F w t.row [.int .i64 k,.slice c m q]:=by
 obtain⟨s,he,hs⟩:=h;simp only[Value.agg.injEq,Array.mk.injEq,List.cons.injEq,Value.int.injEq,and_true] at he;obtain⟨⟨-,rfl⟩,rfl⟩:=he
 cases t with
 | mk kk us=>
  unfold Ty.row
  exact⟨_,_,rfl,(by unfold aL;rfl),_,_,rfl,hs,rfl⟩
theorem dO {ts:List Tm}{l:List Bd}{j:Nat}(h:j<ts.length):Tm.castsS (ts.drop j) l=match ts[j].castS l with
  | none=>none
  | some h=>(match Tm.castsS (ts.drop (j+1)) l with
    | none=>none
    | some hs=>some (h::hs)):=by
 rw[List.drop_eq_getElem_cons h,Tm.castsS]
 cases ts[j].castS l with
 | none=>rfl
 | some x=>cases Tm.castsS (ts.drop (j+1)) l<;>rfl
theorem eq {k:Int}{nm:ByteArray}{u lb:Int}{ty src:Ty}{ts:List Tm}{l:List Bd}(hk:6<=k):(Tm.mk k nm u ty src lb ts).castS l=match Tm.castsS ts l with
  | some hs=>aM k ty src hs
  | none=>none:=by
 rw[Tm.castS,if_neg (by omega),if_neg (by omega),if_neg (by omega),if_neg (by omega)]
 cases Tm.castsS ts l<;>rfl
theorem nD (G:Nat->Prop)(k:Int)(nm:ByteArray)(u lb tk fk:Int)(ty src:Ty)(ts:List Tm)(l:List Bd)(xa ta fa ca:Option Addr)(xn xq tn tq fn fq cm cq:Nat)(w:World)
  (he:aB G w (.mk k nm u ty src lb ts) (.agg (nv k nm u tk ta tn tq fk fa fn fq lb ca cm cq)))
  (IH : ∀t'∈ts,∀(W:World) (y':Value),Below w.heap.size w W->aB G W t' y'->Calls Try.prog 17 #[.slice xa xn xq,y'] W (aX ((t'.castS l).map S.ty) W))
  (IV : ∀t'∈ts,∀h,t'.castS l=some h->h.vd=true)
  (hk:6<=k∧k<=12∨k=14) (hlen:aD k=(ts.length:Int)) (hvt:k=14->ty.valid=true) (hsm:ts.length<=3) :
  Calls Try.prog 17 #[.slice xa xn xq,.agg (nv k nm u tk ta tn tq fk fa fn fq lb ca cm cq)] w (aX (((Tm.mk k nm u ty src lb ts).castS l).map S.ty) w):=by
 obtain⟨-,-,-,-,-,-,-,-,hm,hnm,hmq,hqm,hty,hsrc,hks⟩:=he.parts;simp only[Tm.type,Tm.src,Tm.kids] at hm hty hsrc hks;obtain⟨i0,hi,hz0,hz1,hz2⟩:=info_parts Try.infoTy;have Z0:=zq hz0;have Z1:=zq hz1;have Z2:=zq hz2;have HI:=zq hi;have q1:(k==1)=false:=by rw[beq_eq_false_iff_ne];omega
 have q2:(k==2)=false:=by rw[beq_eq_false_iff_ne];omega
 have q3:(k==3)=false:=by rw[beq_eq_false_iff_ne];omega
 have q4:(k==4)=false:=by rw[beq_eq_false_iff_ne];omega
 have q5:(k==5)=false:=by rw[beq_eq_false_iff_ne];omega
 have hm3:cm<=3:=by omega
 have HM:=zq hm;have HKS:=zq hks;have HIH:=zq IH;have HIV:=zq IV;have HEX:=zq (fun(hs:List S) (h1:hs.length=ts.length) (h2 : ∀h∈hs,h.vd=true) (W:World) (hW:Below w.heap.size w W) (G3:Nat->Prop) (y:Value) (hy:av G3 W (hs.map S.ty) y)=>nC k hs hk (by rw[h1];exact hlen) h2 G G G3 nm u lb tk fk ty src ta fa ca tn tq fn fq cm cq W (hty.below hW) (hsrc.below hW) hvt y hy);obtain⟨O,hO⟩ : ∃O:Option Ty,O=((Tm.mk k nm u ty src lb ts).castS l).map S.ty:=⟨_,rfl⟩
 rw[<-hO];have HO:=zq (show O=(match Tm.castsS ts l with
   | some hs=>aM k ty src hs
   | none=>none:Option S).map S.ty from by rw[hO,eq (by omega)])
 have fE:=zq (a9 (a9 (aA (w:=w) (o:=.cells (nv k nm u tk ta tn tq fk fa fn fq lb ca cm cq) 28) rfl) (ag (o:=.cells #[.int .i64 0,.slice none 0 0] 25))) (ag (o:=.cells #[] 25)));have fR:=zq (a9 (aA (w:=w.alloc (.cells (nv k nm u tk ta tn tq fk fa fn fq lb ca cm cq) 28)) (o:=.cells #[.int .i64 0,.slice none 0 0] 25) (b:=w.heap.size+1) (by simp)) (ag (o:=.cells #[] 25)));have fK:=zq (aA (w:=(w.alloc (.cells (nv k nm u tk ta tn tq fk fa fn fq lb ca cm cq) 28)).alloc (.cells #[.int .i64 0,.slice none 0 0] 25)) (o:=.cells #[] 25) (b:=w.heap.size+1+1) (by simp));clear hO he IH IV hty hsrc hks hi hz0 hz1 hz2 hm hlen hvt hk
 go_enter Try.func17,Try.ntmps17
 go_wp2_with fail
 go_loopw [8,9] (fun s8 s9 wr=>∃(j:Nat) (hs:List S) (cv:Option Addr) (qv:Nat),j<=cm∧s8 = .slice cv j qv∧s9 = .int .i64 j∧Hid (Below w.heap.size w wr)∧w.heap.size+1+1<wr.heap.size ∧
     Hid (wr.heap[w.heap.size]?=some (.cells (nv k nm u tk ta tn tq fk fa fn fq lb ca cm cq) 28 (0,0)))∧Hid (wr.heap[w.heap.size+1]?=some (.cells #[.int .i64 0,.slice none 0 0] 25 (0,0)))∧Hid (bR (w.heap.size+1+1) 25 2 wr (.slice cv j qv) j (Ty.rows (hs.map S.ty))) ∧
     Hid (hs.length=j∧(∀h∈hs,h.vd=true)∧Tm.castsS ts l=(Tm.castsS (ts.drop j) l).map (hs ++ ·))) (fun _ i _=>cm-(intOf i).toNat)
 case atStart=>exact⟨0,[],_,_,by omega,rfl,rfl,zq (al (al ag ag) ag),by simp,fE,fR,zq ⟨rfl,[],⟨rfl,.inr ⟨_,0,#[],rfl,Nat.le_refl _,fK.out,Nat.le_refl _,by unfold maxLen;omega,rfl,by simp⟩⟩,rfl⟩,zq ⟨rfl,by simp,by simp⟩⟩
 case round=>
  obtain⟨j,hs,cv,qv,hj,rfl,rfl,hbw,hsz,hE,hR,hrow,hrel2⟩:=hrel;clear fE fR fK;have x0:=ah hE.out (o:=6) rfl;have x8:=ah hE.out (o:=8) rfl;have lx8:w.heap.size<wr.heap.size:=by omega
  by_cases hlt:j<cm
  ·have hjt:j<ts.length:=by rw[<-HM.out];exact hlt
   obtain⟨b,off,kk0,nn0,uu0,tk0,ta0,tn0,tq0,fk0,fa0,fn0,fq0,ll0,a0,m0,q0,rfl,lb_,e0,e1,e2,e3,e4,e5,e6,e7,e8,ht⟩:=HKS.out.at hbw.out hjt;have HC:=zq (HIH.out ts[j] (List.getElem_mem hjt) wr _ hbw.out ht);have HCV:=zq (HIV.out ts[j] (List.getElem_mem hjt));have HCD:=zq (dO (l:=l) hjt);generalize hoj:ts[j].castS l=oj at HC HCV HCD;have lr:=aw hR.out;have hz3:j+1<=3:=by omega
   clear hoj ht
   cases oj with
   | none=>
    have HREL:=zq (show O=none from by rw[HO.out,hrel2.out.2.2,HCD.out];rfl);have r0:=ah hR.out (o:=0) rfl
    go_wp2_with fail
    refine HC.out.mono ?_;rintro e w1 ⟨kt,at_,nt,qt,bt,tt,rfl,hbt,htt,hot,hst⟩;obtain rfl:bt=false:=hbt;have hR1:=a9 hR.out hst;have HB1:=zq (al hbw.out hst);have hz1:=hst.size;clear htt hot hst r0;obtain⟨r0,r1⟩:=blk2 hR1;have rf0:=aj hR1 0;have rf1:=aj hR1 1;have lr1:=aw hR1;have lr2:w.heap.size+1<w1.heap.size+1:=by omega
    go_wp2_with fail
    have hY:(((w1.setCell ⟨w.heap.size+1,0,none⟩ (.int .i64 0)).setCell ⟨w.heap.size+1,1,none⟩ (.slice none 0 0)).alloc (.cells #[.int .i64 kt,.slice at_ nt qt] 25)).heap[w.heap.size+1]?=some (.cells #[.int .i64 0,.slice none 0 0] 25 (0,0)):=a9 (az (az hR1 rfl) rfl) ag;obtain⟨rc0,rc1⟩:=blk2 hY;refine bq (.tuple #[.agg #[.int .i64 0,.slice none 0 0],.bool false]) (by simp[results,Try.results17,go_sem,rc0,rc1]) ?_
    exact⟨_,_,_,_,_,_,rfl,by rw[HREL.out];rfl,ai.zeroG,(by rw[HREL.out];intro s h;cases h),al ((HB1.out.setCell (p:=⟨w.heap.size+1,0,none⟩) (by show w.heap.size<=w.heap.size+1;omega) _).setCell (p:=⟨w.heap.size+1,1,none⟩) (by show w.heap.size<=w.heap.size+1;omega) _) ag⟩
   | some hh=>
    have HVD:=zq (HCV.out hh rfl);have HNX:=zq (show Tm.castsS ts l=(Tm.castsS (ts.drop (j+1)) l).map ((hs ++ [hh]) ++ ·) from by
      rw[hrel2.out.2.2,HCD.out]
      cases Tm.castsS (ts.drop (j+1)) l<;>simp)
    obtain⟨hlenr,xs,ho,hvals⟩:=hrow.out;have HLEN:=zq hlenr;have HOW:=zq ho;have HV:=zq hvals;clear hlenr ho hvals hrow
    go_wp2_with fail
    refine HC.out.mono ?_;rintro e w1 ⟨kt,at_,nt,qt,bt,tt,rfl,hbt,htt,hot,hst⟩;obtain rfl:bt=true:=hbt;obtain rfl:tt=hh.ty:=hot _ rfl;have HT1:=zq htt;have HST:=zq hst;have hE1:=a9 hE.out hst;have hR1:=a9 hR.out hst;have HB1:=zq (al hbw.out hst);have hz1:=hst.size;have hW:=zq (show Below wr.heap.size wr ((w1.alloc (.cells #[.int .i64 kt,.slice at_ nt qt] 25)).alloc (.cells #[.int .i64 kt,.slice at_ nt qt] 25)) from al (al hst ag) ag);clear htt hot hst
    go_wp2_with (first | (at_builtin;refine wpList_append_lies _ rfl (.tmp 70) (.tmp 72) 23 rfl (w.heap.size+1+1) 25 i0 _ 2 32 Try.underlying23 HI.out Z0.out Z1.out Z2.out rfl (by omega) (.slice cv j qv) j xs rfl (bc HOW.out hW.out) ⟨w1.heap.size+1,0,none⟩ 1 1 [.int .i64 kt,.slice at_ nt qt] rfl rfl (World.news_of_block (cs:=#[.int .i64 kt,.slice at_ nt qt]) (t:=25) (fr:=(0,0)) (aA (by simp))) (by simp[Value.oneCell']) (by omega) (by unfold maxLen;omega) (by omega) (by simp;omega) _ rfl ?_) | fail)
    intro gg cap2 w6 hown2 hgrow hat hlt2;have HROW:=zq (bR.push (r:=w.heap.size) HLEN.out HOW.out HV.out (by omega) (Chg.of_below hW.out) (((HT1.out.move (.weaken fun b h _=>h.elim False.elim id)).below ag).below ag).srep (by omega) hown2 hgrow (by simpa using hat));have HBEL:=zq (bW hbw.out hW.out HOW.out (by omega) hgrow);have hfar:=cI hW.out HOW.out hgrow;have HFAR:=zq hfar;have hsz6:wr.heap.size<=w6.heap.size:=Nat.le_trans hW.out.size hgrow.size;clear hown2 hgrow hat hfar
    go_wp2_with fail
    go_roundw
    case rel=>exact⟨j+1,hs ++ [hh],_,_,by omega,rfl,by go_num,HBEL,by omega,zq ((HFAR.out w.heap.size (by omega) (by omega)).trans hE.out),zq ((HFAR.out (w.heap.size+1) (by omega) (by omega)).trans hR.out),(by
        unfold Hid;have e1:Ty.rows ((hs ++ [hh]).map S.ty)=Ty.rows (hs.map S.ty) ++ [hh.ty.row]:=by simp[Ty.rows_eq]
        rw[e1]
        exact HROW.out),zq ⟨by simp[hrel2.out.1],fun h hm=>(List.mem_append.1 hm).elim (hrel2.out.2.1 h) (fun q=>by simp at q;subst q;exact HVD.out),HNX.out⟩⟩
    case measure=>simp[intOf];omega
  ·have HJE:=zq (show j=cm by omega)
   have HJL:=zq (show ts.drop j = [] from List.drop_eq_nil_of_le (by have:=HM.out;have:=HJE.out;omega));have HREL:=zq (show O=(aM k ty src hs).map S.ty from by
     rw[HO.out,hrel2.out.2.2,HJL.out,Tm.castsS]
     simp)
   have HTY:=zq (show av (w.heap.size+1+1 <= ·) wr (hs.map S.ty) (.slice cv j qv) from hrow.out.rep);have HCX:=zq (HEX.out hs (by have:=hrel2.out.1;have:=HM.out;have:=HJE.out;omega) hrel2.out.2.1 wr hbw.out _ _ HTY.out);have d0:=ah hE.out (o:=0) rfl;have d1:=ah hE.out (o:=1) rfl;have d2:=ah hE.out (o:=2) rfl;have d3:=ah hE.out (o:=3) rfl;have d4:=ah hE.out (o:=4) rfl;have d5:=ah hE.out (o:=5) rfl;have d7:=ah hE.out (o:=7) rfl;clear hrow
   go_wp2_with fail
   refine HCX.out.mono ?_;rintro e w1 ⟨kt,at_,nt,qt,bt,tt,rfl,hbt,htt,hot,hst⟩;have HBT:=zq hbt;have HTT:=zq htt;have HOT:=zq hot;have hR1:=a9 hR.out hst;have HB1:=zq (al hbw.out hst);have hz1:=hst.size;clear htt hot hst hbt d0 d1 d2 d3 d4 d5 d7 x0 x8;obtain⟨r0,r1⟩:=blk2 hR1;have rf0:=aj hR1 0;have rf1:=aj hR1 1
   go_wp2_with fail
   have hY:((w1.setCell ⟨w.heap.size+1,0,none⟩ (.int .i64 kt)).setCell ⟨w.heap.size+1,1,none⟩ (.slice at_ nt qt)).heap[w.heap.size+1]?=some (.cells #[.int .i64 kt,.slice at_ nt qt] 25 (0,0)):=az (az hR1 rfl) rfl;obtain⟨rc0,rc1⟩:=blk2 hY;refine bq (.tuple #[.agg #[.int .i64 kt,.slice at_ nt qt],.bool bt]) (by simp[results,Try.results17,go_sem,rc0,rc1]) ?_;have hne : ∀b,(False∨wr.heap.size<=b)->b≠w.heap.size+1:=fun b h=>by
    have h1:=h.elim False.elim id
    omega
   exact⟨_,_,_,_,_,tt,rfl,by rw[HREL.out];exact HBT.out,(ai.setN (ai.setN HTT.out hne) hne).move (.weaken fun b h _=>.inr (by have h1:=h.elim False.elim id;omega)),(by rw[HREL.out];exact HOT.out),(HB1.out.setCell (p:=⟨w.heap.size+1,0,none⟩) (by show w.heap.size<=w.heap.size+1;omega) _).setCell (p:=⟨w.heap.size+1,1,none⟩) (by show w.heap.size<=w.heap.size+1;omega) _⟩
theorem gX {l:List Bd}{nm:ByteArray}(h : ∀b∈l,b.ty.valid=true) : ∀n,((bS l nm n).map Ty.toS).map S.ty=bS l nm n
 | 0=>rfl
 | n+1=>by
  unfold bS
  cases hb:l[n]? with
  | none=>exact gX h n
  | some b=>
   dsimp only
   split
   ·simp[Ty.toS_ty (h b (List.mem_of_getElem? hb))]
   ·exact gX h n
theorem dD {nm:ByteArray}{u lb:Int}{ty src:Ty}{t1:Tm}{l:List Bd}(h:t1.castS (l ++ [⟨nm,ty⟩])=none):(Tm.mk 5 nm u ty src lb [t1]).castS l=none:=by
 rw[Tm.castS,if_neg (by omega),if_neg (by omega),if_neg (by omega),if_pos rfl]
 simp[Tm.castsS,h]
theorem dE {nm:ByteArray}{u lb:Int}{ty src:Ty}{t1:Tm}{l:List Bd}{h1:S}(hv:ty.valid=true)(h:t1.castS (l ++ [⟨nm,ty⟩])=some h1):((Tm.mk 5 nm u ty src lb [t1]).castS l).map S.ty=if (Ty.mk 4 [ty,h1.ty]).valid=true then some (.mk 4 [ty,h1.ty]) else none:=by
 rw[Tm.castS,if_neg (by omega),if_neg (by omega),if_neg (by omega),if_pos rfl];have e:(S.fn ty.toS h1).ty = .mk 4 [ty,h1.ty]:=by rw[S.ty,Ty.toS_ty hv]
 have e2:(S.fn ty.toS h1).vd=(Ty.mk 4 [ty,h1.ty]).valid:=by rw[<-e,S.valid]
 simp only[Tm.castsS,h];rw[e2]
 cases (Ty.mk 4 [ty,h1.ty]).valid<;>simp[e]
theorem mp (y:Value)(nm:ByteArray)(u lb tk fk:Int)(ta fa ca:Option Addr)(tn tq fn fq cm cq:Nat)(w:World)(O:Option Ty)
  (HL:Hid (∀W,Below w.heap.size w W->Calls Try.prog 31 #[y,.agg (nv 1 nm u tk ta tn tq fk fa fn fq lb ca cm cq)] W (aX O W))) (hy : ∃a n q,y = .slice a n q) :
  Calls Try.prog 17 #[y,.agg (nv 1 nm u tk ta tn tq fk fa fn fq lb ca cm cq)] w (aX O w):=by
 obtain⟨a,n,q,rfl⟩:=hy;have fR:=aA (w:=w.alloc (.cells (nv 1 nm u tk ta tn tq fk fa fn fq lb ca cm cq) 28)) (o:=.cells #[.int .i64 0,.slice none 0 0] 25) (b:=w.heap.size+1) (by simp)
 go_enter Try.func17,Try.ntmps17
 go_wp2_with fail
 refine(HL.out _ (al ag ag)).mono ?_;rintro e w1 ⟨k,a1,n1,q1,b1,t,rfl,hb1,ht,ho,hst⟩;have HT:=zq ht;have HO:=zq ho;have HB1:=zq hb1;replace fR:=a9 fR hst;have fC:=zq (al (al ag ag) hst);have hz:=hst.size;simp only[World.size_alloc] at hz;clear ht ho hb1 hst;obtain⟨r0,r1⟩:=blk2 fR;have rf0:=aj fR 0;have rf1:=aj fR 1
 go_wp2_with fail
 have hY:((w1.setCell ⟨w.heap.size+1,0,none⟩ (.int .i64 k)).setCell ⟨w.heap.size+1,1,none⟩ (.slice a1 n1 q1)).heap[w.heap.size+1]?=some (.cells #[.int .i64 k,.slice a1 n1 q1] 25 (0,0)):=az (az fR rfl) rfl;obtain⟨rc0,rc1⟩:=blk2 hY;refine bq (.tuple #[.agg #[.int .i64 k,.slice a1 n1 q1],.bool b1]) (by simp[results,Try.results17,go_sem,rc0,rc1]) ?_;have hne : ∀b,(False∨((w.alloc (.cells (nv 1 nm u tk ta tn tq fk fa fn fq lb ca cm cq) 28)).alloc (.cells #[.int .i64 0,.slice none 0 0] 25)).heap.size<=b)->b≠w.heap.size+1:=fun b h=>by
  have h1:=h.elim False.elim id
  simp at h1
  omega
 exact⟨_,_,_,_,_,t,rfl,HB1.out,(ai.setN (ai.setN HT.out hne) hne).move (.weaken fun b h _=>.inr (by have h1:=h.elim False.elim id;simp at h1;omega)),HO.out,(fC.out.setCell (p:=⟨w.heap.size+1,0,none⟩) (by show w.heap.size<=w.heap.size+1;omega) _).setCell (p:=⟨w.heap.size+1,1,none⟩) (by show w.heap.size<=w.heap.size+1;omega) _⟩
theorem mq (y:Value)(nm:ByteArray)(u lb tk fk:Int)(ta fa ca:Option Addr)(tn tq fn fq cm cq:Nat)(w:World)(O:Option Ty)
  (HL:Hid (∀W,Below w.heap.size w W->Calls Try.prog 31 #[y,.agg (nv 2 nm u tk ta tn tq fk fa fn fq lb ca cm cq)] W (aX O W))) (hy : ∃a n q,y = .slice a n q) :
  Calls Try.prog 17 #[y,.agg (nv 2 nm u tk ta tn tq fk fa fn fq lb ca cm cq)] w (aX O w):=by
 obtain⟨a,n,q,rfl⟩:=hy;have fR:=aA (w:=w.alloc (.cells (nv 2 nm u tk ta tn tq fk fa fn fq lb ca cm cq) 28)) (o:=.cells #[.int .i64 0,.slice none 0 0] 25) (b:=w.heap.size+1) (by simp)
 go_enter Try.func17,Try.ntmps17
 go_wp2_with fail
 refine(HL.out _ (al ag ag)).mono ?_;rintro e w1 ⟨k,a1,n1,q1,b1,t,rfl,hb1,ht,ho,hst⟩;have HT:=zq ht;have HO:=zq ho;have HB1:=zq hb1;replace fR:=a9 fR hst;have fC:=zq (al (al ag ag) hst);have hz:=hst.size;simp only[World.size_alloc] at hz;clear ht ho hb1 hst;obtain⟨r0,r1⟩:=blk2 fR;have rf0:=aj fR 0;have rf1:=aj fR 1
 go_wp2_with fail
 have hY:((w1.setCell ⟨w.heap.size+1,0,none⟩ (.int .i64 k)).setCell ⟨w.heap.size+1,1,none⟩ (.slice a1 n1 q1)).heap[w.heap.size+1]?=some (.cells #[.int .i64 k,.slice a1 n1 q1] 25 (0,0)):=az (az fR rfl) rfl;obtain⟨rc0,rc1⟩:=blk2 hY;refine bq (.tuple #[.agg #[.int .i64 k,.slice a1 n1 q1],.bool b1]) (by simp[results,Try.results17,go_sem,rc0,rc1]) ?_;have hne : ∀b,(False∨((w.alloc (.cells (nv 2 nm u tk ta tn tq fk fa fn fq lb ca cm cq) 28)).alloc (.cells #[.int .i64 0,.slice none 0 0] 25)).heap.size<=b)->b≠w.heap.size+1:=fun b h=>by
  have h1:=h.elim False.elim id
  simp at h1
  omega
 exact⟨_,_,_,_,_,t,rfl,HB1.out,(ai.setN (ai.setN HT.out hne) hne).move (.weaken fun b h _=>.inr (by have h1:=h.elim False.elim id;simp at h1;omega)),HO.out,(fC.out.setCell (p:=⟨w.heap.size+1,0,none⟩) (by show w.heap.size<=w.heap.size+1;omega) _).setCell (p:=⟨w.heap.size+1,1,none⟩) (by show w.heap.size<=w.heap.size+1;omega) _⟩
theorem mr (y:Value)(nm:ByteArray)(u lb tk fk:Int)(ta fa ca:Option Addr)(tn tq fn fq cm cq:Nat)(w:World)(O:Option Ty)
  (HL:Hid (∀W,Below w.heap.size w W->Calls Try.prog 31 #[y,.agg (nv 3 nm u tk ta tn tq fk fa fn fq lb ca cm cq)] W (aX O W))) (hy : ∃a n q,y = .slice a n q) :
  Calls Try.prog 17 #[y,.agg (nv 3 nm u tk ta tn tq fk fa fn fq lb ca cm cq)] w (aX O w):=by
 obtain⟨a,n,q,rfl⟩:=hy;have fR:=aA (w:=w.alloc (.cells (nv 3 nm u tk ta tn tq fk fa fn fq lb ca cm cq) 28)) (o:=.cells #[.int .i64 0,.slice none 0 0] 25) (b:=w.heap.size+1) (by simp)
 go_enter Try.func17,Try.ntmps17
 go_wp2_with fail
 refine(HL.out _ (al ag ag)).mono ?_;rintro e w1 ⟨k,a1,n1,q1,b1,t,rfl,hb1,ht,ho,hst⟩;have HT:=zq ht;have HO:=zq ho;have HB1:=zq hb1;replace fR:=a9 fR hst;have fC:=zq (al (al ag ag) hst);have hz:=hst.size;simp only[World.size_alloc] at hz;clear ht ho hb1 hst;obtain⟨r0,r1⟩:=blk2 fR;have rf0:=aj fR 0;have rf1:=aj fR 1
 go_wp2_with fail
 have hY:((w1.setCell ⟨w.heap.size+1,0,none⟩ (.int .i64 k)).setCell ⟨w.heap.size+1,1,none⟩ (.slice a1 n1 q1)).heap[w.heap.size+1]?=some (.cells #[.int .i64 k,.slice a1 n1 q1] 25 (0,0)):=az (az fR rfl) rfl;obtain⟨rc0,rc1⟩:=blk2 hY;refine bq (.tuple #[.agg #[.int .i64 k,.slice a1 n1 q1],.bool b1]) (by simp[results,Try.results17,go_sem,rc0,rc1]) ?_;have hne : ∀b,(False∨((w.alloc (.cells (nv 3 nm u tk ta tn tq fk fa fn fq lb ca cm cq) 28)).alloc (.cells #[.int .i64 0,.slice none 0 0] 25)).heap.size<=b)->b≠w.heap.size+1:=fun b h=>by
  have h1:=h.elim False.elim id
  simp at h1
  omega
 exact⟨_,_,_,_,_,t,rfl,HB1.out,(ai.setN (ai.setN HT.out hne) hne).move (.weaken fun b h _=>.inr (by have h1:=h.elim False.elim id;simp at h1;omega)),HO.out,(fC.out.setCell (p:=⟨w.heap.size+1,0,none⟩) (by show w.heap.size<=w.heap.size+1;omega) _).setCell (p:=⟨w.heap.size+1,1,none⟩) (by show w.heap.size<=w.heap.size+1;omega) _⟩
theorem ms (y:Value)(nm:ByteArray)(u lb tk fk:Int)(ta fa ca:Option Addr)(tn tq fn fq cm cq:Nat)(w:World)(O:Option Ty)
  (HL:Hid (∀W,Below w.heap.size w W->Calls Try.prog 31 #[y,.agg (nv 4 nm u tk ta tn tq fk fa fn fq lb ca cm cq)] W (aX O W))) (hy : ∃a n q,y = .slice a n q) :
  Calls Try.prog 17 #[y,.agg (nv 4 nm u tk ta tn tq fk fa fn fq lb ca cm cq)] w (aX O w):=by
 obtain⟨a,n,q,rfl⟩:=hy;have fR:=aA (w:=w.alloc (.cells (nv 4 nm u tk ta tn tq fk fa fn fq lb ca cm cq) 28)) (o:=.cells #[.int .i64 0,.slice none 0 0] 25) (b:=w.heap.size+1) (by simp)
 go_enter Try.func17,Try.ntmps17
 go_wp2_with fail
 refine(HL.out _ (al ag ag)).mono ?_;rintro e w1 ⟨k,a1,n1,q1,b1,t,rfl,hb1,ht,ho,hst⟩;have HT:=zq ht;have HO:=zq ho;have HB1:=zq hb1;replace fR:=a9 fR hst;have fC:=zq (al (al ag ag) hst);have hz:=hst.size;simp only[World.size_alloc] at hz;clear ht ho hb1 hst;obtain⟨r0,r1⟩:=blk2 fR;have rf0:=aj fR 0;have rf1:=aj fR 1
 go_wp2_with fail
 have hY:((w1.setCell ⟨w.heap.size+1,0,none⟩ (.int .i64 k)).setCell ⟨w.heap.size+1,1,none⟩ (.slice a1 n1 q1)).heap[w.heap.size+1]?=some (.cells #[.int .i64 k,.slice a1 n1 q1] 25 (0,0)):=az (az fR rfl) rfl;obtain⟨rc0,rc1⟩:=blk2 hY;refine bq (.tuple #[.agg #[.int .i64 k,.slice a1 n1 q1],.bool b1]) (by simp[results,Try.results17,go_sem,rc0,rc1]) ?_;have hne : ∀b,(False∨((w.alloc (.cells (nv 4 nm u tk ta tn tq fk fa fn fq lb ca cm cq) 28)).alloc (.cells #[.int .i64 0,.slice none 0 0] 25)).heap.size<=b)->b≠w.heap.size+1:=fun b h=>by
  have h1:=h.elim False.elim id
  simp at h1
  omega
 exact⟨_,_,_,_,_,t,rfl,HB1.out,(ai.setN (ai.setN HT.out hne) hne).move (.weaken fun b h _=>.inr (by have h1:=h.elim False.elim id;simp at h1;omega)),HO.out,(fC.out.setCell (p:=⟨w.heap.size+1,0,none⟩) (by show w.heap.size<=w.heap.size+1;omega) _).setCell (p:=⟨w.heap.size+1,1,none⟩) (by show w.heap.size<=w.heap.size+1;omega) _⟩
def cz (l:List Bd):Prop:=∀b∈l,b.ty.valid=true
theorem cz.snoc {l:List Bd}{nm:ByteArray}{ty:Ty}(h:cz l)(hv:ty.valid=true):cz (l ++ [⟨nm,ty⟩]):=fun b hb=>by
 rcases List.mem_append.1 hb with h1 | h1
 ·exact h b h1
 ·simp at h1;subst h1;exact hv
theorem Ty.toS_vd {t:Ty}(h:t.valid=true):t.toS.vd=true:=by
 rw[<-S.valid,Ty.toS_ty h];exact h
theorem dR {l:List Bd}{nm:ByteArray}(h:cz l) : ∀(n:Nat) (t:Ty),bS l nm n=some t->t.valid=true
 | 0,t,e=>by cases e
 | n+1,t,e=>by
  unfold bS at e
  cases hb:l[n]? with
  | none=>rw[hb] at e;exact dR h n t e
  | some b=>
   rw[hb] at e
   dsimp only at e
   split at e
   ·simp at e;subst e;exact h b (List.mem_of_getElem? hb)
   ·exact dR h n t e
theorem oH {k:Int}{ty src:Ty}{hs:List S}{h:S}(hk:k≠5)(hv : ∀g∈hs,g.vd=true)(hvt:k=14->ty.valid=true)(e:aM k ty src hs=some h):h.vd=true:=by
 match hs,hv,e with
 | [],_,e=>simp[aM] at e
 | [g],hv,e=>
  simp only[aM,if_neg hk] at e
  split at e
  ·rename_i h14
   split at e
   ·simp at e;subst e;exact Ty.toS_vd (hvt h14)
   ·cases e
  ·cases g with
   | pr a b=>
    have hp:=dx (a:=a) (b:=b) (hv _ (by simp));simp only[Option.some.injEq] at e;subst e
    split
    ·exact hp.2
    ·exact hp.1
   | _=>cases e
 | [g,q],hv,e=>
  simp only[aM] at e
  split at e
  ·cases g with
   | fn a b=>
    have hp:=dJ (a:=a) (b:=b) (hv _ (by simp));simp only at e
    split at e
    ·simp at e;subst e;exact hp.2
    ·cases e
   | _=>cases e
  ·split at e
   ·split at e
    ·rename_i h10 hvd;simp at e;subst e;exact hvd
    ·cases e
   ·split at e
    ·simp only[Option.some.injEq] at e
     subst e
     split<;>rfl
    ·cases e
 | [c,g,q],hv,e=>
  simp only[aM] at e
  split at e
  ·simp at e;subst e;exact hv _ (by simp)
  ·cases e
 | _::_::_::_::_,_,e=>simp[aM] at e
theorem fI {d:Int}{l:List Bd}(hc:cz l) : ∀(ts:List Tm),Tm.shapes ts 13 d=true->(∀t∈ts,∀h,t.shape 13 d=true->t.castS l=some h->h.vd=true)->∀hs,Tm.castsS ts l=some hs->hs.length=ts.length∧∀h∈hs,h.vd=true
 | [],_,_,hs,e=>by simp[Tm.castsS] at e;subst e;simp
 | t::ts,hsh,IH,hs,e=>by
  unfold Tm.shapes at hsh;simp only[Bool.and_eq_true] at hsh;rw[Tm.castsS] at e
  cases h1:t.castS l with
  | none=>rw[h1] at e;cases e
  | some h=>
   rw[h1] at e
   dsimp only at e
   cases h2:Tm.castsS ts l with
   | none=>rw[h2] at e;cases e
   | some hs2=>
    rw[h2] at e;simp only[Option.some.injEq] at e;subst e;obtain⟨e1,e2⟩:=fI hc ts hsh.2 (fun t' ht'=>IH t' (List.mem_cons_of_mem _ ht')) hs2 h2;refine⟨by simp[e1],fun g hg=>?_⟩
    rcases List.mem_cons.1 hg with rfl | hg
    ·exact IH t (by simp) _ hsh.1 h1
    ·exact e2 g hg
theorem gG {k u lb:Int}{nm:ByteArray}{ty src:Ty}{ts:List Tm}(h:(Tm.mk k nm u ty src lb ts).ownB=true)(hk:k=5∨k=14):ty.valid=true:=by
 unfold Tm.ownB ownB at h;simp only[Tm.kind,Tm.type,Tm.src,Tm.num,Tm.label,Tm.name] at h
 rcases hk with rfl | rfl
 ·simp at h;exact h.1.2
 ·simp at h;exact h.1.2
theorem dB : ∀(t:Tm) (d:Int) (l:List Bd),t.shape 13 d=true->cz l->∀h,t.castS l=some h->h.vd=true
 | .mk k nm u ty src lb ts,d,l,hsh,hc,h,e=>by
  obtain⟨hd,hk13,hlen,hown,hkids⟩:=Tm.shape_parts hsh;have IH : ∀t'∈ts,∀l',cz l'->∀h',t'.shape 13 (d-1)=true->t'.castS l'=some h'->h'.vd=true:=fun t' ht' l' hc' h' hs' e'=>dB t' (d-1) l' hs' hc' h' e'
  by_cases h1:k=1
  ·subst h1
   rw[Tm.castS,if_pos rfl] at e
   cases hlk:bS l nm l.length with
   | none=>rw[hlk] at e;cases e
   | some t'=>rw[hlk] at e;simp at e;subst e;exact Ty.toS_vd (dR hc _ _ hlk)
  by_cases h2:k=2
  ·subst h2;rw[Tm.castS,if_neg (by omega),if_pos rfl] at e;simp at e;subst e;rfl
  by_cases h34:k=3∨k=4
  ·rw[Tm.castS,if_neg h1,if_neg h2,if_pos h34] at e;simp at e;subst e;rfl
  by_cases h5:k=5
  ·subst h5
   rw[Tm.castS,if_neg (by omega),if_neg (by omega),if_neg (by omega),if_pos rfl] at e
   split at e
   ·split at e
    ·rename_i hv;simp at e;subst e;exact hv
    ·cases e
   ·cases e
  rw[Tm.castS,if_neg h1,if_neg h2,if_neg h34,if_neg h5] at e
  cases hcs:Tm.castsS ts l with
  | none=>rw[hcs] at e;cases e
  | some hs=>
   rw[hcs] at e
   exact oH h5 (fI hc ts hkids (fun t' ht' h' hs' e'=>IH t' ht' l hc h' hs' e') hs hcs).2 (fun h14=>gG hown (.inr h14)) e
termination_by t=>SizeOf.sizeOf t
decreasing_by exact Tm.kid_lt (t:=.mk k nm u ty src lb ts) ht'
def bi (k:Int)(ty:Ty):List S->Option S
  | [h]=>if k=5 then (if (S.fn ty.toS h).vd then some (.fn ty.toS h) else none)
           else if k=13 then (if h.cons ty.toS then some ty.toS else none)
           else if (h.mat 5).2.2 then some (if k=12 then (h.mat 5).2.1 else (h.mat 5).1) else none
  | [g,h]=>if k=6 then (if (g.mat 4).2.2&&h.cons (g.mat 4).1 then some (g.mat 4).2.1 else none)
              else if k=10 then (if (S.pr g h).vd then some (.pr g h) else none)
              else if g.cons .int&&h.cons .int then some (if k=8 then .bool else .int) else none
  | [c,g,h]=>if g.cons h&&c.cons .bool then some (g.meet h) else none
  | _=>none
mutual
def Tm.typS:Tm->List Bd->Option S
 | .mk k nm u ty src lb ts,l=>
  if k=1 then (bS l nm l.length).map Ty.toS
  else if k=2 then some .int
  else if k=3∨k=4 then some .bool
  else if k=5 then (match Tm.typsS ts (l ++ [⟨nm,ty⟩]) with
    | some [h]=>if (S.fn ty.toS h).vd then some (.fn ty.toS h) else none
    | _=>none)
  else (match Tm.typsS ts l with
    | some hs=>bi k ty hs
    | none=>none)
def Tm.typsS:List Tm->List Bd->Option (List S)
 | [],_=>some []
 | t::ts,l=>match t.typS l with
  | none=>none
  | some h=>(match Tm.typsS ts l with
    | none=>none
    | some hs=>some (h::hs))
end
theorem cj (F G:Nat->Prop)(s u:S)(y z:Value)(w:World)(hy:ai F w s.ty y)(hz:ai G w u.ty z)(hs:s.vd=true)(hu:u.vd=true) :
  Calls Try.prog 44 #[y,z] w fun e w'=>e = .returned (.bool (s.cons u))∧Below w.heap.size w w':=by
 have h:=dr F G s.ty u.ty 4 4 y z w hy hz ((S.valid s).trans hs) ((S.valid u).trans hu)
 rwa [S.ty_cons] at h
theorem iU {s:S}{k:Int}(h:s.vd=true):(s.mat k).2.2=true->(s.mat k).1.vd=true∧(s.mat k).2.1.vd=true:=by
 cases s with
 | fn a b=>intro e;by_cases q:k=4<;>simp[S.mat,q] at e ⊢;exact dJ h
 | pr a b=>intro e;by_cases q:k=5<;>simp[S.mat,q] at e ⊢;exact dx h
 | any=>intro _;simp[S.mat,S.vd,S.ok,S.dep]
 | _=>intro e;simp[S.mat] at e
theorem dq {s:S}(h:s.vd=true):s.cnt<=1048576:=by rw[<-S.ty_cnt];exact Ty.cnt_valid (by rw[S.valid];exact h)
theorem l6 {k:Int}{ty:Ty}{g h:S}(hk:k=7∨k=8):bi k ty [g,h]=if (g.cons .int&&h.cons .int)=true then some (if k=8 then .bool else .int) else none:=by
 have h6 : ¬k=6:=by omega
 have h10 : ¬k=10:=by omega
 simp only[bi,if_neg h6,if_neg h10]
theorem nG {ty:Ty}{g h:S}:(bi 10 ty [g,h]).map S.ty=if (Ty.mk 5 [g.ty,h.ty]).valid=true then some (.mk 5 [g.ty,h.ty]) else none:=by
 rw[show(Ty.mk 5 [g.ty,h.ty])=(S.pr g h).ty from rfl,S.valid];simp only[bi]
 cases (S.pr g h).vd<;>simp
theorem nH {k:Int}{ty:Ty}{h:S}(hk:k=11∨k=12):bi k ty [h]=if (h.mat 5).2.2=true then some (if k=12 then (h.mat 5).2.1 else (h.mat 5).1) else none:=by
 have h5 : ¬k=5:=by omega
 have h13 : ¬k=13:=by omega
 simp only[bi,if_neg h5,if_neg h13]
end Go.Proofs.Ytfhglkmjibjjoaa

/- spec.l4Want. And what else its parts name. -/
import Derived.Test.YtfahhonmiimmdaaGreatB19
import Derived.Test.YtfahhonmiimmdaaGreatB14
set_option linter.unusedSimpArgs false
set_option linter.unusedVariables false
set_option maxRecDepth 100000
set_option maxHeartbeats 16000000
namespace Go.Proofs.YtfahhonmiimmdaaGreat
open Go.RowKit
def dh (n:Nat)(F:Nat→Prop)(w:World)(e:Ending)(w':World):Prop:=∃(us:List Ty) (a:Option Addr) (q:Nat),e = .returned (.slice a n q)∧us.length=n∧(∀u∈us,u.cnt≤14)∧aE (fun b=>F b∨w.heap.size≤b) w' us (.slice a n q)∧Below w.heap.size w w'
theorem fn_mat {s:S}(hs:s.vd=true)(h:(s.mat 4).2.2=true):(S.fn (s.mat 4).1 (s.mat 4).2.1).vd=true:=by
 cases s with
 | fn a b=>exact hs
 | any=>decide
 | zero=>exact absurd h (by decide)
 | int=>exact absurd h (by decide)
 | bool=>exact absurd h (by decide)
 | pr a b=>exact absurd h (by simp[S.mat])
theorem pr_mat {s:S}(hs:s.vd=true)(h:(s.mat 5).2.2=true):(S.pr (s.mat 5).1 (s.mat 5).2.1).vd=true:=by
 cases s with
 | pr a b=>exact hs
 | any=>decide
 | zero=>exact absurd h (by decide)
 | int=>exact absurd h (by decide)
 | bool=>exact absurd h (by decide)
 | fn a b=>exact absurd h (by simp[S.mat])
theorem cl {s:S}(h:s.vd=true):s.ty.cnt≤14:=by rw[S.ty_cnt];exact gy h
theorem rK (F1 F2:Nat→Prop)(s:S)(h0 h1:S)(hv0:h0.vd=true)(hm:(h0.mat 4).2.2=true)(nm:ByteArray)(u tk fk lb uk:Int)(ta fa ca xa ua:Option Addr)(tn tq fn fq cm cq xn xq un uq:Nat)(w:World)(hk:aE F1 w [h0.ty,h1.ty] (.slice xa 2 xq))(ht:ap F2 w s.ty (.agg #[.int .i64 uk,.slice ua un uq]))(hs:s.vd=true) :
  Calls Tryz.prog 115 #[.agg #[.int .i64 6,.string nm,.int .i64 u,.int .i64 tk,.slice ta tn tq,.int .i64 fk,.slice fa fn fq,.int .i64 lb,.slice ca cm cq],.slice xa 2 xq,.agg #[.int .i64 uk,.slice ua un uq]] w (dh 2 (fun b=>F1 b∨F2 b) w):=by
 obtain⟨b2,off2,k0,c0,m0_,q0,rfl,hlb,e0,e1,ht0⟩:=hk.at (Below.refl _ _) (i:=0) (by simp);simp only[List.getElem_cons_zero,Nat.zero_mul,Nat.add_zero] at e0 e1 ht0;have HVM:=zq (fn_mat hv0 hm);have H0:=zq ht0;have HCN:=zq (eb hv0);have HM:=zq (fun W (h:Below w.heap.size w W)=>dJ _ h0 4 (.inl rfl) HCN.out _ W (H0.out.below h));rw[hm] at HM;have HBV:=zq (show Below w.heap.size w ((w.alloc (.cells #[.int .i64 6,.string nm,.int .i64 u,.int .i64 tk,.slice ta tn tq,.int .i64 fk,.slice fa fn fq,.int .i64 lb,.slice ca cm cq] 28)).alloc (.cells #[.int .i64 uk,.slice ua un uq] 25)) from al aj aj);have m0:=af (aj (o:=.cells #[.int .i64 6,.string nm,.int .i64 u,.int .i64 tk,.slice ta tn tq,.int .i64 fk,.slice fa fn fq,.int .i64 lb,.slice ca cm cq] 28)) e0;have m1:=af (aj (o:=.cells #[.int .i64 6,.string nm,.int .i64 u,.int .i64 tk,.slice ta tn tq,.int .i64 fk,.slice fa fn fq,.int .i64 lb,.slice ca cm cq] 28)) e1;have lb1:b2<w.heap.size+1:=by omega
 have lb2:b2<w.heap.size+1+1:=by omega
 generalize hma:(h0.mat 4).1=ma at HM HVM;generalize hmb:(h0.mat 4).2.1=mb at HM HVM;clear hm hv0 ht0 hk ht hs hma hmb
 go_enter Tryz.func115,Tryz.ntmps115
 go_wp2_with fail
 refine(HM.out _ HBV.out).mono ?_;rintro e w3 ⟨ya,yb,rfl,hab,hst⟩;obtain⟨k3,a3,n3,q3,k4,a4,n4,q4,rfl,rfl⟩:=hab.shape;obtain⟨fa_,fb_,oa_,ob_,-,hBB⟩:=hab;have hsz:w.heap.size≤((w.alloc (.cells #[.int .i64 6,.string nm,.int .i64 u,.int .i64 tk,.slice ta tn tq,.int .i64 fk,.slice fa fn fq,.int .i64 lb,.slice ca cm cq] 28)).alloc (.cells #[.int .i64 uk,.slice ua un uq] 25)).heap.size:=by simp;omega
 obtain⟨VS,hVS⟩ : ∃x,((w.alloc (.cells #[.int .i64 6,.string nm,.int .i64 u,.int .i64 tk,.slice ta tn tq,.int .i64 fk,.slice fa fn fq,.int .i64 lb,.slice ca cm cq] 28)).alloc (.cells #[.int .i64 uk,.slice ua un uq] 25)).heap.size=x:=⟨_,rfl⟩
 skip
 have hA:Hid (ap (fun x=>w.heap.size≤x∧x<w3.heap.size) w3 ma.ty (.agg #[.int .i64 k3,.slice a3 n3 q3])):=zq (oa_.rep.move (.weaken fun b h hl=>⟨Nat.le_trans hsz (hBB b (by simp[h])),hl⟩));have hB:Hid (ap (fun x=>w.heap.size≤x∧x<w3.heap.size) w3 mb.ty (.agg #[.int .i64 k4,.slice a4 n4 q4])):=zq (ob_.rep.move (.weaken fun b h hl=>⟨Nat.le_trans hsz (hBB b (by simp[h])),hl⟩));have fB:Hid (Below w.heap.size w w3):=zq (al HBV.out hst);have zw3:w.heap.size≤w3.heap.size:=fB.out.size;clear oa_ ob_ hBB hst m0 m1 HM HBV hsz hVS
 go_wp2_with fail
 obtain⟨w4,hXq,hb,fA,zw4a,zw4b⟩:=aZ w3 (.cells #[.int .i64 k3,.slice a3 n3 q3] 25);rw[hXq];replace hA:=zq (hA.out.below hb);replace hB:=zq (hB.out.below hb);replace fB:=zq (al fB.out hb);clear hb hXq;obtain⟨w5,hXq,hb,fD,zw5a,zw5b⟩:=aZ w4 (.cells #[.int .i64 k4,.slice a4 n4 q4] 25);rw[hXq];replace hA:=zq (hA.out.below hb);replace hB:=zq (hB.out.below hb);replace fB:=zq (al fB.out hb);replace fA:=ag fA hb;clear hb hXq;refine(dI _ _ 4 ma.ty mb.ty _ _ _ _ _ _ _ _ _ hA.out hB.out (by have:=cl (j8 HVM.out).1;omega) (by have:=cl (j8 HVM.out).2;omega)).mono ?_;rintro e w6 ⟨k6,a6,n6,q6,b6,t6,rfl,-,ht6,h6,hb⟩;have hval:(Ty.mk 4 [ma.ty,mb.ty]).valid=true:=(S.valid (S.fn ma mb)).trans HVM.out;obtain rfl:=h6 _ (if_pos hval);have hT6:Hid (ap (fun x=>w.heap.size≤x) w6 (.mk 4 [ma.ty,mb.ty]) (.agg #[.int .i64 k6,.slice a6 n6 q6])):=zq (ht6.move (.weaken fun b h _=>by have h1:=h.elim False.elim id;omega));have z6:=hb.size;clear ht6 h6;replace hA:=zq (hA.out.below hb);replace hB:=zq (hB.out.below hb);replace fB:=zq (al fB.out hb);replace fA:=ag fA hb;replace fD:=ag fD hb;clear hb;obtain⟨y0,y1⟩:=blk2 fA;have yl:=aD fA
 go_wp2_with fail
 clear y0 y1 yl;obtain⟨w7,hXq,hb,fG,zw7a,zw7b⟩:=aZ w6 (.cells #[.int .i64 k6,.slice a6 n6 q6] 25);rw[hXq];replace hA:=zq (hA.out.below hb);replace hB:=zq (hB.out.below hb);replace fB:=zq (al fB.out hb);replace fA:=ag fA hb;replace fD:=ag fD hb;replace hT6:=zq (hT6.out.below hb);clear hb hXq;obtain⟨w8,hXq,hb,fK,zw8a,zw8b⟩:=aZ w7 (.cells #[.int .i64 k6,.slice a6 n6 q6,.int .i64 k3,.slice a3 n3 q3] 25);rw[hXq];replace hA:=zq (hA.out.below hb);replace hB:=zq (hB.out.below hb);replace fB:=zq (al fB.out hb);replace fA:=ag fA hb;replace fD:=ag fD hb;replace hT6:=zq (hT6.out.below hb);replace fG:=ag fG hb;clear hb hXq;refine bodyPost_ret (v:=.slice (some ⟨w7.heap.size,0,none⟩) 2 2) (by simp[results,Tryz.results115,go_sem]) rfl ?_;have hc1:=cl HVM.out;have hc2:=cl (j8 HVM.out).1;refine⟨[.mk 4 [ma.ty,mb.ty],ma.ty],_,_,rfl,rfl,?_,aE.two_mk (.inr (by omega)) (by omega) (by unfold maxLen;omega) (ah fK rfl) (ah fK rfl) (ah fK rfl) (ah fK rfl) (hT6.out.move (.weaken fun b h _=>.inr h)) (hA.out.move (.weaken fun b h _=>.inr h.1)),fB.out⟩;intro u hu;simp only[List.mem_cons,List.not_mem_nil,or_false] at hu
 rcases hu with rfl | rfl
 ·exact hc1
 ·exact hc2
theorem nP (F1 F2:Nat→Prop)(s:S)(h0:S)(hv0:h0.vd=true)(hm:(h0.mat 5).2.2=true)(nm:ByteArray)(u tk fk lb uk:Int)(ta fa ca xa ua:Option Addr)(tn tq fn fq cm cq xn xq un uq:Nat)(w:World)(hk:aE F1 w [h0.ty] (.slice xa 1 xq))(ht:ap F2 w s.ty (.agg #[.int .i64 uk,.slice ua un uq]))(hs:s.vd=true) :
  Calls Tryz.prog 115 #[.agg #[.int .i64 11,.string nm,.int .i64 u,.int .i64 tk,.slice ta tn tq,.int .i64 fk,.slice fa fn fq,.int .i64 lb,.slice ca cm cq],.slice xa 1 xq,.agg #[.int .i64 uk,.slice ua un uq]] w (dh 1 (fun b=>F1 b∨F2 b) w):=by
 obtain⟨b2,off2,k0,c0,m0_,q0,rfl,hlb,e0,e1,ht0⟩:=hk.at (Below.refl _ _) (i:=0) (by simp);simp only[List.getElem_cons_zero,Nat.zero_mul,Nat.add_zero] at e0 e1 ht0;have HVM:=zq (pr_mat hv0 hm);have H0:=zq ht0;have HCN:=zq (eb hv0);have HM:=zq (fun W (h:Below w.heap.size w W)=>dJ _ h0 5 (.inr rfl) HCN.out _ W (H0.out.below h));rw[hm] at HM;have HBV:=zq (show Below w.heap.size w ((w.alloc (.cells #[.int .i64 11,.string nm,.int .i64 u,.int .i64 tk,.slice ta tn tq,.int .i64 fk,.slice fa fn fq,.int .i64 lb,.slice ca cm cq] 28)).alloc (.cells #[.int .i64 uk,.slice ua un uq] 25)) from al aj aj);have m0:=af (aj (o:=.cells #[.int .i64 11,.string nm,.int .i64 u,.int .i64 tk,.slice ta tn tq,.int .i64 fk,.slice fa fn fq,.int .i64 lb,.slice ca cm cq] 28)) e0;have m1:=af (aj (o:=.cells #[.int .i64 11,.string nm,.int .i64 u,.int .i64 tk,.slice ta tn tq,.int .i64 fk,.slice fa fn fq,.int .i64 lb,.slice ca cm cq] 28)) e1;have lb1:b2<w.heap.size+1:=by omega
 have lb2:b2<w.heap.size+1+1:=by omega
 generalize hma:(h0.mat 5).1=ma at HM HVM;generalize hmb:(h0.mat 5).2.1=mb at HM HVM;clear hm hv0 ht0 hk ht hs hma hmb
 go_enter Tryz.func115,Tryz.ntmps115
 go_wp2_with fail
 refine(HM.out _ HBV.out).mono ?_;rintro e w3 ⟨ya,yb,rfl,hab,hst⟩;obtain⟨k3,a3,n3,q3,k4,a4,n4,q4,rfl,rfl⟩:=hab.shape;obtain⟨fa_,fb_,oa_,ob_,-,hBB⟩:=hab;have hsz:w.heap.size≤((w.alloc (.cells #[.int .i64 11,.string nm,.int .i64 u,.int .i64 tk,.slice ta tn tq,.int .i64 fk,.slice fa fn fq,.int .i64 lb,.slice ca cm cq] 28)).alloc (.cells #[.int .i64 uk,.slice ua un uq] 25)).heap.size:=by simp;omega
 obtain⟨VS,hVS⟩ : ∃x,((w.alloc (.cells #[.int .i64 11,.string nm,.int .i64 u,.int .i64 tk,.slice ta tn tq,.int .i64 fk,.slice fa fn fq,.int .i64 lb,.slice ca cm cq] 28)).alloc (.cells #[.int .i64 uk,.slice ua un uq] 25)).heap.size=x:=⟨_,rfl⟩
 skip
 have hA:Hid (ap (fun x=>w.heap.size≤x∧x<w3.heap.size) w3 ma.ty (.agg #[.int .i64 k3,.slice a3 n3 q3])):=zq (oa_.rep.move (.weaken fun b h hl=>⟨Nat.le_trans hsz (hBB b (by simp[h])),hl⟩));have hB:Hid (ap (fun x=>w.heap.size≤x∧x<w3.heap.size) w3 mb.ty (.agg #[.int .i64 k4,.slice a4 n4 q4])):=zq (ob_.rep.move (.weaken fun b h hl=>⟨Nat.le_trans hsz (hBB b (by simp[h])),hl⟩));have fB:Hid (Below w.heap.size w w3):=zq (al HBV.out hst);have zw3:w.heap.size≤w3.heap.size:=fB.out.size;clear oa_ ob_ hBB hst m0 m1 HM HBV hsz hVS
 go_wp2_with fail
 obtain⟨w4,hXq,hb,fA,zw4a,zw4b⟩:=aZ w3 (.cells #[.int .i64 k3,.slice a3 n3 q3] 25);rw[hXq];replace hA:=zq (hA.out.below hb);replace hB:=zq (hB.out.below hb);replace fB:=zq (al fB.out hb);clear hb hXq;obtain⟨w5,hXq,hb,fD,zw5a,zw5b⟩:=aZ w4 (.cells #[.int .i64 k4,.slice a4 n4 q4] 25);rw[hXq];replace hA:=zq (hA.out.below hb);replace hB:=zq (hB.out.below hb);replace fB:=zq (al fB.out hb);replace fA:=ag fA hb;clear hb hXq;refine(dI _ _ 5 ma.ty mb.ty _ _ _ _ _ _ _ _ _ hA.out hB.out (by have:=cl (gu HVM.out).1;omega) (by have:=cl (gu HVM.out).2;omega)).mono ?_;rintro e w6 ⟨k6,a6,n6,q6,b6,t6,rfl,-,ht6,h6,hb⟩;have hval:(Ty.mk 5 [ma.ty,mb.ty]).valid=true:=(S.valid (S.pr ma mb)).trans HVM.out;obtain rfl:=h6 _ (if_pos hval);have hT6:Hid (ap (fun x=>w.heap.size≤x) w6 (.mk 5 [ma.ty,mb.ty]) (.agg #[.int .i64 k6,.slice a6 n6 q6])):=zq (ht6.move (.weaken fun b h _=>by have h1:=h.elim False.elim id;omega));have z6:=hb.size;clear ht6 h6;replace hA:=zq (hA.out.below hb);replace hB:=zq (hB.out.below hb);replace fB:=zq (al fB.out hb);replace fA:=ag fA hb;replace fD:=ag fD hb;clear hb
 go_wp2_with fail
 obtain⟨w7,hXq,hb,fG,zw7a,zw7b⟩:=aZ w6 (.cells #[.int .i64 k6,.slice a6 n6 q6] 25);rw[hXq];replace hA:=zq (hA.out.below hb);replace hB:=zq (hB.out.below hb);replace fB:=zq (al fB.out hb);replace fA:=ag fA hb;replace fD:=ag fD hb;replace hT6:=zq (hT6.out.below hb);clear hb hXq;obtain⟨w8,hXq,hb,fK,zw8a,zw8b⟩:=aZ w7 (.cells #[.int .i64 k6,.slice a6 n6 q6] 25);rw[hXq];replace hA:=zq (hA.out.below hb);replace hB:=zq (hB.out.below hb);replace fB:=zq (al fB.out hb);replace fA:=ag fA hb;replace fD:=ag fD hb;replace hT6:=zq (hT6.out.below hb);replace fG:=ag fG hb;clear hb hXq;refine bodyPost_ret (v:=.slice (some ⟨w7.heap.size,0,none⟩) 1 1) (by simp[results,Tryz.results115,go_sem]) rfl ?_;have hc1:=cl HVM.out;refine⟨[.mk 5 [ma.ty,mb.ty]],_,_,rfl,rfl,?_,aE.one_mk (.inr (by omega)) (by omega) (by unfold maxLen;omega) (ah fK rfl) (ah fK rfl) (hT6.out.move (.weaken fun b h _=>.inr h)),fB.out⟩;intro u hu;simp only[List.mem_cons,List.not_mem_nil,or_false] at hu;rw[hu];exact hc1
theorem nQ (F1 F2:Nat→Prop)(s:S)(h0:S)(hv0:h0.vd=true)(hm:(h0.mat 5).2.2=true)(nm:ByteArray)(u tk fk lb uk:Int)(ta fa ca xa ua:Option Addr)(tn tq fn fq cm cq xn xq un uq:Nat)(w:World)(hk:aE F1 w [h0.ty] (.slice xa 1 xq))(ht:ap F2 w s.ty (.agg #[.int .i64 uk,.slice ua un uq]))(hs:s.vd=true) :
  Calls Tryz.prog 115 #[.agg #[.int .i64 12,.string nm,.int .i64 u,.int .i64 tk,.slice ta tn tq,.int .i64 fk,.slice fa fn fq,.int .i64 lb,.slice ca cm cq],.slice xa 1 xq,.agg #[.int .i64 uk,.slice ua un uq]] w (dh 1 (fun b=>F1 b∨F2 b) w):=by
 obtain⟨b2,off2,k0,c0,m0_,q0,rfl,hlb,e0,e1,ht0⟩:=hk.at (Below.refl _ _) (i:=0) (by simp);simp only[List.getElem_cons_zero,Nat.zero_mul,Nat.add_zero] at e0 e1 ht0;have HVM:=zq (pr_mat hv0 hm);have H0:=zq ht0;have HCN:=zq (eb hv0);have HM:=zq (fun W (h:Below w.heap.size w W)=>dJ _ h0 5 (.inr rfl) HCN.out _ W (H0.out.below h));rw[hm] at HM;have HBV:=zq (show Below w.heap.size w ((w.alloc (.cells #[.int .i64 12,.string nm,.int .i64 u,.int .i64 tk,.slice ta tn tq,.int .i64 fk,.slice fa fn fq,.int .i64 lb,.slice ca cm cq] 28)).alloc (.cells #[.int .i64 uk,.slice ua un uq] 25)) from al aj aj);have m0:=af (aj (o:=.cells #[.int .i64 12,.string nm,.int .i64 u,.int .i64 tk,.slice ta tn tq,.int .i64 fk,.slice fa fn fq,.int .i64 lb,.slice ca cm cq] 28)) e0;have m1:=af (aj (o:=.cells #[.int .i64 12,.string nm,.int .i64 u,.int .i64 tk,.slice ta tn tq,.int .i64 fk,.slice fa fn fq,.int .i64 lb,.slice ca cm cq] 28)) e1;have lb1:b2<w.heap.size+1:=by omega
 have lb2:b2<w.heap.size+1+1:=by omega
 generalize hma:(h0.mat 5).1=ma at HM HVM;generalize hmb:(h0.mat 5).2.1=mb at HM HVM;clear hm hv0 ht0 hk ht hs hma hmb
 go_enter Tryz.func115,Tryz.ntmps115
 go_wp2_with fail
 refine(HM.out _ HBV.out).mono ?_;rintro e w3 ⟨ya,yb,rfl,hab,hst⟩;obtain⟨k3,a3,n3,q3,k4,a4,n4,q4,rfl,rfl⟩:=hab.shape;obtain⟨fa_,fb_,oa_,ob_,-,hBB⟩:=hab;have hsz:w.heap.size≤((w.alloc (.cells #[.int .i64 12,.string nm,.int .i64 u,.int .i64 tk,.slice ta tn tq,.int .i64 fk,.slice fa fn fq,.int .i64 lb,.slice ca cm cq] 28)).alloc (.cells #[.int .i64 uk,.slice ua un uq] 25)).heap.size:=by simp;omega
 obtain⟨VS,hVS⟩ : ∃x,((w.alloc (.cells #[.int .i64 12,.string nm,.int .i64 u,.int .i64 tk,.slice ta tn tq,.int .i64 fk,.slice fa fn fq,.int .i64 lb,.slice ca cm cq] 28)).alloc (.cells #[.int .i64 uk,.slice ua un uq] 25)).heap.size=x:=⟨_,rfl⟩
 skip
 have hA:Hid (ap (fun x=>w.heap.size≤x∧x<w3.heap.size) w3 ma.ty (.agg #[.int .i64 k3,.slice a3 n3 q3])):=zq (oa_.rep.move (.weaken fun b h hl=>⟨Nat.le_trans hsz (hBB b (by simp[h])),hl⟩));have hB:Hid (ap (fun x=>w.heap.size≤x∧x<w3.heap.size) w3 mb.ty (.agg #[.int .i64 k4,.slice a4 n4 q4])):=zq (ob_.rep.move (.weaken fun b h hl=>⟨Nat.le_trans hsz (hBB b (by simp[h])),hl⟩));have fB:Hid (Below w.heap.size w w3):=zq (al HBV.out hst);have zw3:w.heap.size≤w3.heap.size:=fB.out.size;clear oa_ ob_ hBB hst m0 m1 HM HBV hsz hVS
 go_wp2_with fail
 obtain⟨w4,hXq,hb,fA,zw4a,zw4b⟩:=aZ w3 (.cells #[.int .i64 k3,.slice a3 n3 q3] 25);rw[hXq];replace hA:=zq (hA.out.below hb);replace hB:=zq (hB.out.below hb);replace fB:=zq (al fB.out hb);clear hb hXq;obtain⟨w5,hXq,hb,fD,zw5a,zw5b⟩:=aZ w4 (.cells #[.int .i64 k4,.slice a4 n4 q4] 25);rw[hXq];replace hA:=zq (hA.out.below hb);replace hB:=zq (hB.out.below hb);replace fB:=zq (al fB.out hb);replace fA:=ag fA hb;clear hb hXq;refine(dI _ _ 5 ma.ty mb.ty _ _ _ _ _ _ _ _ _ hA.out hB.out (by have:=cl (gu HVM.out).1;omega) (by have:=cl (gu HVM.out).2;omega)).mono ?_;rintro e w6 ⟨k6,a6,n6,q6,b6,t6,rfl,-,ht6,h6,hb⟩;have hval:(Ty.mk 5 [ma.ty,mb.ty]).valid=true:=(S.valid (S.pr ma mb)).trans HVM.out;obtain rfl:=h6 _ (if_pos hval);have hT6:Hid (ap (fun x=>w.heap.size≤x) w6 (.mk 5 [ma.ty,mb.ty]) (.agg #[.int .i64 k6,.slice a6 n6 q6])):=zq (ht6.move (.weaken fun b h _=>by have h1:=h.elim False.elim id;omega));have z6:=hb.size;clear ht6 h6;replace hA:=zq (hA.out.below hb);replace hB:=zq (hB.out.below hb);replace fB:=zq (al fB.out hb);replace fA:=ag fA hb;replace fD:=ag fD hb;clear hb
 go_wp2_with fail
 obtain⟨w7,hXq,hb,fG,zw7a,zw7b⟩:=aZ w6 (.cells #[.int .i64 k6,.slice a6 n6 q6] 25);rw[hXq];replace hA:=zq (hA.out.below hb);replace hB:=zq (hB.out.below hb);replace fB:=zq (al fB.out hb);replace fA:=ag fA hb;replace fD:=ag fD hb;replace hT6:=zq (hT6.out.below hb);clear hb hXq;obtain⟨w8,hXq,hb,fK,zw8a,zw8b⟩:=aZ w7 (.cells #[.int .i64 k6,.slice a6 n6 q6] 25);rw[hXq];replace hA:=zq (hA.out.below hb);replace hB:=zq (hB.out.below hb);replace fB:=zq (al fB.out hb);replace fA:=ag fA hb;replace fD:=ag fD hb;replace hT6:=zq (hT6.out.below hb);replace fG:=ag fG hb;clear hb hXq;refine bodyPost_ret (v:=.slice (some ⟨w7.heap.size,0,none⟩) 1 1) (by simp[results,Tryz.results115,go_sem]) rfl ?_;have hc1:=cl HVM.out;refine⟨[.mk 5 [ma.ty,mb.ty]],_,_,rfl,rfl,?_,aE.one_mk (.inr (by omega)) (by omega) (by unfold maxLen;omega) (ah fK rfl) (ah fK rfl) (hT6.out.move (.weaken fun b h _=>.inr h)),fB.out⟩;intro u hu;simp only[List.mem_cons,List.not_mem_nil,or_false] at hu;rw[hu];exact hc1
theorem rL (F1 F2:Nat→Prop)(s:S)(h0 h1:S)(nm:ByteArray)(u tk fk lb uk:Int)(ta fa ca xa ua:Option Addr)(tn tq fn fq cm cq xn xq un uq:Nat)(w:World)(hk:aE F1 w [h0.ty,h1.ty] (.slice xa 2 xq))(ht:ap F2 w s.ty (.agg #[.int .i64 uk,.slice ua un uq]))(hs:s.vd=true) :
  Calls Tryz.prog 115 #[.agg #[.int .i64 7,.string nm,.int .i64 u,.int .i64 tk,.slice ta tn tq,.int .i64 fk,.slice fa fn fq,.int .i64 lb,.slice ca cm cq],.slice xa 2 xq,.agg #[.int .i64 uk,.slice ua un uq]] w (dh 2 (fun b=>F1 b∨F2 b) w):=by
 clear hk ht hs
 go_enter Tryz.func115,Tryz.ntmps115
 go_wp2_with fail
 refine(bB _).mono ?_;rintro e w1 ⟨rfl,hb⟩;have hB:=zq (al (aH (w:=w)) hb);clear hb
 go_wp2_with fail
 refine(bB _).mono ?_;rintro e w2 ⟨rfl,hb⟩;have hB2:=zq (al hB.out hb);clear hb hB
 go_wp2_with fail
 have z2:=hB2.out.size;obtain⟨w3,hXq,hb,fK,zw3a,zw3b⟩:=aZ w2 (.cells #[.int .i64 2,.slice none 0 0,.int .i64 2,.slice none 0 0] 25);rw[hXq];replace hB2:=zq (al hB2.out hb);clear hb hXq;refine bodyPost_ret (v:=.slice (some ⟨w2.heap.size,0,none⟩) 2 2) (by simp[results,Tryz.results115,go_sem]) rfl ?_;refine⟨[.mk 2 [],.mk 2 []],_,_,rfl,rfl,?_,aE.two_mk (.inr (by omega)) (by omega) (by unfold maxLen;omega) (ah fK rfl) (ah fK rfl) (ah fK rfl) (ah fK rfl) (ap.leafG 2) (ap.leafG 2),hB2.out⟩;intro u hu;simp only[List.mem_cons,List.not_mem_nil,or_false] at hu
 rcases hu with rfl | rfl<;>decide
theorem rM (F1 F2:Nat→Prop)(s:S)(h0 h1:S)(nm:ByteArray)(u tk fk lb uk:Int)(ta fa ca xa ua:Option Addr)(tn tq fn fq cm cq xn xq un uq:Nat)(w:World)(hk:aE F1 w [h0.ty,h1.ty] (.slice xa 2 xq))(ht:ap F2 w s.ty (.agg #[.int .i64 uk,.slice ua un uq]))(hs:s.vd=true) :
  Calls Tryz.prog 115 #[.agg #[.int .i64 8,.string nm,.int .i64 u,.int .i64 tk,.slice ta tn tq,.int .i64 fk,.slice fa fn fq,.int .i64 lb,.slice ca cm cq],.slice xa 2 xq,.agg #[.int .i64 uk,.slice ua un uq]] w (dh 2 (fun b=>F1 b∨F2 b) w):=by
 clear hk ht hs
 go_enter Tryz.func115,Tryz.ntmps115
 go_wp2_with fail
 refine(bB _).mono ?_;rintro e w1 ⟨rfl,hb⟩;have hB:=zq (al (aH (w:=w)) hb);clear hb
 go_wp2_with fail
 refine(bB _).mono ?_;rintro e w2 ⟨rfl,hb⟩;have hB2:=zq (al hB.out hb);clear hb hB
 go_wp2_with fail
 have z2:=hB2.out.size;obtain⟨w3,hXq,hb,fK,zw3a,zw3b⟩:=aZ w2 (.cells #[.int .i64 2,.slice none 0 0,.int .i64 2,.slice none 0 0] 25);rw[hXq];replace hB2:=zq (al hB2.out hb);clear hb hXq;refine bodyPost_ret (v:=.slice (some ⟨w2.heap.size,0,none⟩) 2 2) (by simp[results,Tryz.results115,go_sem]) rfl ?_;refine⟨[.mk 2 [],.mk 2 []],_,_,rfl,rfl,?_,aE.two_mk (.inr (by omega)) (by omega) (by unfold maxLen;omega) (ah fK rfl) (ah fK rfl) (ah fK rfl) (ah fK rfl) (ap.leafG 2) (ap.leafG 2),hB2.out⟩;intro u hu;simp only[List.mem_cons,List.not_mem_nil,or_false] at hu
 rcases hu with rfl | rfl<;>decide
def ro:Oper:=⟨some 46,.call {callee:=.value (.func 85),args:=#[],argTypes:=#[]},25,"l4_casts.go:75",#[],none⟩
def rp:Oper:=⟨some 47,.load 25 (.tmp 5),25,"l4_casts.go:75",#[],none⟩
def rt:Oper:=⟨some 48,.load 25 (.tmp 5),25,"l4_casts.go:75",#[],none⟩
def ru:Oper:=⟨some 49,.buildSlice 23 3 #[(0,.tmp 46),(1,.tmp 47),(2,.tmp 48)],23,"l4_casts.go:75",#[⟨0,.data⟩,⟨1,.data⟩,⟨2,.data⟩],none⟩
def rv:Oper:=⟨some 6,.assign (.tmp 49),23,"l4_casts.go:75",#[⟨3,.data⟩,⟨0,.chain⟩,⟨0,.phase⟩,⟨1,.phase⟩,⟨2,.phase⟩,⟨3,.phase⟩],none⟩
theorem rN (F1 F2:Nat→Prop)(s:S)(h0 h1 h2:S)(nm:ByteArray)(u tk fk lb uk:Int)(ta fa ca xa ua:Option Addr)(tn tq fn fq cm cq xn xq un uq:Nat)(w:World)(hk:aE F1 w [h0.ty,h1.ty,h2.ty] (.slice xa 3 xq))(ht:ap F2 w s.ty (.agg #[.int .i64 uk,.slice ua un uq]))(hs:s.vd=true) :
  Calls Tryz.prog 115 #[.agg #[.int .i64 9,.string nm,.int .i64 u,.int .i64 tk,.slice ta tn tq,.int .i64 fk,.slice fa fn fq,.int .i64 lb,.slice ca cm cq],.slice xa 3 xq,.agg #[.int .i64 uk,.slice ua un uq]] w (dh 3 (fun b=>F1 b∨F2 b) w):=by
 have HT0:=zq (ht.move (.weaken (G:=(fun x=>F2 x∧x<w.heap.size)) fun b h hl=>⟨h,hl⟩));have HCV:=zq (cl hs);clear hk ht hs
 go_enter Tryz.func115,Tryz.ntmps115
 go_wp2_with fail
 obtain⟨VV,hVV⟩ : ∃X,X=((w.alloc (.cells #[.int .i64 9,.string nm,.int .i64 u,.int .i64 tk,.slice ta tn tq,.int .i64 fk,.slice fa fn fq,.int .i64 lb,.slice ca cm cq] 28)).alloc (.cells #[.int .i64 uk,.slice ua un uq] 25)):=⟨_,rfl⟩
 have fT:VV.heap[w.heap.size+1]?=some (.cells #[.int .i64 uk,.slice ua un uq] 25 (0,0)):=by rw[hVV];exact aF (by simp)
 have fB:Hid (Below w.heap.size w VV):=by rw[hVV];exact zq aH
 have hT:Hid (ap (fun x=>F2 x∧x<w.heap.size) VV s.ty (.agg #[.int .i64 uk,.slice ua un uq])):=by rw[hVV];exact zq (HT0.out.below aH)
 clear HT0;rw[←hVV];have zV:VV.heap.size=_:=congrArg (fun X:World=>X.heap.size) hVV;simp only[World.size_alloc] at zV;refine wp_region_noPanic ?_;refine wp_region_held_drew (S:=fun w'=>w'.cell? ⟨w.heap.size+1,0,none⟩=some (.int .i64 uk)∧w'.cell? ⟨w.heap.size+1,1,none⟩=some (.slice ua un uq)) (by kernel_rfl) ?_ (fun hH0=>?_)
 ·exact⟨ah fT rfl,ah fT rfl⟩
 obtain⟨U2,hU,hb,zU2a,zU2b⟩:=bK VV;rw[hU] at hH0 ⊢;replace fT:=ag fT hb;replace fB:=zq (al fB.out hb);replace hT:=zq (hT.out.below hb);rw[zV] at zU2a zU2b;clear hU hb hVV zV;refine hwt 1 rp (.agg #[.int .i64 uk,.slice ua un uq]) hH0 ?_ ?_
 ·intro w' hSw;dsimp only[rp];go_simp
 try simp only[rp,hwA]
 refine hwt 2 rt (.agg #[.int .i64 uk,.slice ua un uq]) hH0 ?_ ?_
 ·intro w' hSw;dsimp only[rt];go_simp
 try simp only[rt,hwA]
 refine hwr 0 ro (fun K hK=>?_)
 dsimp only[ro];go_simp
 go_at_call 85
 refine(dc _).mono ?_;rintro e X1 ⟨rfl,hb⟩
 go_wp2_with fail
 have zX1:U2.heap.size≤X1.heap.size:=hb.size;replace fT:=ag fT hb;replace fB:=zq (al fB.out hb);replace hT:=zq (hT.out.below hb);refine hK.out _ _ ⟨ah fT rfl,ah fT rfl⟩ (fun hH1=>?_);clear hK K hH0 hb
 try simp only[ro,hwA]
 refine hwr 3 ru (fun K hK=>?_)
 dsimp only[ru];go_simp
 (try go_wp2_with fail);obtain⟨X2,hXq,hb,fK,zX2a,zX2b⟩:=aZ X1 (.cells #[.int .i64 3,.slice none 0 0,.int .i64 uk,.slice ua un uq,.int .i64 uk,.slice ua un uq] 25);rw[hXq];replace fT:=ag fT hb;replace fB:=zq (al fB.out hb);replace hT:=zq (hT.out.below hb);refine hK.out _ _ ⟨ah fT rfl,ah fT rfl⟩ (fun hH2=>?_);clear hK K hH1 hb hXq
 try simp only[ru,hwA]
 refine hwt 4 rv (.slice (some ⟨X1.heap.size,0,none⟩) 3 3) hH2 ?_ ?_
 ·intro w' hSw;dsimp only[rv];go_simp
 try simp only[rv,hwA]
 refine wpAnyH_done (by kernel_rfl) ?_ _;refine NoPanic.normal ?_;clear hH2
 go_wp2_with fail
 refine bodyPost_ret (v:=.slice (some ⟨X1.heap.size,0,none⟩) 3 3) (by simp[results,Tryz.results115,go_sem]) rfl ?_;have hM:ap (fun b=>(F1 b∨F2 b)∨w.heap.size≤b) X2 s.ty (.agg #[.int .i64 uk,.slice ua un uq]):=hT.out.move (.weaken fun b h _=>.inl (.inr h.1));refine⟨[.mk 3 [],s.ty,s.ty],_,_,rfl,rfl,?_,aE.three_mk (.inr (by omega)) (by omega) (by unfold maxLen;omega) (ah fK rfl) (ah fK rfl) (ah fK rfl) (ah fK rfl) (ah fK rfl) (ah fK rfl) (ap.leafG 3) hM hM,fB.out⟩;have hc:=HCV.out;intro u hu;simp only[List.mem_cons,List.not_mem_nil,or_false] at hu
 rcases hu with rfl | rfl | rfl
 ·decide
 ·exact hc
 ·exact hc
theorem nR (F1 F2:Nat→Prop)(s:S)(h0:S)(nm:ByteArray)(u tk fk lb uk:Int)(ta fa ca xa ua:Option Addr)(tn tq fn fq cm cq xn xq un uq:Nat)(w:World)(hk:aE F1 w [h0.ty] (.slice xa 1 xq))(ht:ap F2 w s.ty (.agg #[.int .i64 uk,.slice ua un uq]))(hs:s.vd=true) :
  Calls Tryz.prog 115 #[.agg #[.int .i64 13,.string nm,.int .i64 u,.int .i64 tk,.slice ta tn tq,.int .i64 fk,.slice fa fn fq,.int .i64 lb,.slice ca cm cq],.slice xa 1 xq,.agg #[.int .i64 uk,.slice ua un uq]] w (dh 1 (fun b=>F1 b∨F2 b) w):=by
 have HT:=zq (ht.move (.weaken (G:=fun b=>(F1 b∨F2 b)∨w.heap.size≤b) fun b h _=>.inl (.inr h)));have HCV:=zq (cl hs);clear hk ht hs
 go_enter Tryz.func115,Tryz.ntmps115
 go_wp2_with fail
 have fK:=aF (w:=((w.alloc (.cells #[.int .i64 13,.string nm,.int .i64 u,.int .i64 tk,.slice ta tn tq,.int .i64 fk,.slice fa fn fq,.int .i64 lb,.slice ca cm cq] 28)).alloc (.cells #[.int .i64 uk,.slice ua un uq] 25))) (o:=.cells #[.int .i64 uk,.slice ua un uq] 25) rfl;refine bodyPost_ret (v:=.slice (some ⟨w.heap.size+1+1,0,none⟩) 1 1) (by simp[results,Tryz.results115,go_sem]) rfl ?_;have hlo:w.heap.size≤w.heap.size+1+1:=by omega
 simp only[World.size_alloc] at fK;refine⟨[s.ty],_,_,rfl,rfl,?_,aE.one_mk (.inr hlo) (by omega) (by unfold maxLen;omega) (ah fK rfl) (ah fK rfl) (HT.out.below cA),cA⟩;intro u hu;simp only[List.mem_cons,List.not_mem_nil,or_false] at hu;rw[hu];exact HCV.out
theorem rO (F1 F2:Nat→Prop)(s:S)(xn_:Nat)(k:Int)(h6:(k==6)=false)(h7:(k==7)=false)(h8:(k==8)=false)(h9:(k==9)=false)(h11:(k==11)=false)(h12:(k==12)=false)(h13:(k==13)=false)(hs0:List S)(hvs : ∀h∈hs0,h.vd=true)(hl0:hs0.length=xn_)(nm:ByteArray)(u tk fk lb uk:Int)(ta fa ca xa ua:Option Addr)(tn tq fn fq cm cq xn xq un uq:Nat)(w:World)(hk:aE F1 w (hs0.map S.ty) (.slice xa xn_ xq))(ht:ap F2 w s.ty (.agg #[.int .i64 uk,.slice ua un uq]))(hs:s.vd=true) :
  Calls Tryz.prog 115 #[.agg #[.int .i64 k,.string nm,.int .i64 u,.int .i64 tk,.slice ta tn tq,.int .i64 fk,.slice fa fn fq,.int .i64 lb,.slice ca cm cq],.slice xa xn_ xq,.agg #[.int .i64 uk,.slice ua un uq]] w (dh xn_ (fun b=>F1 b∨F2 b) w):=by
 have HK:=zq hk;have HL:=zq (And.intro hvs hl0);clear hk ht hs hvs hl0
 go_enter Tryz.func115,Tryz.ntmps115
 go_wp2_with fail
 refine bodyPost_ret (v:=.slice xa xn_ xq) (by simp[results,Tryz.results115,go_sem]) rfl ?_;refine⟨hs0.map S.ty,_,_,rfl,by simp[HL.out.2],?_,(HK.out.below aH).move (.weaken fun b h _=>.inl (.inl h)),aH⟩;intro u hu;obtain⟨h,hh,rfl⟩:=List.mem_map.1 hu
 exact cl (HL.out.1 h hh)
theorem lf (G1 G2 G3:Nat→Prop)(nm:ByteArray)(u lb tk fk:Int)(ty src:Ty)(ta fa ca:Option Addr)(tn tq fn fq cm cq:Nat)(w:World)(hty:ap G1 w ty (.agg #[.int .i64 tk,.slice ta tn tq]))(hsrc:ap G2 w src (.agg #[.int .i64 fk,.slice fa fn fq]))(y:Value)(h1:S)(hv1:h1.vd=true)(hy:aE G3 w [h1.ty] y) :
  Calls Tryz.prog 118 #[.agg #[.int .i64 11,.string nm,.int .i64 u,.int .i64 tk,.slice ta tn tq,.int .i64 fk,.slice fa fn fq,.int .i64 lb,.slice ca cm cq],y] w (bM ((bd 11 ty [h1]).map S.ty) w):=by
 obtain⟨b,off,cap,k1,c1,m1,q1,rfl,hlb,e1a,e1b,ht1⟩:=hy.one;obtain⟨O,hOO⟩ : ∃O:Option Ty,O=((bd 11 ty [h1]).map S.ty):=⟨_,rfl⟩
 rw[←hOO];have HO:=zq hOO;clear hOO;have HOO:=zq (sV (k:=11) (ty:=ty) (h:=h1) (by omega));have H1:=zq ht1.old;have HC1:=zq (eb hv1);have HM:=zq (fun W (h:Below w.heap.size w W)=>dJ _ h1 5 (.inr rfl) HC1.out _ W (H1.out.below h));generalize h1.mat 5=mm at HOO HM;obtain⟨ma,mb,okk⟩:=mm;simp only at HOO HM;have fR0:=aF (w:=w.alloc (.cells #[.int .i64 11,.string nm,.int .i64 u,.int .i64 tk,.slice ta tn tq,.int .i64 fk,.slice fa fn fq,.int .i64 lb,.slice ca cm cq] 28)) (o:=.cells #[.int .i64 0,.slice none 0 0] 25) (b:=w.heap.size+1) (by simp);have HBV:=zq (show Below w.heap.size w ((w.alloc (.cells #[.int .i64 11,.string nm,.int .i64 u,.int .i64 tk,.slice ta tn tq,.int .i64 fk,.slice fa fn fq,.int .i64 lb,.slice ca cm cq] 28)).alloc (.cells #[.int .i64 0,.slice none 0 0] 25)) from al aj aj);have m0:=af (aj (o:=.cells #[.int .i64 11,.string nm,.int .i64 u,.int .i64 tk,.slice ta tn tq,.int .i64 fk,.slice fa fn fq,.int .i64 lb,.slice ca cm cq] 28)) e1a;have m1:=af (aj (o:=.cells #[.int .i64 11,.string nm,.int .i64 u,.int .i64 tk,.slice ta tn tq,.int .i64 fk,.slice fa fn fq,.int .i64 lb,.slice ca cm cq] 28)) e1b;have lb1:b<w.heap.size+1:=by omega
 have lb2:b<w.heap.size+1+1:=by omega
 clear hty hsrc hy ht1 hv1
 go_enter Tryz.func118,Tryz.ntmps118
 go_wp2_with fail
 refine(HM.out _ HBV.out).mono ?_;rintro e w3 ⟨ya,yb,rfl,hab,hst⟩;obtain⟨k3,a3,n3,q3,k4,a4,n4,q4,rfl,rfl⟩:=hab.shape;obtain⟨fa_,fb_,oa_,ob_,-,hBB⟩:=hab;have HYA:=zq (oa_.rep.move (.weaken (G:=fun x=>((w.alloc (.cells #[.int .i64 11,.string nm,.int .i64 u,.int .i64 tk,.slice ta tn tq,.int .i64 fk,.slice fa fn fq,.int .i64 lb,.slice ca cm cq] 28)).alloc (.cells #[.int .i64 0,.slice none 0 0] 25)).heap.size≤x∧x<w3.heap.size) fun b h hl=>⟨hBB b (by simp[h]),hl⟩));have HYB:=zq (ob_.rep.move (.weaken (G:=fun x=>((w.alloc (.cells #[.int .i64 11,.string nm,.int .i64 u,.int .i64 tk,.slice ta tn tq,.int .i64 fk,.slice fa fn fq,.int .i64 lb,.slice ca cm cq] 28)).alloc (.cells #[.int .i64 0,.slice none 0 0] 25)).heap.size≤x∧x<w3.heap.size) fun b h hl=>⟨hBB b (by simp[h]),hl⟩));have fR3:=ag fR0 hst;have fC3:=zq (al HBV.out hst);have z3:=hst.size;simp only[World.size_alloc] at z3;clear oa_ ob_ hBB hst;obtain⟨r0,r1⟩:=blk2 fR3;have rf0:=ao fR3 0;have rf1:=ao fR3 1;have lR:=aD fR3;have lR1:w.heap.size+1<w3.heap.size+1:=by omega
 have lR2:w.heap.size+1<w3.heap.size+1+1:=by omega
 clear m0 m1
 go_wp2_with fail
 have hY:((((w3.setCell ⟨w.heap.size+1,0,none⟩ (.int .i64 k3)).setCell ⟨w.heap.size+1,1,none⟩ (.slice a3 n3 q3)).alloc (.cells #[.int .i64 k3,.slice a3 n3 q3] 25)).alloc (.cells #[.int .i64 k4,.slice a4 n4 q4] 25)).heap[w.heap.size+1]?=some (.cells #[.int .i64 k3,.slice a3 n3 q3] 25 (0,0)):=ag (ag (aN (aN fR3 rfl) rfl) aj) aj;obtain⟨rc0,rc1⟩:=blk2 hY;refine bodyPost_ret (v:=.tuple #[.agg #[.int .i64 k3,.slice a3 n3 q3],.bool okk]) (by simp[results,Tryz.results118,go_sem,rc0,rc1]) rfl ?_;have HN:O=if okk=true then some ma.ty else none:=by rw[HO.out,HOO.out];cases okk<;>rfl
 have hne : ∀b,(((w.alloc (.cells #[.int .i64 11,.string nm,.int .i64 u,.int .i64 tk,.slice ta tn tq,.int .i64 fk,.slice fa fn fq,.int .i64 lb,.slice ca cm cq] 28)).alloc (.cells #[.int .i64 0,.slice none 0 0] 25)).heap.size≤b∧b<w3.heap.size)→b≠w.heap.size+1:=fun b h=>by have:=h.1;simp at this;omega
 exact⟨_,_,_,_,_,ma.ty,rfl,by rw[HN];cases okk<;>rfl,(((ap.setN (ap.setN HYA.out hne) hne).below aj).below aj).move (.weaken fun b h _=>.inr (by have h1:=h.1;simp at h1;omega)),(by rw[HN];intro s h;cases okk with | false=>cases h | true=>exact Option.some.inj h),al (al ((fC3.out.setCell (p:=⟨w.heap.size+1,0,none⟩) (by show w.heap.size≤w.heap.size+1;omega) _).setCell (p:=⟨w.heap.size+1,1,none⟩) (by show w.heap.size≤w.heap.size+1;omega) _) aj) aj⟩
theorem lg (G1 G2 G3:Nat→Prop)(nm:ByteArray)(u lb tk fk:Int)(ty src:Ty)(ta fa ca:Option Addr)(tn tq fn fq cm cq:Nat)(w:World)(hty:ap G1 w ty (.agg #[.int .i64 tk,.slice ta tn tq]))(hsrc:ap G2 w src (.agg #[.int .i64 fk,.slice fa fn fq]))(y:Value)(h1:S)(hv1:h1.vd=true)(hy:aE G3 w [h1.ty] y) :
  Calls Tryz.prog 118 #[.agg #[.int .i64 12,.string nm,.int .i64 u,.int .i64 tk,.slice ta tn tq,.int .i64 fk,.slice fa fn fq,.int .i64 lb,.slice ca cm cq],y] w (bM ((bd 12 ty [h1]).map S.ty) w):=by
 obtain⟨b,off,cap,k1,c1,m1,q1,rfl,hlb,e1a,e1b,ht1⟩:=hy.one;obtain⟨O,hOO⟩ : ∃O:Option Ty,O=((bd 12 ty [h1]).map S.ty):=⟨_,rfl⟩
 rw[←hOO];have HO:=zq hOO;clear hOO;have HOO:=zq (sV (k:=12) (ty:=ty) (h:=h1) (by omega));have H1:=zq ht1.old;have HC1:=zq (eb hv1);have HM:=zq (fun W (h:Below w.heap.size w W)=>dJ _ h1 5 (.inr rfl) HC1.out _ W (H1.out.below h));generalize h1.mat 5=mm at HOO HM;obtain⟨ma,mb,okk⟩:=mm;simp only at HOO HM;have fR0:=aF (w:=w.alloc (.cells #[.int .i64 12,.string nm,.int .i64 u,.int .i64 tk,.slice ta tn tq,.int .i64 fk,.slice fa fn fq,.int .i64 lb,.slice ca cm cq] 28)) (o:=.cells #[.int .i64 0,.slice none 0 0] 25) (b:=w.heap.size+1) (by simp);have HBV:=zq (show Below w.heap.size w ((w.alloc (.cells #[.int .i64 12,.string nm,.int .i64 u,.int .i64 tk,.slice ta tn tq,.int .i64 fk,.slice fa fn fq,.int .i64 lb,.slice ca cm cq] 28)).alloc (.cells #[.int .i64 0,.slice none 0 0] 25)) from al aj aj);have m0:=af (aj (o:=.cells #[.int .i64 12,.string nm,.int .i64 u,.int .i64 tk,.slice ta tn tq,.int .i64 fk,.slice fa fn fq,.int .i64 lb,.slice ca cm cq] 28)) e1a;have m1:=af (aj (o:=.cells #[.int .i64 12,.string nm,.int .i64 u,.int .i64 tk,.slice ta tn tq,.int .i64 fk,.slice fa fn fq,.int .i64 lb,.slice ca cm cq] 28)) e1b;have lb1:b<w.heap.size+1:=by omega
 have lb2:b<w.heap.size+1+1:=by omega
 clear hty hsrc hy ht1 hv1
 go_enter Tryz.func118,Tryz.ntmps118
 go_wp2_with fail
 refine(HM.out _ HBV.out).mono ?_;rintro e w3 ⟨ya,yb,rfl,hab,hst⟩;obtain⟨k3,a3,n3,q3,k4,a4,n4,q4,rfl,rfl⟩:=hab.shape;obtain⟨fa_,fb_,oa_,ob_,-,hBB⟩:=hab;have HYA:=zq (oa_.rep.move (.weaken (G:=fun x=>((w.alloc (.cells #[.int .i64 12,.string nm,.int .i64 u,.int .i64 tk,.slice ta tn tq,.int .i64 fk,.slice fa fn fq,.int .i64 lb,.slice ca cm cq] 28)).alloc (.cells #[.int .i64 0,.slice none 0 0] 25)).heap.size≤x∧x<w3.heap.size) fun b h hl=>⟨hBB b (by simp[h]),hl⟩));have HYB:=zq (ob_.rep.move (.weaken (G:=fun x=>((w.alloc (.cells #[.int .i64 12,.string nm,.int .i64 u,.int .i64 tk,.slice ta tn tq,.int .i64 fk,.slice fa fn fq,.int .i64 lb,.slice ca cm cq] 28)).alloc (.cells #[.int .i64 0,.slice none 0 0] 25)).heap.size≤x∧x<w3.heap.size) fun b h hl=>⟨hBB b (by simp[h]),hl⟩));have fR3:=ag fR0 hst;have fC3:=zq (al HBV.out hst);have z3:=hst.size;simp only[World.size_alloc] at z3;clear oa_ ob_ hBB hst;obtain⟨r0,r1⟩:=blk2 fR3;have rf0:=ao fR3 0;have rf1:=ao fR3 1;have lR:=aD fR3;have lR1:w.heap.size+1<w3.heap.size+1:=by omega
 have lR2:w.heap.size+1<w3.heap.size+1+1:=by omega
 clear m0 m1
 go_wp2_with fail
 have hY:((((w3.setCell ⟨w.heap.size+1,0,none⟩ (.int .i64 k4)).setCell ⟨w.heap.size+1,1,none⟩ (.slice a4 n4 q4)).alloc (.cells #[.int .i64 k3,.slice a3 n3 q3] 25)).alloc (.cells #[.int .i64 k4,.slice a4 n4 q4] 25)).heap[w.heap.size+1]?=some (.cells #[.int .i64 k4,.slice a4 n4 q4] 25 (0,0)):=ag (ag (aN (aN fR3 rfl) rfl) aj) aj;obtain⟨rc0,rc1⟩:=blk2 hY;refine bodyPost_ret (v:=.tuple #[.agg #[.int .i64 k4,.slice a4 n4 q4],.bool okk]) (by simp[results,Tryz.results118,go_sem,rc0,rc1]) rfl ?_;have HN:O=if okk=true then some mb.ty else none:=by rw[HO.out,HOO.out];cases okk<;>rfl
 have hne : ∀b,(((w.alloc (.cells #[.int .i64 12,.string nm,.int .i64 u,.int .i64 tk,.slice ta tn tq,.int .i64 fk,.slice fa fn fq,.int .i64 lb,.slice ca cm cq] 28)).alloc (.cells #[.int .i64 0,.slice none 0 0] 25)).heap.size≤b∧b<w3.heap.size)→b≠w.heap.size+1:=fun b h=>by have:=h.1;simp at this;omega
 exact⟨_,_,_,_,_,mb.ty,rfl,by rw[HN];cases okk<;>rfl,(((ap.setN (ap.setN HYB.out hne) hne).below aj).below aj).move (.weaken fun b h _=>.inr (by have h1:=h.1;simp at h1;omega)),(by rw[HN];intro s h;cases okk with | false=>cases h | true=>exact Option.some.inj h),al (al ((fC3.out.setCell (p:=⟨w.heap.size+1,0,none⟩) (by show w.heap.size≤w.heap.size+1;omega) _).setCell (p:=⟨w.heap.size+1,1,none⟩) (by show w.heap.size≤w.heap.size+1;omega) _) aj) aj⟩
def jb:Oper:=⟨some 27,.load 25 (.tmp 7),25,"l3_typing.go:74",#[],none⟩
def jc:Oper:=⟨some 28,.move (.tmp 8),4,"l3_typing.go:74",#[],none⟩
def jd:Oper:=⟨some 29,.move (.tmp 28),4,"l3_typing.go:74",#[⟨1,.data⟩],none⟩
def kJ:Oper:=⟨some 30,.move (.tmp 1),23,"l3_typing.go:74",#[⟨2,.guard⟩],some (2,true)⟩
def kK:Oper:=⟨some 31,.indexAddr 23 (.tmp 30) (.const (.int .i64 1)),0,"l3_typing.go:74",#[⟨3,.data⟩,⟨2,.guard⟩],some (2,true)⟩
def kL:Oper:=⟨some 32,.load 25 (.tmp 31),25,"l3_typing.go:74",#[⟨4,.data⟩,⟨2,.guard⟩],some (2,true)⟩
def kM:Oper:=⟨some 33,.load 25 (.tmp 6),25,"l3_typing.go:74",#[⟨2,.guard⟩],some (2,true)⟩
def kN:Oper:=⟨some 34,.call {callee:=.value (.func 58),args:=#[.tmp 32,.tmp 33],argTypes:=#[25,25]},4,"l3_typing.go:74",#[⟨5,.data⟩,⟨6,.data⟩,⟨2,.chain⟩,⟨2,.guard⟩],some (2,true)⟩
def je:Oper:=⟨some 35,.pick (.tmp 29) (.tmp 34) (.const (.bool false)),4,"l3_typing.go:74",#[⟨2,.data⟩,⟨7,.data⟩,⟨9,.gcOnly .lateStores⟩],none⟩
def jf:Oper:=⟨none,.store 25 (.tmp 4) (.tmp 27),0,"l3_typing.go:74",#[⟨0,.data⟩,⟨7,.chain⟩,⟨0,.phase⟩,⟨1,.textOnly .lateStores⟩,⟨2,.textOnly .lateStores⟩,⟨3,.textOnly .lateStores⟩,⟨4,.textOnly .lateStores⟩,⟨5,.textOnly .lateStores⟩,⟨6,.textOnly .lateStores⟩,⟨7,.textOnly .lateStoresUnsure⟩,⟨8,.textOnly .lateStores⟩],none⟩
def fz:Oper:=⟨some 5,.assign (.tmp 35),4,"l3_typing.go:74",#[⟨8,.data⟩,⟨9,.chain⟩,⟨0,.phase⟩,⟨1,.phase⟩,⟨2,.phase⟩,⟨3,.phase⟩,⟨4,.phase⟩,⟨5,.phase⟩,⟨6,.phase⟩,⟨7,.phase⟩,⟨8,.phase⟩,⟨9,.phase⟩],none⟩
theorem jZ (G1 G2 G3:Nat→Prop)(nm:ByteArray)(u lb tk fk:Int)(ty src:Ty)(ta fa ca:Option Addr)(tn tq fn fq cm cq:Nat)(w:World)(hty:ap G1 w ty (.agg #[.int .i64 tk,.slice ta tn tq]))(hsrc:ap G2 w src (.agg #[.int .i64 fk,.slice fa fn fq]))(y:Value)(h1 h2:S)(hd:(h1.mat 4).2.2=false)(hv1:h1.vd=true)(hv2:h2.vd=true)(hy:aE G3 w [h1.ty,h2.ty] y) :
  Calls Tryz.prog 118 #[.agg #[.int .i64 6,.string nm,.int .i64 u,.int .i64 tk,.slice ta tn tq,.int .i64 fk,.slice fa fn fq,.int .i64 lb,.slice ca cm cq],y] w (bM ((bd 6 ty [h1,h2]).map S.ty) w):=by
 obtain⟨b,off,cap,k1,c1,m1,q1,k2,c2,m2,q2,rfl,-,-,hlb,e1a,e1b,e2a,e2b,ht1,ht2⟩:=hy.two;obtain⟨O,hOO⟩ : ∃O:Option Ty,O=((bd 6 ty [h1,h2]).map S.ty):=⟨_,rfl⟩
 rw[←hOO];have HO:=zq hOO;clear hOO;have HOO:=zq (show bd 6 ty [h1,h2]=if ((h1.mat 4).2.2&&h2.cons (h1.mat 4).1)=true then some (h1.mat 4).2.1 else none from by simp only[bd,if_true]);have H1:=zq ht1.old;have H2:=zq ht2.old;have HC1:=zq (eb hv1);have HM:=zq (fun W (h:Below w.heap.size w W)=>dJ _ h1 4 (.inl rfl) HC1.out _ W (H1.out.below h));have HMV:=zq (kI (k:=4) hv1);have V2:=zq hv2;generalize h1.mat 4=mm at HOO HM hd HMV;obtain⟨ma,mb,okk⟩:=mm;simp only at HOO HM hd HMV;subst hd;obtain⟨d2,hd2⟩ : ∃d2,h2.cons ma=d2:=⟨_,rfl⟩
 have HD2:=zq hd2;have fR0:=aF (w:=w.alloc (.cells #[.int .i64 6,.string nm,.int .i64 u,.int .i64 tk,.slice ta tn tq,.int .i64 fk,.slice fa fn fq,.int .i64 lb,.slice ca cm cq] 28)) (o:=.cells #[.int .i64 0,.slice none 0 0] 25) (b:=w.heap.size+1) (by simp);have HBV:=zq (show Below w.heap.size w ((w.alloc (.cells #[.int .i64 6,.string nm,.int .i64 u,.int .i64 tk,.slice ta tn tq,.int .i64 fk,.slice fa fn fq,.int .i64 lb,.slice ca cm cq] 28)).alloc (.cells #[.int .i64 0,.slice none 0 0] 25)) from al aj aj);have m0:=af (aj (o:=.cells #[.int .i64 6,.string nm,.int .i64 u,.int .i64 tk,.slice ta tn tq,.int .i64 fk,.slice fa fn fq,.int .i64 lb,.slice ca cm cq] 28)) e1a;have m1:=af (aj (o:=.cells #[.int .i64 6,.string nm,.int .i64 u,.int .i64 tk,.slice ta tn tq,.int .i64 fk,.slice fa fn fq,.int .i64 lb,.slice ca cm cq] 28)) e1b;have lb1:b<w.heap.size+1:=by omega
 have lb2:b<w.heap.size+1+1:=by omega
 clear hty hsrc hy ht1 ht2 hv1 hv2 hd2
 go_enter Tryz.func118,Tryz.ntmps118
 go_wp2_with fail
 refine(HM.out _ HBV.out).mono ?_;rintro e w3 ⟨ya,yb,rfl,hab,hst⟩;obtain⟨k3,a3,n3,q3,k4,a4,n4,q4,rfl,rfl⟩:=hab.shape;obtain⟨fa_,fb_,oa_,ob_,-,hBB⟩:=hab;have HYA:=zq (oa_.rep.move (.weaken (G:=fun x=>((w.alloc (.cells #[.int .i64 6,.string nm,.int .i64 u,.int .i64 tk,.slice ta tn tq,.int .i64 fk,.slice fa fn fq,.int .i64 lb,.slice ca cm cq] 28)).alloc (.cells #[.int .i64 0,.slice none 0 0] 25)).heap.size≤x∧x<w3.heap.size) fun b h hl=>⟨hBB b (by simp[h]),hl⟩));have HYB:=zq (ob_.rep.move (.weaken (G:=fun x=>((w.alloc (.cells #[.int .i64 6,.string nm,.int .i64 u,.int .i64 tk,.slice ta tn tq,.int .i64 fk,.slice fa fn fq,.int .i64 lb,.slice ca cm cq] 28)).alloc (.cells #[.int .i64 0,.slice none 0 0] 25)).heap.size≤x∧x<w3.heap.size) fun b h hl=>⟨hBB b (by simp[h]),hl⟩));have fR3:=ag fR0 hst;have fC3:=zq (al HBV.out hst);have z3:=hst.size;simp only[World.size_alloc] at z3;clear oa_ ob_ hBB hst;simp only[World.size_alloc] at HYA HYB;clear m0 m1
 go_wp2_with fail
 obtain⟨VV,hVV⟩ : ∃X,X=((w3.alloc (.cells #[.int .i64 k3,.slice a3 n3 q3] 25)).alloc (.cells #[.int .i64 k4,.slice a4 n4 q4] 25)):=⟨_,rfl⟩
 have fR:VV.heap[w.heap.size+1]?=some (.cells #[.int .i64 0,.slice none 0 0] 25 (0,0)):=by rw[hVV];exact ag (ag fR3 aj) aj
 have fA:VV.heap[w3.heap.size]?=some (.cells #[.int .i64 k3,.slice a3 n3 q3] 25 (0,0)):=by rw[hVV];exact ag (aF rfl) aj
 have fB:VV.heap[w3.heap.size+1]?=some (.cells #[.int .i64 k4,.slice a4 n4 q4] 25 (0,0)):=by rw[hVV];exact aF (by simp)
 have fC:Hid (Below w.heap.size w VV):=by rw[hVV];exact zq (al (al fC3.out aj) aj)
 have hA:Hid (ap (fun x=>w.heap.size+1+1≤x∧x<w3.heap.size) VV ma.ty (.agg #[.int .i64 k3,.slice a3 n3 q3])):=by rw[hVV];exact zq ((HYA.out.below aj).below aj)
 have hB_:Hid (ap (fun x=>w.heap.size+1+1≤x∧x<w3.heap.size) VV mb.ty (.agg #[.int .i64 k4,.slice a4 n4 q4])):=by rw[hVV];exact zq ((HYB.out.below aj).below aj)
 rw[←hVV];have zV:VV.heap.size=_:=congrArg (fun X:World=>X.heap.size) hVV;simp only[World.size_alloc] at zV;refine wp_region_noPanic ?_;refine wp_region_held_drew (S:=fun w'=>w'.cell? ⟨w3.heap.size,0,none⟩=some (.int .i64 k3)∧w'.cell? ⟨w3.heap.size,1,none⟩=some (.slice a3 n3 q3)∧w'.cell? ⟨w3.heap.size+1,0,none⟩=some (.int .i64 k4)∧w'.cell? ⟨w3.heap.size+1,1,none⟩=some (.slice a4 n4 q4)) (by kernel_rfl) ?_ (fun hH0=>?_)
 ·exact⟨ah fA rfl,ah fA rfl,ah fB rfl,ah fB rfl⟩
 obtain⟨U7,hU,hb,zU7a,zU7b⟩:=bK VV;rw[hU] at hH0 ⊢;replace fR:=ag fR hb;replace fA:=ag fA hb;replace fB:=ag fB hb;replace fC:=zq (al fC.out hb);replace hA:=zq (hA.out.below hb);replace hB_:=zq (hB_.out.below hb);rw[zV] at zU7a zU7b;clear hU hb hVV zV;refine hwt 0 jb (.agg #[.int .i64 k4,.slice a4 n4 q4]) hH0 ?_ ?_
 ·intro w' hSw;dsimp only[jb];go_simp
 try simp only[jb,hwA]
 refine hwt 1 jc (.bool false) hH0 ?_ ?_
 ·intro w' hSw;dsimp only[jc];go_simp
 try simp only[jc,hwA]
 refine hwt 2 jd (.bool false) hH0 ?_ ?_
 ·intro w' hSw;dsimp only[jd];go_simp
 try simp only[jd,hwA]
 refine hwn 3 kJ hH0 ?_
 try simp only[kJ,hwA]
 refine hwn 4 kK hH0 ?_
 try simp only[kK,hwA]
 refine hwn 5 kL hH0 ?_
 try simp only[kL,hwA]
 refine hwn 6 kM hH0 ?_
 try simp only[kM,hwA]
 refine hwn 7 kN hH0 ?_
 try simp only[kN,hwA]
 refine hwt 8 je (.bool false) hH0 ?_ ?_
 ·intro w' hSw;dsimp only[je];go_simp
 try simp only[je,hwA]
 refine hwr 9 jf (fun K hK=>?_);obtain⟨r0,r1,rf0,rf1⟩:=co fR
 dsimp only[jf];go_simp
 (try go_wp2_with fail);have hQq:=bC fR (.int .i64 k4) (.slice a4 n4 q4);clear fR r0 rf0 r1 rf1;obtain⟨X1,hXq,hsq,fR,zX1a,zX1b⟩:=hQq;rw[hXq];replace fA:=hsq.blk (by omega) fA;replace fB:=hsq.blk (by omega) fB;replace fC:=zq (hsq.bel fC.out (by omega));replace hA:=zq (hsq.rep (fun b hb=>by have h1:=hb.1;have h2:=hb.2;omega) hA.out);replace hB_:=zq (hsq.rep (fun b hb=>by have h1:=hb.1;have h2:=hb.2;omega) hB_.out);refine hK.out _ _ ⟨ah fA rfl,ah fA rfl,ah fB rfl,ah fB rfl⟩ (fun hH1=>?_);clear hK K hH0 hsq hXq
 try simp only[jf,hwA]
 refine hwt 10 fz (.bool false) hH1 ?_ ?_
 ·intro w' hSw;dsimp only[fz];go_simp
 try simp only[fz,hwA]
 refine wpAnyH_done (by kernel_rfl) ?_ _;refine NoPanic.normal ?_;clear hH1;have HN:O=none:=by rw[HO.out,HOO.out];rfl
 obtain⟨rc0,rc1⟩:=blk2 fR
 go_wp2_with fail
 refine bodyPost_ret (v:=.tuple #[.agg #[.int .i64 k4,.slice a4 n4 q4],.bool false]) (by simp[results,Tryz.results118,go_sem,rc0,rc1]) rfl ?_
 exact⟨_,_,_,_,_,mb.ty,rfl,by rw[HN];rfl,hB_.out.move (.weaken fun b h _=>.inr (by have h1:=h.1;omega)),(by rw[HN];intro s h;cases h),fC.out⟩
theorem k7 (G1 G2 G3:Nat→Prop)(nm:ByteArray)(u lb tk fk:Int)(ty src:Ty)(ta fa ca:Option Addr)(tn tq fn fq cm cq:Nat)(w:World)(hty:ap G1 w ty (.agg #[.int .i64 tk,.slice ta tn tq]))(hsrc:ap G2 w src (.agg #[.int .i64 fk,.slice fa fn fq]))(y:Value)(h1 h2:S)(hd:(h1.mat 4).2.2=true)(hv1:h1.vd=true)(hv2:h2.vd=true)(hy:aE G3 w [h1.ty,h2.ty] y) :
  Calls Tryz.prog 118 #[.agg #[.int .i64 6,.string nm,.int .i64 u,.int .i64 tk,.slice ta tn tq,.int .i64 fk,.slice fa fn fq,.int .i64 lb,.slice ca cm cq],y] w (bM ((bd 6 ty [h1,h2]).map S.ty) w):=by
 obtain⟨b,off,cap,k1,c1,m1,q1,k2,c2,m2,q2,rfl,-,-,hlb,e1a,e1b,e2a,e2b,ht1,ht2⟩:=hy.two;obtain⟨O,hOO⟩ : ∃O:Option Ty,O=((bd 6 ty [h1,h2]).map S.ty):=⟨_,rfl⟩
 rw[←hOO];have HO:=zq hOO;clear hOO;have HOO:=zq (show bd 6 ty [h1,h2]=if ((h1.mat 4).2.2&&h2.cons (h1.mat 4).1)=true then some (h1.mat 4).2.1 else none from by simp only[bd,if_true]);have H1:=zq ht1.old;have H2:=zq ht2.old;have HC1:=zq (eb hv1);have HM:=zq (fun W (h:Below w.heap.size w W)=>dJ _ h1 4 (.inl rfl) HC1.out _ W (H1.out.below h));have HMV:=zq (kI (k:=4) hv1);have V2:=zq hv2;generalize h1.mat 4=mm at HOO HM hd HMV;obtain⟨ma,mb,okk⟩:=mm;simp only at HOO HM hd HMV;subst hd;obtain⟨d2,hd2⟩ : ∃d2,h2.cons ma=d2:=⟨_,rfl⟩
 have HD2:=zq hd2;have fR0:=aF (w:=w.alloc (.cells #[.int .i64 6,.string nm,.int .i64 u,.int .i64 tk,.slice ta tn tq,.int .i64 fk,.slice fa fn fq,.int .i64 lb,.slice ca cm cq] 28)) (o:=.cells #[.int .i64 0,.slice none 0 0] 25) (b:=w.heap.size+1) (by simp);have HBV:=zq (show Below w.heap.size w ((w.alloc (.cells #[.int .i64 6,.string nm,.int .i64 u,.int .i64 tk,.slice ta tn tq,.int .i64 fk,.slice fa fn fq,.int .i64 lb,.slice ca cm cq] 28)).alloc (.cells #[.int .i64 0,.slice none 0 0] 25)) from al aj aj);have m0:=af (aj (o:=.cells #[.int .i64 6,.string nm,.int .i64 u,.int .i64 tk,.slice ta tn tq,.int .i64 fk,.slice fa fn fq,.int .i64 lb,.slice ca cm cq] 28)) e1a;have m1:=af (aj (o:=.cells #[.int .i64 6,.string nm,.int .i64 u,.int .i64 tk,.slice ta tn tq,.int .i64 fk,.slice fa fn fq,.int .i64 lb,.slice ca cm cq] 28)) e1b;have lb1:b<w.heap.size+1:=by omega
 have lb2:b<w.heap.size+1+1:=by omega
 clear hty hsrc hy ht1 ht2 hv1 hv2 hd2
 go_enter Tryz.func118,Tryz.ntmps118
 go_wp2_with fail
 refine(HM.out _ HBV.out).mono ?_;rintro e w3 ⟨ya,yb,rfl,hab,hst⟩;obtain⟨k3,a3,n3,q3,k4,a4,n4,q4,rfl,rfl⟩:=hab.shape;obtain⟨fa_,fb_,oa_,ob_,-,hBB⟩:=hab;have HYA:=zq (oa_.rep.move (.weaken (G:=fun x=>((w.alloc (.cells #[.int .i64 6,.string nm,.int .i64 u,.int .i64 tk,.slice ta tn tq,.int .i64 fk,.slice fa fn fq,.int .i64 lb,.slice ca cm cq] 28)).alloc (.cells #[.int .i64 0,.slice none 0 0] 25)).heap.size≤x∧x<w3.heap.size) fun b h hl=>⟨hBB b (by simp[h]),hl⟩));have HYB:=zq (ob_.rep.move (.weaken (G:=fun x=>((w.alloc (.cells #[.int .i64 6,.string nm,.int .i64 u,.int .i64 tk,.slice ta tn tq,.int .i64 fk,.slice fa fn fq,.int .i64 lb,.slice ca cm cq] 28)).alloc (.cells #[.int .i64 0,.slice none 0 0] 25)).heap.size≤x∧x<w3.heap.size) fun b h hl=>⟨hBB b (by simp[h]),hl⟩));have fR3:=ag fR0 hst;have fC3:=zq (al HBV.out hst);have z3:=hst.size;simp only[World.size_alloc] at z3;clear oa_ ob_ hBB hst;simp only[World.size_alloc] at HYA HYB;clear m0 m1
 go_wp2_with fail
 obtain⟨VV,hVV⟩ : ∃X,X=((w3.alloc (.cells #[.int .i64 k3,.slice a3 n3 q3] 25)).alloc (.cells #[.int .i64 k4,.slice a4 n4 q4] 25)):=⟨_,rfl⟩
 have fR:VV.heap[w.heap.size+1]?=some (.cells #[.int .i64 0,.slice none 0 0] 25 (0,0)):=by rw[hVV];exact ag (ag fR3 aj) aj
 have fA:VV.heap[w3.heap.size]?=some (.cells #[.int .i64 k3,.slice a3 n3 q3] 25 (0,0)):=by rw[hVV];exact ag (aF rfl) aj
 have fB:VV.heap[w3.heap.size+1]?=some (.cells #[.int .i64 k4,.slice a4 n4 q4] 25 (0,0)):=by rw[hVV];exact aF (by simp)
 have fC:Hid (Below w.heap.size w VV):=by rw[hVV];exact zq (al (al fC3.out aj) aj)
 have hA:Hid (ap (fun x=>w.heap.size+1+1≤x∧x<w3.heap.size) VV ma.ty (.agg #[.int .i64 k3,.slice a3 n3 q3])):=by rw[hVV];exact zq ((HYA.out.below aj).below aj)
 have hB_:Hid (ap (fun x=>w.heap.size+1+1≤x∧x<w3.heap.size) VV mb.ty (.agg #[.int .i64 k4,.slice a4 n4 q4])):=by rw[hVV];exact zq ((HYB.out.below aj).below aj)
 have c2a_:VV.cell? ⟨b,off+2,none⟩=some (.int .i64 k2):=by rw[hVV];exact af aj (af aj (af fC3.out e2a))
 have c2b_:VV.cell? ⟨b,off+3,none⟩=some (.slice c2 m2 q2):=by rw[hVV];exact af aj (af aj (af fC3.out e2b))
 have h2_:Hid (ap (· < w.heap.size) VV h2.ty (.agg #[.int .i64 k2,.slice c2 m2 q2])):=by rw[hVV];exact zq (((H2.out.below fC3.out).below aj).below aj)
 rw[←hVV];have zV:VV.heap.size=_:=congrArg (fun X:World=>X.heap.size) hVV;simp only[World.size_alloc] at zV;refine wp_region_noPanic ?_;refine wp_region_held_drew (S:=fun w'=>w'.cell? ⟨w3.heap.size,0,none⟩=some (.int .i64 k3)∧w'.cell? ⟨w3.heap.size,1,none⟩=some (.slice a3 n3 q3)∧w'.cell? ⟨w3.heap.size+1,0,none⟩=some (.int .i64 k4)∧w'.cell? ⟨w3.heap.size+1,1,none⟩=some (.slice a4 n4 q4)∧w'.cell? ⟨b,off+2,none⟩=some (.int .i64 k2)∧w'.cell? ⟨b,off+3,none⟩=some (.slice c2 m2 q2)) (by kernel_rfl) ?_ (fun hH0=>?_)
 ·exact⟨ah fA rfl,ah fA rfl,ah fB rfl,ah fB rfl,c2a_,c2b_⟩
 obtain⟨U8,hU,hb,zU8a,zU8b⟩:=bK VV;rw[hU] at hH0 ⊢;replace fR:=ag fR hb;replace fA:=ag fA hb;replace fB:=ag fB hb;replace fC:=zq (al fC.out hb);replace hA:=zq (hA.out.below hb);replace hB_:=zq (hB_.out.below hb);replace c2a_:=af hb c2a_;replace c2b_:=af hb c2b_;replace h2_:=zq (h2_.out.below hb);rw[zV] at zU8a zU8b;clear hU hb hVV zV;refine hwt 0 jb (.agg #[.int .i64 k4,.slice a4 n4 q4]) hH0 ?_ ?_
 ·intro w' hSw;dsimp only[jb];go_simp
 try simp only[jb,hwA]
 refine hwt 1 jc (.bool true) hH0 ?_ ?_
 ·intro w' hSw;dsimp only[jc];go_simp
 try simp only[jc,hwA]
 refine hwt 2 jd (.bool true) hH0 ?_ ?_
 ·intro w' hSw;dsimp only[jd];go_simp
 try simp only[jd,hwA]
 refine hwt 3 kJ (.slice (some ⟨b,off,none⟩) 2 cap) hH0 ?_ ?_
 ·intro w' hSw;dsimp only[kJ];go_simp
 try simp only[kJ,hwA]
 refine hwt 4 kK (.pointer (some ⟨b,off+2,none⟩)) hH0 ?_ ?_
 ·intro w' hSw;dsimp only[kK];go_simp
 try simp only[kK,hwA]
 refine hwt 5 kL (.agg #[.int .i64 k2,.slice c2 m2 q2]) hH0 ?_ ?_
 ·intro w' hSw;dsimp only[kL];go_simp
 try simp only[kL,hwA]
 refine hwt 6 kM (.agg #[.int .i64 k3,.slice a3 n3 q3]) hH0 ?_ ?_
 ·intro w' hSw;dsimp only[kM];go_simp
 try simp only[kM,hwA]
 refine hwr 7 kN (fun K hK=>?_)
 dsimp only[kN];go_simp
 go_at_call 58
 refine(ce _ _ _ _ _ _ _ h2_.out hA.out V2.out (HMV.out (by simp)).1).mono ?_;rintro e X1 ⟨rfl,hb⟩;rw[HD2.out]
 go_wp2_with fail
 have zX1:U8.heap.size≤X1.heap.size:=hb.size;replace fR:=ag fR hb;replace fA:=ag fA hb;replace fB:=ag fB hb;replace fC:=zq (al fC.out hb);replace hA:=zq (hA.out.below hb);replace hB_:=zq (hB_.out.below hb);replace c2a_:=af hb c2a_;replace c2b_:=af hb c2b_;replace h2_:=zq (h2_.out.below hb);refine hK.out _ _ ⟨ah fA rfl,ah fA rfl,ah fB rfl,ah fB rfl,c2a_,c2b_⟩ (fun hH1=>?_);clear hK K hH0 hb
 try simp only[kN,hwA]
 refine hwt 8 je (.bool d2) hH1 ?_ ?_
 ·intro w' hSw;dsimp only[je];go_simp
 try simp only[je,hwA]
 refine hwr 9 jf (fun K hK=>?_);obtain⟨r0,r1,rf0,rf1⟩:=co fR
 dsimp only[jf];go_simp
 (try go_wp2_with fail);have hQq:=bC fR (.int .i64 k4) (.slice a4 n4 q4);clear fR r0 rf0 r1 rf1;obtain⟨X2,hXq,hsq,fR,zX2a,zX2b⟩:=hQq;rw[hXq];replace fA:=hsq.blk (by omega) fA;replace fB:=hsq.blk (by omega) fB;replace fC:=zq (hsq.bel fC.out (by omega));replace hA:=zq (hsq.rep (fun b hb=>by have h1:=hb.1;have h2:=hb.2;omega) hA.out);replace hB_:=zq (hsq.rep (fun b hb=>by have h1:=hb.1;have h2:=hb.2;omega) hB_.out);replace c2a_:=hsq.cell (by show b≠w.heap.size+1;omega) c2a_;replace c2b_:=hsq.cell (by show b≠w.heap.size+1;omega) c2b_;replace h2_:=zq (hsq.rep (fun b hb=>by have:b<w.heap.size:=hb;omega) h2_.out);refine hK.out _ _ ⟨ah fA rfl,ah fA rfl,ah fB rfl,ah fB rfl,c2a_,c2b_⟩ (fun hH2=>?_);clear hK K hH1 hsq hXq
 try simp only[jf,hwA]
 refine hwt 10 fz (.bool d2) hH2 ?_ ?_
 ·intro w' hSw;dsimp only[fz];go_simp
 try simp only[fz,hwA]
 refine wpAnyH_done (by kernel_rfl) ?_ _;refine NoPanic.normal ?_;clear hH2;have HN:O=if d2=true then some mb.ty else none:=by rw[HO.out,HOO.out];rw[HD2.out];cases d2<;>rfl
 obtain⟨rc0,rc1⟩:=blk2 fR
 go_wp2_with fail
 refine bodyPost_ret (v:=.tuple #[.agg #[.int .i64 k4,.slice a4 n4 q4],.bool d2]) (by simp[results,Tryz.results118,go_sem,rc0,rc1]) rfl ?_
 exact⟨_,_,_,_,_,mb.ty,rfl,by rw[HN];cases d2<;>rfl,hB_.out.move (.weaken fun b h _=>.inr (by have h1:=h.1;omega)),(by rw[HN];intro s h;cases d2 with | false=>cases h | true=>exact Option.some.inj h),fC.out⟩
end Go.Proofs.YtfahhonmiimmdaaGreat

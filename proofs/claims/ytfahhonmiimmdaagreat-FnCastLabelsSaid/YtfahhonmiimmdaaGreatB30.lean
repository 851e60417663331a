/- Lists of types read off a block's cells. And what else its parts name. -/
import Derived.Test.YtfahhonmiimmdaaGreatB47
set_option linter.unusedSimpArgs false
set_option linter.unusedVariables false
set_option maxRecDepth 100000
set_option maxHeartbeats 16000000
namespace Go.Proofs.YtfahhonmiimmdaaGreat
open Go.RowKit
theorem fz {F:Nat→Prop}{w:World}{b o:Nat}{t:Ty}{k1:Int}{c1:Value}(e0:w.cell? ⟨b,o,none⟩=some (.int .i64 k1))(e1:w.cell? ⟨b,o+1,none⟩=some c1)(ht:ao F w t (.agg #[.int .i64 k1,c1])):aM F w b o t.row:=by
 obtain⟨p1,p2⟩:=ht.parts
 cases t with | mk k1' ts=>
 simp only[Ty.kind,Ty.kids] at p1 p2;subst p1;unfold Ty.row aM;refine⟨⟨_,e0,by unfold aH;rfl⟩,?_⟩;unfold aM
 exact⟨⟨_,e1,p2⟩,by unfold aM;trivial⟩
theorem aA.one_mk {F:Nat→Prop}{w:World}{b cap:Nat}{t:Ty}{k1:Int}{c1:Value}(hF:F b)(hc:1≤cap)(hm:cap≤maxLen)
  (e0:w.cell? ⟨b,0,none⟩=some (.int .i64 k1)) (e1:w.cell? ⟨b,1,none⟩=some c1) (ht:ao F w t (.agg #[.int .i64 k1,c1])):aA F w [t] (.slice (some ⟨b,0,none⟩) 1 cap):=by
 unfold aA aH;refine⟨_,cap,by simp[Ty.rows_length],by rw[Ty.rows_length];simpa using hc,hm,.inr ⟨b,0,rfl,hF,World.block_lt_of_cell? _ _ e0,?_⟩⟩;simp only[Ty.rows];unfold b9
 exact⟨fz e0 e1 ht,by unfold b9;trivial⟩
theorem aA.two_mk {F:Nat→Prop}{w:World}{b cap:Nat}{t u:Ty}{k1 k2:Int}{c1 c2:Value}(hF:F b)(hc:2≤cap)(hm:cap≤maxLen)
  (e0:w.cell? ⟨b,0,none⟩=some (.int .i64 k1)) (e1:w.cell? ⟨b,1,none⟩=some c1) (e2:w.cell? ⟨b,2,none⟩=some (.int .i64 k2)) (e3:w.cell? ⟨b,3,none⟩=some c2)
  (ht:ao F w t (.agg #[.int .i64 k1,c1])) (hu:ao F w u (.agg #[.int .i64 k2,c2])):aA F w [t,u] (.slice (some ⟨b,0,none⟩) 2 cap):=(ao.two_mk (k:=0) hF hc hm e0 e1 e2 e3 ht hu).parts.2
theorem aA.three_mk {F:Nat→Prop}{w:World}{b cap:Nat}{t u s:Ty}{k1 k2 k3:Int}{c1 c2 c3:Value}(hF:F b)(hc:3≤cap)(hm:cap≤maxLen)
  (e0:w.cell? ⟨b,0,none⟩=some (.int .i64 k1)) (e1:w.cell? ⟨b,1,none⟩=some c1) (e2:w.cell? ⟨b,2,none⟩=some (.int .i64 k2)) (e3:w.cell? ⟨b,3,none⟩=some c2) (e4:w.cell? ⟨b,4,none⟩=some (.int .i64 k3)) (e5:w.cell? ⟨b,5,none⟩=some c3)
  (ht:ao F w t (.agg #[.int .i64 k1,c1])) (hu:ao F w u (.agg #[.int .i64 k2,c2])) (hs:ao F w s (.agg #[.int .i64 k3,c3])):aA F w [t,u,s] (.slice (some ⟨b,0,none⟩) 3 cap):=by
 have lt:t.row.length=2:=by cases t;rfl
 have lu:u.row.length=2:=by cases u;rfl
 unfold aA aH;refine⟨_,cap,by simp[Ty.rows_length],by rw[Ty.rows_length];simpa using hc,hm,.inr ⟨b,0,rfl,hF,World.block_lt_of_cell? _ _ e0,?_⟩⟩;simp only[Ty.rows];unfold b9;refine⟨fz e0 e1 ht,?_⟩;unfold b9;refine⟨fz (by rw[lt];exact e2) (by rw[lt];exact e3) hu,?_⟩;unfold b9
 exact⟨fz (by rw[lt,lu];exact e4) (by rw[lt,lu];exact e5) hs,by unfold b9;trivial⟩
def dk (n:Nat)(F:Nat→Prop)(w:World)(e:Ending)(w':World):Prop:=∃(us:List Ty) (a:Option Addr) (q:Nat),e = .returned (.slice a n q)∧us.length=n∧(∀u∈us,u.cnt≤14)∧aA (fun b=>F b∨w.heap.size≤b) w' us (.slice a n q)∧Below w.heap.size w w'
theorem fn_mat {s:S}(hs:s.vd=true)(h:(s.mat 4).2.2=true):(S.fn (s.mat 4).1 (s.mat 4).2.1).vd=true:=by
 cases s with
 | fn a b=>exact hs
 | any=>decide
 | zero=>exact absurd h (by decide)
 | int=>exact absurd h (by decide)
 | bool=>exact absurd h (by decide)
 | pr a b=>exact absurd h (by simp[S.mat])
theorem pr_mat {s:S}(hs:s.vd=true)(h:(s.mat 5).2.2=true):(S.pr (s.mat 5).1 (s.mat 5).2.1).vd=true:=by
 cases s with
 | pr a b=>exact hs
 | any=>decide
 | zero=>exact absurd h (by decide)
 | int=>exact absurd h (by decide)
 | bool=>exact absurd h (by decide)
 | fn a b=>exact absurd h (by simp[S.mat])
theorem cg {s:S}(h:s.vd=true):s.ty.cnt≤14:=by rw[S.ty_cnt];exact i7 h
theorem sX (F1 F2:Nat→Prop)(s:S)(h0 h1:S)(hv0:h0.vd=true)(hm:(h0.mat 4).2.2=true)(nm:ByteArray)(u tk fk lb uk:Int)(ta fa ca xa ua:Option Addr)(tn tq fn fq cm cq xn xq un uq:Nat)(w:World)(hk:aA F1 w [h0.ty,h1.ty] (.slice xa 2 xq))(ht:ao F2 w s.ty (.agg #[.int .i64 uk,.slice ua un uq]))(hs:s.vd=true) :
  Calls Tryz.prog 115 #[.agg #[.int .i64 6,.string nm,.int .i64 u,.int .i64 tk,.slice ta tn tq,.int .i64 fk,.slice fa fn fq,.int .i64 lb,.slice ca cm cq],.slice xa 2 xq,.agg #[.int .i64 uk,.slice ua un uq]] w (dk 2 (fun b=>F1 b∨F2 b) w):=by
 obtain⟨b2,off2,k0,c0,m0_,q0,rfl,hlb,e0,e1,ht0⟩:=hk.at (Below.refl _ _) (i:=0) (by simp);simp only[List.getElem_cons_zero,Nat.zero_mul,Nat.add_zero] at e0 e1 ht0;have HVM:=zq (fn_mat hv0 hm);have H0:=zq ht0;have HCN:=zq (ee hv0);have HM:=zq (fun W (h:Below w.heap.size w W)=>dM _ h0 4 (.inl rfl) HCN.out _ W (H0.out.below h));rw[hm] at HM;have HBV:=zq (show Below w.heap.size w ((w.alloc (.cells #[.int .i64 6,.string nm,.int .i64 u,.int .i64 tk,.slice ta tn tq,.int .i64 fk,.slice fa fn fq,.int .i64 lb,.slice ca cm cq] 28)).alloc (.cells #[.int .i64 uk,.slice ua un uq] 25)) from aj ai ai);have m0:=ah (ai (o:=.cells #[.int .i64 6,.string nm,.int .i64 u,.int .i64 tk,.slice ta tn tq,.int .i64 fk,.slice fa fn fq,.int .i64 lb,.slice ca cm cq] 28)) e0;have m1:=ah (ai (o:=.cells #[.int .i64 6,.string nm,.int .i64 u,.int .i64 tk,.slice ta tn tq,.int .i64 fk,.slice fa fn fq,.int .i64 lb,.slice ca cm cq] 28)) e1;have lb1:b2<w.heap.size+1:=by omega
 have lb2:b2<w.heap.size+1+1:=by omega
 generalize hma:(h0.mat 4).1=ma at HM HVM;generalize hmb:(h0.mat 4).2.1=mb at HM HVM;clear hm hv0 ht0 hk ht hs hma hmb
 go_enter Tryz.func115,Tryz.ntmps115
 go_wp2_with fail
 refine(HM.out _ HBV.out).mono ?_;rintro e w3 ⟨ya,yb,rfl,hab,hst⟩;obtain⟨k3,a3,n3,q3,k4,a4,n4,q4,rfl,rfl⟩:=hab.shape;obtain⟨fa_,fb_,oa_,ob_,-,hBB⟩:=hab;have hsz:w.heap.size≤((w.alloc (.cells #[.int .i64 6,.string nm,.int .i64 u,.int .i64 tk,.slice ta tn tq,.int .i64 fk,.slice fa fn fq,.int .i64 lb,.slice ca cm cq] 28)).alloc (.cells #[.int .i64 uk,.slice ua un uq] 25)).heap.size:=by simp;omega
 obtain⟨VS,hVS⟩ : ∃x,((w.alloc (.cells #[.int .i64 6,.string nm,.int .i64 u,.int .i64 tk,.slice ta tn tq,.int .i64 fk,.slice fa fn fq,.int .i64 lb,.slice ca cm cq] 28)).alloc (.cells #[.int .i64 uk,.slice ua un uq] 25)).heap.size=x:=⟨_,rfl⟩
 skip
 have hA:Hid (ao (fun x=>w.heap.size≤x∧x<w3.heap.size) w3 ma.ty (.agg #[.int .i64 k3,.slice a3 n3 q3])):=zq (oa_.rep.move (.weaken fun b h hl=>⟨Nat.le_trans hsz (hBB b (by simp[h])),hl⟩));have hB:Hid (ao (fun x=>w.heap.size≤x∧x<w3.heap.size) w3 mb.ty (.agg #[.int .i64 k4,.slice a4 n4 q4])):=zq (ob_.rep.move (.weaken fun b h hl=>⟨Nat.le_trans hsz (hBB b (by simp[h])),hl⟩));have fB:Hid (Below w.heap.size w w3):=zq (aj HBV.out hst);have zw3:w.heap.size≤w3.heap.size:=fB.out.size;clear oa_ ob_ hBB hst m0 m1 HM HBV hsz hVS
 go_wp2_with fail
 obtain⟨w4,hXq,hb,fA,zw4a,zw4b⟩:=aU w3 (.cells #[.int .i64 k3,.slice a3 n3 q3] 25);rw[hXq];replace hA:=zq (hA.out.below hb);replace hB:=zq (hB.out.below hb);replace fB:=zq (aj fB.out hb);clear hb hXq;obtain⟨w5,hXq,hb,fD,zw5a,zw5b⟩:=aU w4 (.cells #[.int .i64 k4,.slice a4 n4 q4] 25);rw[hXq];replace hA:=zq (hA.out.below hb);replace hB:=zq (hB.out.below hb);replace fB:=zq (aj fB.out hb);replace fA:=af fA hb;clear hb hXq;refine(dL _ _ 4 ma.ty mb.ty _ _ _ _ _ _ _ _ _ hA.out hB.out (by have:=cg (jP HVM.out).1;omega) (by have:=cg (jP HVM.out).2;omega)).mono ?_;rintro e w6 ⟨k6,a6,n6,q6,b6,t6,rfl,-,ht6,h6,hb⟩;have hval:(Ty.mk 4 [ma.ty,mb.ty]).valid=true:=(S.valid (S.fn ma mb)).trans HVM.out;obtain rfl:=h6 _ (if_pos hval);have hT6:Hid (ao (fun x=>w.heap.size≤x) w6 (.mk 4 [ma.ty,mb.ty]) (.agg #[.int .i64 k6,.slice a6 n6 q6])):=zq (ht6.move (.weaken fun b h _=>by have h1:=h.elim False.elim id;omega));have z6:=hb.size;clear ht6 h6;replace hA:=zq (hA.out.below hb);replace hB:=zq (hB.out.below hb);replace fB:=zq (aj fB.out hb);replace fA:=af fA hb;replace fD:=af fD hb;clear hb;obtain⟨y0,y1⟩:=blk2 fA;have yl:=aC fA
 go_wp2_with fail
 clear y0 y1 yl;obtain⟨w7,hXq,hb,fG,zw7a,zw7b⟩:=aU w6 (.cells #[.int .i64 k6,.slice a6 n6 q6] 25);rw[hXq];replace hA:=zq (hA.out.below hb);replace hB:=zq (hB.out.below hb);replace fB:=zq (aj fB.out hb);replace fA:=af fA hb;replace fD:=af fD hb;replace hT6:=zq (hT6.out.below hb);clear hb hXq;obtain⟨w8,hXq,hb,fK,zw8a,zw8b⟩:=aU w7 (.cells #[.int .i64 k6,.slice a6 n6 q6,.int .i64 k3,.slice a3 n3 q3] 25);rw[hXq];replace hA:=zq (hA.out.below hb);replace hB:=zq (hB.out.below hb);replace fB:=zq (aj fB.out hb);replace fA:=af fA hb;replace fD:=af fD hb;replace hT6:=zq (hT6.out.below hb);replace fG:=af fG hb;clear hb hXq;refine bodyPost_ret (v:=.slice (some ⟨w7.heap.size,0,none⟩) 2 2) (by simp[results,Tryz.results115,go_sem]) rfl ?_;have hc1:=cg HVM.out;have hc2:=cg (jP HVM.out).1;refine⟨[.mk 4 [ma.ty,mb.ty],ma.ty],_,_,rfl,rfl,?_,aA.two_mk (.inr (by omega)) (by omega) (by unfold maxLen;omega) (ag fK rfl) (ag fK rfl) (ag fK rfl) (ag fK rfl) (hT6.out.move (.weaken fun b h _=>.inr h)) (hA.out.move (.weaken fun b h _=>.inr h.1)),fB.out⟩;intro u hu;simp only[List.mem_cons,List.not_mem_nil,or_false] at hu
 rcases hu with rfl | rfl
 ·exact hc1
 ·exact hc2
theorem oL (F1 F2:Nat→Prop)(s:S)(h0:S)(hv0:h0.vd=true)(hm:(h0.mat 5).2.2=true)(nm:ByteArray)(u tk fk lb uk:Int)(ta fa ca xa ua:Option Addr)(tn tq fn fq cm cq xn xq un uq:Nat)(w:World)(hk:aA F1 w [h0.ty] (.slice xa 1 xq))(ht:ao F2 w s.ty (.agg #[.int .i64 uk,.slice ua un uq]))(hs:s.vd=true) :
  Calls Tryz.prog 115 #[.agg #[.int .i64 11,.string nm,.int .i64 u,.int .i64 tk,.slice ta tn tq,.int .i64 fk,.slice fa fn fq,.int .i64 lb,.slice ca cm cq],.slice xa 1 xq,.agg #[.int .i64 uk,.slice ua un uq]] w (dk 1 (fun b=>F1 b∨F2 b) w):=by
 obtain⟨b2,off2,k0,c0,m0_,q0,rfl,hlb,e0,e1,ht0⟩:=hk.at (Below.refl _ _) (i:=0) (by simp);simp only[List.getElem_cons_zero,Nat.zero_mul,Nat.add_zero] at e0 e1 ht0;have HVM:=zq (pr_mat hv0 hm);have H0:=zq ht0;have HCN:=zq (ee hv0);have HM:=zq (fun W (h:Below w.heap.size w W)=>dM _ h0 5 (.inr rfl) HCN.out _ W (H0.out.below h));rw[hm] at HM;have HBV:=zq (show Below w.heap.size w ((w.alloc (.cells #[.int .i64 11,.string nm,.int .i64 u,.int .i64 tk,.slice ta tn tq,.int .i64 fk,.slice fa fn fq,.int .i64 lb,.slice ca cm cq] 28)).alloc (.cells #[.int .i64 uk,.slice ua un uq] 25)) from aj ai ai);have m0:=ah (ai (o:=.cells #[.int .i64 11,.string nm,.int .i64 u,.int .i64 tk,.slice ta tn tq,.int .i64 fk,.slice fa fn fq,.int .i64 lb,.slice ca cm cq] 28)) e0;have m1:=ah (ai (o:=.cells #[.int .i64 11,.string nm,.int .i64 u,.int .i64 tk,.slice ta tn tq,.int .i64 fk,.slice fa fn fq,.int .i64 lb,.slice ca cm cq] 28)) e1;have lb1:b2<w.heap.size+1:=by omega
 have lb2:b2<w.heap.size+1+1:=by omega
 generalize hma:(h0.mat 5).1=ma at HM HVM;generalize hmb:(h0.mat 5).2.1=mb at HM HVM;clear hm hv0 ht0 hk ht hs hma hmb
 go_enter Tryz.func115,Tryz.ntmps115
 go_wp2_with fail
 refine(HM.out _ HBV.out).mono ?_;rintro e w3 ⟨ya,yb,rfl,hab,hst⟩;obtain⟨k3,a3,n3,q3,k4,a4,n4,q4,rfl,rfl⟩:=hab.shape;obtain⟨fa_,fb_,oa_,ob_,-,hBB⟩:=hab;have hsz:w.heap.size≤((w.alloc (.cells #[.int .i64 11,.string nm,.int .i64 u,.int .i64 tk,.slice ta tn tq,.int .i64 fk,.slice fa fn fq,.int .i64 lb,.slice ca cm cq] 28)).alloc (.cells #[.int .i64 uk,.slice ua un uq] 25)).heap.size:=by simp;omega
 obtain⟨VS,hVS⟩ : ∃x,((w.alloc (.cells #[.int .i64 11,.string nm,.int .i64 u,.int .i64 tk,.slice ta tn tq,.int .i64 fk,.slice fa fn fq,.int .i64 lb,.slice ca cm cq] 28)).alloc (.cells #[.int .i64 uk,.slice ua un uq] 25)).heap.size=x:=⟨_,rfl⟩
 skip
 have hA:Hid (ao (fun x=>w.heap.size≤x∧x<w3.heap.size) w3 ma.ty (.agg #[.int .i64 k3,.slice a3 n3 q3])):=zq (oa_.rep.move (.weaken fun b h hl=>⟨Nat.le_trans hsz (hBB b (by simp[h])),hl⟩));have hB:Hid (ao (fun x=>w.heap.size≤x∧x<w3.heap.size) w3 mb.ty (.agg #[.int .i64 k4,.slice a4 n4 q4])):=zq (ob_.rep.move (.weaken fun b h hl=>⟨Nat.le_trans hsz (hBB b (by simp[h])),hl⟩));have fB:Hid (Below w.heap.size w w3):=zq (aj HBV.out hst);have zw3:w.heap.size≤w3.heap.size:=fB.out.size;clear oa_ ob_ hBB hst m0 m1 HM HBV hsz hVS
 go_wp2_with fail
 obtain⟨w4,hXq,hb,fA,zw4a,zw4b⟩:=aU w3 (.cells #[.int .i64 k3,.slice a3 n3 q3] 25);rw[hXq];replace hA:=zq (hA.out.below hb);replace hB:=zq (hB.out.below hb);replace fB:=zq (aj fB.out hb);clear hb hXq;obtain⟨w5,hXq,hb,fD,zw5a,zw5b⟩:=aU w4 (.cells #[.int .i64 k4,.slice a4 n4 q4] 25);rw[hXq];replace hA:=zq (hA.out.below hb);replace hB:=zq (hB.out.below hb);replace fB:=zq (aj fB.out hb);replace fA:=af fA hb;clear hb hXq;refine(dL _ _ 5 ma.ty mb.ty _ _ _ _ _ _ _ _ _ hA.out hB.out (by have:=cg (hI HVM.out).1;omega) (by have:=cg (hI HVM.out).2;omega)).mono ?_;rintro e w6 ⟨k6,a6,n6,q6,b6,t6,rfl,-,ht6,h6,hb⟩;have hval:(Ty.mk 5 [ma.ty,mb.ty]).valid=true:=(S.valid (S.pr ma mb)).trans HVM.out;obtain rfl:=h6 _ (if_pos hval);have hT6:Hid (ao (fun x=>w.heap.size≤x) w6 (.mk 5 [ma.ty,mb.ty]) (.agg #[.int .i64 k6,.slice a6 n6 q6])):=zq (ht6.move (.weaken fun b h _=>by have h1:=h.elim False.elim id;omega));have z6:=hb.size;clear ht6 h6;replace hA:=zq (hA.out.below hb);replace hB:=zq (hB.out.below hb);replace fB:=zq (aj fB.out hb);replace fA:=af fA hb;replace fD:=af fD hb;clear hb
 go_wp2_with fail
 obtain⟨w7,hXq,hb,fG,zw7a,zw7b⟩:=aU w6 (.cells #[.int .i64 k6,.slice a6 n6 q6] 25);rw[hXq];replace hA:=zq (hA.out.below hb);replace hB:=zq (hB.out.below hb);replace fB:=zq (aj fB.out hb);replace fA:=af fA hb;replace fD:=af fD hb;replace hT6:=zq (hT6.out.below hb);clear hb hXq;obtain⟨w8,hXq,hb,fK,zw8a,zw8b⟩:=aU w7 (.cells #[.int .i64 k6,.slice a6 n6 q6] 25);rw[hXq];replace hA:=zq (hA.out.below hb);replace hB:=zq (hB.out.below hb);replace fB:=zq (aj fB.out hb);replace fA:=af fA hb;replace fD:=af fD hb;replace hT6:=zq (hT6.out.below hb);replace fG:=af fG hb;clear hb hXq;refine bodyPost_ret (v:=.slice (some ⟨w7.heap.size,0,none⟩) 1 1) (by simp[results,Tryz.results115,go_sem]) rfl ?_;have hc1:=cg HVM.out;refine⟨[.mk 5 [ma.ty,mb.ty]],_,_,rfl,rfl,?_,aA.one_mk (.inr (by omega)) (by omega) (by unfold maxLen;omega) (ag fK rfl) (ag fK rfl) (hT6.out.move (.weaken fun b h _=>.inr h)),fB.out⟩;intro u hu;simp only[List.mem_cons,List.not_mem_nil,or_false] at hu;rw[hu];exact hc1
theorem oM (F1 F2:Nat→Prop)(s:S)(h0:S)(hv0:h0.vd=true)(hm:(h0.mat 5).2.2=true)(nm:ByteArray)(u tk fk lb uk:Int)(ta fa ca xa ua:Option Addr)(tn tq fn fq cm cq xn xq un uq:Nat)(w:World)(hk:aA F1 w [h0.ty] (.slice xa 1 xq))(ht:ao F2 w s.ty (.agg #[.int .i64 uk,.slice ua un uq]))(hs:s.vd=true) :
  Calls Tryz.prog 115 #[.agg #[.int .i64 12,.string nm,.int .i64 u,.int .i64 tk,.slice ta tn tq,.int .i64 fk,.slice fa fn fq,.int .i64 lb,.slice ca cm cq],.slice xa 1 xq,.agg #[.int .i64 uk,.slice ua un uq]] w (dk 1 (fun b=>F1 b∨F2 b) w):=by
 obtain⟨b2,off2,k0,c0,m0_,q0,rfl,hlb,e0,e1,ht0⟩:=hk.at (Below.refl _ _) (i:=0) (by simp);simp only[List.getElem_cons_zero,Nat.zero_mul,Nat.add_zero] at e0 e1 ht0;have HVM:=zq (pr_mat hv0 hm);have H0:=zq ht0;have HCN:=zq (ee hv0);have HM:=zq (fun W (h:Below w.heap.size w W)=>dM _ h0 5 (.inr rfl) HCN.out _ W (H0.out.below h));rw[hm] at HM;have HBV:=zq (show Below w.heap.size w ((w.alloc (.cells #[.int .i64 12,.string nm,.int .i64 u,.int .i64 tk,.slice ta tn tq,.int .i64 fk,.slice fa fn fq,.int .i64 lb,.slice ca cm cq] 28)).alloc (.cells #[.int .i64 uk,.slice ua un uq] 25)) from aj ai ai);have m0:=ah (ai (o:=.cells #[.int .i64 12,.string nm,.int .i64 u,.int .i64 tk,.slice ta tn tq,.int .i64 fk,.slice fa fn fq,.int .i64 lb,.slice ca cm cq] 28)) e0;have m1:=ah (ai (o:=.cells #[.int .i64 12,.string nm,.int .i64 u,.int .i64 tk,.slice ta tn tq,.int .i64 fk,.slice fa fn fq,.int .i64 lb,.slice ca cm cq] 28)) e1;have lb1:b2<w.heap.size+1:=by omega
 have lb2:b2<w.heap.size+1+1:=by omega
 generalize hma:(h0.mat 5).1=ma at HM HVM;generalize hmb:(h0.mat 5).2.1=mb at HM HVM;clear hm hv0 ht0 hk ht hs hma hmb
 go_enter Tryz.func115,Tryz.ntmps115
 go_wp2_with fail
 refine(HM.out _ HBV.out).mono ?_;rintro e w3 ⟨ya,yb,rfl,hab,hst⟩;obtain⟨k3,a3,n3,q3,k4,a4,n4,q4,rfl,rfl⟩:=hab.shape;obtain⟨fa_,fb_,oa_,ob_,-,hBB⟩:=hab;have hsz:w.heap.size≤((w.alloc (.cells #[.int .i64 12,.string nm,.int .i64 u,.int .i64 tk,.slice ta tn tq,.int .i64 fk,.slice fa fn fq,.int .i64 lb,.slice ca cm cq] 28)).alloc (.cells #[.int .i64 uk,.slice ua un uq] 25)).heap.size:=by simp;omega
 obtain⟨VS,hVS⟩ : ∃x,((w.alloc (.cells #[.int .i64 12,.string nm,.int .i64 u,.int .i64 tk,.slice ta tn tq,.int .i64 fk,.slice fa fn fq,.int .i64 lb,.slice ca cm cq] 28)).alloc (.cells #[.int .i64 uk,.slice ua un uq] 25)).heap.size=x:=⟨_,rfl⟩
 skip
 have hA:Hid (ao (fun x=>w.heap.size≤x∧x<w3.heap.size) w3 ma.ty (.agg #[.int .i64 k3,.slice a3 n3 q3])):=zq (oa_.rep.move (.weaken fun b h hl=>⟨Nat.le_trans hsz (hBB b (by simp[h])),hl⟩));have hB:Hid (ao (fun x=>w.heap.size≤x∧x<w3.heap.size) w3 mb.ty (.agg #[.int .i64 k4,.slice a4 n4 q4])):=zq (ob_.rep.move (.weaken fun b h hl=>⟨Nat.le_trans hsz (hBB b (by simp[h])),hl⟩));have fB:Hid (Below w.heap.size w w3):=zq (aj HBV.out hst);have zw3:w.heap.size≤w3.heap.size:=fB.out.size;clear oa_ ob_ hBB hst m0 m1 HM HBV hsz hVS
 go_wp2_with fail
 obtain⟨w4,hXq,hb,fA,zw4a,zw4b⟩:=aU w3 (.cells #[.int .i64 k3,.slice a3 n3 q3] 25);rw[hXq];replace hA:=zq (hA.out.below hb);replace hB:=zq (hB.out.below hb);replace fB:=zq (aj fB.out hb);clear hb hXq;obtain⟨w5,hXq,hb,fD,zw5a,zw5b⟩:=aU w4 (.cells #[.int .i64 k4,.slice a4 n4 q4] 25);rw[hXq];replace hA:=zq (hA.out.below hb);replace hB:=zq (hB.out.below hb);replace fB:=zq (aj fB.out hb);replace fA:=af fA hb;clear hb hXq;refine(dL _ _ 5 ma.ty mb.ty _ _ _ _ _ _ _ _ _ hA.out hB.out (by have:=cg (hI HVM.out).1;omega) (by have:=cg (hI HVM.out).2;omega)).mono ?_;rintro e w6 ⟨k6,a6,n6,q6,b6,t6,rfl,-,ht6,h6,hb⟩;have hval:(Ty.mk 5 [ma.ty,mb.ty]).valid=true:=(S.valid (S.pr ma mb)).trans HVM.out;obtain rfl:=h6 _ (if_pos hval);have hT6:Hid (ao (fun x=>w.heap.size≤x) w6 (.mk 5 [ma.ty,mb.ty]) (.agg #[.int .i64 k6,.slice a6 n6 q6])):=zq (ht6.move (.weaken fun b h _=>by have h1:=h.elim False.elim id;omega));have z6:=hb.size;clear ht6 h6;replace hA:=zq (hA.out.below hb);replace hB:=zq (hB.out.below hb);replace fB:=zq (aj fB.out hb);replace fA:=af fA hb;replace fD:=af fD hb;clear hb
 go_wp2_with fail
 obtain⟨w7,hXq,hb,fG,zw7a,zw7b⟩:=aU w6 (.cells #[.int .i64 k6,.slice a6 n6 q6] 25);rw[hXq];replace hA:=zq (hA.out.below hb);replace hB:=zq (hB.out.below hb);replace fB:=zq (aj fB.out hb);replace fA:=af fA hb;replace fD:=af fD hb;replace hT6:=zq (hT6.out.below hb);clear hb hXq;obtain⟨w8,hXq,hb,fK,zw8a,zw8b⟩:=aU w7 (.cells #[.int .i64 k6,.slice a6 n6 q6] 25);rw[hXq];replace hA:=zq (hA.out.below hb);replace hB:=zq (hB.out.below hb);replace fB:=zq (aj fB.out hb);replace fA:=af fA hb;replace fD:=af fD hb;replace hT6:=zq (hT6.out.below hb);replace fG:=af fG hb;clear hb hXq;refine bodyPost_ret (v:=.slice (some ⟨w7.heap.size,0,none⟩) 1 1) (by simp[results,Tryz.results115,go_sem]) rfl ?_;have hc1:=cg HVM.out;refine⟨[.mk 5 [ma.ty,mb.ty]],_,_,rfl,rfl,?_,aA.one_mk (.inr (by omega)) (by omega) (by unfold maxLen;omega) (ag fK rfl) (ag fK rfl) (hT6.out.move (.weaken fun b h _=>.inr h)),fB.out⟩;intro u hu;simp only[List.mem_cons,List.not_mem_nil,or_false] at hu;rw[hu];exact hc1
theorem sY (F1 F2:Nat→Prop)(s:S)(h0 h1:S)(nm:ByteArray)(u tk fk lb uk:Int)(ta fa ca xa ua:Option Addr)(tn tq fn fq cm cq xn xq un uq:Nat)(w:World)(hk:aA F1 w [h0.ty,h1.ty] (.slice xa 2 xq))(ht:ao F2 w s.ty (.agg #[.int .i64 uk,.slice ua un uq]))(hs:s.vd=true) :
  Calls Tryz.prog 115 #[.agg #[.int .i64 7,.string nm,.int .i64 u,.int .i64 tk,.slice ta tn tq,.int .i64 fk,.slice fa fn fq,.int .i64 lb,.slice ca cm cq],.slice xa 2 xq,.agg #[.int .i64 uk,.slice ua un uq]] w (dk 2 (fun b=>F1 b∨F2 b) w):=by
 clear hk ht hs
 go_enter Tryz.func115,Tryz.ntmps115
 go_wp2_with fail
 refine(bv _).mono ?_;rintro e w1 ⟨rfl,hb⟩;have hB:=zq (aj (aT (w:=w)) hb);clear hb
 go_wp2_with fail
 refine(bv _).mono ?_;rintro e w2 ⟨rfl,hb⟩;have hB2:=zq (aj hB.out hb);clear hb hB
 go_wp2_with fail
 have z2:=hB2.out.size;obtain⟨w3,hXq,hb,fK,zw3a,zw3b⟩:=aU w2 (.cells #[.int .i64 2,.slice none 0 0,.int .i64 2,.slice none 0 0] 25);rw[hXq];replace hB2:=zq (aj hB2.out hb);clear hb hXq;refine bodyPost_ret (v:=.slice (some ⟨w2.heap.size,0,none⟩) 2 2) (by simp[results,Tryz.results115,go_sem]) rfl ?_;refine⟨[.mk 2 [],.mk 2 []],_,_,rfl,rfl,?_,aA.two_mk (.inr (by omega)) (by omega) (by unfold maxLen;omega) (ag fK rfl) (ag fK rfl) (ag fK rfl) (ag fK rfl) (ao.leafG 2) (ao.leafG 2),hB2.out⟩;intro u hu;simp only[List.mem_cons,List.not_mem_nil,or_false] at hu
 rcases hu with rfl | rfl<;>decide
theorem sZ (F1 F2:Nat→Prop)(s:S)(h0 h1:S)(nm:ByteArray)(u tk fk lb uk:Int)(ta fa ca xa ua:Option Addr)(tn tq fn fq cm cq xn xq un uq:Nat)(w:World)(hk:aA F1 w [h0.ty,h1.ty] (.slice xa 2 xq))(ht:ao F2 w s.ty (.agg #[.int .i64 uk,.slice ua un uq]))(hs:s.vd=true) :
  Calls Tryz.prog 115 #[.agg #[.int .i64 8,.string nm,.int .i64 u,.int .i64 tk,.slice ta tn tq,.int .i64 fk,.slice fa fn fq,.int .i64 lb,.slice ca cm cq],.slice xa 2 xq,.agg #[.int .i64 uk,.slice ua un uq]] w (dk 2 (fun b=>F1 b∨F2 b) w):=by
 clear hk ht hs
 go_enter Tryz.func115,Tryz.ntmps115
 go_wp2_with fail
 refine(bv _).mono ?_;rintro e w1 ⟨rfl,hb⟩;have hB:=zq (aj (aT (w:=w)) hb);clear hb
 go_wp2_with fail
 refine(bv _).mono ?_;rintro e w2 ⟨rfl,hb⟩;have hB2:=zq (aj hB.out hb);clear hb hB
 go_wp2_with fail
 have z2:=hB2.out.size;obtain⟨w3,hXq,hb,fK,zw3a,zw3b⟩:=aU w2 (.cells #[.int .i64 2,.slice none 0 0,.int .i64 2,.slice none 0 0] 25);rw[hXq];replace hB2:=zq (aj hB2.out hb);clear hb hXq;refine bodyPost_ret (v:=.slice (some ⟨w2.heap.size,0,none⟩) 2 2) (by simp[results,Tryz.results115,go_sem]) rfl ?_;refine⟨[.mk 2 [],.mk 2 []],_,_,rfl,rfl,?_,aA.two_mk (.inr (by omega)) (by omega) (by unfold maxLen;omega) (ag fK rfl) (ag fK rfl) (ag fK rfl) (ag fK rfl) (ao.leafG 2) (ao.leafG 2),hB2.out⟩;intro u hu;simp only[List.mem_cons,List.not_mem_nil,or_false] at hu
 rcases hu with rfl | rfl<;>decide
def sE:Oper:=⟨some 46,.call {callee:=.value (.func 85),args:=#[],argTypes:=#[]},25,"l4_casts.go:75",#[],none⟩
def sF:Oper:=⟨some 47,.load 25 (.tmp 5),25,"l4_casts.go:75",#[],none⟩
def sG:Oper:=⟨some 48,.load 25 (.tmp 5),25,"l4_casts.go:75",#[],none⟩
def sH:Oper:=⟨some 49,.buildSlice 23 3 #[(0,.tmp 46),(1,.tmp 47),(2,.tmp 48)],23,"l4_casts.go:75",#[⟨0,.data⟩,⟨1,.data⟩,⟨2,.data⟩],none⟩
def sI:Oper:=⟨some 6,.assign (.tmp 49),23,"l4_casts.go:75",#[⟨3,.data⟩,⟨0,.chain⟩,⟨0,.phase⟩,⟨1,.phase⟩,⟨2,.phase⟩,⟨3,.phase⟩],none⟩
theorem t8 (F1 F2:Nat→Prop)(s:S)(h0 h1 h2:S)(nm:ByteArray)(u tk fk lb uk:Int)(ta fa ca xa ua:Option Addr)(tn tq fn fq cm cq xn xq un uq:Nat)(w:World)(hk:aA F1 w [h0.ty,h1.ty,h2.ty] (.slice xa 3 xq))(ht:ao F2 w s.ty (.agg #[.int .i64 uk,.slice ua un uq]))(hs:s.vd=true) :
  Calls Tryz.prog 115 #[.agg #[.int .i64 9,.string nm,.int .i64 u,.int .i64 tk,.slice ta tn tq,.int .i64 fk,.slice fa fn fq,.int .i64 lb,.slice ca cm cq],.slice xa 3 xq,.agg #[.int .i64 uk,.slice ua un uq]] w (dk 3 (fun b=>F1 b∨F2 b) w):=by
 have HT0:=zq (ht.move (.weaken (G:=(fun x=>F2 x∧x<w.heap.size)) fun b h hl=>⟨h,hl⟩));have HCV:=zq (cg hs);clear hk ht hs
 go_enter Tryz.func115,Tryz.ntmps115
 go_wp2_with fail
 obtain⟨VV,hVV⟩ : ∃X,X=((w.alloc (.cells #[.int .i64 9,.string nm,.int .i64 u,.int .i64 tk,.slice ta tn tq,.int .i64 fk,.slice fa fn fq,.int .i64 lb,.slice ca cm cq] 28)).alloc (.cells #[.int .i64 uk,.slice ua un uq] 25)):=⟨_,rfl⟩
 have fT:VV.heap[w.heap.size+1]?=some (.cells #[.int .i64 uk,.slice ua un uq] 25 (0,0)):=by rw[hVV];exact aB (by simp)
 have fB:Hid (Below w.heap.size w VV):=by rw[hVV];exact zq aT
 have hT:Hid (ao (fun x=>F2 x∧x<w.heap.size) VV s.ty (.agg #[.int .i64 uk,.slice ua un uq])):=by rw[hVV];exact zq (HT0.out.below aT)
 clear HT0;rw[←hVV];have zV:VV.heap.size=_:=congrArg (fun X:World=>X.heap.size) hVV;simp only[World.size_alloc] at zV;refine wp_region_noPanic ?_;refine wp_region_held_drew (S:=fun w'=>w'.cell? ⟨w.heap.size+1,0,none⟩=some (.int .i64 uk)∧w'.cell? ⟨w.heap.size+1,1,none⟩=some (.slice ua un uq)) (by kernel_rfl) ?_ (fun hH0=>?_)
 ·exact⟨ag fT rfl,ag fT rfl⟩
 obtain⟨U2,hU,hb,zU2a,zU2b⟩:=bD VV;rw[hU] at hH0 ⊢;replace fT:=af fT hb;replace fB:=zq (aj fB.out hb);replace hT:=zq (hT.out.below hb);rw[zV] at zU2a zU2b;clear hU hb hVV zV;refine hwt 1 sF (.agg #[.int .i64 uk,.slice ua un uq]) hH0 ?_ ?_
 ·intro w' hSw;dsimp only[sF];go_simp
 try simp only[sF,hwA]
 refine hwt 2 sG (.agg #[.int .i64 uk,.slice ua un uq]) hH0 ?_ ?_
 ·intro w' hSw;dsimp only[sG];go_simp
 try simp only[sG,hwA]
 refine hwr 0 sE (fun K hK=>?_)
 dsimp only[sE];go_simp
 go_at_call 85
 refine(dh _).mono ?_;rintro e X1 ⟨rfl,hb⟩
 go_wp2_with fail
 have zX1:U2.heap.size≤X1.heap.size:=hb.size;replace fT:=af fT hb;replace fB:=zq (aj fB.out hb);replace hT:=zq (hT.out.below hb);refine hK.out _ _ ⟨ag fT rfl,ag fT rfl⟩ (fun hH1=>?_);clear hK K hH0 hb
 try simp only[sE,hwA]
 refine hwr 3 sH (fun K hK=>?_)
 dsimp only[sH];go_simp
 (try go_wp2_with fail);obtain⟨X2,hXq,hb,fK,zX2a,zX2b⟩:=aU X1 (.cells #[.int .i64 3,.slice none 0 0,.int .i64 uk,.slice ua un uq,.int .i64 uk,.slice ua un uq] 25);rw[hXq];replace fT:=af fT hb;replace fB:=zq (aj fB.out hb);replace hT:=zq (hT.out.below hb);refine hK.out _ _ ⟨ag fT rfl,ag fT rfl⟩ (fun hH2=>?_);clear hK K hH1 hb hXq
 try simp only[sH,hwA]
 refine hwt 4 sI (.slice (some ⟨X1.heap.size,0,none⟩) 3 3) hH2 ?_ ?_
 ·intro w' hSw;dsimp only[sI];go_simp
 try simp only[sI,hwA]
 refine wpAnyH_done (by kernel_rfl) ?_ _;refine NoPanic.normal ?_;clear hH2
 go_wp2_with fail
 refine bodyPost_ret (v:=.slice (some ⟨X1.heap.size,0,none⟩) 3 3) (by simp[results,Tryz.results115,go_sem]) rfl ?_;have hM:ao (fun b=>(F1 b∨F2 b)∨w.heap.size≤b) X2 s.ty (.agg #[.int .i64 uk,.slice ua un uq]):=hT.out.move (.weaken fun b h _=>.inl (.inr h.1));refine⟨[.mk 3 [],s.ty,s.ty],_,_,rfl,rfl,?_,aA.three_mk (.inr (by omega)) (by omega) (by unfold maxLen;omega) (ag fK rfl) (ag fK rfl) (ag fK rfl) (ag fK rfl) (ag fK rfl) (ag fK rfl) (ao.leafG 3) hM hM,fB.out⟩;have hc:=HCV.out;intro u hu;simp only[List.mem_cons,List.not_mem_nil,or_false] at hu
 rcases hu with rfl | rfl | rfl
 ·decide
 ·exact hc
 ·exact hc
theorem oN (F1 F2:Nat→Prop)(s:S)(h0:S)(nm:ByteArray)(u tk fk lb uk:Int)(ta fa ca xa ua:Option Addr)(tn tq fn fq cm cq xn xq un uq:Nat)(w:World)(hk:aA F1 w [h0.ty] (.slice xa 1 xq))(ht:ao F2 w s.ty (.agg #[.int .i64 uk,.slice ua un uq]))(hs:s.vd=true) :
  Calls Tryz.prog 115 #[.agg #[.int .i64 13,.string nm,.int .i64 u,.int .i64 tk,.slice ta tn tq,.int .i64 fk,.slice fa fn fq,.int .i64 lb,.slice ca cm cq],.slice xa 1 xq,.agg #[.int .i64 uk,.slice ua un uq]] w (dk 1 (fun b=>F1 b∨F2 b) w):=by
 have HT:=zq (ht.move (.weaken (G:=fun b=>(F1 b∨F2 b)∨w.heap.size≤b) fun b h _=>.inl (.inr h)));have HCV:=zq (cg hs);clear hk ht hs
 go_enter Tryz.func115,Tryz.ntmps115
 go_wp2_with fail
 have fK:=aB (w:=((w.alloc (.cells #[.int .i64 13,.string nm,.int .i64 u,.int .i64 tk,.slice ta tn tq,.int .i64 fk,.slice fa fn fq,.int .i64 lb,.slice ca cm cq] 28)).alloc (.cells #[.int .i64 uk,.slice ua un uq] 25))) (o:=.cells #[.int .i64 uk,.slice ua un uq] 25) rfl;refine bodyPost_ret (v:=.slice (some ⟨w.heap.size+1+1,0,none⟩) 1 1) (by simp[results,Tryz.results115,go_sem]) rfl ?_;have hlo:w.heap.size≤w.heap.size+1+1:=by omega
 simp only[World.size_alloc] at fK;refine⟨[s.ty],_,_,rfl,rfl,?_,aA.one_mk (.inr hlo) (by omega) (by unfold maxLen;omega) (ag fK rfl) (ag fK rfl) (HT.out.below cB),cB⟩;intro u hu;simp only[List.mem_cons,List.not_mem_nil,or_false] at hu;rw[hu];exact HCV.out
theorem tb (F1 F2:Nat→Prop)(s:S)(xn_:Nat)(k:Int)(h6:(k==6)=false)(h7:(k==7)=false)(h8:(k==8)=false)(h9:(k==9)=false)(h11:(k==11)=false)(h12:(k==12)=false)(h13:(k==13)=false)(hs0:List S)(hvs : ∀h∈hs0,h.vd=true)(hl0:hs0.length=xn_)(nm:ByteArray)(u tk fk lb uk:Int)(ta fa ca xa ua:Option Addr)(tn tq fn fq cm cq xn xq un uq:Nat)(w:World)(hk:aA F1 w (hs0.map S.ty) (.slice xa xn_ xq))(ht:ao F2 w s.ty (.agg #[.int .i64 uk,.slice ua un uq]))(hs:s.vd=true) :
  Calls Tryz.prog 115 #[.agg #[.int .i64 k,.string nm,.int .i64 u,.int .i64 tk,.slice ta tn tq,.int .i64 fk,.slice fa fn fq,.int .i64 lb,.slice ca cm cq],.slice xa xn_ xq,.agg #[.int .i64 uk,.slice ua un uq]] w (dk xn_ (fun b=>F1 b∨F2 b) w):=by
 have HK:=zq hk;have HL:=zq (And.intro hvs hl0);clear hk ht hs hvs hl0
 go_enter Tryz.func115,Tryz.ntmps115
 go_wp2_with fail
 refine bodyPost_ret (v:=.slice xa xn_ xq) (by simp[results,Tryz.results115,go_sem]) rfl ?_;refine⟨hs0.map S.ty,_,_,rfl,by simp[HL.out.2],?_,(HK.out.below aT).move (.weaken fun b h _=>.inl (.inl h)),aT⟩;intro u hu;obtain⟨h,hh,rfl⟩:=List.mem_map.1 hu
 exact cg (HL.out.1 h hh)
theorem nZ {k u l:Int}{s:ByteArray}{t f:Ty}{ts:List Tm}(h:(Tm.mk k s u t f l ts).ownB=true)(hk : ¬k=14):f.noneB=true∧l=0∧(((k==5||k==13)=true→t.valid=true)∧((k==5||k==13)=false→t.noneB=true)):=by
 have h1:Go.Proofs.YtfahhonmiimmdaaGreat.ownB k u l s t.valid t.noneB f.noneB (f.valid&&t.valid&&f.cons t)=true:=h;unfold Go.Proofs.YtfahhonmiimmdaaGreat.ownB at h1;have hk14:(k==14)=false:=by rw[beq_eq_false_iff_ne];exact hk
 rw[hk14] at h1;simp only[Bool.or_false,Bool.and_eq_true,if_neg (show ¬(false=true) by simp),beq_iff_eq] at h1;refine⟨h1.2.1,h1.2.2,fun e=>?_,fun e=>?_⟩
 ·have:=h1.1.2;rw[if_pos e] at this;exact this
 ·have:=h1.1.2;rw[if_neg (by rw[e];simp)] at this;exact this
theorem uZ {s:ByteArray}(h:s.toList = []):s.size≤1:=by
 have h1:s.data.toList = []:=by simpa [ByteArray.toList_eq] using h
 have e:s.data.toList.length=s.size:=by simp
 rw[h1] at e
 simp at e;omega
theorem sJ {k u l:Int}{s:ByteArray}{t f:Ty}{ts:List Tm}(h:(Tm.mk k s u t f l ts).ownB=true):s.size≤1:=by
 have h1:Go.Proofs.YtfahhonmiimmdaaGreat.ownB k u l s t.valid t.noneB f.noneB (f.valid&&t.valid&&f.cons t)=true:=h;unfold Go.Proofs.YtfahhonmiimmdaaGreat.ownB at h1;simp only[Bool.and_eq_true] at h1;have h2:=h1.1.1.1
 split at h2
 ·unfold aJ at h2
  by_cases hz:s.size=1
  ·omega
  ·simp[hz] at h2
 ·have h3:s.toList = []:=by simpa using h2
  exact uZ h3
theorem gU {t:Ty}(h:t.noneB=true):t.cnt=0:=by
 cases t with | mk k ts=>
 unfold Ty.noneB Go.Proofs.YtfahhonmiimmdaaGreat.noneB at h;simp only[Ty.kind,Ty.kids,Bool.and_eq_true,beq_iff_eq] at h;have e:ts = []:=List.length_eq_zero_iff.1 (by simpa using h.2);subst e
 simp[Ty.cnt,Ty.cnts]
theorem oe {t:Ty}(h:t.valid=true):t.cnt≤14:=by
 have:=Ty.cnt_shape t 4 h
 omega
mutual
theorem Tm.cnt_shape14 : ∀(t:Tm) (d:Int),t.shape 14 d=true→t.cnt+1≤17*t.size
 | .mk k s u t f l ts,d,h=>by
  obtain⟨-,hk,-,ho,hs⟩:=Tm.shape_parts h;obtain⟨n1,-,p1,c1⟩:=nZ ho hk;have h1:=sJ ho;have h2:=gU n1;have h3:t.cnt≤14:=by
   cases hb:(k==5||k==13) with
   | true=>exact oe (p1 hb)
   | false=>rw[gU (c1 hb)];omega
  have h4:=Tm.cnts_shape14 ts (d-1) hs;simp only[Tm.cnt,Tm.size]
  omega
theorem Tm.cnts_shape14 : ∀(ts:List Tm) (d:Int),Tm.shapes ts 14 d=true→Tm.cnts ts+ts.length≤17*Tm.sizes ts
 | [],_,_=>by simp[Tm.cnts,Tm.sizes]
 | t :: ts,d,h=>by
  unfold Tm.shapes at h;simp only[Bool.and_eq_true] at h;have h1:=Tm.cnt_shape14 t d h.1;have h2:=Tm.cnts_shape14 ts d h.2;simp only[Tm.cnts,Tm.sizes,List.length_cons]
  omega
end
theorem Tm.cnt_valid30 {t:Tm}(h:t.valid=true):t.cnt≤510:=by
 unfold Tm.valid at h;rw[Bool.and_eq_true] at h;have h1:=Tm.cnt_shape14 t 12 h.1;have h2:=of_decide_eq_true h.2
 omega
end Go.Proofs.YtfahhonmiimmdaaGreat

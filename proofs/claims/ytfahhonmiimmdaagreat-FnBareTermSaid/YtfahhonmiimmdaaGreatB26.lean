/- spec.TypeOf. And what else its parts name. -/
import Derived.Test.YtfahhonmiimmdaaGreatB21
import Derived.Sort.OwnSortedInts
set_option linter.unusedSimpArgs false
set_option linter.unusedVariables false
set_option maxRecDepth 100000
set_option maxHeartbeats 16000000
namespace Go.Proofs.YtfahhonmiimmdaaGreat
open Go.RowKit
def ek (t:Tm):Option Ty:=if t.valid then (t.typS []).map S.ty else none
def RetSF (o:Option Ty)(w:World)(e:Ending)(w':World):Prop:=∃(k:Int) (a:Option Addr) (n q:Nat),e = .returned (.tuple #[.agg #[.int .i64 k,.slice a n q],.bool o.isSome])∧ap (fun x=>w.heap.size≤x) w' (o.getD (.mk 0 [])) (.agg #[.int .i64 k,.slice a n q])∧Below w.heap.size w w'
theorem tJ (k:Int)(a:Option Addr)(n q:Nat)(w:World):Calls Tryz.prog 111 #[.agg #[.int .i64 k,.slice a n q],.bool false] w fun e w'=>e = .returned (.tuple #[.agg #[.int .i64 0,.slice none 0 0],.bool false])∧Below w.heap.size w w':=by
 go_enter Tryz.func111,Tryz.ntmps111
 go_wp2_with fail
 refine bodyPost_ret (v:=.tuple #[.agg #[.int .i64 0,.slice none 0 0],.bool false]) (by simp[results,Tryz.results111,go_sem]) rfl ?_
 exact⟨rfl,al aj aj⟩
theorem tK (k:Int)(a:Option Addr)(n q:Nat)(w:World):Calls Tryz.prog 111 #[.agg #[.int .i64 k,.slice a n q],.bool true] w fun e w'=>e = .returned (.tuple #[.agg #[.int .i64 k,.slice a n q],.bool true])∧Below w.heap.size w w':=by
 go_enter Tryz.func111,Tryz.ntmps111
 go_wp2_with fail
 refine bodyPost_ret (v:=.tuple #[.agg #[.int .i64 k,.slice a n q],.bool true]) (by simp[results,Tryz.results111,go_sem]) rfl ?_
 exact⟨rfl,al aj aj⟩
theorem th (F:Nat→Prop)(t:Tm)(y:Value)(w:World)(hy:aA F w t y):Calls Tryz.prog 89 #[.slice none 0 0,y] w (RetSF (ek t) w):=by
 have HV:=zq (fun W (h:Below w.heap.size w W)=>ew F t y W (hy.below h));have H4:=zq (fun(hv:t.valid=true) W (h:Below w.heap.size w W)=>gx t 12 [] (.slice none 0 0) y W (fun _=>True) F (by unfold Tm.valid at hv;simp at hv;exact hv.1) (by simp) (fun b hb=>by cases hb) (.inl ⟨rfl,rfl⟩) (by unfold aL aM;exact⟨none,0,rfl,Nat.le_refl _,by unfold maxLen;omega,.inl rfl⟩) (hy.below h));obtain⟨k,nm,u,tk,ta,tn,tq,fk,fa,fn,fq,lb,ca,cm,cq,rfl⟩:=hy.shape;have fE:=ag (aF (w:=w) (o:=.cells #[.int .i64 k,.string nm,.int .i64 u,.int .i64 tk,.slice ta tn tq,.int .i64 fk,.slice fa fn fq,.int .i64 lb,.slice ca cm cq] 28) rfl) (aj (o:=.cells #[.int .i64 0,.slice none 0 0] 25));have fR:=aF (w:=w.alloc (.cells #[.int .i64 k,.string nm,.int .i64 u,.int .i64 tk,.slice ta tn tq,.int .i64 fk,.slice fa fn fq,.int .i64 lb,.slice ca cm cq] 28)) (o:=.cells #[.int .i64 0,.slice none 0 0] 25) (b:=w.heap.size+1) (by simp);have HO:=zq (show ek t=if t.valid then (t.typS []).map S.ty else none from rfl);generalize ek t=O at HO ⊢;generalize (t.typS []).map S.ty=O1 at HO H4;generalize hcv:t.valid=cv at HO HV H4;clear hcv hy
 cases cv with
 | false=>
  have HOO:=zq (show O=none from by rw[HO.out];rfl);clear HO
  go_enter Tryz.func89,Tryz.ntmps89
  have HCX:=zq (fun W=>iS (fun _=>True) [] (.slice none 0 0) W (by unfold aL aM;exact⟨none,0,rfl,Nat.le_refl _,by unfold maxLen;omega,.inl rfl⟩))
  go_wp2_with fail
  refine(HCX.out _).mono ?_;rintro e w0 ⟨rfl,hb0⟩;rw[show ctxB []=true from by decide];have fE0:=ag fE hb0;obtain⟨d0,d1,d2,d3,d4,d5,d6,d7,d8⟩:=blk9 fE0;have ld:=aD fE0;have hz0:=hb0.size;simp only[World.size_alloc] at hz0
  go_wp2_with fail
  refine(HV.out _ (al (al aj aj) hb0)).mono ?_;rintro e w1 ⟨rfl,hb1'⟩;have hb1:=al hb0 hb1';clear d0 d1 d2 d3 d4 d5 d6 d7 d8 ld fE0 hb1' hb0 HCX;replace fR:=ag fR hb1;have fC:=zq (al (al aj aj) hb1);clear hb1 fE;obtain⟨r0,r1⟩:=blk2 fR;have rf0:=ao fR 0;have rf1:=ao fR 1
  go_wp2_with fail
  have hY:((w1.setCell ⟨w.heap.size+1,0,none⟩ (.int .i64 0)).setCell ⟨w.heap.size+1,1,none⟩ (.slice none 0 0)).heap[w.heap.size+1]?=some (.cells #[.int .i64 0,.slice none 0 0] 25 (0,0)):=aN (aN fR rfl) rfl;obtain⟨rc0,rc1⟩:=blk2 hY;refine bodyPost_ret (v:=.tuple #[.agg #[.int .i64 0,.slice none 0 0],.bool false]) (by simp[results,Tryz.results89,go_sem,rc0,rc1]) rfl ?_;rw[HOO.out]
  exact⟨_,_,_,_,rfl,ap.zeroG,(fC.out.setCell (p:=⟨w.heap.size+1,0,none⟩) (by show w.heap.size≤w.heap.size+1;omega) _).setCell (p:=⟨w.heap.size+1,1,none⟩) (by show w.heap.size≤w.heap.size+1;omega) _⟩
 | true=>
  have HOO:=zq (show O=O1 from by rw[HO.out];rfl);clear HO
  go_enter Tryz.func89,Tryz.ntmps89
  have HCX:=zq (fun W=>iS (fun _=>True) [] (.slice none 0 0) W (by unfold aL aM;exact⟨none,0,rfl,Nat.le_refl _,by unfold maxLen;omega,.inl rfl⟩))
  go_wp2_with fail
  refine(HCX.out _).mono ?_;rintro e w0 ⟨rfl,hb0⟩;rw[show ctxB []=true from by decide];have fE0:=ag fE hb0;obtain⟨d0,d1,d2,d3,d4,d5,d6,d7,d8⟩:=blk9 fE0;have ld:=aD fE0;have hz0:=hb0.size;simp only[World.size_alloc] at hz0
  go_wp2_with fail
  refine(HV.out _ (al (al aj aj) hb0)).mono ?_;rintro e w1 ⟨rfl,hb1'⟩;have hb1:=al hb0 hb1';clear d0 d1 d2 d3 d4 d5 d6 d7 d8 ld fE0 hb1' hb0 HCX;replace fR:=ag fR hb1;replace fE:=ag fE hb1;have fC:=zq (al (al aj aj) hb1);have H5:=zq (H4.out (by simp) w1 fC.out);have hz1:=hb1.size;simp only[World.size_alloc] at hz1;clear hb1 H4;obtain⟨d0,d1,d2,d3,d4,d5,d6,d7,d8⟩:=blk9 fE
  go_wp2_with fail
  refine H5.out.mono ?_;rintro e w2 ⟨k2,a2,n2,q2,b2,t2,rfl,hb2,ht2,ho2,hst⟩;replace fR:=ag fR hst;replace fC:=zq (al fC.out hst);have HT:=zq ht2;have HB:=zq hb2;have HOT:=zq ho2;have hz2:=hst.size;clear ht2 ho2 hst d0 d1 d2 d3 d4 d5 d6 d7 d8;have hne : ∀b,(False∨w1.heap.size≤b)→b≠w.heap.size+1:=fun b h=>by
   have h1:=h.elim False.elim id
   omega
  have HNE:=zq hne;clear hne hb2
  cases b2 with
  | false=>
   have HN:=zq (show O=none from by rw[HOO.out];cases h:O1 with | none=>rfl | some x=>have:=HB.out;rw[h] at this;cases this)
   go_wp2_with fail
   refine(tJ _ _ _ _ _).mono ?_;rintro e w3 ⟨rfl,hb3⟩;replace fR:=ag fR hb3;replace fC:=zq (al fC.out hb3);clear hb3;obtain⟨r0,r1⟩:=blk2 fR;have rf0:=ao fR 0;have rf1:=ao fR 1
   go_wp2_with fail
   have hY:((w3.setCell ⟨w.heap.size+1,0,none⟩ (.int .i64 0)).setCell ⟨w.heap.size+1,1,none⟩ (.slice none 0 0)).heap[w.heap.size+1]?=some (.cells #[.int .i64 0,.slice none 0 0] 25 (0,0)):=aN (aN fR rfl) rfl;obtain⟨rc0,rc1⟩:=blk2 hY;refine bodyPost_ret (v:=.tuple #[.agg #[.int .i64 0,.slice none 0 0],.bool false]) (by simp[results,Tryz.results89,go_sem,rc0,rc1]) rfl ?_;rw[HN.out]
   exact⟨_,_,_,_,rfl,ap.zeroG,(fC.out.setCell (p:=⟨w.heap.size+1,0,none⟩) (by show w.heap.size≤w.heap.size+1;omega) _).setCell (p:=⟨w.heap.size+1,1,none⟩) (by show w.heap.size≤w.heap.size+1;omega) _⟩
  | true=>
   have HN:=zq (show O=some t2 from by rw[HOO.out];cases h:O1 with | none=>have:=HB.out;rw[h] at this;cases this | some x=>rw[HOT.out x h])
   go_wp2_with fail
   refine(tK _ _ _ _ _).mono ?_;rintro e w3 ⟨rfl,hb3⟩;replace fR:=ag fR hb3;replace fC:=zq (al fC.out hb3);replace HT:=zq (HT.out.below hb3);clear hb3;obtain⟨r0,r1⟩:=blk2 fR;have rf0:=ao fR 0;have rf1:=ao fR 1
   go_wp2_with fail
   have hY:((w3.setCell ⟨w.heap.size+1,0,none⟩ (.int .i64 k2)).setCell ⟨w.heap.size+1,1,none⟩ (.slice a2 n2 q2)).heap[w.heap.size+1]?=some (.cells #[.int .i64 k2,.slice a2 n2 q2] 25 (0,0)):=aN (aN fR rfl) rfl;obtain⟨rc0,rc1⟩:=blk2 hY;refine bodyPost_ret (v:=.tuple #[.agg #[.int .i64 k2,.slice a2 n2 q2],.bool true]) (by simp[results,Tryz.results89,go_sem,rc0,rc1]) rfl ?_;rw[HN.out]
   exact⟨_,_,_,_,rfl,(ap.setN (ap.setN HT.out HNE.out) HNE.out).move (.weaken fun b h _=>by have h1:=h.elim False.elim id;omega),(fC.out.setCell (p:=⟨w.heap.size+1,0,none⟩) (by show w.heap.size≤w.heap.size+1;omega) _).setCell (p:=⟨w.heap.size+1,1,none⟩) (by show w.heap.size≤w.heap.size+1;omega) _⟩
theorem lm (F:Nat→Prop)(t:Tm)(y:Value)(w:World)(hy:aA F w t y):Calls Tryz.prog 53 #[y] w (RetSF (ek t) w):=by
 have HV:=zq (fun W (h:Below w.heap.size w W)=>th F t y W (hy.below h));obtain⟨k,nm,u,tk,ta,tn,tq,fk,fa,fn,fq,lb,ca,cm,cq,rfl⟩:=hy.shape;have fR:=aF (w:=w.alloc (.cells #[.int .i64 k,.string nm,.int .i64 u,.int .i64 tk,.slice ta tn tq,.int .i64 fk,.slice fa fn fq,.int .i64 lb,.slice ca cm cq] 28)) (o:=.cells #[.int .i64 0,.slice none 0 0] 25) (b:=w.heap.size+1) (by simp);generalize ek t=O at HV ⊢;clear hy
 go_enter Tryz.func53,Tryz.ntmps53
 go_wp2_with fail
 refine(HV.out _ (al aj aj)).mono ?_;rintro e w1 ⟨k2,a2,n2,q2,rfl,ht2,hb1⟩;replace fR:=ag fR hb1;have fC:=zq (al (al aj aj) hb1);have HT:=zq ht2;clear hb1 ht2;obtain⟨r0,r1⟩:=blk2 fR;have rf0:=ao fR 0;have rf1:=ao fR 1
 go_wp2_with fail
 have hY:((w1.setCell ⟨w.heap.size+1,0,none⟩ (.int .i64 k2)).setCell ⟨w.heap.size+1,1,none⟩ (.slice a2 n2 q2)).heap[w.heap.size+1]?=some (.cells #[.int .i64 k2,.slice a2 n2 q2] 25 (0,0)):=aN (aN fR rfl) rfl;obtain⟨rc0,rc1⟩:=blk2 hY;refine bodyPost_ret (v:=.tuple #[.agg #[.int .i64 k2,.slice a2 n2 q2],.bool O.isSome]) (by simp[results,Tryz.results53,go_sem,rc0,rc1]) rfl ?_;have hne : ∀b,(((w.alloc (.cells #[.int .i64 k,.string nm,.int .i64 u,.int .i64 tk,.slice ta tn tq,.int .i64 fk,.slice fa fn fq,.int .i64 lb,.slice ca cm cq] 28)).alloc (.cells #[.int .i64 0,.slice none 0 0] 25)).heap.size≤b)→b≠w.heap.size+1:=fun b h=>by
  simp at h;omega
 exact⟨_,_,_,_,rfl,(ap.setN (ap.setN HT.out hne) hne).move (.weaken fun b h _=>by have h1:_≤b:=h;simp at h1;omega),(fC.out.setCell (p:=⟨w.heap.size+1,0,none⟩) (by show w.heap.size≤w.heap.size+1;omega) _).setCell (p:=⟨w.heap.size+1,1,none⟩) (by show w.heap.size≤w.heap.size+1;omega) _⟩
theorem rR (t:Tm) : ∀s,ek t=some s→t.valid=true∧s.valid=true:=by
 intro s h;unfold ek at h
 split at h
 ·rename_i hv
  refine⟨hv,?_⟩
  cases e:t.typS [] with
  | none=>rw[e] at h;cases h
  | some g=>
   rw[e] at h;obtain rfl:=Option.some.inj h;rw[S.valid]
   exact eJ t 12 [] (by unfold Tm.valid at hv;simp at hv;exact hv.1) (fun b hb=>by cases hb) g e
 ·cases h
theorem jS (r p:Nat)(w:World)(hrd0:aT w r p)(hp:p≤990000000):Calls Tryz.prog 28 #[.pointer (some ⟨r,0,none⟩)] w (DTm r p 5000000 5120 w):=by
 have hrl:=hrd0.1;have HRD0:=zq hrd0;clear hrd0
 go_enter Tryz.func28,Tryz.ntmps28
 go_wp2_with fail
 go_loopw [3] (fun s3 wr=>∃(j q:Nat),j≤4∧s3 = .int .i64 (j:Int)∧q≤p+j*1024100∧w.heap.size<wr.heap.size∧Hid (Chg [r] w wr)∧Hid (aT wr r (q))∧Hid (wr.heap[w.heap.size]?=some (.cells #[.int .i64 0,.string {data:=#[]},.int .i64 0,.int .i64 0,.slice none 0 0,.int .i64 0,.slice none 0 0,.int .i64 0,.slice none 0 0] 28 (0,0)))) (fun i _=>4-(intOf i).toNat)
 case atStart=>exact⟨0,p,by omega,rfl,by omega,by simp,zq (Chg.of_below aj),zq (HRD0.out.below aj),zq (aF rfl)⟩
 case round=>
  obtain⟨j,q,hj,rfl,hq,hsz,fC,rd,hfR⟩:=hrel;have fR:=hfR.out;clear hfR
  by_cases hlt:j<4
  ·have hdj:decide ((j:Int)<4)=true:=decide_eq_true (by omega)
   go_wp2_with fail
   refine(bO (fun x=>1≤x∧x≤3) r (q) _ 4 4 _ (rd.out.below aj) (by omega) (by omega) (by omega) (Nat.le_refl _) (by omega) (bA [1,2,2,3] rfl _ (by decide))).mono ?_;rintro e w1 ⟨n1,rfl,hn1,hrd,hb0⟩;have hb:=Chg.trans (Chg.of_below (aj (w:=wr))) hb0;clear hb0;have zw1:=hb.size;(try simp only[World.size_alloc] at zw1);replace fC:=zqc fC hb;replace fR:=aB fR hb;replace rd:=zq hrd;clear hrd;clear hb;obtain⟨d1,rfl⟩ : ∃d:Nat,n1=d:=⟨n1.toNat,by omega⟩
   go_wp2_with fail
   refine(iT d1 r _ _ (by omega) (by omega) rd.out (by omega)).mono ?_;rintro e w2 ⟨s2,v,qs,rfl,hvs2,hv,hqs,hrd,hb⟩;obtain⟨kb,ab,nb,qb,rfl⟩:=hv.shape;have hB_':=hv.rg;clear hv;have zw2:=hb.size;(try simp only[World.size_alloc] at zw2);replace fC:=zqc fC hb;replace fR:=aB fR hb;replace rd:=zq hrd;clear hrd;clear hb;have hB_:=hB_';clear hB_'
   go_wp2_with fail
   refine(bO (fun x=>3≤x∧x≤5) r (qs) _ 4 4 _ (rd.out.below aj) (by omega) (by omega) (by omega) (Nat.le_refl _) (by omega) (bA [4,3,5,4] rfl _ (by decide))).mono ?_;rintro e w3 ⟨n2,rfl,hn2,hrd,hb0⟩;have hb:=Chg.trans (Chg.of_below (aj (w:=w2))) hb0;clear hb0;have zw3:=hb.size;(try simp only[World.size_alloc] at zw3);replace fC:=zqc fC hb;replace fR:=aB fR hb;replace hB_:=zq (hB_.out.move (kpN hb (fun b hb=>by have h1:=hb.1;have h2:=hb.2;omega)));replace rd:=zq hrd;clear hrd;clear hb;have HMK:=zq (la r 29 n2 s2 [] (by have h1:=S.vd_dep hvs2;unfold mkM;omega) (by simp) hvs2 (fun b hb=>by cases hb) (fun b hb=>by cases hb) (by omega) (by omega));have HBD:mkB n2 s2≤1024000:=by rw[eP s2 (by omega)];exact mkU_top (by omega)
   go_wp2_with fail
   refine(HMK.out _ _ _ _ rd.out (by unfold aL aM;exact⟨none,0,rfl,Nat.le_refl _,by unfold maxLen;omega,.inl rfl⟩) (.inl ⟨rfl,rfl⟩) (hB_.out.move (.weaken fun b h _=>by have h1:=h.1;intro e;omega)) (by omega)).mono ?_;rintro e w4 ⟨t2,v,q2,rfl,hcn2,hv,hq2,hrd,hb⟩;obtain⟨kt2,nm2,ut2,tk2,ta2,tn2,tq2,fk2,fa2,fn2,fq2,lt2,ct2,mt2,qt2,rfl⟩:=hv.shape;have HC2:=zq hcn2;have h2_':=hv.rg;clear hv hcn2;have zw4:=hb.size;(try simp only[World.size_alloc] at zw4);replace fC:=zqc fC hb;replace fR:=aB fR hb;replace hB_:=zq (hB_.out.move (kpN hb (fun b hb=>by have h1:=hb.1;have h2:=hb.2;omega)));replace rd:=zq hrd;clear hrd;clear hb;have h2_:=h2_';clear h2_';have hbv:=aj (w:=w4) (o:=.cells #[.int .i64 kt2,.string nm2,.int .i64 ut2,.int .i64 tk2,.slice ta2 tn2 tq2,.int .i64 fk2,.slice fa2 fn2 fq2,.int .i64 lt2,.slice ct2 mt2 qt2] 28);have fE:=aF (w:=w4) (o:=.cells #[.int .i64 kt2,.string nm2,.int .i64 ut2,.int .i64 tk2,.slice ta2 tn2 tq2,.int .i64 fk2,.slice fa2 fn2 fq2,.int .i64 lt2,.slice ct2 mt2 qt2] 28) (b:=w4.heap.size) rfl;replace fC:=zqb fC hbv;replace rd:=zq (rd.out.below hbv);replace fR:=ag fR hbv;replace hB_:=zq (hB_.out.below hbv);replace h2_:=zq (h2_.out.below hbv);clear hbv;obtain⟨ov,hov⟩ : ∃o,ek t2=o:=⟨_,rfl⟩
   have HOV:=zq hov;have HTO:=zq (hov▸lm _ t2 _ _ h2_.out);clear hov;obtain⟨y0,y1,y2,y3,y4,y5,y6,y7,y8⟩:=blk9 fE;have lyE:=aD fE
   go_wp2_with fail
   refine HTO.out.mono ?_;rintro e w5 ⟨k5,a5,n5,q5,rfl,-,hb⟩;clear HTO y0 y1 y2 y3 y4 y5 y6 y7 y8;have zw5:=hb.size;(try simp only[World.size_alloc] at zw5);replace fC:=zqb fC hb;replace rd:=zq (rd.out.below hb);replace fR:=ag fR hb;replace hB_:=zq (hB_.out.below hb);replace h2_:=zq (h2_.out.below hb);replace fE:=ag fE hb;clear hb;have hbw:=aj (w:=w5) (o:=.cells #[.int .i64 k5,.slice a5 n5 q5] 25)
   cases ov with
   | none=>
    replace fC:=zqb fC hbw;replace rd:=zq (rd.out.below hbw);replace fR:=ag fR hbw;replace hB_:=zq (hB_.out.below hbw);replace h2_:=zq (h2_.out.below hbw);replace fE:=ag fE hbw;clear hbw
    go_wp2_with fail
    go_roundw
    case rel=>exact⟨j+1,q2,by omega,by go_num,by omega,by simp;omega,fC,rd,zq fR⟩
    case measure=>simp[intOf];omega
   | some sv=>
    replace fC:=zqb fC hbw;replace rd:=zq (rd.out.below hbw);replace fR:=ag fR hbw;replace hB_:=zq (hB_.out.below hbw);replace h2_:=zq (h2_.out.below hbw);replace fE:=ag fE hbw;clear hbw;have y0:=ah fE (o:=0) rfl;have x0:=ah fR (o:=0) rfl;have f0:=ao fR 0;have y1:=ah fE (o:=1) rfl;have x1:=ah fR (o:=1) rfl;have f1:=ao fR 1;have y2:=ah fE (o:=2) rfl;have x2:=ah fR (o:=2) rfl;have f2:=ao fR 2;have y3:=ah fE (o:=3) rfl;have x3:=ah fR (o:=3) rfl;have f3:=ao fR 3;have y4:=ah fE (o:=4) rfl;have x4:=ah fR (o:=4) rfl;have f4:=ao fR 4;have y5:=ah fE (o:=5) rfl;have x5:=ah fR (o:=5) rfl;have f5:=ao fR 5;have y6:=ah fE (o:=6) rfl;have x6:=ah fR (o:=6) rfl;have f6:=ao fR 6;have y7:=ah fE (o:=7) rfl;have x7:=ah fR (o:=7) rfl;have f7:=ao fR 7;have y8:=ah fE (o:=8) rfl;have x8:=ah fR (o:=8) rfl;have f8:=ao fR 8;have lyE5:=aD fE;have lxR:=aD fR;have hval:=(rR t2 sv HOV.out).1;have hcc:=Tm.cnt_valid30 hval;have hRR:aA (w.heap.size+1 ≤ ·) _ t2 (.agg #[.int .i64 kt2,.string nm2,.int .i64 ut2,.int .i64 tk2,.slice ta2 tn2 tq2,.int .i64 fk2,.slice fa2 fn2 fq2,.int .i64 lt2,.slice ct2 mt2 qt2]):=h2_.out.move (.weaken fun b h _=>by have h1:=h.1;show w.heap.size+1≤b;omega);have HEND:=zq (DTm.stored (p:=p) (r:=r) (w:=w) (R:=w.heap.size) (B:=w.heap.size+1) (c:=5000000) (m:=5120) (v0:=.int .i64 kt2) (v1:=.string nm2) (v2:=.int .i64 ut2) (v3:=.int .i64 tk2) (v4:=.slice ta2 tn2 tq2) (v5:=.int .i64 fk2) (v6:=.slice fa2 fn2 fq2) (v7:=.int .i64 lt2) (v8:=.slice ct2 mt2 qt2) hRR (by omega) (by omega) (by omega) rd.out fC.out (by omega) (by omega) (by omega));clear hRR hcc hval
    go_wp2_with fail
    refine bodyPost_ret (v:=.agg #[.int .i64 kt2,.string nm2,.int .i64 ut2,.int .i64 tk2,.slice ta2 tn2 tq2,.int .i64 fk2,.slice fa2 fn2 fq2,.int .i64 lt2,.slice ct2 mt2 qt2]) (by simp[results,Tryz.results28,go_sem,x0,x1,x2,x3,x4,x5,x6,x7,x8]) rfl ?_
    exact HEND.out
  ·have hdj:decide ((j:Int)<4)=false:=decide_eq_false (by omega)
   go_wp2_with fail
   refine(rA r q _ rd.out (by omega)).mono ?_;rintro e w9 ⟨t2,v,q2,rfl,hcn2,hv,hq2,hrd,hb⟩;obtain⟨kt2,nm2,ut2,tk2,ta2,tn2,tq2,fk2,fa2,fn2,fq2,lt2,ct2,mt2,qt2,rfl⟩:=hv.shape;have HC2:=zq hcn2;have h2_':=hv.rg;clear hv hcn2;have zw9:=hb.size;(try simp only[World.size_alloc] at zw9);replace fC:=zqc fC hb;replace fR:=aB fR hb;replace rd:=zq hrd;clear hrd;clear hb;have h2_:=h2_';clear h2_';obtain⟨x0,f0,x1,f1,x2,f2,x3,f3,x4,f4,x5,f5,x6,f6,x7,f7,x8,f8⟩:=blk9f fR;have lxR:=aD fR;have hcc:=HC2.out;have hRR:aA (w.heap.size+1 ≤ ·) w9 t2 (.agg #[.int .i64 kt2,.string nm2,.int .i64 ut2,.int .i64 tk2,.slice ta2 tn2 tq2,.int .i64 fk2,.slice fa2 fn2 fq2,.int .i64 lt2,.slice ct2 mt2 qt2]):=h2_.out.move (.weaken fun b h _=>by have h1:=h.1;show w.heap.size+1≤b;omega);have HEND:=zq (DTm.stored (p:=p) (r:=r) (w:=w) (R:=w.heap.size) (B:=w.heap.size+1) (c:=5000000) (m:=5120) (v0:=.int .i64 kt2) (v1:=.string nm2) (v2:=.int .i64 ut2) (v3:=.int .i64 tk2) (v4:=.slice ta2 tn2 tq2) (v5:=.int .i64 fk2) (v6:=.slice fa2 fn2 fq2) (v7:=.int .i64 lt2) (v8:=.slice ct2 mt2 qt2) hRR (by omega) (by omega) (by omega) rd.out fC.out (by omega) (by omega) (by omega));clear hRR hcc
   go_wp2_with fail
   refine bodyPost_ret (v:=.agg #[.int .i64 kt2,.string nm2,.int .i64 ut2,.int .i64 tk2,.slice ta2 tn2 tq2,.int .i64 fk2,.slice fa2 fn2 fq2,.int .i64 lt2,.slice ct2 mt2 qt2]) (by simp[results,Tryz.results28,go_sem,x0,x1,x2,x3,x4,x5,x6,x7,x8]) rfl ?_
   exact HEND.out
end Go.Proofs.YtfahhonmiimmdaaGreat
namespace Go.Proofs.YtfahhonmiimmdaaGreat
open Go.RowKit Go.Sort
theorem Tryz.infoInt:(Tryz.prog.info? 3).map (fun i=>(i.zero,i.size,i.bytes))=some (some (.int .i64 0),1,8):=by kernel_rfl
theorem gA {w:World}{B n:Nat}{e:TypeId}{size:Nat}{v:Value}{xs:List Value}(h:w.ownsRow B e size v n xs) : ∃c q,v = .slice c n q:=by
 rcases h.2 with ⟨rfl,rfl⟩ | ⟨g,cap,cur,rfl,-⟩
 ·exact⟨none,0,rfl⟩
 ·exact⟨_,cap,rfl⟩
theorem mQ {w:World}{B n m cap g:Nat}{e:TypeId}{xs:List Value}(h:w.ownsRow B e 1 (.slice (some ⟨g,0,none⟩) n cap) n xs)(hm:m≤n):w.ownsRow B e 1 (.slice (some ⟨g,0,none⟩) m cap) m (xs.take m):=by
 obtain⟨hl,h⟩:=h
 rcases h with ⟨h,-⟩ | ⟨g',cap',cur,he,hb,hg,h1,h2,h3,h4⟩
 ·cases h
 ·simp only[Value.slice.injEq,Option.some.injEq,Addr.mk.injEq,and_true,true_and] at he
  obtain⟨rfl,rfl⟩:=he;refine⟨by rw[List.length_take];omega,.inr ⟨g,cap,cur,rfl,hb,hg,by omega,h2,h3,?_⟩⟩;rw[←h4,List.take_take]
  congr 1
  omega
theorem sortOwn {B n:Nat}{l:List Int}{v:Value}(w:World)(h:w.ownsRow B 3 1 v n (l.map (Value.int .i64)))(hn:n≤1000000) :
  Calls Tryz.prog 18 #[v] w fun e w'=>e = .returned (.tuple #[])∧w'.ownsRow B 3 1 v n ((g9 l).map (Value.int .i64))∧w.grownBy w' v.ownBlock:=by
 have hl:l.length=n:=by have:=h.1;simpa using this
 rcases h.2 with ⟨rfl,rfl⟩ | ⟨g,cap,cur,rfl,hb,hg,h1,h2,h3,h4⟩
 ·refine(Tryz.slices_Sort_int_none none 0 w).mono ?_
  rintro e w' ⟨rfl,rfl⟩;have:l = []:=List.eq_nil_of_length_eq_zero hl;subst this
  exact⟨rfl,by simpa [g9] using h,rfl,rfl,rfl,Nat.le_refl _,fun _ _ _=>rfl⟩
 ·subst hl
  rw[Nat.mul_one] at h4;refine(Tryz.slices_Sort_int g 0 cap l w (holds_of_blockI hg h4) (Array.getElem?_eq_some_iff.1 hg).1 (by omega)).mono ?_;rintro e w' ⟨rfl,q,os,rfl⟩
  exact⟨rfl,ownsRow_sortedI (List.length_mergeSort _) hb hg h1 h2 h3,grownBy_sortedI _⟩
theorem sY {B n:Nat}{l:List Int}{v:Value}(w:World)(h:w.ownsRow B 3 1 v n (l.map (Value.int .i64)))(hn:n≤1000000) :
  Calls Tryz.prog 19 #[v] w fun e w'=>∃v',e = .returned v'∧w'.ownsRow B 3 1 v' (Lib.compact l).length ((Lib.compact l).map (Value.int .i64))∧w.grownBy w' v.ownBlock:=by
 have hl:l.length=n:=by have:=h.1;simpa using this
 rcases h.2 with ⟨rfl,rfl⟩ | ⟨g,cap,cur,rfl,hb,hg,h1,h2,h3,h4⟩
 ·refine(Tryz.slices_Compact_int_empty none 0 w).mono ?_
  rintro e w' ⟨rfl,rfl⟩;have:l = []:=List.eq_nil_of_length_eq_zero hl;subst this
  exact⟨_,rfl,by simpa [Lib.compact,Lib.compactUpTo] using h,rfl,rfl,rfl,Nat.le_refl _,fun _ _ _=>rfl⟩
 ·subst hl
  rw[Nat.mul_one] at h4;refine(Tryz.slices_Compact_int g 0 cap l w (holds_of_blockI hg h4) (by omega) h1).mono ?_;rintro e w' ⟨rfl,q,rfl⟩;have hc:(Lib.compact l).length≤l.length:=by
   unfold Lib.compact Lib.compactUpTo;have:=List.length_filter_le (Lib.keeps l.toArray) (List.range l.length)
   simpa using this
  have h5:=ownsRow_sortedI (w:=w) (base:=B) (n:=q) (os:=#[]) (ss:=l) (ts:=Lib.compact l++List.replicate (l.length-(Lib.compact l).length) 0) (by rw[List.length_append,List.length_replicate];omega) hb hg h1 h2 h3;rw[Sort.grow_empty] at h5;have h6:=mQ h5 hc;rw[List.map_append,List.take_append_of_le_length (by simp),List.take_of_length_le (by simp)] at h6;have h7:=grownBy_sortedI (w:=w) (g:=g) (n:=q) (os:=#[]) (Lib.compact l++List.replicate (l.length-(Lib.compact l).length) 0).toArray;rw[Sort.grow_empty] at h7
  exact⟨_,rfl,h6,h7⟩
theorem lo (F:Nat→Prop)(t:Tm)(y:Value)(w:World)(hy:aA F w t y) :
  Calls Tryz.prog 6 #[y] w (RetInts t.labels w):=by
 have hyB:aA (· < w.heap.size) w t y:=hy.move (.weaken fun _ _ h=>h);have hv:=fun W (h:Below w.heap.size w W)=>et F t y W (hy.below h);have hc:=fun(hok:t.castValid=true) W (h:Below w.heap.size w W)=>na (· < w.heap.size) w.heap.size (fun _ h=>h) t (by have:=Tm.casts_ok hok;omega) y W (hyB.below h) h.size;have hlen:=fun(hok:t.castValid=true)=>Tm.casts_ok hok;unfold Tm.labels;rw[←Tm.labs_eq];obtain⟨k,nm,u,tk,ta,tn,tq,fk,fa,fn,fq,l,c,m,q,rfl⟩:=hy.shape;obtain⟨i0,hi,hz0,hz1,hz2⟩:=info_parts Tryz.infoInt;generalize t.casts=us at *;generalize t.castValid=v at *;have HV:=zq hv;have HC:=zq hc;have HLEN:=zq hlen;have Z0:=zq hz0;have Z1:=zq hz1;have Z2:=zq hz2;have HI:=zq hi;clear hv hc hlen hy hyB hz0 hz1 hz2 hi
 cases v
 ·simp only[Bool.false_eq_true,if_false]
  go_enter Tryz.func6,Tryz.ntmps6
  go_wp2_with fail
  refine(HV.out _ aj).mono ?_;rintro e w1 ⟨rfl,hb1⟩
  go_wp2_with fail
  go_ret
  exact⟨_,rfl,⟨[],bI.nilv (by unfold maxLen;omega),List.nodup_nil,by simp⟩,al aj hb1⟩
 ·simp only[if_true]
  have hlen:=HLEN.out rfl;have HLEN':=zq hlen;clear hlen HLEN
  go_enter Tryz.func6,Tryz.ntmps6
  go_wp2_with fail
  refine(HV.out _ aj).mono ?_;rintro e w1 ⟨rfl,hb1⟩;have c0:w1.cell? ⟨w.heap.size,0,none⟩=some (.int .i64 k):=af hb1 (aw 0);have c1:w1.cell? ⟨w.heap.size,1,none⟩=some (.string nm):=af hb1 (aw 1);have c2:w1.cell? ⟨w.heap.size,2,none⟩=some (.int .i64 u):=af hb1 (aw 2);have c3:w1.cell? ⟨w.heap.size,3,none⟩=some (.int .i64 tk):=af hb1 (aw 3);have c4:w1.cell? ⟨w.heap.size,4,none⟩=some (.slice ta tn tq):=af hb1 (aw 4);have c5:w1.cell? ⟨w.heap.size,5,none⟩=some (.int .i64 fk):=af hb1 (aw 5);have c6:w1.cell? ⟨w.heap.size,6,none⟩=some (.slice fa fn fq):=af hb1 (aw 6);have c7:w1.cell? ⟨w.heap.size,7,none⟩=some (.int .i64 l):=af hb1 (aw 7);have c8:w1.cell? ⟨w.heap.size,8,none⟩=some (.slice c m q):=af hb1 (aw 8);have hB1:=al aj hb1;have hbz:=hB1.size
  go_wp2_with fail
  refine(HC.out (by simp) _ hB1).mono ?_;rintro e w2 ⟨v2,rfl,hacc2,-,hb2⟩;have hts:=hacc2.tms;obtain⟨a2,q2,rfl,hq1,hq2,-⟩:=hts.open;have hB2:=al hB1 hb2;have hbz2:=hB2.size;have HB2:=zq hB2;have HTS0:=zq hts;clear hts hacc2 c0 c1 c2 c3 c4 c5 c6 c7 c8 hb1 hb2 hB1 hB2 HV HC;obtain⟨n,hn⟩ : ∃n,us.length=n:=⟨_,rfl⟩
  have hts:=HTS0.out;rw[hn] at hq1 hts ⊢;have HN:=zq hn;have HTS:=zq hts;have hn2:n≤200:=by have:=HLEN'.out;omega
  unfold maxLen at hq2;clear hn HTS0 hts
  go_wp2_with fail
  go_loopw [12,3] (fun i p wr=>∃j:Nat,j≤n∧i = .int .i64 j∧(∃pv,pv=p∧Hid (wr.ownsRow w2.heap.size 3 1 pv j (((us.take j).map Tm.label).map (Value.int .i64))))∧Hid (Below w2.heap.size w2 wr)∧w2.heap.size≤wr.heap.size) (fun i _ _=>n-(intOf i).toNat)
  case atStart=>exact⟨0,by omega,rfl,⟨_,rfl,by simpa [Hid] using World.ownsRow_nil _ _ _ _⟩,Below.refl _ _,Nat.le_refl _⟩
  case round=>
   obtain⟨j,hj,rfl,⟨pv,rfl,hown⟩,hbw,hsz⟩:=hrel;obtain⟨cv,qv,rfl⟩:=gA hown.out
   by_cases hlt:j<n
   ·have hjt:j<us.length:=by rw[HN.out];exact hlt
    obtain⟨b,off,k0,nm0,u0,tk0,ta0,tn0,tq0,fk0,fa0,fn0,fq0,l0,a0,m0,q0,rfl,lb0,e0,e1,e2,e3,e4,e5,e6,e7,e8,ht⟩:=HTS.out.at hbw.out hjt;obtain⟨-,-,-,-,-,-,-,r8,-⟩:=ht.parts;have hmap:(((us.take (j+1)).map Tm.label).map (Value.int .i64))=((us.take j).map Tm.label).map (Value.int .i64) ++ [.int .i64 l0]:=by rw[List.take_succ_eq_append_getElem hjt,List.map_append,List.map_append,r8];rfl
    obtain⟨xs,hxs⟩ : ∃x,((us.take j).map Tm.label).map (Value.int .i64)=x:=⟨_,rfl⟩
    rw[hxs] at hown hmap;have HMAP:=zq hmap;have HO':=zq (aY hown.out (aH (o:=.cells #[.int .i64 k0,.string nm0,.int .i64 u0,.int .i64 tk0,.slice ta0 tn0 tq0,.int .i64 fk0,.slice fa0 fn0 fq0,.int .i64 l0,.slice a0 m0 q0] 28) (o':=.cells #[.int .i64 l0] 3)));clear ht r8 hmap hxs
    go_wp2_with (first | (at_builtin;refine wpList_append_lies _ rfl (.tmp 16) (.tmp 19) 30 rfl w2.heap.size 3 i0 _ 1 8 Tryz.underlying30 HI.out Z0.out Z1.out Z2.out rfl (by omega) (.slice cv j qv) j xs rfl HO'.out ⟨wr.heap.size+1,0,none⟩ 1 1 [.int .i64 l0] rfl rfl (World.news_of_block (cs:=#[.int .i64 l0]) (t:=3) (fr:=(0,0)) (by rw[show wr.heap.size+1=(wr.alloc (.cells #[.int .i64 k0,.string nm0,.int .i64 u0,.int .i64 tk0,.slice ta0 tn0 tq0,.int .i64 fk0,.slice fa0 fn0 fq0,.int .i64 l0,.slice a0 m0 q0] 28)).heap.size by simp];exact heap_alloc_new _ _)) (by simp[Value.oneCell']) (by omega) (by unfold maxLen;omega) (by omega) (by simp;omega) _ rfl ?_) | fail)
    intro gg cap2 w5 hown2 hgrow hat hlt2;have HOWN2:=zq hown2;have HBEL:=zq (bH hbw.out aH hown.out (Nat.le_refl _) hgrow);have hsz5:=HBEL.out.size;clear hown2 hgrow hat
    go_wp2_with fail
    go_roundw
    case rel=>exact⟨j+1,by omega,by go_num,⟨_,rfl,by unfold Hid;rw[HMAP.out];exact HOWN2.out⟩,HBEL.out,hsz5⟩
    case measure=>simp[intOf];omega
   ·have hje:us.take j=us:=List.take_of_length_le (by have:=HN.out;omega)
    have hjn:j=n:=by omega
    subst hjn;have ho:=hown.out;rw[hje] at ho;have HO:=zq ho;clear ho hje hown
    go_wp2_with fail
    refine(sortOwn wr HO.out (by omega)).mono ?_;rintro e w6 ⟨rfl,ho6,hg6⟩;have HO6:=zq ho6;have HB6:=zq ((HB2.out.trans (hbw.out.mono hbz2)).grown hg6 (Nat.le_trans hbz2 hsz) (fun k hk=>by have:=(HO.out.lt k hk).1;omega));clear ho6 hg6
    go_wp2_with fail
    refine(sY w6 HO6.out (by omega)).mono ?_;rintro e w7 ⟨v7,rfl,ho7,hg7⟩;have HO7:=zq ho7;have HB7:=zq (HB6.out.grown hg7 HB6.out.size (fun k hk=>by have:=(HO.out.lt k hk).1;omega));obtain⟨c7',q7,rfl⟩:=gA ho7;clear ho7 hg7
    go_wp2_with fail
    go_ret
    obtain⟨fp,h1,h2,h3⟩:=bI.of_row HO7.out
    exact⟨_,rfl,⟨fp,h1,h2,fun x hx=>by have:=h3 x hx;omega⟩,HB7.out⟩
end Go.Proofs.YtfahhonmiimmdaaGreat

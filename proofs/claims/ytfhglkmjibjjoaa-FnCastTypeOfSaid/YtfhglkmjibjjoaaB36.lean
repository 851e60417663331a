/- spec.InsertCasts. And what else its parts name. -/
import Derived.Test.YtfhglkmjibjjoaaB35
import Derived.Test.YtfhglkmjibjjoaaB47
import Derived.Test.YtfhglkmjibjjoaaB39
import Derived.Test.YtfhglkmjibjjoaaB41
import Derived.Test.YtfhglkmjibjjoaaB40
set_option linter.unusedSimpArgs false
set_option linter.unusedVariables false
set_option maxRecDepth 100000
set_option maxHeartbeats 16000000
namespace Go.Proofs.Ytfhglkmjibjjoaa
open Go.RowKit
def RetI3 (w:World)(e:Ending)(w':World):Prop:=(e = .returned (.tuple #[.agg (nz 0),.agg #[.int .i64 0,.slice none 0 0],.bool false])∧Below w.heap.size w w')∨∃(t':Tm) (s:S) (v y:Value),e = .returned (.tuple #[v,y,.bool true])∧t'.cnt<=6000∧s.vd=true∧aB (w.heap.size <= ·) w' t' v∧ai (w.heap.size <= ·) w' s.ty y∧Below w.heap.size w w'
theorem nS {t:Tm}{x:Ty}(h:dy t=some x) : ∃s:S,x=s.ty∧t.valid=true∧t.typS []=some s:=by
 unfold dy at h
 split at h
 ·rename_i hv
  cases hs:t.typS [] with
  | none=>rw[hs] at h;cases h
  | some s=>rw[hs] at h;cases h;exact⟨s,rfl,hv,rfl⟩
 ·cases h
theorem iX (F:Nat->Prop)(t1:Tm)(y:Value)(w:World)(hy:aB F w t1 y):Calls Try.prog 40 #[y] w (RetI3 w):=by
 obtain⟨kt1,nm1,ut1,tk1,ta1,tn1,tq1,fk1,fa1,fn1,fq1,lt1,ct1,mt1,qt1,rfl⟩:=hy.shape;obtain⟨o,ho⟩ : ∃o,dy t1=o:=⟨_,rfl⟩
 have HTO:=zq (ho▸jn _ t1 _ _ (hy.below (bG (o:=.cells (nv kt1 nm1 ut1 tk1 ta1 tn1 tq1 fk1 fa1 fn1 fq1 lt1 ct1 mt1 qt1) 28) (o':=.cells (nz 0) 28) (o2:=.cells #[.int .i64 0,.slice none 0 0] 25))));have HY:=zq hy;obtain⟨QQ,hQQ⟩ : ∃Q,RetI3 w=Q:=⟨_,rfl⟩
 rw[hQQ];have HQQ:=zq hQQ;clear hQQ hy
 cases o with
 | none=>
  clear ho
  go_enter Try.func40,Try.ntmps40
  go_wp2_with fail
  refine HTO.out.mono ?_;rintro e w1 ⟨k5,a5,n5,q5,rfl,ht5,hb⟩;have z1:=hb.size;simp only[World.size_alloc] at z1;have fE:w1.heap[w.heap.size]?=some (.cells (nv kt1 nm1 ut1 tk1 ta1 tn1 tq1 fk1 fa1 fn1 fq1 lt1 ct1 mt1 qt1) 28 (0,0)):=a9 (a9 (a9 (aA rfl) ag) ag) hb;have fR:w1.heap[w.heap.size+1]?=some (.cells (nz 0) 28 (0,0)):=a9 (a9 (aA (by simp)) ag) hb;have fY:w1.heap[w.heap.size+1+1]?=some (.cells #[.int .i64 0,.slice none 0 0] 25 (0,0)):=a9 (aA (by simp)) hb;have fB:Hid (Below w.heap.size w w1):=zq (al bG hb);clear hb HTO ht5;obtain⟨x0,x1,x2,x3,x4,x5,x6,x7,x8⟩:=blk9 fR;have xf0:=aj fR 0;have xf1:=aj fR 1;have xf2:=aj fR 2;have xf3:=aj fR 3;have xf4:=aj fR 4;have xf5:=aj fR 5;have xf6:=aj fR 6;have xf7:=aj fR 7;have xf8:=aj fR 8;have xl:=aw fR;obtain⟨v0,v1⟩:=blk2 fY;have vf0:=aj fY 0;have vf1:=aj fY 1;have vl:=aw fY;have hx5x:w.heap.size+1<w1.heap.size+1:=by omega
  have hx6x:w.heap.size+1+1<w1.heap.size+1:=by omega
  go_upto_region 3 with fail
  clear x0 x1 x2 x3 x4 x5 x6 x7 x8 xf0 xf1 xf2 xf3 xf4 xf5 xf6 xf7 xf8 xl v0 v1 vf0 vf1 vl hx5x hx6x;generalize hXq:World.alloc w1 _=w2;obtain⟨hb,fT,zw2a,zw2b⟩:=alE hXq;replace fE:=a9 fE hb;replace fR:=a9 fR hb;replace fY:=a9 fY hb;replace fB:=mh hb fB;clear hb hXq;obtain⟨x0,x1,x2,x3,x4,x5,x6,x7,x8⟩:=blk9 fR;have xf0:=aj fR 0;have xf1:=aj fR 1;have xf2:=aj fR 2;have xf3:=aj fR 3;have xf4:=aj fR 4;have xf5:=aj fR 5;have xf6:=aj fR 6;have xf7:=aj fR 7;have xf8:=aj fR 8;have xl:=aw fR;obtain⟨v0,v1⟩:=blk2 fY;have vf0:=aj fY 0;have vf1:=aj fY 1;have vl:=aw fY
  go_wp2_with fail
  clear x0 x1 x2 x3 x4 x5 x6 x7 x8 xf0 xf1 xf2 xf3 xf4 xf5 xf6 xf7 xf8 xl v0 v1 vf0 vf1 vl;obtain⟨w3,hXq,hsq,fR_,zw3a,zw3b⟩:=c7 fR (.int .i64 0) (.string {data:=#[]}) (.int .i64 0) (.int .i64 0) (.slice none 0 0) (.int .i64 0) (.slice none 0 0) (.int .i64 0) (.slice none 0 0);rw[hXq];replace fE:=hsq.bk fE;replace fY:=hsq.bk fY;replace fB:=hsq.be fB;replace fT:=hsq.bk fT;clear fR hsq hXq;have fR:=fR_;clear fR_;obtain⟨w4,hXq,hsq,fY_,zw4a,zw4b⟩:=aJ fY (.int .i64 0) (.slice none 0 0);rw[hXq];replace fE:=hsq.bk fE;replace fR:=hsq.bk fR;replace fB:=hsq.be fB;replace fT:=hsq.bk fT;clear fY hsq hXq;have fY:=fY_;clear fY_;obtain⟨rc0,rc1,rc2,rc3,rc4,rc5,rc6,rc7,rc8⟩:=blk9 fR;obtain⟨ry0,ry1⟩:=blk2 fY;refine bq (.tuple #[.agg (nz 0),.agg #[.int .i64 0,.slice none 0 0],.bool false]) (by simp[results,Try.results40,go_sem,rc0,rc1,rc2,rc3,rc4,rc5,rc6,rc7,rc8,ry0,ry1]) ?_;rw[<-HQQ.out]
  exact .inl ⟨rfl,fB.out⟩
 | some x=>
  obtain⟨s,rfl,hv,hts⟩:=nS ho;have hvs:s.vd=true:=by rw[<-S.valid];exact(mE t1 _ ho).2
  have HVS:=zq hvs;unfold Tm.valid at hv;rw[Bool.and_eq_true] at hv;have hsz:=of_decide_eq_true hv.2;have hs1:=hv.1;have HSZ:=zq hsz;have HIN:Hid (∀W,Below w.heap.size w W->Calls Try.prog 73 #[.slice none 0 0,.agg (nv kt1 nm1 ut1 tk1 ta1 tn1 tq1 fk1 fa1 fn1 fq1 lt1 ct1 mt1 qt1),.int .i64 1] W (iN t1 s 1 W)):=zq fun W h=>gO t1 12 [] (fun _=>True) F (.slice none 0 0) _ 1 W s hs1 (by simp) (fun b hb=>by cases hb) (.inl ⟨rfl,rfl⟩) (by unfold aE aL;exact⟨none,0,rfl,Nat.le_refl _,by unfold maxLen;omega,.inl rfl⟩) (HY.out.below h) hts (by omega) (by omega);clear hv hs1 hsz hts hvs;clear ho
  go_enter Try.func40,Try.ntmps40
  go_wp2_with fail
  refine HTO.out.mono ?_;rintro e w1 ⟨k5,a5,n5,q5,rfl,ht5,hb⟩;have z1:=hb.size;simp only[World.size_alloc] at z1;have fE:w1.heap[w.heap.size]?=some (.cells (nv kt1 nm1 ut1 tk1 ta1 tn1 tq1 fk1 fa1 fn1 fq1 lt1 ct1 mt1 qt1) 28 (0,0)):=a9 (a9 (a9 (aA rfl) ag) ag) hb;have fR:w1.heap[w.heap.size+1]?=some (.cells (nz 0) 28 (0,0)):=a9 (a9 (aA (by simp)) ag) hb;have fY:w1.heap[w.heap.size+1+1]?=some (.cells #[.int .i64 0,.slice none 0 0] 25 (0,0)):=a9 (aA (by simp)) hb;have fB:Hid (Below w.heap.size w w1):=zq (al bG hb);clear hb HTO ht5
  go_upto_region 4 with fail
  generalize hXq:World.alloc w1 _=w2;obtain⟨hb,fT,zw2a,zw2b⟩:=alE hXq;replace fE:=a9 fE hb;replace fR:=a9 fR hb;replace fY:=a9 fY hb;replace fB:=mh hb fB;clear hb hXq;obtain⟨y0,y1,y2,y3,y4,y5,y6,y7,y8⟩:=blk9 fE;have yl:=aw fE
  go_wp2_with fail
  clear y0 y1 y2 y3 y4 y5 y6 y7 y8 yl;refine(HIN.out _ fB.out).mono ?_;rintro e w3 ⟨t2,v,yv,lb2,rfl,hc2,-,-,hv,hy2,hb⟩;obtain⟨kt2,nm2,ut2,tk2,ta2,tn2,tq2,fk2,fa2,fn2,fq2,lt2,ct2,mt2,qt2,rfl⟩:=hv.shape;obtain⟨k6,a6,n6,q6,rfl⟩:=hy2.shape;have z3:=hb.size;have HC2:=zq hc2;have h2':=hv.rg;have h6':Hid (ai (fun b=>w2.heap.size<=b∧b<w3.heap.size) w3 s.ty (.agg #[.int .i64 k6,.slice a6 n6 q6])):=zq (hy2.move (.weaken fun b h1 h2=>⟨h1,h2⟩));clear hv hy2 hc2 HIN;replace fE:=a9 fE hb;replace fR:=a9 fR hb;replace fY:=a9 fY hb;replace fB:=mh hb fB;replace fT:=a9 fT hb;clear hb;have h2_:=h2';have h6_:=h6';clear h2' h6'
  go_upto_region 5 with fail
  generalize hXq:World.alloc w3 _=w4;obtain⟨hb,fV,zw4a,zw4b⟩:=alE hXq;replace fE:=a9 fE hb;replace fR:=a9 fR hb;replace fY:=a9 fY hb;replace fB:=mh hb fB;replace fT:=a9 fT hb;replace h2_:=mh hb h2_;replace h6_:=mh hb h6_;clear hb hXq;generalize hXq:World.alloc w4 _=w5;obtain⟨hb,fS,zw5a,zw5b⟩:=alE hXq;replace fE:=a9 fE hb;replace fR:=a9 fR hb;replace fY:=a9 fY hb;replace fB:=mh hb fB;replace fT:=a9 fT hb;replace h2_:=mh hb h2_;replace h6_:=mh hb h6_;replace fV:=a9 fV hb;clear hb hXq;rw[show w4.heap.size=w3.heap.size+1 by omega] at fS;refine wh11 (bc0 fV) (bc1 fV) (bc2 fV) (bc3 fV) (bc4 fV) (bc5 fV) (bc6 fV) (bc7 fV) (bc8 fV) (bc0 fS) (bc1 fS) (fun U1 hb zU1a zU1b hH0=>?_);replace fE:=a9 fE hb;replace fR:=a9 fR hb;replace fY:=a9 fY hb;replace fB:=mh hb fB;replace fT:=a9 fT hb;replace h2_:=mh hb h2_;replace h6_:=mh hb h6_;replace fV:=a9 fV hb;replace fS:=a9 fS hb;clear hb;refine hwq hx0 (.agg (nv kt2 nm2 ut2 tk2 ta2 tn2 tq2 fk2 fa2 fn2 fq2 lt2 ct2 mt2 qt2)) hH0 ?_;refine hwq hx1 (.agg #[.int .i64 k6,.slice a6 n6 q6]) hH0 ?_;refine hwe hx2 (fun K hK=>?_);obtain⟨r0,rf0,r1,rf1,r2,rf2,r3,rf3,r4,rf4,r5,rf5,r6,rf6,r7,rf7,r8,rf8⟩:=blk9f fR
  go_simp
  (try go_wp2_with fail);have hQq:=c7 fR (.int .i64 kt2) (.string nm2) (.int .i64 ut2) (.int .i64 tk2) (.slice ta2 tn2 tq2) (.int .i64 fk2) (.slice fa2 fn2 fq2) (.int .i64 lt2) (.slice ct2 mt2 qt2);clear fR r0 rf0 r1 rf1 r2 rf2 r3 rf3 r4 rf4 r5 rf5 r6 rf6 r7 rf7 r8 rf8;obtain⟨X501,hXq,hsq,fR,zX501a,zX501b⟩:=hQq;rw[hXq];replace fE:=hsq.bk fE;replace fY:=hsq.bk fY;replace fB:=hsq.be fB;replace fT:=hsq.bk fT;replace h2_:=zq (h2_.out.move (hsq.keeps (fun b hb=>by have h1:=hb.1;have h2:=hb.2;omega)));replace h6_:=zq (hsq.rep (fun b hb=>by have h1:=hb.1;have h2:=hb.2;omega) h6_.out);replace fV:=hsq.bk fV;replace fS:=hsq.bk fS;refine hko hK (fun hH501=>?_);clear hK K hH0 hsq hXq
  try simp only[hwA]
  refine hwe hx3 (fun K hK=>?_);obtain⟨r0,r1,rf0,rf1⟩:=b8 fY
  go_simp
  (try go_wp2_with fail);have hQq:=aJ fY (.int .i64 k6) (.slice a6 n6 q6);clear fY r0 rf0 r1 rf1;obtain⟨X502,hXq,hsq,fY,zX502a,zX502b⟩:=hQq;rw[hXq];replace fE:=hsq.bk fE;replace fR:=hsq.bk fR;replace fB:=hsq.be fB;replace fT:=hsq.bk fT;replace h2_:=zq (h2_.out.move (hsq.keeps (fun b hb=>by have h1:=hb.1;have h2:=hb.2;omega)));replace h6_:=zq (hsq.rep (fun b hb=>by have h1:=hb.1;have h2:=hb.2;omega) h6_.out);replace fV:=hsq.bk fV;replace fS:=hsq.bk fS;refine hko hK (fun hH502=>?_);clear hK K hH501 hsq hXq
  try simp only[hwA]
  refine hwq hx4 (.bool true) hH502 ?_;refine hwd ?_;clear hH502;obtain⟨rc0,rc1,rc2,rc3,rc4,rc5,rc6,rc7,rc8⟩:=blk9 fR;obtain⟨ry0,ry1⟩:=blk2 fY
  go_wp2_with fail
  refine bq (.tuple #[.agg (nv kt2 nm2 ut2 tk2 ta2 tn2 tq2 fk2 fa2 fn2 fq2 lt2 ct2 mt2 qt2),.agg #[.int .i64 k6,.slice a6 n6 q6],.bool true]) (by simp[results,Try.results40,go_sem,rc0,rc1,rc2,rc3,rc4,rc5,rc6,rc7,rc8,ry0,ry1]) ?_;rw[<-HQQ.out];have h1:=HC2.out;have h2:=HSZ.out
  exact .inr ⟨t2,s,_,_,rfl,by omega,HVS.out,h2_.out.move (.weaken fun b h _=>by have h1:=h.1;show w.heap.size<=b;omega),h6_.out.move (.weaken fun b h _=>by have h1:=h.1;show w.heap.size<=b;omega),fB.out⟩
theorem jK (dd:Int)(s:S)(r p:Nat)(l:List Bd)(w:World)(c y:Value)(hrd0:aR w r p)(hcx:aE (· ≠ r) w l c)(hcv:dz l c)(hok:cz l)(hl:l.length+mkM dd s<=60)(hs:s.vd=true)(hy:ai (· ≠ r) w s.ty y)(hd5:dd<=5)(hdlo : -1000<=dd)(hp:p+mkB dd s<=1125899906800000)
  (IH : ∀(s':S) (l':List Bd),mkM (dd-1) s'<mkM dd s->s'.vd=true->cz l'->l'.length<=l.length+1->(∀b∈l',b.name.size<=1)->MkC r (dd-1) s' l') (hnl : ∀b∈l,b.name.size<=1) :
  Calls Try.prog 74 #[.pointer (some ⟨r,0,none⟩),c,y,.int .i64 dd] w (DTm r p (mkB dd s) (mkB dd s) w):=by
 obtain⟨kt,ta,tn,tq,rfl⟩:=hy.shape;obtain⟨xa,xn,xq,rfl⟩:=hcv.shape;refine(dn dd s r p l w kt ta tn tq xa xn xq).2 hrd0 hcx hcv hok hl hs hy hd5 hdlo hp IH hnl (fun _=>mkW0 dd s r p l w kt ta tn tq xa xn xq) (fun _=>mkW1 dd s r p l w kt ta tn tq xa xn xq) (fun _=>mkW2 dd s r p l w kt ta tn tq xa xn xq) (fun _=>mkW3 dd s r p l w kt ta tn tq xa xn xq) (fun _=>?_)
 cases s with
 | zero=>exact absurd hs (by decide)
 | int=>exact mkWint dd r p l w kt ta tn tq xa xn xq
 | any=>exact mkWany dd r p l w kt ta tn tq xa xn xq
 | bool=>exact mkWbool dd r p l w kt ta tn tq xa xn xq
 | fn a b=>exact mkWfn dd r p l w kt ta tn tq xa xn xq a b
 | pr a b=>exact mkWpr dd r p l w kt ta tn tq xa xn xq a b
theorem j8 (r:Nat) : ∀(n:Nat) (dd:Int) (s:S) (l:List Bd),mkM dd s<=n->l.length+n<=60->s.vd=true->cz l->(∀b∈l,b.name.size<=1)->dd<=5->(n:Int)-900<=dd->MkC r dd s l
 | 0,dd,s,l,h,_,_,_,_,_,_=>absurd h (by unfold mkM;omega)
 | n+1,dd,s,l,hm,hl,hs,hok,hnl,h5,hlo=>by
  intro q W c y hrd hcx hcv hy hp
  exact jK dd s r q l W c y hrd hcx hcv hok (by omega) hs hy h5 (by omega) hp
   (fun s' l' h1 h2 h3 h4 h6=>j8 r n (dd-1) s' l' (by omega) (by omega) h2 h3 h6 (by omega) (by omega)) hnl
theorem nB (r p:Nat)(w:World)(hrd0:aR w r p)(hp:p<=990000000):Calls Try.prog 41 #[.pointer (some ⟨r,0,none⟩)] w (DTm r p 5000000 5120 w):=by
 have hrl:=hrd0.1;have HRD0:=zq hrd0;clear hrd0
 go_enter Try.func41,Try.ntmps41
 go_wp2_with fail
 go_loopw [3] (fun s3 wr=>∃(j q:Nat),j<=4∧s3 = .int .i64 (j:Int)∧q<=p+j*1024100∧w.heap.size<wr.heap.size∧Hid (Chg [r] w wr)∧Hid (aR wr r (q))∧Hid (wr.heap[w.heap.size]?=some (.cells (nz 0) 28 (0,0)))) (fun i _=>4-(intOf i).toNat)
 case atStart=>exact⟨0,p,by omega,rfl,by omega,by simp,zq (Chg.of_below ag),zq (HRD0.out.below ag),zq (aA rfl)⟩
 case round=>
  obtain⟨j,q,hj,rfl,hq,hsz,fC,rd,hfR⟩:=hrel;have fR:=hfR.out;clear hfR
  by_cases hlt:j<4
  ·have hdj:decide ((j:Int)<4)=true:=decide_eq_true (by omega)
   go_wp2_with fail
   refine(bY (fun x=>1<=x∧x<=3) r (q) _ 4 4 _ (rd.out.below ag) (by omega) (by omega) (by omega) (Nat.le_refl _) (by omega) (bJ [1,2,2,3] rfl _ (by decide))).mono ?_;rintro e w1 ⟨n1,rfl,hn1,hrd,hb0⟩;have hb:=Chg.trans (Chg.of_below (ag (w:=wr))) hb0;clear hb0;have zw1:=hb.size;(try simp only[World.size_alloc] at zw1);replace fC:=zqc fC hb;replace fR:=ay fR hb;replace rd:=zq hrd;clear hrd;clear hb;obtain⟨d1,rfl⟩ : ∃d:Nat,n1=d:=⟨n1.toNat,by omega⟩
   go_wp2_with fail
   refine(gJ d1 r _ _ (by omega) (by omega) rd.out (by omega)).mono ?_;rintro e w2 ⟨s2,v,qs,rfl,hvs2,hv,hqs,hrd,hb⟩;obtain⟨kb,ab,nb,qb,rfl⟩:=hv.shape;have hB_':=hv.rg;clear hv;have zw2:=hb.size;(try simp only[World.size_alloc] at zw2);replace fC:=zqc fC hb;replace fR:=ay fR hb;replace rd:=zq hrd;clear hrd;clear hb;have hB_:=hB_';clear hB_'
   go_wp2_with fail
   refine(bY (fun x=>3<=x∧x<=5) r (qs) _ 4 4 _ (rd.out.below ag) (by omega) (by omega) (by omega) (Nat.le_refl _) (by omega) (bJ [4,3,5,4] rfl _ (by decide))).mono ?_;rintro e w3 ⟨n2,rfl,hn2,hrd,hb0⟩;have hb:=Chg.trans (Chg.of_below (ag (w:=w2))) hb0;clear hb0;have zw3:=hb.size;(try simp only[World.size_alloc] at zw3);replace fC:=zqc fC hb;replace fR:=ay fR hb;replace hB_:=zq (hB_.out.move (kpN hb (fun b hb=>by have h1:=hb.1;have h2:=hb.2;omega)));replace rd:=zq hrd;clear hrd;clear hb;have HMK:=zq (j8 r 29 n2 s2 [] (by have h1:=S.vd_dep hvs2;unfold mkM;omega) (by simp) hvs2 (fun b hb=>by cases hb) (fun b hb=>by cases hb) (by omega) (by omega));have HBD:mkB n2 s2<=1024000:=by rw[dY s2 (by omega)];exact mkU_top (by omega)
   go_wp2_with fail
   refine(HMK.out _ _ _ _ rd.out (by unfold aE aL;exact⟨none,0,rfl,Nat.le_refl _,by unfold maxLen;omega,.inl rfl⟩) (.inl ⟨rfl,rfl⟩) (hB_.out.move (.weaken fun b h _=>by have h1:=h.1;intro e;omega)) (by omega)).mono ?_;rintro e w4 ⟨t2,v,q2,rfl,hcn2,hv,hq2,hrd,hb⟩;obtain⟨kt2,nm2,ut2,tk2,ta2,tn2,tq2,fk2,fa2,fn2,fq2,lt2,ct2,mt2,qt2,rfl⟩:=hv.shape;have HC2:=zq hcn2;have h2_':=hv.rg;clear hv hcn2;have zw4:=hb.size;(try simp only[World.size_alloc] at zw4);replace fC:=zqc fC hb;replace fR:=ay fR hb;replace hB_:=zq (hB_.out.move (kpN hb (fun b hb=>by have h1:=hb.1;have h2:=hb.2;omega)));replace rd:=zq hrd;clear hrd;clear hb;have h2_:=h2_';clear h2_';have hbv:=ag (w:=w4) (o:=.cells (nv kt2 nm2 ut2 tk2 ta2 tn2 tq2 fk2 fa2 fn2 fq2 lt2 ct2 mt2 qt2) 28);have fE:=aA (w:=w4) (o:=.cells (nv kt2 nm2 ut2 tk2 ta2 tn2 tq2 fk2 fa2 fn2 fq2 lt2 ct2 mt2 qt2) 28) (b:=w4.heap.size) rfl;replace fC:=zqb fC hbv;replace rd:=mh hbv rd;replace fR:=a9 fR hbv;replace hB_:=mh hbv hB_;replace h2_:=mh hbv h2_;clear hbv;obtain⟨ov,hov⟩ : ∃o,dy t2=o:=⟨_,rfl⟩
   have HOV:=zq hov;have HTO:=zq (hov▸jn _ t2 _ _ h2_.out);clear hov;obtain⟨y0,y1,y2,y3,y4,y5,y6,y7,y8⟩:=blk9 fE;have lyE:=aw fE
   go_wp2_with fail
   refine HTO.out.mono ?_;rintro e w5 ⟨k5,a5,n5,q5,rfl,-,hb⟩;clear HTO y0 y1 y2 y3 y4 y5 y6 y7 y8;have zw5:=hb.size;(try simp only[World.size_alloc] at zw5);replace fC:=zqb fC hb;replace rd:=mh hb rd;replace fR:=a9 fR hb;replace hB_:=mh hb hB_;replace h2_:=mh hb h2_;replace fE:=a9 fE hb;clear hb;have hbw:=ag (w:=w5) (o:=.cells #[.int .i64 k5,.slice a5 n5 q5] 25)
   cases ov with
   | none=>
    replace fC:=zqb fC hbw;replace rd:=mh hbw rd;replace fR:=a9 fR hbw;replace hB_:=mh hbw hB_;replace h2_:=mh hbw h2_;replace fE:=a9 fE hbw;clear hbw
    go_wp2_with fail
    go_roundw
    case rel=>exact⟨j+1,q2,by omega,by go_num,by omega,by simp;omega,fC,rd,zq fR⟩
    case measure=>simp[intOf];omega
   | some sv=>
    replace fC:=zqb fC hbw;replace rd:=mh hbw rd;replace fR:=a9 fR hbw;replace hB_:=mh hbw hB_;replace h2_:=mh hbw h2_;replace fE:=a9 fE hbw;clear hbw;have y0:=ah fE (o:=0) rfl;have x0:=ah fR (o:=0) rfl;have f0:=aj fR 0;have y1:=ah fE (o:=1) rfl;have x1:=ah fR (o:=1) rfl;have f1:=aj fR 1;have y2:=ah fE (o:=2) rfl;have x2:=ah fR (o:=2) rfl;have f2:=aj fR 2;have y3:=ah fE (o:=3) rfl;have x3:=ah fR (o:=3) rfl;have f3:=aj fR 3;have y4:=ah fE (o:=4) rfl;have x4:=ah fR (o:=4) rfl;have f4:=aj fR 4;have y5:=ah fE (o:=5) rfl;have x5:=ah fR (o:=5) rfl;have f5:=aj fR 5;have y6:=ah fE (o:=6) rfl;have x6:=ah fR (o:=6) rfl;have f6:=aj fR 6;have y7:=ah fE (o:=7) rfl;have x7:=ah fR (o:=7) rfl;have f7:=aj fR 7;have y8:=ah fE (o:=8) rfl;have x8:=ah fR (o:=8) rfl;have f8:=aj fR 8;have lyE5:=aw fE;have lxR:=aw fR;have hval:=(mE t2 sv HOV.out).1;have hcc:=Tm.cnt_valid30 hval;have hRR:aB (w.heap.size+1 <= ·) _ t2 (.agg (nv kt2 nm2 ut2 tk2 ta2 tn2 tq2 fk2 fa2 fn2 fq2 lt2 ct2 mt2 qt2)):=h2_.out.move (.weaken fun b h _=>by have h1:=h.1;show w.heap.size+1<=b;omega);have HEND:=zq (DTm.stored (p:=p) (r:=r) (w:=w) (R:=w.heap.size) (B:=w.heap.size+1) (c:=5000000) (m:=5120) (v0:=.int .i64 kt2) (v1:=.string nm2) (v2:=.int .i64 ut2) (v3:=.int .i64 tk2) (v4:=.slice ta2 tn2 tq2) (v5:=.int .i64 fk2) (v6:=.slice fa2 fn2 fq2) (v7:=.int .i64 lt2) (v8:=.slice ct2 mt2 qt2) hRR (by omega) (by omega) (by omega) rd.out fC.out (by omega) (by omega) (by omega));clear hRR hcc hval
    go_wp2_with fail
    refine bq (.agg (nv kt2 nm2 ut2 tk2 ta2 tn2 tq2 fk2 fa2 fn2 fq2 lt2 ct2 mt2 qt2)) (by simp[results,Try.results41,go_sem,x0,x1,x2,x3,x4,x5,x6,x7,x8]) ?_
    exact HEND.out
  ·have hdj:decide ((j:Int)<4)=false:=decide_eq_false (by omega)
   go_wp2_with fail
   refine(mf r q _ rd.out (by omega)).mono ?_;rintro e w9 ⟨t2,v,q2,rfl,hcn2,hv,hq2,hrd,hb⟩;obtain⟨kt2,nm2,ut2,tk2,ta2,tn2,tq2,fk2,fa2,fn2,fq2,lt2,ct2,mt2,qt2,rfl⟩:=hv.shape;have HC2:=zq hcn2;have h2_':=hv.rg;clear hv hcn2;have zw9:=hb.size;(try simp only[World.size_alloc] at zw9);replace fC:=zqc fC hb;replace fR:=ay fR hb;replace rd:=zq hrd;clear hrd;clear hb;have h2_:=h2_';clear h2_';obtain⟨x0,f0,x1,f1,x2,f2,x3,f3,x4,f4,x5,f5,x6,f6,x7,f7,x8,f8⟩:=blk9f fR;have lxR:=aw fR;have hcc:=HC2.out;have hRR:aB (w.heap.size+1 <= ·) w9 t2 (.agg (nv kt2 nm2 ut2 tk2 ta2 tn2 tq2 fk2 fa2 fn2 fq2 lt2 ct2 mt2 qt2)):=h2_.out.move (.weaken fun b h _=>by have h1:=h.1;show w.heap.size+1<=b;omega);have HEND:=zq (DTm.stored (p:=p) (r:=r) (w:=w) (R:=w.heap.size) (B:=w.heap.size+1) (c:=5000000) (m:=5120) (v0:=.int .i64 kt2) (v1:=.string nm2) (v2:=.int .i64 ut2) (v3:=.int .i64 tk2) (v4:=.slice ta2 tn2 tq2) (v5:=.int .i64 fk2) (v6:=.slice fa2 fn2 fq2) (v7:=.int .i64 lt2) (v8:=.slice ct2 mt2 qt2) hRR (by omega) (by omega) (by omega) rd.out fC.out (by omega) (by omega) (by omega));clear hRR hcc
   go_wp2_with fail
   refine bq (.agg (nv kt2 nm2 ut2 tk2 ta2 tn2 tq2 fk2 fa2 fn2 fq2 lt2 ct2 mt2 qt2)) (by simp[results,Try.results41,go_sem,x0,x1,x2,x3,x4,x5,x6,x7,x8]) ?_
   exact HEND.out
theorem ir (r:Nat)(y0:Value)(w:World)(r0:cl w r y0)(hr:r<=w.heap.size) :
  Calls Try.prog 5 #[y0] w (DR1 w):=by
 obtain⟨a0,n0,q0,rfl⟩:=r0.shape
 go_enter Try.func5,Try.ntmps5
 go_wp2_with fail
 refine(ic _ _ _ (r0.below ag) (by first | omega | (simp;done) | (simp;omega))).mono ?_;rintro e w1 ⟨t1,v1,rfl,hv1,hb1⟩;obtain⟨kv1,av1,nv1,qv1,rfl⟩:=hv1.shape;have hB:=(al ag hb1)
 have zw1:=hB.size;have f0_0:w1.frozen? ⟨w.heap.size,0,none⟩=false:=aG hb1 (ao (by simp) 0) (bT (by simp) 0);have f0_1:w1.frozen? ⟨w.heap.size,1,none⟩=false:=aG hb1 (ao (by simp) 1) (bT (by simp) 1);have c0_0:w1.cell? ⟨w.heap.size,0,none⟩=some (.int .i64 0):=af hb1 (ao (by simp) 0);have c0_1:w1.cell? ⟨w.heap.size,1,none⟩=some (.slice none 0 0):=af hb1 (ao (by simp) 1);have d0_w1:=World.block_lt_of_cell? _ _ c0_0
 go_wp2_with fail
 refine bq (.agg #[.int .i64 kv1,.slice av1 nv1 qv1]) (by simp[results,Try.results5,go_sem,c0_0,c0_1]) ?_
 exact⟨_,_,rfl,(ai.lower ((hv1.setCell (by first | (show w.heap.size<_;omega) | (show w.heap.size<_;simp;omega) | simp) _).setCell (by first | (show w.heap.size<_;omega) | (show w.heap.size<_;simp;omega) | simp) _) (by first | omega | (simp;done) | (simp;omega))),((hB.setCell (by show w.heap.size<=w.heap.size;omega) _).setCell (by show w.heap.size<=w.heap.size;omega) _)⟩
def cM (t:Tm):Option Ty:=if t.castValid then (t.castS []).map S.ty else none
def dQ (t:Tm):Ty:=(cM t).getD (.mk 0 [])
theorem jG (F:Nat->Prop)(t:Tm)(y:Value)(w:World)(hy:aB F w t y):Calls Try.prog 7 #[y] w (RetSF (cM t) w):=by
 have HV:=zq (fun W (h:Below w.heap.size w W)=>kW F t y W (hy.below h));have H4:=zq (fun(hv:t.castValid=true) W (h:Below w.heap.size w W)=>jm t 40 [] (.slice none 0 0) y W (fun _=>True) F (by unfold Tm.castValid at hv;simp at hv;exact hv.1) (by simp) (fun b hb=>by cases hb) (.inl ⟨rfl,rfl⟩) (by unfold aE aL;exact⟨none,0,rfl,Nat.le_refl _,by unfold maxLen;omega,.inl rfl⟩) (hy.below h));obtain⟨k,nm,u,tk,ta,tn,tq,fk,fa,fn,fq,lb,ca,cm,cq,rfl⟩:=hy.shape;have fE:=a9 (aA (w:=w) (o:=.cells (nv k nm u tk ta tn tq fk fa fn fq lb ca cm cq) 28) rfl) (ag (o:=.cells #[.int .i64 0,.slice none 0 0] 25));have fR:=aA (w:=w.alloc (.cells (nv k nm u tk ta tn tq fk fa fn fq lb ca cm cq) 28)) (o:=.cells #[.int .i64 0,.slice none 0 0] 25) (b:=w.heap.size+1) (by simp);have HO:=zq (show cM t=if t.castValid then (t.castS []).map S.ty else none from rfl);generalize cM t=O at HO ⊢;generalize (t.castS []).map S.ty=O1 at HO H4;generalize hcv:t.castValid=cv at HO HV H4;clear hcv hy
 cases cv with
 | false=>
  have HOO:=zq (show O=none from by rw[HO.out];rfl);clear HO
  go_enter Try.func7,Try.ntmps7
  go_wp2_with fail
  refine(HV.out _ (al ag ag)).mono ?_;rintro e w1 ⟨rfl,hb1⟩;replace fR:=a9 fR hb1;have fC:=zq (al (al ag ag) hb1);clear hb1 fE;obtain⟨r0,r1⟩:=blk2 fR;have rf0:=aj fR 0;have rf1:=aj fR 1
  go_wp2_with fail
  have hY:((w1.setCell ⟨w.heap.size+1,0,none⟩ (.int .i64 0)).setCell ⟨w.heap.size+1,1,none⟩ (.slice none 0 0)).heap[w.heap.size+1]?=some (.cells #[.int .i64 0,.slice none 0 0] 25 (0,0)):=az (az fR rfl) rfl;obtain⟨rc0,rc1⟩:=blk2 hY;refine bq (.tuple #[.agg #[.int .i64 0,.slice none 0 0],.bool false]) (by simp[results,Try.results7,go_sem,rc0,rc1]) ?_;rw[HOO.out]
  exact⟨_,_,_,_,rfl,ai.zeroG,(fC.out.setCell (p:=⟨w.heap.size+1,0,none⟩) (by show w.heap.size<=w.heap.size+1;omega) _).setCell (p:=⟨w.heap.size+1,1,none⟩) (by show w.heap.size<=w.heap.size+1;omega) _⟩
 | true=>
  have HOO:=zq (show O=O1 from by rw[HO.out];rfl);clear HO
  go_enter Try.func7,Try.ntmps7
  go_wp2_with fail
  refine(HV.out _ (al ag ag)).mono ?_;rintro e w1 ⟨rfl,hb1⟩;replace fR:=a9 fR hb1;replace fE:=a9 fE hb1;have fC:=zq (al (al ag ag) hb1);have H5:=zq (H4.out (by simp) w1 fC.out);have hz1:=hb1.size;simp only[World.size_alloc] at hz1;clear hb1 H4;obtain⟨d0,d1,d2,d3,d4,d5,d6,d7,d8⟩:=blk9 fE
  go_wp2_with fail
  refine H5.out.mono ?_;rintro e w2 ⟨k2,a2,n2,q2,b2,t2,rfl,hb2,ht2,ho2,hst⟩;replace fR:=a9 fR hst;replace fC:=mh hst fC;have HT:=zq ht2;have HB:=zq hb2;have HOT:=zq ho2;have hz2:=hst.size;clear ht2 ho2 hst d0 d1 d2 d3 d4 d5 d6 d7 d8;have hne : ∀b,(False∨w1.heap.size<=b)->b≠w.heap.size+1:=fun b h=>by
   have h1:=h.elim False.elim id
   omega
  have HNE:=zq hne;clear hne hb2
  cases b2 with
  | false=>
   have HN:=zq (show O=none from by rw[HOO.out];cases h:O1 with | none=>rfl | some x=>have:=HB.out;rw[h] at this;cases this)
   go_wp2_with fail
   refine(kj _ _ _ _ _).mono ?_;rintro e w3 ⟨rfl,hb3⟩;replace fR:=a9 fR hb3;replace fC:=mh hb3 fC;clear hb3;obtain⟨r0,r1⟩:=blk2 fR;have rf0:=aj fR 0;have rf1:=aj fR 1
   go_wp2_with fail
   have hY:((w3.setCell ⟨w.heap.size+1,0,none⟩ (.int .i64 0)).setCell ⟨w.heap.size+1,1,none⟩ (.slice none 0 0)).heap[w.heap.size+1]?=some (.cells #[.int .i64 0,.slice none 0 0] 25 (0,0)):=az (az fR rfl) rfl;obtain⟨rc0,rc1⟩:=blk2 hY;refine bq (.tuple #[.agg #[.int .i64 0,.slice none 0 0],.bool false]) (by simp[results,Try.results7,go_sem,rc0,rc1]) ?_;rw[HN.out]
   exact⟨_,_,_,_,rfl,ai.zeroG,(fC.out.setCell (p:=⟨w.heap.size+1,0,none⟩) (by show w.heap.size<=w.heap.size+1;omega) _).setCell (p:=⟨w.heap.size+1,1,none⟩) (by show w.heap.size<=w.heap.size+1;omega) _⟩
  | true=>
   have HN:=zq (show O=some t2 from by rw[HOO.out];cases h:O1 with | none=>have:=HB.out;rw[h] at this;cases this | some x=>rw[HOT.out x h])
   go_wp2_with fail
   refine(kl _ _ _ _ _).mono ?_;rintro e w3 ⟨rfl,hb3⟩;replace fR:=a9 fR hb3;replace fC:=mh hb3 fC;replace HT:=mh hb3 HT;clear hb3;obtain⟨r0,r1⟩:=blk2 fR;have rf0:=aj fR 0;have rf1:=aj fR 1
   go_wp2_with fail
   have hY:((w3.setCell ⟨w.heap.size+1,0,none⟩ (.int .i64 k2)).setCell ⟨w.heap.size+1,1,none⟩ (.slice a2 n2 q2)).heap[w.heap.size+1]?=some (.cells #[.int .i64 k2,.slice a2 n2 q2] 25 (0,0)):=az (az fR rfl) rfl;obtain⟨rc0,rc1⟩:=blk2 hY;refine bq (.tuple #[.agg #[.int .i64 k2,.slice a2 n2 q2],.bool true]) (by simp[results,Try.results7,go_sem,rc0,rc1]) ?_;rw[HN.out]
   exact⟨_,_,_,_,rfl,(ai.setN (ai.setN HT.out HNE.out) HNE.out).move (.weaken fun b h _=>by have h1:=h.elim False.elim id;omega),(fC.out.setCell (p:=⟨w.heap.size+1,0,none⟩) (by show w.heap.size<=w.heap.size+1;omega) _).setCell (p:=⟨w.heap.size+1,1,none⟩) (by show w.heap.size<=w.heap.size+1;omega) _⟩
def cy (e:Tm)(t u:Ty):Tm:=.mk 14 {data:=#[]} 0 u t 9 [e]
theorem ig {e:Tm}{t u:Ty}(h:(cy e t u).castValid=true):u.valid=true∧(t.valid&&u.valid&&t.cons u)=true:=by
 have h1:(cy e t u).shape 13 40=true:=by
  unfold Tm.castValid at h;simp only[Bool.and_eq_true] at h
  exact h.1
 obtain⟨-,-,-,ho,-⟩:=Tm.shape_parts h1;have h2:ownB 14 0 9 {data:=#[]} u.valid u.noneB t.noneB (t.valid&&u.valid&&t.cons u)=true:=ho;unfold ownB at h2;simp only[show((14:Int)==14)=true from rfl,Bool.or_true,if_true,Bool.and_eq_true] at h2;refine⟨h2.1.2,?_⟩;simp only[Bool.and_eq_true]
 exact h2.2.1
theorem nO {e:Tm}{t u:Ty}(h:cM e=some t):cM (cy e t u)=if (cy e t u).castValid then some u else none:=by
 unfold cM at h ⊢
 split at h
 ·cases hs:e.castS [] with
  | none=>rw[hs] at h;cases h
  | some s=>
   rw[hs] at h;simp only[Option.map_some,Option.some.injEq] at h
   by_cases hv:(cy e t u).castValid=true
   ·rw[if_pos hv,if_pos hv]
    have e1:(cy e t u).castS []=some u.toS:=by
     unfold cy;rw[Tm.castS,if_neg (by omega),if_neg (by omega),if_neg (by omega),if_neg (by omega),Tm.castsS,hs];simp only[Tm.castsS,aM];rw[if_neg (by omega),if_pos trivial,if_pos (by rw[h];exact Ty.same_refl t)]
    rw[e1,Option.map_some,Ty.toS_ty (ig hv).1]
   ·rw[if_neg hv,if_neg hv]
 ·cases h
theorem ei (F:Nat->Prop)(t:Tm)(y:Value)(w:World)(hy:aB F w t y):Calls Try.prog 6 #[y] w (RetTyB (dQ t) (cM t).isSome w):=by
 have HV:=zq (fun W (h:Below w.heap.size w W)=>eG F t y W (hy.below h));have H4:=zq (fun(hv:t.castValid=true) W (h:Below w.heap.size w W)=>implCT t 40 [] (.slice none 0 0) y W F (by unfold Tm.castValid at hv;simp at hv;exact hv.1) (by simp) (fun b hb=>by cases hb) (.inl ⟨rfl,rfl⟩) (by unfold aE aL;exact⟨none,0,rfl,Nat.le_refl _,by unfold maxLen;omega,.inl rfl⟩) (hy.below h));have HVD:=zq (fun(hv:t.castValid=true) (h:S) (e:t.castS []=some h)=>dB t 40 [] (by unfold Tm.castValid at hv;simp at hv;exact hv.1) (fun b hb=>by cases hb) h e);obtain⟨k,nm,u,tk,ta,tn,tq,fk,fa,fn,fq,lb,ca,cm,cq,rfl⟩:=hy.shape;have fE:=a9 (aA (w:=w) (o:=.cells (nv k nm u tk ta tn tq fk fa fn fq lb ca cm cq) 28) rfl) (ag (o:=.cells #[.int .i64 0,.slice none 0 0] 25));have fR:=aA (w:=w.alloc (.cells (nv k nm u tk ta tn tq fk fa fn fq lb ca cm cq) 28)) (o:=.cells #[.int .i64 0,.slice none 0 0] 25) (b:=w.heap.size+1) (by simp);have HO:=zq (show cM t=if t.castValid then (t.castS []).map S.ty else none from rfl);unfold dQ;generalize cM t=O at HO ⊢;generalize t.castS []=O1 at HO H4 HVD;generalize hcv:t.castValid=cv at HO HV H4 HVD;clear hcv hy
 cases cv with
 | false=>
  have HOO:=zq (show O=none from by rw[HO.out];rfl);clear HO
  go_enter Try.func6,Try.ntmps6
  go_wp2_with fail
  refine(HV.out _ (al ag ag)).mono ?_;rintro e w1 ⟨rfl,hb1⟩;replace fR:=a9 fR hb1;have fC:=zq (al (al ag ag) hb1);clear hb1 fE;obtain⟨r0,r1⟩:=blk2 fR;have rf0:=aj fR 0;have rf1:=aj fR 1
  go_wp2_with fail
  have hY:((w1.setCell ⟨w.heap.size+1,0,none⟩ (.int .i64 0)).setCell ⟨w.heap.size+1,1,none⟩ (.slice none 0 0)).heap[w.heap.size+1]?=some (.cells #[.int .i64 0,.slice none 0 0] 25 (0,0)):=az (az fR rfl) rfl;obtain⟨rc0,rc1⟩:=blk2 hY;refine bq (.tuple #[.agg #[.int .i64 0,.slice none 0 0],.bool false]) (by simp[results,Try.results6,go_sem,rc0,rc1]) ?_;rw[HOO.out]
  exact⟨_,rfl,bx.ty (bx.nil _ _),(fC.out.setCell (p:=⟨w.heap.size+1,0,none⟩) (by show w.heap.size<=w.heap.size+1;omega) _).setCell (p:=⟨w.heap.size+1,1,none⟩) (by show w.heap.size<=w.heap.size+1;omega) _⟩
 | true=>
  have HOO:=zq (show O=O1.map S.ty from by rw[HO.out];rfl);clear HO
  go_enter Try.func6,Try.ntmps6
  go_wp2_with fail
  refine(HV.out _ (al ag ag)).mono ?_;rintro e w1 ⟨rfl,hb1⟩;replace fR:=a9 fR hb1;replace fE:=a9 fE hb1;have fC:=zq (al (al ag ag) hb1);have H5:=zq (H4.out (by simp) w1 fC.out);have hz1:=hb1.size;simp only[World.size_alloc] at hz1;clear hb1 H4;obtain⟨d0,d1,d2,d3,d4,d5,d6,d7,d8⟩:=blk9 fE
  go_wp2_with fail
  refine H5.out.mono ?_;rintro e w2 ⟨k2,a2,n2,q2,b2,t2,rfl,hb2,ht2,ho2,hst⟩;replace fR:=a9 fR hst;replace fC:=mh hst fC;have HT:=zq ht2;have HOT:=zq ho2;have hz2:=hst.size;have lR2:=aw fR;have lR3:w.heap.size+1<w2.heap.size+1:=by omega
  clear ht2 ho2 hst d0 d1 d2 d3 d4 d5 d6 d7 d8
  cases O1 with
  | none=>
   obtain rfl:b2=false:=hb2;have HN:=zq (show O=none from HOO.out);obtain⟨r0,r1⟩:=blk2 fR;have rf0:=aj fR 0;have rf1:=aj fR 1
   go_wp2_with fail
   have hY:(((w2.setCell ⟨w.heap.size+1,0,none⟩ (.int .i64 0)).setCell ⟨w.heap.size+1,1,none⟩ (.slice none 0 0)).alloc (.cells #[.int .i64 k2,.slice a2 n2 q2] 25)).heap[w.heap.size+1]?=some (.cells #[.int .i64 0,.slice none 0 0] 25 (0,0)):=a9 (az (az fR rfl) rfl) ag;obtain⟨rc0,rc1⟩:=blk2 hY;refine bq (.tuple #[.agg #[.int .i64 0,.slice none 0 0],.bool false]) (by simp[results,Try.results6,go_sem,rc0,rc1]) ?_;rw[HN.out]
   exact⟨_,rfl,bx.ty (bx.nil _ _),al ((fC.out.setCell (p:=⟨w.heap.size+1,0,none⟩) (by show w.heap.size<=w.heap.size+1;omega) _).setCell (p:=⟨w.heap.size+1,1,none⟩) (by show w.heap.size<=w.heap.size+1;omega) _) ag⟩
  | some s=>
   obtain rfl:b2=true:=hb2;obtain rfl:t2=s.ty:=HOT.out _ rfl;have HN:=zq (show O=some s.ty from HOO.out);have HW:=zq (fun W (h:Below w2.heap.size w2 W)=>dm _ s.ty _ W (HT.out.below h) (S.cnt_ok (HVD.out (by simp) s rfl)));have fR2:=a9 fR (ag (o:=.cells #[.int .i64 k2,.slice a2 n2 q2] 25))
   go_wp2_with fail
   refine(HW.out _ ag).mono ?_;rintro e w3 ⟨v3,rfl,hv3,hb3⟩;obtain⟨k3,a3,n3,q3,rfl⟩:=hv3.shape;have HV3:=zq hv3;have fR3:=a9 fR2 hb3;replace fC:=zq (al (al fC.out ag) hb3);have hz3:=hb3.size;simp only[World.size_alloc] at hz3;clear hb3 hv3;obtain⟨r0,r1⟩:=blk2 fR3;have rf0:=aj fR3 0;have rf1:=aj fR3 1
   go_wp2_with fail
   have hY:((w3.setCell ⟨w.heap.size+1,0,none⟩ (.int .i64 k3)).setCell ⟨w.heap.size+1,1,none⟩ (.slice a3 n3 q3)).heap[w.heap.size+1]?=some (.cells #[.int .i64 k3,.slice a3 n3 q3] 25 (0,0)):=az (az fR3 rfl) rfl;obtain⟨rc0,rc1⟩:=blk2 hY;refine bq (.tuple #[.agg #[.int .i64 k3,.slice a3 n3 q3],.bool true]) (by simp[results,Try.results6,go_sem,rc0,rc1]) ?_;rw[HN.out]
   exact⟨_,rfl,bp.mono ((HV3.out.setCell (by show w.heap.size+1<_;simp;omega) _).setCell (by show w.heap.size+1<_;simp;omega) _) (by simp;omega),(fC.out.setCell (p:=⟨w.heap.size+1,0,none⟩) (by show w.heap.size<=w.heap.size+1;omega) _).setCell (p:=⟨w.heap.size+1,1,none⟩) (by show w.heap.size<=w.heap.size+1;omega) _⟩
end Go.Proofs.Ytfhglkmjibjjoaa

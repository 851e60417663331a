/- spec.l4Insert. -/
import Derived.Test.YtfahhonmiimmdaaGreatB35
set_option linter.unusedSimpArgs false
set_option linter.unusedVariables false
set_option maxRecDepth 100000
set_option maxHeartbeats 16000000
namespace Go.Proofs.YtfahhonmiimmdaaGreat
open Go.RowKit
theorem stLet1 {W:World}{b:Nat}{a0 a1 a2 a3 a4 a5 a6 a7 a8:Value}{T:TypeId}(h:W.heap[b]?=some (.cells #[a0,a1,a2,a3,a4,a5,a6,a7,a8] T (0,0)))(v:Value) :
  ∃X,World.setCell W ⟨b,8,none⟩ v=X∧HSt b W X∧X.heap[b]?=some (.cells #[a0,a1,a2,a3,a4,a5,a6,a7,v] T (0,0))∧W.heap.size≤X.heap.size∧X.heap.size≤W.heap.size:=
 ⟨_,rfl,(HSt.refl b W).step,aI h rfl,by simp[World.setCell],by simp[World.setCell]⟩
theorem ax.keepG {F:Nat→Prop}{w w':World}{t:Tm}{y:Value}(h:ax F w t y)(hz:w.heap.size≤w'.heap.size)(hg : ∀b,F b→b<w.heap.size→w'.heap[b]?=w.heap[b]?):ax F w' t y:=h.move ⟨hz,fun _ h _=>h,hg⟩
theorem ao.keepG {F:Nat→Prop}{w w':World}{t:Ty}{y:Value}(h:ao F w t y)(hz:w.heap.size≤w'.heap.size)(hg : ∀b,F b→b<w.heap.size→w'.heap[b]?=w.heap[b]?):ao F w' t y:=h.move ⟨hz,fun _ h _=>h,hg⟩
theorem aA.keepG {F:Nat→Prop}{w w':World}{t:List Ty}{y:Value}(h:aA F w t y)(hz:w.heap.size≤w'.heap.size)(hg : ∀b,F b→b<w.heap.size→w'.heap[b]?=w.heap[b]?):aA F w' t y:=h.move ⟨hz,fun _ h _=>h,hg⟩
theorem aE.keepG {F:Nat→Prop}{w w':World}{t:List Bd}{y:Value}(h:aE F w t y)(hz:w.heap.size≤w'.heap.size)(hg : ∀b,F b→b<w.heap.size→w'.heap[b]?=w.heap[b]?):aE F w' t y:=h.move ⟨hz,fun _ h _=>h,hg⟩
def pR:Oper:=⟨some 79,.fieldAddr 28 (.tmp 11) 6,0,"l4_casts.go:103",#[],none⟩
def pS:Oper:=⟨some 80,.load 26 (.tmp 79),26,"l4_casts.go:103",#[⟨0,.data⟩],none⟩
def pT:Oper:=⟨some 81,.move (.tmp 18),3,"l4_casts.go:103",#[],none⟩
def pU:Oper:=⟨some 82,.fieldAddr 28 (.tmp 11) 6,0,"l4_casts.go:103",#[],none⟩
def pV:Oper:=⟨some 83,.load 26 (.tmp 82),26,"l4_casts.go:103",#[⟨3,.data⟩],none⟩
def pW:Oper:=⟨some 84,.move (.tmp 18),3,"l4_casts.go:103",#[],none⟩
def pX:Oper:=⟨some 85,.indexAddr 26 (.tmp 83) (.tmp 84),0,"l4_casts.go:103",#[⟨4,.data⟩,⟨5,.data⟩],none⟩
def pY:Oper:=⟨some 86,.load 28 (.tmp 85),28,"l4_casts.go:103",#[⟨6,.data⟩],none⟩
def pZ:Oper:=⟨some 87,.move (.tmp 12),23,"l4_casts.go:103",#[],none⟩
def qa:Oper:=⟨some 88,.move (.tmp 18),3,"l4_casts.go:103",#[],none⟩
def mv:Oper:=⟨some 89,.indexAddr 23 (.tmp 87) (.tmp 88),0,"l4_casts.go:103",#[⟨8,.data⟩,⟨9,.data⟩],none⟩
def mw:Oper:=⟨some 90,.load 25 (.tmp 89),25,"l4_casts.go:103",#[⟨10,.data⟩],none⟩
def mx:Oper:=⟨some 91,.move (.tmp 17),23,"l4_casts.go:103",#[],none⟩
def my:Oper:=⟨some 92,.move (.tmp 18),3,"l4_casts.go:103",#[],none⟩
def mz:Oper:=⟨some 93,.indexAddr 23 (.tmp 91) (.tmp 92),0,"l4_casts.go:103",#[⟨12,.data⟩,⟨13,.data⟩],none⟩
def mA:Oper:=⟨some 94,.load 25 (.tmp 93),25,"l4_casts.go:103",#[⟨14,.data⟩],none⟩
def mB:Oper:=⟨some 95,.move (.tmp 2),3,"l4_casts.go:103",#[],none⟩
def mC:Oper:=⟨some 96,.call {callee:=.value (.func 59),args:=#[.tmp 86,.tmp 90,.tmp 94,.tmp 95],argTypes:=#[28,25,25,3]},78,"l4_casts.go:103",#[⟨7,.data⟩,⟨11,.data⟩,⟨15,.data⟩,⟨16,.data⟩],none⟩
def mE:Oper:=⟨some 78,.move (.tmp 96),78,"l4_casts.go:103",#[⟨17,.data⟩],none⟩
def mF:Oper:=⟨some 97,.extract (.tmp 78) 0,28,"l4_casts.go:103",#[⟨18,.data⟩],none⟩
def mG:Oper:=⟨some 98,.extract (.tmp 78) 1,3,"l4_casts.go:103",#[⟨18,.data⟩,⟨22,.gcOnly .lateStores⟩],none⟩
def mH:Oper:=⟨some 99,.indexAddr 26 (.tmp 80) (.tmp 81),0,"l4_casts.go:103",#[⟨1,.data⟩,⟨2,.data⟩,⟨0,.phase⟩,⟨1,.phase⟩,⟨2,.phase⟩,⟨3,.phase⟩,⟨4,.phase⟩,⟨5,.phase⟩,⟨6,.phase⟩,⟨7,.phase⟩,⟨8,.phase⟩,⟨9,.phase⟩,⟨10,.phase⟩,⟨11,.phase⟩,⟨12,.phase⟩,⟨13,.phase⟩,⟨14,.phase⟩,⟨15,.phase⟩,⟨16,.phase⟩,⟨17,.phase⟩,⟨18,.phase⟩,⟨19,.phase⟩,⟨20,.textOnly .lateStores⟩],none⟩
def mI:Oper:=⟨none,.store 28 (.tmp 99) (.tmp 97),0,"l4_casts.go:103",#[⟨21,.data⟩,⟨19,.data⟩,⟨17,.chain⟩,⟨0,.phase⟩,⟨1,.phase⟩,⟨2,.phase⟩,⟨3,.phase⟩,⟨4,.phase⟩,⟨5,.phase⟩,⟨6,.phase⟩,⟨7,.phase⟩,⟨8,.phase⟩,⟨9,.phase⟩,⟨10,.phase⟩,⟨11,.phase⟩,⟨12,.phase⟩,⟨13,.phase⟩,⟨14,.phase⟩,⟨15,.phase⟩,⟨16,.phase⟩,⟨17,.phase⟩,⟨18,.phase⟩,⟨19,.phase⟩,⟨20,.textOnly .lateStores⟩],none⟩
def mJ:Oper:=⟨some 2,.assign (.tmp 98),3,"l4_casts.go:103",#[⟨20,.data⟩,⟨22,.chain⟩,⟨0,.phase⟩,⟨1,.phase⟩,⟨2,.phase⟩,⟨3,.phase⟩,⟨4,.phase⟩,⟨5,.phase⟩,⟨6,.phase⟩,⟨7,.phase⟩,⟨8,.phase⟩,⟨9,.phase⟩,⟨10,.phase⟩,⟨11,.phase⟩,⟨12,.phase⟩,⟨13,.phase⟩,⟨14,.phase⟩,⟨15,.phase⟩,⟨16,.phase⟩,⟨17,.phase⟩,⟨18,.phase⟩,⟨19,.phase⟩,⟨20,.phase⟩,⟨21,.phase⟩,⟨22,.phase⟩],none⟩
def qf:Oper:=⟨some 103,.fieldAddr 28 (.tmp 11) 6,0,"l4_casts.go:106",#[],none⟩
def qg:Oper:=⟨some 104,.load 26 (.tmp 103),26,"l4_casts.go:106",#[⟨0,.data⟩],none⟩
def qh:Oper:=⟨some 105,.indexAddr 26 (.tmp 104) (.const (.int .i64 0)),0,"l4_casts.go:106",#[⟨1,.data⟩],none⟩
def qi:Oper:=⟨some 106,.load 28 (.tmp 105),28,"l4_casts.go:106",#[⟨2,.data⟩],none⟩
def qj:Oper:=⟨some 107,.load 25 (.tmp 9),25,"l4_casts.go:106",#[⟨6,.gcOnly .lateStores⟩],none⟩
def qk:Oper:=⟨some 108,.move (.tmp 2),3,"l4_casts.go:106",#[⟨7,.gcOnly .lateStores⟩],none⟩
def ql:Oper:=⟨none,.store 28 (.tmp 6) (.tmp 106),0,"l4_casts.go:106",#[⟨3,.data⟩,⟨0,.phase⟩,⟨1,.phase⟩,⟨2,.phase⟩,⟨3,.phase⟩,⟨4,.textOnly .lateStores⟩,⟨5,.textOnly .lateStores⟩],none⟩
def qn:Oper:=⟨none,.store 25 (.tmp 7) (.tmp 107),0,"l4_casts.go:106",#[⟨4,.data⟩,⟨6,.chain⟩,⟨0,.phase⟩,⟨1,.phase⟩,⟨2,.phase⟩,⟨3,.phase⟩,⟨4,.phase⟩,⟨5,.textOnly .lateStores⟩,⟨6,.phase⟩],none⟩
def qo:Oper:=⟨some 8,.assign (.tmp 108),3,"l4_casts.go:106",#[⟨5,.data⟩,⟨7,.chain⟩,⟨0,.phase⟩,⟨1,.phase⟩,⟨2,.phase⟩,⟨3,.phase⟩,⟨4,.phase⟩,⟨5,.phase⟩,⟨6,.phase⟩,⟨7,.phase⟩],none⟩
def qp:Oper:=⟨some 109,.load 28 (.tmp 11),28,"l4_casts.go:108",#[],none⟩
def qw:Oper:=⟨some 110,.load 25 (.tmp 9),25,"l4_casts.go:108",#[⟨3,.gcOnly .lateStores⟩],none⟩
def qx:Oper:=⟨some 111,.move (.tmp 2),3,"l4_casts.go:108",#[⟨4,.gcOnly .lateStores⟩],none⟩
def qy:Oper:=⟨none,.store 28 (.tmp 6) (.tmp 109),0,"l4_casts.go:108",#[⟨0,.data⟩,⟨0,.phase⟩,⟨1,.textOnly .lateStores⟩,⟨2,.textOnly .lateStores⟩],none⟩
def qz:Oper:=⟨none,.store 25 (.tmp 7) (.tmp 110),0,"l4_casts.go:108",#[⟨1,.data⟩,⟨3,.chain⟩,⟨0,.phase⟩,⟨1,.phase⟩,⟨2,.textOnly .lateStores⟩,⟨3,.phase⟩],none⟩
def qA:Oper:=⟨some 8,.assign (.tmp 111),3,"l4_casts.go:108",#[⟨2,.data⟩,⟨4,.chain⟩,⟨0,.phase⟩,⟨1,.phase⟩,⟨2,.phase⟩,⟨3,.phase⟩,⟨4,.phase⟩],none⟩
theorem l9 (kx ux lx:Int)(nx:ByteArray)(ty src:Ty)(ts:List Tm)(d:Int)(IH : ∀t'∈ts,L4I t' (d-1)):L4I (.mk kx nx ux ty src lx ts) d:=by
 intro l F G c y lz w s hsh hld hok hcv hcx he hty hl0 hl1;obtain⟨hd,hk13,hlen,hown,hkids⟩:=Tm.shape_parts hsh;obtain⟨k,nm,u,tk,ta,tn,tq,fk,fa,fn,fq,lb,ca,cm,cq,rfl⟩:=he.shape;obtain⟨e1,e2,e3,-,-,-,-,e8,hcm,hnm,hmq,hqm,hty',hsrc,hks⟩:=he.parts;simp only[Tm.kind,Tm.name,Tm.num,Tm.label,Tm.type,Tm.src,Tm.kids] at e1 e2 e3 e8 hty' hsrc hks hcm;subst e1 e2 e3 e8;obtain⟨xa,xn,xq,rfl⟩:=hcv.shape;obtain⟨hs,hts,hnode⟩:=vt hlen hty;obtain⟨hhl,hget⟩:=ti _ _ _ hts;have hcs:d9 (dB k nm ty l):=by
  unfold dB
  split
  ·rename_i h5;exact hok.snoc (kA hown (.inl h5))
  ·exact hok
 have hcl:((dB k nm ty l).length:Int)≤l.length+1:=by
  unfold dB
  split
  ·simp
  ·omega
 have hvs : ∀h∈hs,h.vd=true:=fun h hm=>by
  obtain⟨j,hj,rfl⟩:=List.getElem_of_mem hm
  exact fi ts[j] (d-1) _ (Tm.shapes_mem hkids (List.getElem_mem _)) hcs _ (hget j (by omega) hj)
 have hsv:s.vd=true:=fi _ d l hsh hok s hty;have hoc:=own_cnt hown hk13;have hm3:cm≤3:=by have:=nV k;omega
 have hcnt:=Tm.cnt_shape14 _ d hsh;have hc1:(Tm.mk k nm u ty src lb ts).cnt≤1048576:=by omega
 have HL3:Hid (∀W,Below w.heap.size w W→Calls Tryz.prog 112 #[.slice xa xn xq,.agg #[.int .i64 k,.string nm,.int .i64 u,.int .i64 tk,.slice ta tn tq,.int .i64 fk,.slice fa fn fq,.int .i64 lb,.slice ca cm cq]] W (bH (some s.ty) W)):=zq fun W h=>by
  have:=i6 _ d l _ _ W F G hsh hld hok hcv (hcx.below h) (he.below h);rw[hty] at this
  exact this
 have HCP:=zq (fun W (h:Below w.heap.size w W)=>i5 G _ _ W (he.below h) hc1);have HMR:Hid (∀W,k=5→Below w.heap.size w W→Calls Tryz.prog 109 #[.slice xa xn xq,.string nm,.agg #[.int .i64 tk,.slice ta tn tq]] W (jN (fun b=>b<w.heap.size) (l ++ [⟨nm,ty⟩]) W)):=zq fun W _ h=>by
  have hq1:=(hcx.move (G:=fun b=>b<w.heap.size) (.weaken fun b _ h=>h)).below h;have hq2:=(hty'.move (G:=fun b=>b<w.heap.size) (.weaken fun b _ h=>h)).below h
  rcases hcv with ⟨rfl,hx⟩ | ⟨hl1',a,m,q,hx⟩
  ·rw[hx];exact eO _ nm ty tk ta tn tq W hnm hq2
  ·simp only[Value.slice.injEq] at hx
   obtain⟨rfl,rfl,rfl⟩:=hx
   exact fX _ l a xn xq nm ty tk ta tn tq W hq1 (by omega) hl1' hnm hq2
 have HIH:Hid (∀(j:Nat) (hj:j<ts.length) (hj2:j<hs.length) (lz':Int) (W:World) (c' y':Value) (F':Nat→Prop),aE F' W (dB k nm ty l) c'→fl (dB k nm ty l) c'→ax G W ts[j] y'→0≤lz'→lz'+4*ts[j].size≤100000→Calls Tryz.prog 91 #[c',y',.int .i64 lz'] W (lk ts[j] hs[j] lz' W)):=zq fun j hj hj2 lz' W c' y' F' hb' hv' ht' h1 h2=>
  IH ts[j] (List.getElem_mem hj) _ F' G c' y' lz' W hs[j] (Tm.shapes_mem hkids (List.getElem_mem hj)) (by omega) hcs hv' hb' ht' (hget j hj hj2) h1 h2
 have HKS:=zq hks;have HWT:Hid (∀(W:World) (F1 F2:Nat→Prop) (xa':Option Addr) (xq':Nat) (uk:Int) (ua:Option Addr) (un uq:Nat),aA F1 W (hs.map S.ty) (.slice xa' cm xq')→ao F2 W s.ty (.agg #[.int .i64 uk,.slice ua un uq])→Calls Tryz.prog 115 #[.agg #[.int .i64 k,.string nm,.int .i64 u,.int .i64 tk,.slice ta tn tq,.int .i64 fk,.slice fa fn fq,.int .i64 lb,.slice ca cm cq],.slice xa' cm xq',.agg #[.int .i64 uk,.slice ua un uq]] W (dk cm (fun b=>F1 b∨F2 b) W)):=zq fun W F1 F2 xa' xq' uk ua un uq h1 h2=>
  uB F1 F2 k ty hs s nm u tk fk lb uk ta fa ca xa' ua tn tq fn fq cm cq cm xq' un uq W hvs hsv hnode (by omega) (by omega) h1 h2
 have HVD:=zq hvs;have HSV:=zq hsv;have HCX0:=zq hcx;have HCV0:=zq hcv;have HHL:=zq (And.intro hhl hcm);have HOC:=zq hoc;have HNM:=zq hnm;have HTP:Hid (k=13→1≤cm):=zq fun e=>by subst e;have:aD 13=1:=rfl;omega
 have hz:=hl1;simp only[Tm.size] at hz;have hzp:=Tm.sizes_pos ts;have HZ:Hid (lz+4*(1+Tm.sizes ts)≤100000∧0≤Tm.sizes ts):=zq ⟨hz,hzp⟩;obtain⟨itm,hitm,hzm0,hzm1,hzm2⟩:=info_parts Tryz.infoTm2;obtain⟨ity,hity,hzy0,hzy1,hzy2⟩:=info_parts Tryz.infoTy;have HIM:=zq hitm;have M0:=zq hzm0;have M1:=zq hzm1;have M2:=zq hzm2;have HIY:=zq hity;have Y0:=zq hzy0;have Y1:=zq hzy1;have Y2:=zq hzy2;have hl100:lz≤100000:=by omega
 clear hsh hld hok hcv hcx he hty hl1 hd hk13 hlen hown hkids hcm hnm hmq hqm hty' hsrc hks hts hnode hhl hget hcs hcl hvs hsv hoc hcnt hc1 hz hzp IH hitm hzm0 hzm1 hzm2 hity hzy0 hzy1 hzy2;obtain⟨QQ,hQQ⟩ : ∃Q,lk (Tm.mk k nm u ty src lb ts) s lz w=Q:=⟨_,rfl⟩
 rw[hQQ];have HQQ:=zq hQQ;clear hQQ
 go_enter Tryz.func91,Tryz.ntmps91
 go_wp2_with fail
 refine(HL3.out _ cB).mono ?_;rintro e w1 ⟨k1,a1,n1,q1,b1,t1,rfl,hb1,ht1,h1,hb⟩;obtain rfl:b1=true:=hb1;obtain rfl:=h1 _ rfl;have z1:=hb.size;simp only[World.size_alloc] at z1;have fE:w1.heap[w.heap.size]?=some (.cells #[.int .i64 k,.string nm,.int .i64 u,.int .i64 tk,.slice ta tn tq,.int .i64 fk,.slice fa fn fq,.int .i64 lb,.slice ca cm cq] 28 (0,0)):=af (af (af (aB rfl) ai) ai) hb;have fR:w1.heap[w.heap.size+1]?=some (.cells #[.int .i64 0,.string {data:=#[]},.int .i64 0,.int .i64 0,.slice none 0 0,.int .i64 0,.slice none 0 0,.int .i64 0,.slice none 0 0] 28 (0,0)):=af (af (aB (by simp)) ai) hb;have fY:w1.heap[w.heap.size+1+1]?=some (.cells #[.int .i64 0,.slice none 0 0] 25 (0,0)):=af (aB (by simp)) hb;have fB:Hid (Below w.heap.size w w1):=zq (aj cB hb);have hT:Hid (ao (fun b=>w.heap.size+3≤b∧b<w1.heap.size) w1 s.ty (.agg #[.int .i64 k1,.slice a1 n1 q1])):=zq (ht1.move (.weaken fun b h hl=>⟨by have h2:=h.elim False.elim id;simp only[World.size_alloc] at h2;omega,hl⟩));clear hb ht1 h1 HL3;obtain⟨y0,y1,y2,y3,y4,y5,y6,y7,y8⟩:=blk9 fE;have yl:=aC fE
 go_wp2_with fail
 clear y0 y1 y2 y3 y4 y5 y6 y7 y8 yl;obtain⟨w2,hXq,hb,fT,zw2a,zw2b⟩:=aU w1 (.cells #[.int .i64 k1,.slice a1 n1 q1] 25);rw[hXq];replace fE:=af fE hb;replace fR:=af fR hb;replace fY:=af fY hb;replace fB:=zq (aj fB.out hb);replace hT:=zq (hT.out.below hb);clear hb hXq;refine(HCP.out _ fB.out).mono ?_;rintro e w3 ⟨v,rfl,hv,hb⟩;obtain⟨kt2,nm2,ut2,tk2,ta2,tn2,tq2,fk2,fa2,fn2,fq2,lt2,ct2,mt2,qt2,rfl⟩:=hv.shape;obtain⟨e1,e2,e3,-,-,-,-,e8,-,-,-,-,hp,hq,-⟩:=hv.parts;simp only[Tm.kind,Tm.name,Tm.num,Tm.label,Tm.type,Tm.src,Tm.kids] at e1 e2 e3 e8 hp hq;replace e1:=e1.symm;replace e2:=e2.symm;replace e3:=e3.symm;replace e8:=e8.symm;subst e1 e2 e3 e8;have z3:=hb.size;have hP':Hid (ao (fun b=>w2.heap.size≤b∧b<w3.heap.size) w3 ty (.agg #[.int .i64 tk2,.slice ta2 tn2 tq2])):=zq (hp.move (.weaken fun b h1 h2=>⟨h1,h2⟩));have hQ':Hid (ao (fun b=>w2.heap.size≤b∧b<w3.heap.size) w3 src (.agg #[.int .i64 fk2,.slice fa2 fn2 fq2])):=zq (hq.move (.weaken fun b h1 h2=>⟨h1,h2⟩));clear hv hp hq HCP;replace fE:=af fE hb;replace fR:=af fR hb;replace fY:=af fY hb;replace fB:=zq (aj fB.out hb);replace hT:=zq (hT.out.below hb);replace fT:=af fT hb;clear hb;have hP:=hP';have hQ:=hQ';clear hP' hQ'
 go_upto_region 3 with fail
 obtain⟨w4,hXq,hb,fO,zw4a,zw4b⟩:=aU w3 (.cells #[.int .i64 k,.string nm,.int .i64 u,.int .i64 tk2,.slice ta2 tn2 tq2,.int .i64 fk2,.slice fa2 fn2 fq2,.int .i64 lb,.slice ct2 mt2 qt2] 28);rw[hXq];replace fE:=af fE hb;replace fR:=af fR hb;replace fY:=af fY hb;replace fB:=zq (aj fB.out hb);replace hT:=zq (hT.out.below hb);replace fT:=af fT hb;replace hP:=zq (hP.out.below hb);replace hQ:=zq (hQ.out.below hb);clear hb hXq;obtain⟨x0,x1,x2,x3,x4,x5,x6,x7,x8⟩:=blk9 fO;have xf0:=al fO 0;have xf1:=al fO 1;have xf2:=al fO 2;have xf3:=al fO 3;have xf4:=al fO 4;have xf5:=al fO 5;have xf6:=al fO 6;have xf7:=al fO 7;have xf8:=al fO 8;have xl:=aC fO;have y0:=ag fE (o:=0) rfl;have yl:=aC fE
 go_upto_if 30 with fail
 clear x0 x1 x2 x3 x4 x5 x6 x7 x8 xf0 xf1 xf2 xf3 xf4 xf5 xf6 xf7 xf8 xl y0 yl;obtain⟨w5,hXq,hsq,fO_,zw5a,zw5b⟩:=stLet1 fO (.slice none 0 0);rw[hXq];replace fE:=hsq.blk (by omega) fE;replace fR:=hsq.blk (by omega) fR;replace fY:=hsq.blk (by omega) fY;replace fB:=zq (hsq.bel fB.out (by omega));replace hT:=zq (hT.out.move (hsq.keeps (fun b hb=>by have h1:=hb.1;have h2:=hb.2;omega)));replace fT:=hsq.blk (by omega) fT;replace hP:=zq (hP.out.move (hsq.keeps (fun b hb=>by have h1:=hb.1;have h2:=hb.2;omega)));replace hQ:=zq (hQ.out.move (hsq.keeps (fun b hb=>by have h1:=hb.1;have h2:=hb.2;omega)));clear fO hsq;have fO:=fO_;clear fO_;clear hXq
 go_cut [0] (fun s0 wx=>∃(xa':Option Addr) (xn' xq':Nat),s0 = .slice xa' xn' xq'∧w5.heap.size≤wx.heap.size∧Hid (fl (dB k nm ty l) (.slice xa' xn' xq'))∧Hid (aE (fun b=>b<w.heap.size∨w5.heap.size≤b) wx (dB k nm ty l) (.slice xa' xn' xq'))∧wx.heap[w.heap.size]?=some (.cells #[.int .i64 k,.string nm,.int .i64 u,.int .i64 tk,.slice ta tn tq,.int .i64 fk,.slice fa fn fq,.int .i64 lb,.slice ca cm cq] 28 (0,0))∧wx.heap[w.heap.size+1]?=some (.cells #[.int .i64 0,.string {data:=#[]},.int .i64 0,.int .i64 0,.slice none 0 0,.int .i64 0,.slice none 0 0,.int .i64 0,.slice none 0 0] 28 (0,0))∧wx.heap[w.heap.size+1+1]?=some (.cells #[.int .i64 0,.slice none 0 0] 25 (0,0))∧wx.heap[w1.heap.size]?=some (.cells #[.int .i64 k1,.slice a1 n1 q1] 25 (0,0))∧wx.heap[w3.heap.size]?=some (.cells #[.int .i64 k,.string nm,.int .i64 u,.int .i64 tk2,.slice ta2 tn2 tq2,.int .i64 fk2,.slice fa2 fn2 fq2,.int .i64 lb,.slice none 0 0] 28 (0,0))∧Hid (Below w.heap.size w wx)∧Hid (ao (fun b=>w.heap.size+3≤b∧b<w1.heap.size) wx s.ty (.agg #[.int .i64 k1,.slice a1 n1 q1]))∧Hid (ao (fun b=>w2.heap.size≤b∧b<w3.heap.size) wx ty (.agg #[.int .i64 tk2,.slice ta2 tn2 tq2]))∧Hid (ao (fun b=>w2.heap.size≤b∧b<w3.heap.size) wx src (.agg #[.int .i64 fk2,.slice fa2 fn2 fq2])))
 case first=>
  by_cases hk5:k=5
  ·have hkb:(k==5)=true:=by simpa using hk5
   have y0:=ag fE (o:=0) rfl;have y1:=ag fE (o:=1) rfl;have y3:=ag fE (o:=3) rfl;have y4:=ag fE (o:=4) rfl;have yl:=aC fE;have HK5:=zq hk5;clear hk5
   go_wp2_with fail
   clear y0 y1 y3 y4 yl;refine(HMR.out _ HK5.out fB.out).mono ?_;rintro e w6 ⟨a6,m6,q6,rfl,hx6,hb⟩;have z6:=hb.size;have hX6:=zq hx6;clear hx6;replace fE:=af fE hb;replace fR:=af fR hb;replace fY:=af fY hb;replace fB:=zq (aj fB.out hb);replace hT:=zq (hT.out.below hb);replace fT:=af fT hb;replace hP:=zq (hP.out.below hb);replace hQ:=zq (hQ.out.below hb);replace fO:=af fO hb;clear hb
   go_wp2_with fail
   go_meet
   exact⟨_,_,_,rfl,by omega,zq (.inr ⟨by unfold dB;rw[if_pos HK5.out];simp,_,_,_,rfl⟩),zq (by unfold dB;rw[if_pos HK5.out];exact hX6.out.move (.weaken fun b h _=>by rcases h with h | h;exact .inl h.1;exact .inr h)),fE,fR,fY,fT,fO,fB,hT,hP,hQ⟩
  ·have hkb:(k==5)=false:=by simpa using hk5
   have y0:=ag fE (o:=0) rfl;have yl:=aC fE;have HK5:=zq hk5;clear hk5
   go_wp2_with fail
   go_meet
   exact⟨_,_,_,rfl,by omega,zq (by unfold dB;rw[if_neg HK5.out];exact HCV0.out),zq (by unfold dB;rw[if_neg HK5.out];exact(HCX0.out.move (G:=fun b=>b<w.heap.size∨w5.heap.size≤b) (.weaken fun _ _ h=>.inl h)).below fB.out),fE,fR,fY,fT,fO,fB,hT,hP,hQ⟩
 case rest=>
  clear fE fR fY fT fO fB hT hP hQ;obtain⟨xa',xn',xq',rfl,hszc,hcvN,hX0,fE,fR,fY,fT,fO,fB,hT,hP,hQ⟩:=hcut;clear HMR HCX0 HCV0;have hX:Hid (aE (fun b=>(b<w.heap.size∨w5.heap.size≤b)∧b<wc.heap.size) wc (dB k nm ty l) (.slice xa' xn' xq')):=zq (hX0.out.move (.weaken fun _ h1 h=>⟨h1,h⟩));clear hX0
  go_upto_region 7 with fail
  obtain⟨w7,hXq,hb,fK,zw7a,zw7b⟩:=aU wc (.cells #[] 25);rw[hXq];replace fE:=af fE hb;replace fR:=af fR hb;replace fY:=af fY hb;replace fB:=zq (aj fB.out hb);replace hT:=zq (hT.out.below hb);replace fT:=af fT hb;replace hP:=zq (hP.out.below hb);replace hQ:=zq (hQ.out.below hb);replace fO:=af fO hb;replace hX:=zq (hX.out.below hb);clear hb hXq;have zO:w3.heap.size<wc.heap.size:=by have:=aC fO;omega
  go_wp2_with fail
  go_loopw [2,12,13] (fun s2 s12 s13 wr=>∃(j:Nat) (lj:Int) (cv cu:Option Addr) (qv qu:Nat) (ks:List Tm),j≤cm∧s2 = .int .i64 lj∧s12 = .slice cu j qu∧s13 = .int .i64 (j:Int)∧lz≤lj∧Hid (lj≤lz+4*Tm.sizes (ts.take j))∧wc.heap.size<wr.heap.size∧Hid (wr.heap[w.heap.size]?=some (.cells #[.int .i64 k,.string nm,.int .i64 u,.int .i64 tk,.slice ta tn tq,.int .i64 fk,.slice fa fn fq,.int .i64 lb,.slice ca cm cq] 28 (0,0)))∧Hid (wr.heap[w.heap.size+1]?=some (.cells #[.int .i64 0,.string {data:=#[]},.int .i64 0,.int .i64 0,.slice none 0 0,.int .i64 0,.slice none 0 0,.int .i64 0,.slice none 0 0] 28 (0,0)))∧Hid (wr.heap[w.heap.size+1+1]?=some (.cells #[.int .i64 0,.slice none 0 0] 25 (0,0)))∧Hid (wr.heap[w1.heap.size]?=some (.cells #[.int .i64 k1,.slice a1 n1 q1] 25 (0,0)))∧Hid (wr.heap[w3.heap.size]?=some (.cells #[.int .i64 k,.string nm,.int .i64 u,.int .i64 tk2,.slice ta2 tn2 tq2,.int .i64 fk2,.slice fa2 fn2 fq2,.int .i64 lb,.slice cv j qv] 28 (0,0)))∧Hid (Below w.heap.size w wr)∧Hid (ao (fun b=>w.heap.size+3≤b∧b<w1.heap.size) wr s.ty (.agg #[.int .i64 k1,.slice a1 n1 q1]))∧Hid (ao (fun b=>w2.heap.size≤b∧b<w3.heap.size) wr ty (.agg #[.int .i64 tk2,.slice ta2 tn2 tq2]))∧Hid (ao (fun b=>w2.heap.size≤b∧b<w3.heap.size) wr src (.agg #[.int .i64 fk2,.slice fa2 fn2 fq2]))∧Hid (aE (fun b=>(b<w.heap.size∨w5.heap.size≤b)∧b<wc.heap.size) wr (dB k nm ty l) (.slice xa' xn' xq'))∧Hid (dl wc.heap.size 28 25 9 2 wr (.slice cv j qv) (.slice cu j qu) j j (Tm.rows ks) (Ty.rows ((hs.take j).map S.ty)))∧Hid (ks.length=j∧(Tm.cnts ks:Int)≤200*Tm.sizes (ts.take j))) (fun _ _ i _=>cm-(intOf i).toNat)
  case atStart=>exact⟨0,lz,none,some ⟨wc.heap.size,0,none⟩,0,0,[],by omega,rfl,rfl,rfl,by omega,zq (by simp[Tm.sizes]),by omega,zq fE,zq fR,zq fY,zq fT,zq fO,fB,hT,hP,hQ,hX,zq ⟨rfl,rfl,fun b e=>by simp[Value.ownBlock] at e,[],[],World.ownsRow_nil _ _ _ _,⟨rfl,.inr ⟨_,0,#[],rfl,Nat.le_refl _,fK,Nat.le_refl _,by unfold maxLen;omega,rfl,by simp⟩⟩,rfl,rfl⟩,zq ⟨rfl,by simp[Tm.cnts,Tm.sizes]⟩⟩
  case round=>
   obtain⟨j,lj,cv,cu,qv,qu,ks,hj,rfl,rfl,rfl,hlj,HLJ,hsz,fE0,fR0,fY0,fT0,fO0,fB0,hT0,hP0,hQ0,hX0,hR2,HKN⟩:=hrel;clear fK fE fR fY fT fO fB hT hP hQ hX;have fE:=fE0.out;have fR:=fR0.out;have fY:=fY0.out;have fT:=fT0.out;have fO:=fO0.out;have fB:=fB0;have hT:=hT0;have hP:=hP0;have hQ:=hQ0;have hX:=hX0;clear fE0 fR0 fY0 fT0 fO0 fB0 hT0 hP0 hQ0 hX0
   by_cases hlt:j<cm
   ·have hjt:j<ts.length:=by rw[←HHL.out.2];exact hlt
    have hjs:j<hs.length:=by rw[HHL.out.1];exact hjt
    obtain⟨b,off,kk0,nn0,uu0,tk0,ta0,tn0,tq0,fk0,fa0,fn0,fq0,ll0,a0,m0,q0,rfl,lb_,e0,e1,e2,e3,e4,e5,e6,e7,e8,ht⟩:=HKS.out.at fB.out hjt;have hts1:=Tm.sizes_take_succ ts j hjt;have hts2:=Tm.sizes_take_le ts (j+1);have hz4:=HZ.out;have hlj2:=HLJ.out;have hsp:=Tm.size_pos ts[j];have HC:=zq (HIH.out j hjt hjs lj wr _ _ _ hX.out hcvN.out ht (by omega) (by omega));have hrow:(hs.take (j+1)).map S.ty=(hs.take j).map S.ty ++ [hs[j].ty]:=by rw[List.take_succ_eq_append_getElem hjs,List.map_append];rfl
    obtain⟨tj,htj⟩ : ∃x,ts[j]=x:=⟨_,rfl⟩
    obtain⟨sj,hsj⟩ : ∃x,hs[j]=x:=⟨_,rfl⟩
    rw[htj,hsj] at HC;rw[htj] at hts1;rw[hsj] at hrow;have HROWS:=zq hrow;have HTS1:=zq hts1;have hj3:j+1≤3:=by omega
    clear ht hts1 hts2 hz4 hlj2 hsp htj hsj hrow hjt hjs;have HOB1:Hid (∀b,(Value.slice cv j qv).ownBlock=some b→wc.heap.size≤b∧b<wr.heap.size):=zq (by obtain⟨_,_,_,x1,x2,o1,o2,-,-⟩:=hR2.out;exact fun b h=>o1.lt b h);have HOB2:Hid (∀b,(Value.slice cu j qu).ownBlock=some b→wc.heap.size≤b∧b<wr.heap.size):=zq (by obtain⟨_,_,_,x1,x2,o1,o2,-,-⟩:=hR2.out;exact fun b h=>o2.lt b h);have y8:=ag fE (o:=8) rfl;have yl:=aC fE
    go_wp2_with fail
    refine HC.out.mono ?_;rintro e w4_ ⟨t4,v,yv,lb4,rfl,hc4,hl4a,hl4b,hv,hy4,hb⟩;obtain⟨kt4,nm4,ut4,tk4,ta4,tn4,tq4,fk4,fa4,fn4,fq4,lt4,ct4,mt4,qt4,rfl⟩:=hv.shape;obtain⟨k5,a5,n5,q5,rfl⟩:=hy4.shape;have zw4:=hb.size;have HC4:=zq (And.intro hc4 (And.intro hl4a hl4b));have h4_':=hv.rg;have h5_':Hid (ao (fun b=>wr.heap.size≤b∧b<w4_.heap.size) w4_ sj.ty (.agg #[.int .i64 k5,.slice a5 n5 q5])):=zq (hy4.move (.weaken fun b h1 h2=>⟨h1,h2⟩));clear y8 yl hv hy4 hc4 hl4a hl4b e0 e1 e2 e3 e4 e5 e6 e7 e8 HC;replace fE:=af fE hb;replace fR:=af fR hb;replace fY:=af fY hb;replace fB:=zq (aj fB.out hb);replace hT:=zq (hT.out.below hb);replace fT:=af fT hb;replace hP:=zq (hP.out.below hb);replace hQ:=zq (hQ.out.below hb);replace fO:=af fO hb;replace hX:=zq (hX.out.below hb);replace hR2:=zq (hR2.out.below hb);clear hb;have h4_:=h4_';have h5_:=h5_';clear h4_' h5_'
    go_upto_region 11 with fail
    obtain⟨w5_,hXq,hb,fA,zw5_a,zw5_b⟩:=aU w4_ (.cells #[.int .i64 kt4,.string nm4,.int .i64 ut4,.int .i64 tk4,.slice ta4 tn4 tq4,.int .i64 fk4,.slice fa4 fn4 fq4,.int .i64 lt4,.slice ct4 mt4 qt4] 28);rw[hXq];replace fE:=af fE hb;replace fR:=af fR hb;replace fY:=af fY hb;replace fB:=zq (aj fB.out hb);replace hT:=zq (hT.out.below hb);replace fT:=af fT hb;replace hP:=zq (hP.out.below hb);replace hQ:=zq (hQ.out.below hb);replace fO:=af fO hb;replace hX:=zq (hX.out.below hb);replace h4_:=zq (h4_.out.below hb);replace h5_:=zq (h5_.out.below hb);replace hR2:=zq (hR2.out.below hb);clear hb hXq;obtain⟨w6_,hXq,hb,fD,zw6_a,zw6_b⟩:=aU w5_ (.cells #[.int .i64 k5,.slice a5 n5 q5] 25);rw[hXq];replace fE:=af fE hb;replace fR:=af fR hb;replace fY:=af fY hb;replace fB:=zq (aj fB.out hb);replace hT:=zq (hT.out.below hb);replace fT:=af fT hb;replace hP:=zq (hP.out.below hb);replace hQ:=zq (hQ.out.below hb);replace fO:=af fO hb;replace hX:=zq (hX.out.below hb);replace h4_:=zq (h4_.out.below hb);replace h5_:=zq (h5_.out.below hb);replace fA:=af fA hb;replace hR2:=zq (hR2.out.below hb);clear hb hXq;rw[show w5_.heap.size=w4_.heap.size+1 by omega] at fD;obtain⟨rl1,rl2,rd_,xs1,xs2,ro1,ro2,rp1,rp2⟩:=hR2.out;have HO1:=zq ro1;have HO2:=zq ro2;have HP1:=zq rp1;have HP2:=zq rp2;have HD_:=zq rd_;have HRL:=zq (And.intro rl1 rl2);clear rl1 rl2 rd_ ro1 ro2 rp1 rp2 hR2;obtain⟨y0,y1,y2,y3,y4,y5,y6,y7,y8⟩:=blk9 fA;have yl:=aC fA;have x8:=ag fO (o:=8) rfl;have xf8:=al fO 8;have xl:=aC fO
    go_wp2_with (first | (at_builtin;refine wpList_append_lies _ rfl (.tmp 58) (.tmp 60) 26 rfl wc.heap.size 28 itm _ 9 128 Tryz.underlying26 HIM.out M0.out M1.out M2.out rfl (by omega) (.slice cv j qv) j xs1 rfl (aP HO1.out ai) ⟨w6_.heap.size,0,none⟩ 1 1 [.int .i64 kt4,.string nm4,.int .i64 ut4,.int .i64 tk4,.slice ta4 tn4 tq4,.int .i64 fk4,.slice fa4 fn4 fq4,.int .i64 lt4,.slice ct4 mt4 qt4] rfl rfl (World.news_of_block (cs:=#[.int .i64 kt4,.string nm4,.int .i64 ut4,.int .i64 tk4,.slice ta4 tn4 tq4,.int .i64 fk4,.slice fa4 fn4 fq4,.int .i64 lt4,.slice ct4 mt4 qt4]) (t:=28) (fr:=(0,0)) (aB rfl)) (by simp[Value.oneCell']) (by omega) (by unfold maxLen;omega) (by omega) (by simp;omega) _ rfl ?_) | fail)
    intro gg cap2 w7_ hown hgrow hat hlt2;have HSZ:w6_.heap.size≤w7_.heap.size:=by have:=hgrow.size;simp only[World.size_alloc] at this;omega
    have HR7:=zq (dl.push HRL.out.1 HRL.out.2 HD_.out HO1.out ⟨xs2,HO2.out,HP2.out⟩ HP1.out ai ((h4_.out.move (G:=fun b=>wc.heap.size≤b∧(Value.slice cv j qv).ownBlock≠some b∧(Value.slice cu j qu).ownBlock≠some b) (.weaken fun b hb hl=>⟨by have h1:=hb.1;omega,fun q=>by have h1:=(HOB1.out b q).2;have h2:=hb.1;omega,fun q=>by have h1:=(HOB2.out b q).2;have h2:=hb.1;omega⟩)).below ai).srep hown hgrow (by simpa using hat));have HG:Hid (∀b,b<w6_.heap.size→(Value.slice cv j qv).ownBlock≠some b→w7_.heap[b]?=w6_.heap[b]?):=zq fun b h1 h2=>(hgrow.block b (by simp only[World.size_alloc];omega) (fun q=>h2 q.symm)).trans ((ai (w:=w6_) (o:=.cells #[.int .i64 kt4,.string nm4,.int .i64 ut4,.int .i64 tk4,.slice ta4 tn4 tq4,.int .i64 fk4,.slice fa4 fn4 fq4,.int .i64 lt4,.slice ct4 mt4 qt4] 28)).block b h1);have HNE:Hid (∀b,(b<wc.heap.size∨wr.heap.size≤b)→(Value.slice cv j qv).ownBlock≠some b):=zq fun b h q=>by have h1:=HOB1.out b q;omega
    have HGG:Hid (∀b,wr.heap.size≤b→b<w4_.heap.size→(Value.slice (some ⟨gg,0,none⟩) (j+1) cap2).ownBlock≠some b):=zq fun b h1 h2 q=>by simp only[Value.ownBlock,Option.some.injEq] at q;subst q;rcases hat with h3 | h3;exact HNE.out gg (.inr h1) (by simpa [Value.ownBlock] using h3);(try simp only[World.size_alloc] at h3);omega
    have fB7:=zq (bj fB.out (ai (o:=.cells #[.int .i64 kt4,.string nm4,.int .i64 ut4,.int .i64 tk4,.slice ta4 tn4 tq4,.int .i64 fk4,.slice fa4 fn4 fq4,.int .i64 lt4,.slice ct4 mt4 qt4] 28)) HO1.out (by omega) hgrow);clear y0 y1 y2 y3 y4 y5 y6 y7 y8 yl x8 xf8 xl hown hgrow hat HO1 HO2 HP1 HP2 HD_ HRL;clear fA;clear fB;clear h4_;replace fE:=(HG.out _ (by omega) (HNE.out _ (.inl (by omega)))).trans fE;replace fR:=(HG.out _ (by omega) (HNE.out _ (.inl (by omega)))).trans fR;replace fY:=(HG.out _ (by omega) (HNE.out _ (.inl (by omega)))).trans fY;replace hT:=zq (hT.out.keepG HSZ (fun b hb hl=>HG.out b hl (HNE.out b (.inl (by have h2:=hb.2;omega)))));replace fT:=(HG.out _ (by omega) (HNE.out _ (.inl (by omega)))).trans fT;replace hP:=zq (hP.out.keepG HSZ (fun b hb hl=>HG.out b hl (HNE.out b (.inl (by have h2:=hb.2;omega)))));replace hQ:=zq (hQ.out.keepG HSZ (fun b hb hl=>HG.out b hl (HNE.out b (.inl (by have h2:=hb.2;omega)))));replace fO:=(HG.out _ (by omega) (HNE.out _ (.inl (by omega)))).trans fO;replace hX:=zq (hX.out.keepG HSZ (fun b hb hl=>HG.out b hl (HNE.out b (.inl hb.2))));replace h5_:=zq (h5_.out.keepG HSZ (fun b hb hl=>HG.out b hl (HNE.out b (.inr hb.1))));replace fD:=(HG.out _ (by omega) (HNE.out _ (.inr (by omega)))).trans fD;have fB:=fB7;clear fB7;clear HG HNE;have x8:=ag fO (o:=8) rfl;have xf8:=al fO 8;have xl:=aC fO;have hp3:w3.heap.size<w7_.heap.size:=xl
    go_upto_region 12 with fail
    clear x8 xf8 xl;have HR8':=HR7.out.setCell (p:=⟨w3.heap.size,8,none⟩) (by show w3.heap.size<wc.heap.size;omega) (.slice (some ⟨gg,0,none⟩) (j+1) cap2);obtain⟨w8_,hXq,hsq,fO_,zw8_a,zw8_b⟩:=stLet1 fO (.slice (some ⟨gg,0,none⟩) (j+1) cap2);rw[hXq];replace fE:=hsq.blk (by omega) fE;replace fR:=hsq.blk (by omega) fR;replace fY:=hsq.blk (by omega) fY;replace hT:=zq (hT.out.move (hsq.keeps (fun b hb=>by have h1:=hb.1;have h2:=hb.2;omega)));replace fT:=hsq.blk (by omega) fT;replace hP:=zq (hP.out.move (hsq.keeps (fun b hb=>by have h1:=hb.1;have h2:=hb.2;omega)));replace hQ:=zq (hQ.out.move (hsq.keeps (fun b hb=>by have h1:=hb.1;have h2:=hb.2;omega)));replace hX:=zq (hX.out.move (hsq.keeps (fun b hb=>by have h1:=hb.1;have h2:=hb.2;omega)));replace h5_:=zq (h5_.out.move (hsq.keeps (fun b hb=>by have h1:=hb.1;omega)));replace fD:=hsq.blk (by omega) fD;replace fB:=zq (hsq.bel fB.out (by omega));clear fO hsq;have fO:=fO_;clear fO_;rw[hXq] at HR8';have hR2:=zq HR8'.swap;have zz7:=HSZ;clear HR8' HR7 hXq HSZ;obtain⟨rl1,rl2,rd_,xs1,xs2,ro1,ro2,rp1,rp2⟩:=hR2.out;have HO1:=zq ro1;have HO2:=zq ro2;have HP1:=zq rp1;have HP2:=zq rp2;have HD_:=zq rd_;have HRL:=zq (And.intro rl1 rl2);clear rl1 rl2 rd_ ro1 ro2 rp1 rp2 hR2;obtain⟨y0,y1⟩:=blk2 fD;have yl:=aC fD
    go_wp2_with (first | (at_builtin;refine wpList_append_lies _ rfl (.tmp 63) (.tmp 65) 23 rfl wc.heap.size 25 ity _ 2 32 Tryz.underlying23 HIY.out Y0.out Y1.out Y2.out rfl (by omega) (.slice cu j qu) j xs1 rfl (aP HO1.out ai) ⟨w8_.heap.size,0,none⟩ 1 1 [.int .i64 k5,.slice a5 n5 q5] rfl rfl (World.news_of_block (cs:=#[.int .i64 k5,.slice a5 n5 q5]) (t:=25) (fr:=(0,0)) (aB rfl)) (by simp[Value.oneCell']) (by omega) (by unfold maxLen;omega) (by omega) (by simp;omega) _ rfl ?_) | fail)
    intro g2 cap3 w9_ hown hgrow hat hlt2;have HSZ:w8_.heap.size≤w9_.heap.size:=by have:=hgrow.size;simp only[World.size_alloc] at this;omega
    have HR9:=zq (dl.push HRL.out.1 HRL.out.2 HD_.out HO1.out ⟨xs2,HO2.out,HP2.out⟩ HP1.out ai ((h5_.out.move (G:=fun b=>wc.heap.size≤b∧(Value.slice cu j qu).ownBlock≠some b∧(Value.slice (some ⟨gg,0,none⟩) (j+1) cap2).ownBlock≠some b) (.weaken fun b hb hl=>⟨by have h1:=hb.1;omega,fun q=>by have h1:=(HOB2.out b q).2;have h2:=hb.1;omega,HGG.out b hb.1 hb.2⟩)).below ai).srep hown hgrow (by simpa using hat)).swap;have HG:Hid (∀b,b<w8_.heap.size→(Value.slice cu j qu).ownBlock≠some b→w9_.heap[b]?=w8_.heap[b]?):=zq fun b h1 h2=>(hgrow.block b (by simp only[World.size_alloc];omega) (fun q=>h2 q.symm)).trans ((ai (w:=w8_) (o:=.cells #[.int .i64 k5,.slice a5 n5 q5] 25)).block b h1);have HNE:Hid (∀b,(b<wc.heap.size∨wr.heap.size≤b)→(Value.slice cu j qu).ownBlock≠some b):=zq fun b h q=>by have h1:=HOB2.out b q;omega
    have fB9:=zq (bj fB.out (ai (o:=.cells #[.int .i64 k5,.slice a5 n5 q5] 25)) HO1.out (by omega) hgrow);clear y0 y1 yl hown hgrow hat HO1 HO2 HP1 HP2 HD_ HRL fD fB h5_;replace fE:=(HG.out _ (by omega) (HNE.out _ (.inl (by omega)))).trans fE;replace fR:=(HG.out _ (by omega) (HNE.out _ (.inl (by omega)))).trans fR;replace fY:=(HG.out _ (by omega) (HNE.out _ (.inl (by omega)))).trans fY;replace hT:=zq (hT.out.keepG HSZ (fun b hb hl=>HG.out b hl (HNE.out b (.inl (by have h2:=hb.2;omega)))));replace fT:=(HG.out _ (by omega) (HNE.out _ (.inl (by omega)))).trans fT;replace hP:=zq (hP.out.keepG HSZ (fun b hb hl=>HG.out b hl (HNE.out b (.inl (by have h2:=hb.2;omega)))));replace hQ:=zq (hQ.out.keepG HSZ (fun b hb hl=>HG.out b hl (HNE.out b (.inl (by have h2:=hb.2;omega)))));replace fO:=(HG.out _ (by omega) (HNE.out _ (.inl (by omega)))).trans fO;replace hX:=zq (hX.out.keepG HSZ (fun b hb hl=>HG.out b hl (HNE.out b (.inl hb.2))));have fB:=fB9;clear fB9;clear HG HNE
    go_wp2_with fail
    go_roundw
    case rel=>
     have hc4:=HC4.out;have hts1:=HTS1.out;have hlj2:=HLJ.out;have hkn:=HKN.out;refine⟨j+1,lb4,some ⟨gg,0,none⟩,some ⟨g2,0,none⟩,cap2,cap3,ks ++ [t4],by omega,rfl,rfl,by go_num,by omega,zq (by omega),by omega,zq fE,zq fR,zq fY,zq fT,zq fO,fB,hT,hP,hQ,hX,?_,zq ⟨by simp[hkn.1],by rw[Tm.cnts_append];simp only[Tm.cnts];omega⟩⟩;have q1:Tm.rows (ks ++ [t4])=Tm.rows ks ++ [t4.row]:=by simp[Tm.rows_eq]
     have q2:Ty.rows ((hs.take (j+1)).map S.ty)=Ty.rows ((hs.take j).map S.ty) ++ [sj.ty.row]:=by rw[HROWS.out];simp[Ty.rows_eq]
     unfold Hid;rw[q1,q2]
     exact HR9.out
    case measure=>simp[intOf];omega
   ·have hje:cm=j:=by omega
    subst hje;have htk:ts.take cm=ts:=List.take_of_length_le (by rw[HHL.out.2];exact Nat.le_refl _);have hsk:hs.take cm=hs:=List.take_of_length_le (by rw[HHL.out.1,HHL.out.2];exact Nat.le_refl _);have hlj2:=HLJ.out;have hkn:=HKN.out;have hr3:=hR2.out;rw[htk] at hlj2 hkn;rw[hsk] at hr3;have HLJ2:=zq hlj2;have HKN2:=zq hkn;have hRL:=zq hr3.fst;have hOB:Hid (∀b,(Value.slice cv cm qv).ownBlock=some b→wc.heap.size≤b∧b<wr.heap.size):=zq (by obtain⟨_,_,_,x1,x2,o1,o2,-,-⟩:=hr3;exact fun b h=>o1.lt b h);have hK0:aA (fun b=>wc.heap.size≤b∧(Value.slice cv cm qv).ownBlock≠some b) wr (hs.map S.ty) (.slice cu cm qu):=hr3.sndRep;have hK:Hid (aA (fun b=>(Value.slice cv cm qv).ownBlock≠some b) wr (hs.map S.ty) (.slice cu cm qu)):=zq (hK0.move (.weaken fun b h _=>h.2));have HWC:=zq (HWT.out _ _ _ _ _ _ _ _ _ hK.out hT.out);clear htk hsk hlj2 hkn hr3 hK0 HLJ HKN hR2 HWT HKS HIH hcvN hlt hX;obtain⟨y0,y1,y2,y3,y4,y5,y6,y7,y8⟩:=blk9 fE;have yl:=aC fE;obtain⟨v0,v1⟩:=blk2 fT;have vl:=aC fT
    go_wp2_with fail
    clear y0 y1 y2 y3 y4 y5 y6 y7 y8 yl v0 v1 vl;refine HWC.out.mono ?_;rintro e w10 ⟨us,ua,uq,rfl,hul,huc,hU0,hb⟩;have z10:=hb.size;have hUs':Hid (aA (fun b=>(Value.slice cv cm qv).ownBlock≠some b) w10 us (.slice ua cm uq)):=zq (hU0.move (.weaken fun b h _ q=>by have h1:=hOB.out b q;rcases h with (h | h) | h;exact h q;have h2:=h.2;omega;omega));have HUC:=zq (And.intro hul huc);clear hU0 hul huc HWC;replace fE:=af fE hb;replace fR:=af fR hb;replace fY:=af fY hb;replace fB:=zq (aj fB.out hb);replace hT:=zq (hT.out.below hb);replace fT:=af fT hb;replace hP:=zq (hP.out.below hb);replace hQ:=zq (hQ.out.below hb);replace fO:=af fO hb;replace hRL:=zq (hRL.out.below hb);replace hK:=zq (hK.out.below hb);clear hb;have hUs:=hUs';clear hUs';have hg10 : ∀b,(Value.slice cv cm qv).ownBlock=some b→b<w10.heap.size:=fun b q=>by have h1:=hOB.out b q;omega
    have HG10:=zq hg10;clear hg10 hOB
    go_wp2_with fail
    go_loopw [2,18] (fun s2 s18 w2r=>∃(j:Nat) (l2:Int) (ks2:List Tm),j≤cm∧s2 = .int .i64 l2∧s18 = .int .i64 (j:Int)∧lj≤l2∧l2≤lj+j∧w10.heap.size≤w2r.heap.size∧Hid (w2r.heap[w.heap.size]?=some (.cells #[.int .i64 k,.string nm,.int .i64 u,.int .i64 tk,.slice ta tn tq,.int .i64 fk,.slice fa fn fq,.int .i64 lb,.slice ca cm cq] 28 (0,0)))∧Hid (w2r.heap[w.heap.size+1]?=some (.cells #[.int .i64 0,.string {data:=#[]},.int .i64 0,.int .i64 0,.slice none 0 0,.int .i64 0,.slice none 0 0,.int .i64 0,.slice none 0 0] 28 (0,0)))∧Hid (w2r.heap[w.heap.size+1+1]?=some (.cells #[.int .i64 0,.slice none 0 0] 25 (0,0)))∧Hid (w2r.heap[w1.heap.size]?=some (.cells #[.int .i64 k1,.slice a1 n1 q1] 25 (0,0)))∧Hid (w2r.heap[w3.heap.size]?=some (.cells #[.int .i64 k,.string nm,.int .i64 u,.int .i64 tk2,.slice ta2 tn2 tq2,.int .i64 fk2,.slice fa2 fn2 fq2,.int .i64 lb,.slice cv cm qv] 28 (0,0)))∧Hid (Below w.heap.size w w2r)∧Hid (ao (fun b=>w.heap.size+3≤b∧b<w1.heap.size) w2r s.ty (.agg #[.int .i64 k1,.slice a1 n1 q1]))∧Hid (ao (fun b=>w2.heap.size≤b∧b<w3.heap.size) w2r ty (.agg #[.int .i64 tk2,.slice ta2 tn2 tq2]))∧Hid (ao (fun b=>w2.heap.size≤b∧b<w3.heap.size) w2r src (.agg #[.int .i64 fk2,.slice fa2 fn2 fq2]))∧Hid (bG wc.heap.size 28 9 w2r (.slice cv cm qv) cm (Tm.rows ks2))∧Hid (aA (fun b=>(Value.slice cv cm qv).ownBlock≠some b) w2r (hs.map S.ty) (.slice cu cm qu))∧Hid (aA (fun b=>(Value.slice cv cm qv).ownBlock≠some b) w2r us (.slice ua cm uq))∧Hid (ks2.length=cm∧Tm.cnts ks2≤Tm.cnts ks+60*j)) (fun _ i _=>cm-(intOf i).toNat)
    case atStart=>exact⟨0,lj,ks,by omega,rfl,rfl,by omega,by omega,by omega,zq fE,zq fR,zq fY,zq fT,zq fO,fB,hT,hP,hQ,hRL,hK,hUs,zq ⟨HKN2.out.1,by omega⟩⟩
    case round=>
     clear fE fR fY fT fO fB hT hP hQ hRL hK hUs;obtain⟨j,l2,ks2,hj2,rfl,rfl,hl2a,hl2b,hsz2,fE0,fR0,fY0,fT0,fO0,fB0,hT0,hP0,hQ0,hRL0,hK0,hUs0,HKN3⟩:=hrel;have fE:=fE0.out;have fR:=fR0.out;have fY:=fY0.out;have fT:=fT0.out;have fO:=fO0.out;have fB:=fB0;have hT:=hT0;have hP:=hP0;have hQ:=hQ0;have hRL:=hRL0;have hK:=hK0;have hUs:=hUs0;clear fE0 fR0 fY0 fT0 fO0 fB0 hT0 hP0 hQ0 hRL0 hK0 hUs0
     by_cases hlt:j<cm
     ·have hgo:=HG10.out
      obtain⟨g,qv',hve,hg1,hg2,hg3,hg4⟩:=hRL.out.form (by omega);simp only[Value.slice.injEq,true_and] at hve;obtain⟨rfl,rfl⟩:=hve;unfold maxLen at hg4;have hg11:=hgo g rfl;clear hgo;have hjk:j<ks2.length:=by rw[HKN3.out.1];exact hlt
      have hjh:j<(hs.map S.ty).length:=by rw[List.length_map,HHL.out.1,←HHL.out.2];exact hlt
      have hju:j<us.length:=by rw[HUC.out.1];exact hlt
      obtain⟨kt7,nm7,ut7,tk7,ta7,tn7,tq7,fk7,fa7,fn7,fq7,lt7,ct7,mt7,qt7,e0,e1,e2,e3,e4,e5,e6,e7,e8,ht7⟩:=hRL.out.atTm hjk;have hKg:=hK.out.blkT';have hUg:=hUs.out.blkT';obtain⟨bk,offk,k8,c8,m8,q8,heK,hbk,r0,r1,ht8⟩:=hK.out.at (Below.refl _ _) hjh;obtain rfl:=heK;obtain⟨bu,offu,k9,c9,m9,q9,heU,hbu,s0,s1,ht9⟩:=hUs.out.at (Below.refl _ _) hju;obtain rfl:=heU;have hbkg:bk≠g:=fun q=>hKg _ _ rfl (by omega) (by rw[q];rfl);have hbug:bu≠g:=fun q=>hUg _ _ rfl (by omega) (by rw[q];rfl);have hc9:=HUC.out.2 _ (List.getElem_mem hju);have hc8:(hs.map S.ty)[j].cnt≤14:=by rw[List.getElem_map];exact cg (HVD.out _ (List.getElem_mem _))
      have hcs:=Tm.cnts_set ks2 j hjk;obtain⟨t7,ht7e⟩ : ∃x,ks2[j]=x:=⟨_,rfl⟩
      obtain⟨y8,hy8e⟩ : ∃x,(hs.map S.ty)[j]=x:=⟨_,rfl⟩
      obtain⟨y9,hy9e⟩ : ∃x,us[j]=x:=⟨_,rfl⟩
      rw[ht7e] at ht7 hcs;rw[hy8e] at ht8 hc8;rw[hy9e] at ht9 hc9;have H8:=zq ht8;have H9:=zq ht9;have H7:=zq ht7;have HCS:=zq hcs;have HC89:=zq (And.intro hc8 hc9);clear ht7 ht8 ht9 ht7e hy8e hy9e hcs hc8 hc9 hKg hUg hjk hjh hju;have hji:(j:Int)<(cm:Int):=by omega
      have hj0:(0:Int)≤(j:Int):=by omega
      have hl2r : -1000000≤l2∧l2≤1000000:=by have h1:=HLJ2.out;have h2:=HZ.out;omega
      have HL2R:=zq hl2r;clear hl2r;have x8:=ag fO (o:=8) rfl;have xl:=aC fO
      go_wp2_with fail
      clear x8 xl;refine wp_region_noPanic ?_;refine wp_region_held_drew (S:=fun w'=>w'.cell? ⟨w3.heap.size,8,none⟩=some (.slice (some ⟨g,0,none⟩) cm qv)∧w'.cell? ⟨bk,offk+j*2,none⟩=some (.int .i64 k8)∧w'.cell? ⟨bk,offk+j*2+1,none⟩=some (.slice c8 m8 q8)∧w'.cell? ⟨bu,offu+j*2,none⟩=some (.int .i64 k9)∧w'.cell? ⟨bu,offu+j*2+1,none⟩=some (.slice c9 m9 q9)) (by kernel_rfl) ?_ (fun hH0=>?_)
      ·exact⟨ag fO rfl,r0,r1,s0,s1⟩
      obtain⟨U1,hU,hb,zU1a,zU1b⟩:=bD wr;rw[hU] at hH0 ⊢;replace fE:=af fE hb;replace fR:=af fR hb;replace fY:=af fY hb;replace fB:=zq (aj fB.out hb);replace hT:=zq (hT.out.below hb);replace fT:=af fT hb;replace hP:=zq (hP.out.below hb);replace hQ:=zq (hQ.out.below hb);replace fO:=af fO hb;replace hRL:=zq (hRL.out.below hb);replace hK:=zq (hK.out.below hb);replace hUs:=zq (hUs.out.below hb);replace e0:=ah hb e0;replace e1:=ah hb e1;replace e2:=ah hb e2;replace e3:=ah hb e3;replace e4:=ah hb e4;replace e5:=ah hb e5;replace e6:=ah hb e6;replace e7:=ah hb e7;replace e8:=ah hb e8;replace r0:=ah hb r0;replace r1:=ah hb r1;replace s0:=ah hb s0;replace s1:=ah hb s1;replace H7:=zq (H7.out.below hb);replace H8:=zq (H8.out.below hb);replace H9:=zq (H9.out.below hb);(try simp only[World.size_alloc] at zU1a zU1b);clear hU hb;refine hwt 0 pR (.pointer (some ⟨w3.heap.size,8,none⟩)) hH0 ?_ ?_
      ·intro w' hSw;dsimp only[pR];go_simp
      try simp only[pR,hwA]
      refine hwt 1 pS (.slice (some ⟨g,0,none⟩) cm qv) hH0 ?_ ?_
      ·intro w' hSw;dsimp only[pS];go_simp
      try simp only[pS,hwA]
      refine hwt 2 pT (.int .i64 (j:Int)) hH0 ?_ ?_
      ·intro w' hSw;dsimp only[pT];go_simp
      try simp only[pT,hwA]
      refine hwt 3 pU (.pointer (some ⟨w3.heap.size,8,none⟩)) hH0 ?_ ?_
      ·intro w' hSw;dsimp only[pU];go_simp
      try simp only[pU,hwA]
      refine hwt 4 pV (.slice (some ⟨g,0,none⟩) cm qv) hH0 ?_ ?_
      ·intro w' hSw;dsimp only[pV];go_simp
      try simp only[pV,hwA]
      refine hwt 5 pW (.int .i64 (j:Int)) hH0 ?_ ?_
      ·intro w' hSw;dsimp only[pW];go_simp
      try simp only[pW,hwA]
      refine hwt 6 pX (.pointer (some ⟨g,j*9,none⟩)) hH0 ?_ ?_
      ·intro w' hSw;dsimp only[pX];go_simp
      try simp only[pX,hwA]
      refine hwt 8 pZ (.slice (some ⟨bk,offk,none⟩) cm qu) hH0 ?_ ?_
      ·intro w' hSw;dsimp only[pZ];go_simp
      try simp only[pZ,hwA]
      refine hwt 9 qa (.int .i64 (j:Int)) hH0 ?_ ?_
      ·intro w' hSw;dsimp only[qa];go_simp
      try simp only[qa,hwA]
      refine hwt 10 mv (.pointer (some ⟨bk,offk+j*2,none⟩)) hH0 ?_ ?_
      ·intro w' hSw;dsimp only[mv];go_simp
      try simp only[mv,hwA]
      refine hwt 11 mw (.agg #[.int .i64 k8,.slice c8 m8 q8]) hH0 ?_ ?_
      ·intro w' hSw;dsimp only[mw];go_simp
      try simp only[mw,hwA]
      refine hwt 12 mx (.slice (some ⟨bu,offu,none⟩) cm uq) hH0 ?_ ?_
      ·intro w' hSw;dsimp only[mx];go_simp
      try simp only[mx,hwA]
      refine hwt 13 my (.int .i64 (j:Int)) hH0 ?_ ?_
      ·intro w' hSw;dsimp only[my];go_simp
      try simp only[my,hwA]
      refine hwt 14 mz (.pointer (some ⟨bu,offu+j*2,none⟩)) hH0 ?_ ?_
      ·intro w' hSw;dsimp only[mz];go_simp
      try simp only[mz,hwA]
      refine hwt 15 mA (.agg #[.int .i64 k9,.slice c9 m9 q9]) hH0 ?_ ?_
      ·intro w' hSw;dsimp only[mA];go_simp
      try simp only[mA,hwA]
      refine hwt 16 mB (.int .i64 l2) hH0 ?_ ?_
      ·intro w' hSw;dsimp only[mB];go_simp
      try simp only[mB,hwA]
      refine hwr 7 pY (fun K hKK=>?_)
      dsimp only[pY];go_simp
      refine hKK.out _ _ ⟨ag fO rfl,r0,r1,s0,s1⟩ (fun hH1=>?_);clear hKK K hH0
      try simp only[pY,hwA]
      refine hwr 17 mC (fun K hKK=>?_)
      dsimp only[mC];go_simp
      go_at_call 59
      refine(m4 _ _ _ t7 y8 y9 l2 _ _ _ _ H7.out H8.out H9.out HC89.out.1 HC89.out.2 HL2R.out.1 HL2R.out.2).mono ?_;rintro e X2 ⟨t6,v,lb6,rfl,hc6,hl6a,hl6b,hv,hb⟩;obtain⟨kt6,nm6,ut6,tk6,ta6,tn6,tq6,fk6,fa6,fn6,fq6,lt6,ct6,mt6,qt6,rfl⟩:=hv.shape;have HC6:=zq hc6;have H6':Hid (ax (fun b=>(wc.heap.size≤b∧b≠g)∨U1.heap.size≤b) X2 t6 (.agg #[.int .i64 kt6,.string nm6,.int .i64 ut6,.int .i64 tk6,.slice ta6 tn6 tq6,.int .i64 fk6,.slice fa6 fn6 fq6,.int .i64 lt6,.slice ct6 mt6 qt6])):=zq hv;clear hv hc6
      go_wp2_with fail
      have zX2:U1.heap.size≤X2.heap.size:=hb.size;replace fE:=af fE hb;replace fR:=af fR hb;replace fY:=af fY hb;replace fB:=zq (aj fB.out hb);replace hT:=zq (hT.out.below hb);replace fT:=af fT hb;replace hP:=zq (hP.out.below hb);replace hQ:=zq (hQ.out.below hb);replace fO:=af fO hb;replace hRL:=zq (hRL.out.below hb);replace hK:=zq (hK.out.below hb);replace hUs:=zq (hUs.out.below hb);replace e0:=ah hb e0;replace e1:=ah hb e1;replace e2:=ah hb e2;replace e3:=ah hb e3;replace e4:=ah hb e4;replace e5:=ah hb e5;replace e6:=ah hb e6;replace e7:=ah hb e7;replace e8:=ah hb e8;replace r0:=ah hb r0;replace r1:=ah hb r1;replace s0:=ah hb s0;replace s1:=ah hb s1;replace H7:=zq (H7.out.below hb);replace H8:=zq (H8.out.below hb);replace H9:=zq (H9.out.below hb);have H6:=H6';clear H6';refine hKK.out _ _ ⟨ag fO rfl,r0,r1,s0,s1⟩ (fun hH2=>?_);clear hKK K hH1 hb
      try simp only[mC,hwA]
      refine hwt 18 mE (.tuple #[.agg #[.int .i64 kt6,.string nm6,.int .i64 ut6,.int .i64 tk6,.slice ta6 tn6 tq6,.int .i64 fk6,.slice fa6 fn6 fq6,.int .i64 lt6,.slice ct6 mt6 qt6],.int .i64 lb6]) hH2 ?_ ?_
      ·intro w' hSw;dsimp only[mE];go_simp
      try simp only[mE,hwA]
      refine hwt 19 mF (.agg #[.int .i64 kt6,.string nm6,.int .i64 ut6,.int .i64 tk6,.slice ta6 tn6 tq6,.int .i64 fk6,.slice fa6 fn6 fq6,.int .i64 lt6,.slice ct6 mt6 qt6]) hH2 ?_ ?_
      ·intro w' hSw;dsimp only[mF];go_simp
      try simp only[mF,hwA]
      refine hwt 20 mG (.int .i64 lb6) hH2 ?_ ?_
      ·intro w' hSw;dsimp only[mG];go_simp
      try simp only[mG,hwA]
      refine hwt 21 mH (.pointer (some ⟨g,j*9,none⟩)) hH2 ?_ ?_
      ·intro w' hSw;dsimp only[mH];go_simp
      try simp only[mH,hwA]
      refine hwr 22 mI (fun K hKK=>?_);obtain⟨⟨w0_,x0⟩,xf0⟩:=hRL.out.cell (o:=j*9) (by omega);obtain⟨⟨w1_,x1⟩,xf1⟩:=hRL.out.cell (o:=j*9+1) (by omega);obtain⟨⟨w2_,x2⟩,xf2⟩:=hRL.out.cell (o:=j*9+2) (by omega);obtain⟨⟨w3_,x3⟩,xf3⟩:=hRL.out.cell (o:=j*9+3) (by omega);obtain⟨⟨w4_,x4⟩,xf4⟩:=hRL.out.cell (o:=j*9+4) (by omega);obtain⟨⟨w5_,x5⟩,xf5⟩:=hRL.out.cell (o:=j*9+5) (by omega);obtain⟨⟨w6_,x6⟩,xf6⟩:=hRL.out.cell (o:=j*9+6) (by omega);obtain⟨⟨w7_,x7⟩,xf7⟩:=hRL.out.cell (o:=j*9+7) (by omega);obtain⟨⟨w8_,x8⟩,xf8⟩:=hRL.out.cell (o:=j*9+8) (by omega);have xlg:g<X2.heap.size:=by omega
      dsimp only[mI];go_simp
      (try go_wp2_with fail);have hsq:=(HSt.refl g X2).step (o:=j*9) (v:=.int .i64 kt6).step (o:=j*9+1) (v:=.string nm6).step (o:=j*9+2) (v:=.int .i64 ut6).step (o:=j*9+3) (v:=.int .i64 tk6).step (o:=j*9+4) (v:=.slice ta6 tn6 tq6).step (o:=j*9+5) (v:=.int .i64 fk6).step (o:=j*9+6) (v:=.slice fa6 fn6 fq6).step (o:=j*9+7) (v:=.int .i64 lt6).step (o:=j*9+8) (v:=.slice ct6 mt6 qt6);have hrl:=hRL.out.setTm hlt (H6.out.move (G:=fun b=>wc.heap.size≤b∧b≠g) (.weaken fun b hb _=>by rcases hb with hb | hb;exact hb;exact⟨by omega,by omega⟩));obtain⟨X4,hXq⟩ : ∃X,(((((((((X2.setCell ⟨g,j*9,none⟩ (.int .i64 kt6)).setCell ⟨g,j*9+1,none⟩ (.string nm6)).setCell ⟨g,j*9+2,none⟩ (.int .i64 ut6)).setCell ⟨g,j*9+3,none⟩ (.int .i64 tk6)).setCell ⟨g,j*9+4,none⟩ (.slice ta6 tn6 tq6)).setCell ⟨g,j*9+5,none⟩ (.int .i64 fk6)).setCell ⟨g,j*9+6,none⟩ (.slice fa6 fn6 fq6)).setCell ⟨g,j*9+7,none⟩ (.int .i64 lt6)).setCell ⟨g,j*9+8,none⟩ (.slice ct6 mt6 qt6))=X:=⟨_,rfl⟩
      rw[hXq] at hsq hrl ⊢;have zX4:X2.heap.size≤X4.heap.size:=hsq.2.2.1;clear hRL e0 e1 e2 e3 e4 e5 e6 e7 e8 H7 H8 H9 H6 x0 xf0 x1 xf1 x2 xf2 x3 xf3 x4 xf4 x5 xf5 x6 xf6 x7 xf7 x8 xf8;have hRL:=zq hrl;clear hrl;replace fE:=hsq.blk (by omega) fE;replace fR:=hsq.blk (by omega) fR;replace fY:=hsq.blk (by omega) fY;replace fB:=zq (hsq.bel fB.out (by omega));replace hT:=zq (hsq.rep (fun b hb=>by have h1:=hb.1;have h2:=hb.2;omega) hT.out);replace fT:=hsq.blk (by omega) fT;replace hP:=zq (hsq.rep (fun b hb=>by have h1:=hb.1;have h2:=hb.2;omega) hP.out);replace hQ:=zq (hsq.rep (fun b hb=>by have h1:=hb.1;have h2:=hb.2;omega) hQ.out);replace fO:=hsq.blk (by omega) fO;replace hK:=zq (hK.out.move (hsq.keeps (fun b hb q=>hb (by rw[q];rfl))));replace hUs:=zq (hUs.out.move (hsq.keeps (fun b hb q=>hb (by rw[q];rfl))));replace r0:=hsq.cell (by show bk≠g;omega) r0;replace r1:=hsq.cell (by show bk≠g;omega) r1;replace s0:=hsq.cell (by show bu≠g;omega) s0;replace s1:=hsq.cell (by show bu≠g;omega) s1;refine hKK.out _ _ ⟨ag fO rfl,r0,r1,s0,s1⟩ (fun hH3=>?_);clear hKK K hH2 hsq hXq
      try simp only[mI,hwA]
      refine hwt 23 mJ (.int .i64 lb6) hH3 ?_ ?_
      ·intro w' hSw;dsimp only[mJ];go_simp
      try simp only[mJ,hwA]
      refine wpAnyH_done (by kernel_rfl) ?_ _;refine NoPanic.normal ?_;clear hH3
      go_wp2_with fail
      go_roundw
      case rel=>exact⟨j+1,lb6,ks2.set j t6,by omega,rfl,by go_num,by omega,by omega,by omega,zq fE,zq fR,zq fY,zq fT,zq fO,fB,hT,hP,hQ,hRL,hK,hUs,zq ⟨by rw[List.length_set];exact HKN3.out.1,by have h1:=HCS.out t6 60 HC6.out;have h2:=HKN3.out.2;omega⟩⟩
      case measure=>simp[intOf];omega
     ·have hcj:cm=j:=by omega
      subst hcj
      by_cases h13:k=13
      ·have hkb:(k==13)=true:=by simpa using h13
       have hm1:=HTP.out h13;have H13:=zq h13;clear h13;obtain⟨g,qv',hve,hg1,hg2,hg3,hg4⟩:=hRL.out.form (by omega);simp only[Value.slice.injEq,true_and] at hve;obtain⟨rfl,rfl⟩:=hve;unfold maxLen at hg4;have hj0k:0<ks2.length:=by rw[HKN3.out.1];exact hm1
       obtain⟨kt7,nm7,ut7,tk7,ta7,tn7,tq7,fk7,fa7,fn7,fq7,lt7,ct7,mt7,qt7,e0,e1,e2,e3,e4,e5,e6,e7,e8,ht7⟩:=hRL.out.atTm hj0k;simp only[Nat.zero_mul,Nat.zero_add] at e0 e1 e2 e3 e4 e5 e6 e7 e8;have hc7:ks2[0].cnt≤Tm.cnts ks2:=by cases ks2 with | nil=>exact absurd hj0k (by simp) | cons a b=>simp only[List.getElem_cons_zero,Tm.cnts];omega
       obtain⟨t7,ht7e⟩ : ∃x,ks2[0]=x:=⟨_,rfl⟩
       rw[ht7e] at ht7 hc7;have H7:=zq ht7;have HC7:=zq hc7;clear ht7 hc7 ht7e hj0k hRL hK hUs hP hQ;have y0:=ag fE (o:=0) rfl;have yl:=aC fE
       go_wp2_with fail
       clear y0 yl;refine wp_region_noPanic ?_;refine wp_region_held_drew (S:=fun w'=>w'.cell? ⟨w3.heap.size,8,none⟩=some (.slice (some ⟨g,0,none⟩) cm qv)∧w'.cell? ⟨g,0,none⟩=some (.int .i64 kt7)∧w'.cell? ⟨g,1,none⟩=some (.string nm7)∧w'.cell? ⟨g,2,none⟩=some (.int .i64 ut7)∧w'.cell? ⟨g,3,none⟩=some (.int .i64 tk7)∧w'.cell? ⟨g,4,none⟩=some (.slice ta7 tn7 tq7)∧w'.cell? ⟨g,5,none⟩=some (.int .i64 fk7)∧w'.cell? ⟨g,6,none⟩=some (.slice fa7 fn7 fq7)∧w'.cell? ⟨g,7,none⟩=some (.int .i64 lt7)∧w'.cell? ⟨g,8,none⟩=some (.slice ct7 mt7 qt7)∧w'.cell? ⟨w1.heap.size,0,none⟩=some (.int .i64 k1)∧w'.cell? ⟨w1.heap.size,1,none⟩=some (.slice a1 n1 q1)) (by kernel_rfl) ?_ (fun hH0=>?_)
       ·exact⟨ag fO rfl,e0,e1,e2,e3,e4,e5,e6,e7,e8,ag fT rfl,ag fT rfl⟩
       obtain⟨U2,hU,hb,zU2a,zU2b⟩:=bD wr;rw[hU] at hH0 ⊢;replace fE:=af fE hb;replace fR:=af fR hb;replace fY:=af fY hb;replace fB:=zq (aj fB.out hb);replace hT:=zq (hT.out.below hb);replace fT:=af fT hb;replace fO:=af fO hb;replace e0:=ah hb e0;replace e1:=ah hb e1;replace e2:=ah hb e2;replace e3:=ah hb e3;replace e4:=ah hb e4;replace e5:=ah hb e5;replace e6:=ah hb e6;replace e7:=ah hb e7;replace e8:=ah hb e8;replace H7:=zq (H7.out.below hb);(try simp only[World.size_alloc] at zU2a zU2b);clear hU hb;refine hwt 0 qf (.pointer (some ⟨w3.heap.size,8,none⟩)) hH0 ?_ ?_
       ·intro w' hSw;dsimp only[qf];go_simp
       try simp only[qf,hwA]
       refine hwt 1 qg (.slice (some ⟨g,0,none⟩) cm qv) hH0 ?_ ?_
       ·intro w' hSw;dsimp only[qg];go_simp
       try simp only[qg,hwA]
       refine hwt 2 qh (.pointer (some ⟨g,0,none⟩)) hH0 ?_ ?_
       ·intro w' hSw;dsimp only[qh];go_simp;intro hcm0;omega
       try simp only[qh,hwA]
       refine hwt 3 qi (.agg #[.int .i64 kt7,.string nm7,.int .i64 ut7,.int .i64 tk7,.slice ta7 tn7 tq7,.int .i64 fk7,.slice fa7 fn7 fq7,.int .i64 lt7,.slice ct7 mt7 qt7]) hH0 ?_ ?_
       ·intro w' hSw;dsimp only[qi];go_simp
       try simp only[qi,hwA]
       refine hwt 4 qj (.agg #[.int .i64 k1,.slice a1 n1 q1]) hH0 ?_ ?_
       ·intro w' hSw;dsimp only[qj];go_simp
       try simp only[qj,hwA]
       refine hwt 5 qk (.int .i64 l2) hH0 ?_ ?_
       ·intro w' hSw;dsimp only[qk];go_simp
       try simp only[qk,hwA]
       refine hwr 6 ql (fun K hKK=>?_);obtain⟨r0,rf0,r1,rf1,r2,rf2,r3,rf3,r4,rf4,r5,rf5,r6,rf6,r7,rf7,r8,rf8⟩:=blk9f fR
       dsimp only[ql];go_simp
       (try go_wp2_with fail);have hQq:=bL fR (.int .i64 kt7) (.string nm7) (.int .i64 ut7) (.int .i64 tk7) (.slice ta7 tn7 tq7) (.int .i64 fk7) (.slice fa7 fn7 fq7) (.int .i64 lt7) (.slice ct7 mt7 qt7);clear fR r0 rf0 r1 rf1 r2 rf2 r3 rf3 r4 rf4 r5 rf5 r6 rf6 r7 rf7 r8 rf8;obtain⟨X301,hXq,hsq,fR,zX301a,zX301b⟩:=hQq;rw[hXq];replace fE:=hsq.blk (by omega) fE;replace fY:=hsq.blk (by omega) fY;replace fB:=zq (hsq.bel fB.out (by omega));replace hT:=zq (hsq.rep (fun b hb=>by have h1:=hb.1;have h2:=hb.2;omega) hT.out);replace fT:=hsq.blk (by omega) fT;replace fO:=hsq.blk (by omega) fO;replace e0:=hsq.cell (by show g≠w.heap.size+1;omega) e0;replace e1:=hsq.cell (by show g≠w.heap.size+1;omega) e1;replace e2:=hsq.cell (by show g≠w.heap.size+1;omega) e2;replace e3:=hsq.cell (by show g≠w.heap.size+1;omega) e3;replace e4:=hsq.cell (by show g≠w.heap.size+1;omega) e4;replace e5:=hsq.cell (by show g≠w.heap.size+1;omega) e5;replace e6:=hsq.cell (by show g≠w.heap.size+1;omega) e6;replace e7:=hsq.cell (by show g≠w.heap.size+1;omega) e7;replace e8:=hsq.cell (by show g≠w.heap.size+1;omega) e8;replace H7:=zq (H7.out.move (hsq.keeps (fun b hb=>by have h1:=hb.1;omega)));refine hKK.out _ _ ⟨ag fO rfl,e0,e1,e2,e3,e4,e5,e6,e7,e8,ag fT rfl,ag fT rfl⟩ (fun hH301=>?_);clear hKK K hH0 hsq hXq
       try simp only[ql,hwA]
       refine hwr 7 qn (fun K hKK=>?_);obtain⟨r0,r1,rf0,rf1⟩:=co fY
       dsimp only[qn];go_simp
       (try go_wp2_with fail);have hQq:=bw fY (.int .i64 k1) (.slice a1 n1 q1);clear fY r0 rf0 r1 rf1;obtain⟨X302,hXq,hsq,fY,zX302a,zX302b⟩:=hQq;rw[hXq];replace fE:=hsq.blk (by omega) fE;replace fR:=hsq.blk (by omega) fR;replace fB:=zq (hsq.bel fB.out (by omega));replace hT:=zq (hsq.rep (fun b hb=>by have h1:=hb.1;have h2:=hb.2;omega) hT.out);replace fT:=hsq.blk (by omega) fT;replace fO:=hsq.blk (by omega) fO;replace e0:=hsq.cell (by show g≠w.heap.size+1+1;omega) e0;replace e1:=hsq.cell (by show g≠w.heap.size+1+1;omega) e1;replace e2:=hsq.cell (by show g≠w.heap.size+1+1;omega) e2;replace e3:=hsq.cell (by show g≠w.heap.size+1+1;omega) e3;replace e4:=hsq.cell (by show g≠w.heap.size+1+1;omega) e4;replace e5:=hsq.cell (by show g≠w.heap.size+1+1;omega) e5;replace e6:=hsq.cell (by show g≠w.heap.size+1+1;omega) e6;replace e7:=hsq.cell (by show g≠w.heap.size+1+1;omega) e7;replace e8:=hsq.cell (by show g≠w.heap.size+1+1;omega) e8;replace H7:=zq (H7.out.move (hsq.keeps (fun b hb=>by have h1:=hb.1;omega)));refine hKK.out _ _ ⟨ag fO rfl,e0,e1,e2,e3,e4,e5,e6,e7,e8,ag fT rfl,ag fT rfl⟩ (fun hH302=>?_);clear hKK K hH301 hsq hXq
       try simp only[qn,hwA]
       refine hwt 8 qo (.int .i64 l2) hH302 ?_ ?_
       ·intro w' hSw;dsimp only[qo];go_simp
       try simp only[qo,hwA]
       refine wpAnyH_done (by kernel_rfl) ?_ _;refine NoPanic.normal ?_;clear hH302;obtain⟨rc0,rc1,rc2,rc3,rc4,rc5,rc6,rc7,rc8⟩:=blk9 fR;obtain⟨ry0,ry1⟩:=blk2 fY
       go_step;go_step;go_step
       refine bodyPost_ret (v:=.tuple #[.agg #[.int .i64 kt7,.string nm7,.int .i64 ut7,.int .i64 tk7,.slice ta7 tn7 tq7,.int .i64 fk7,.slice fa7 fn7 fq7,.int .i64 lt7,.slice ct7 mt7 qt7],.agg #[.int .i64 k1,.slice a1 n1 q1],.int .i64 l2]) (by simp[results,Tryz.results91,go_sem,rc0,rc1,rc2,rc3,rc4,rc5,rc6,rc7,rc8,ry0,ry1]) rfl ?_;rw[←HQQ.out];have h1:=HLJ2.out;have h2:=HZ.out;have h3:=HKN3.out;have h4:=HKN2.out;have h5:=HOC.out;have h6:=HC7.out;refine⟨t7,_,_,l2,rfl,?_,by omega,?_,H7.out.move (.weaken fun b h _=>by have h1:=h.1;show w.heap.size≤b;omega),hT.out.move (.weaken fun b h _=>by have h1:=h.1;show w.heap.size≤b;omega),fB.out⟩
       ·simp only[Tm.size];omega
       ·simp only[Tm.size];omega
      ·have hkb:(k==13)=false:=by simpa using h13
       clear h13;have hks:Hid (aN (fun b=>wc.heap.size≤b) wr ks2 (.slice cv cm qv)):=zq hRL.out.rep;clear hRL hK hUs;have y0:=ag fE (o:=0) rfl;have yl:=aC fE
       go_wp2_with fail
       clear y0 yl;refine wp_region_noPanic ?_;refine wp_region_held_drew (S:=fun w'=>w'.cell? ⟨w3.heap.size,0,none⟩=some (.int .i64 k)∧w'.cell? ⟨w3.heap.size,1,none⟩=some (.string nm)∧w'.cell? ⟨w3.heap.size,2,none⟩=some (.int .i64 u)∧w'.cell? ⟨w3.heap.size,3,none⟩=some (.int .i64 tk2)∧w'.cell? ⟨w3.heap.size,4,none⟩=some (.slice ta2 tn2 tq2)∧w'.cell? ⟨w3.heap.size,5,none⟩=some (.int .i64 fk2)∧w'.cell? ⟨w3.heap.size,6,none⟩=some (.slice fa2 fn2 fq2)∧w'.cell? ⟨w3.heap.size,7,none⟩=some (.int .i64 lb)∧w'.cell? ⟨w3.heap.size,8,none⟩=some (.slice cv cm qv)∧w'.cell? ⟨w1.heap.size,0,none⟩=some (.int .i64 k1)∧w'.cell? ⟨w1.heap.size,1,none⟩=some (.slice a1 n1 q1)) (by kernel_rfl) ?_ (fun hH0=>?_)
       ·exact blk9r fO ⟨ag fT rfl,ag fT rfl⟩
       obtain⟨U3,hU,hb,zU3a,zU3b⟩:=bD wr;rw[hU] at hH0 ⊢;replace fE:=af fE hb;replace fR:=af fR hb;replace fY:=af fY hb;replace fB:=zq (aj fB.out hb);replace hT:=zq (hT.out.below hb);replace fT:=af fT hb;replace hP:=zq (hP.out.below hb);replace hQ:=zq (hQ.out.below hb);replace fO:=af fO hb;replace hks:=zq (hks.out.below hb);(try simp only[World.size_alloc] at zU3a zU3b);clear hU hb;refine hwt 0 qp (.agg #[.int .i64 k,.string nm,.int .i64 u,.int .i64 tk2,.slice ta2 tn2 tq2,.int .i64 fk2,.slice fa2 fn2 fq2,.int .i64 lb,.slice cv cm qv]) hH0 ?_ ?_
       ·intro w' hSw;dsimp only[qp];go_simp
       try simp only[qp,hwA]
       refine hwt 1 qw (.agg #[.int .i64 k1,.slice a1 n1 q1]) hH0 ?_ ?_
       ·intro w' hSw;dsimp only[qw];go_simp
       try simp only[qw,hwA]
       refine hwt 2 qx (.int .i64 l2) hH0 ?_ ?_
       ·intro w' hSw;dsimp only[qx];go_simp
       try simp only[qx,hwA]
       refine hwr 3 qy (fun K hKK=>?_);obtain⟨r0,rf0,r1,rf1,r2,rf2,r3,rf3,r4,rf4,r5,rf5,r6,rf6,r7,rf7,r8,rf8⟩:=blk9f fR
       dsimp only[qy];go_simp
       (try go_wp2_with fail);have hQq:=bL fR (.int .i64 k) (.string nm) (.int .i64 u) (.int .i64 tk2) (.slice ta2 tn2 tq2) (.int .i64 fk2) (.slice fa2 fn2 fq2) (.int .i64 lb) (.slice cv cm qv);clear fR r0 rf0 r1 rf1 r2 rf2 r3 rf3 r4 rf4 r5 rf5 r6 rf6 r7 rf7 r8 rf8;obtain⟨X401,hXq,hsq,fR,zX401a,zX401b⟩:=hQq;rw[hXq];replace fE:=hsq.blk (by omega) fE;replace fY:=hsq.blk (by omega) fY;replace fB:=zq (hsq.bel fB.out (by omega));replace hT:=zq (hsq.rep (fun b hb=>by have h1:=hb.1;have h2:=hb.2;omega) hT.out);replace fT:=hsq.blk (by omega) fT;replace hP:=zq (hsq.rep (fun b hb=>by have h1:=hb.1;have h2:=hb.2;omega) hP.out);replace hQ:=zq (hsq.rep (fun b hb=>by have h1:=hb.1;have h2:=hb.2;omega) hQ.out);replace fO:=hsq.blk (by omega) fO;replace hks:=zq (hks.out.move (hsq.keeps (fun b hb=>by have h1:wc.heap.size≤b:=hb;omega)));refine hKK.out _ _ (blk9r fO ⟨ag fT rfl,ag fT rfl⟩) (fun hH401=>?_);clear hKK K hH0 hsq hXq
       try simp only[qy,hwA]
       refine hwr 4 qz (fun K hKK=>?_);obtain⟨r0,r1,rf0,rf1⟩:=co fY
       dsimp only[qz];go_simp
       (try go_wp2_with fail);have hQq:=bw fY (.int .i64 k1) (.slice a1 n1 q1);clear fY r0 rf0 r1 rf1;obtain⟨X402,hXq,hsq,fY,zX402a,zX402b⟩:=hQq;rw[hXq];replace fE:=hsq.blk (by omega) fE;replace fR:=hsq.blk (by omega) fR;replace fB:=zq (hsq.bel fB.out (by omega));replace hT:=zq (hsq.rep (fun b hb=>by have h1:=hb.1;have h2:=hb.2;omega) hT.out);replace fT:=hsq.blk (by omega) fT;replace hP:=zq (hsq.rep (fun b hb=>by have h1:=hb.1;have h2:=hb.2;omega) hP.out);replace hQ:=zq (hsq.rep (fun b hb=>by have h1:=hb.1;have h2:=hb.2;omega) hQ.out);replace fO:=hsq.blk (by omega) fO;replace hks:=zq (hks.out.move (hsq.keeps (fun b hb=>by have h1:wc.heap.size≤b:=hb;omega)));refine hKK.out _ _ (blk9r fO ⟨ag fT rfl,ag fT rfl⟩) (fun hH402=>?_);clear hKK K hH401 hsq hXq
       try simp only[qz,hwA]
       refine hwt 5 qA (.int .i64 l2) hH402 ?_ ?_
       ·intro w' hSw;dsimp only[qA];go_simp
       try simp only[qA,hwA]
       refine wpAnyH_done (by kernel_rfl) ?_ _;refine NoPanic.normal ?_;clear hH402;obtain⟨rc0,rc1,rc2,rc3,rc4,rc5,rc6,rc7,rc8⟩:=blk9 fR;obtain⟨ry0,ry1⟩:=blk2 fY
       go_step;go_step;go_step
       refine bodyPost_ret (v:=.tuple #[.agg #[.int .i64 k,.string nm,.int .i64 u,.int .i64 tk2,.slice ta2 tn2 tq2,.int .i64 fk2,.slice fa2 fn2 fq2,.int .i64 lb,.slice cv cm qv],.agg #[.int .i64 k1,.slice a1 n1 q1],.int .i64 l2]) (by simp[results,Tryz.results91,go_sem,rc0,rc1,rc2,rc3,rc4,rc5,rc6,rc7,rc8,ry0,ry1]) rfl ?_;rw[←HQQ.out];have h1:=HLJ2.out;have h2:=HZ.out;have h3:=HKN3.out;have h4:=HKN2.out;have h5:=HOC.out;refine⟨.mk k nm u ty src lb ks2,_,_,l2,rfl,?_,by omega,?_,ax.mk HNM.out (hP.out.move (.weaken fun b h _=>by have h1:=h.1;show w.heap.size≤b;omega)) (hQ.out.move (.weaken fun b h _=>by have h1:=h.1;show w.heap.size≤b;omega)) (hks.out.move (.weaken fun b h _=>by have h1:wc.heap.size≤b:=h;show w.heap.size≤b;omega)),hT.out.move (.weaken fun b h _=>by have h1:=h.1;show w.heap.size≤b;omega),fB.out⟩
       ·simp only[Tm.size,Tm.cnt];omega
       ·simp only[Tm.size];omega
theorem jG : ∀(t:Tm) (d:Int),L4I t d
 | .mk k nm u ty src lb ts,d=>l9 k u lb nm ty src ts d fun t' ht'=>jG t' (d-1)
termination_by t=>SizeOf.sizeOf t
decreasing_by exact Tm.kid_lt (t:=.mk k nm u ty src lb ts) ht'
end Go.Proofs.YtfahhonmiimmdaaGreat

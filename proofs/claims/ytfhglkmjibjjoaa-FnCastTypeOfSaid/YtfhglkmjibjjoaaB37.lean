/- spec.l3Lam. -/
import Derived.Test.YtfhglkmjibjjoaaB16
set_option linter.unusedSimpArgs false
set_option linter.unusedVariables false
set_option maxRecDepth 100000
set_option maxHeartbeats 16000000
namespace Go.Proofs.Ytfhglkmjibjjoaa
open Go.RowKit
theorem mkMore {r:Nat}{l:List Bd}{xa:Option Addr}{xn xq:Nat}{W w:World}{nm:ByteArray}{ty:Ty}{tk:Int}{ta:Option Addr}{tn tq:Nat}(hcv:dz l (.slice xa xn xq))(hl:l.length<=100)(hnm:nm.size<=maxLen)(hx:aE (fun x=>x≠r∧x<w.heap.size) W l (.slice xa xn xq))(ht:ai (fun x=>x≠r∧x<w.heap.size) W ty (.agg #[.int .i64 tk,.slice ta tn tq])) :
  Calls Try.prog 32 #[.slice xa xn xq,.string nm,.agg #[.int .i64 tk,.slice ta tn tq]] W (gT (fun x=>x≠r∧x<w.heap.size) (l ++ [⟨nm,ty⟩]) W):=by
 rcases hcv with ⟨rfl,h⟩ | ⟨h1,a,m,q,h⟩
 ·rw[h];exact dH _ nm ty tk ta tn tq W hnm ht
 ·simp only[Value.slice.injEq] at h
  obtain⟨rfl,rfl,rfl⟩:=h
  exact eh _ l a xn xq nm ty tk ta tn tq W hx (by omega) h1 hnm ht
theorem ki (r p:Nat)(dd:Int)(a b:S)(l:List Bd)(w:World)(c ya yb:Value)(hrd0:aR w r p)(hcx:aE (· ≠ r) w l c)(hcv:dz l c)(hl:l.length<=100)(ha:ai (· ≠ r) w a.ty ya)(hb:ai (· ≠ r) w b.ty yb)(hva:a.vd=true)
  (IH : ∀nm:ByteArray,nm.size<=1->MkC r dd b (l ++ [⟨nm,a.ty⟩])) (hp:p+1+mkB dd b<=1125899906800000) :
  Calls Try.prog 87 #[.pointer (some ⟨r,0,none⟩),c,ya,yb,.int .i64 dd] w (DTm r p (mkB dd b+1) (mkB dd b+40) w):=by
 obtain⟨ak,aa,an,aq,rfl⟩:=ha.shape;obtain⟨bk,ba,bn,bqx,rfl⟩:=hb.shape;have hrl:=hrd0.1;have HA:=zq (ha.move (.weaken (G:=(fun x=>x≠r∧x<w.heap.size)) fun b h hl=>⟨h,hl⟩));have HB:=zq (hb.move (.weaken (G:=(fun x=>x≠r∧x<w.heap.size)) fun b h hl=>⟨h,hl⟩));have HX0:=zq (hcx.move (.weaken (G:=(fun x=>x≠r∧x<w.heap.size)) fun b h hl=>⟨h,hl⟩));have HCV:=zq hcv;have HLL:=zq hl;have HCA:=zq (S.cnt_ok hva);have HCA2:=zq (show a.ty.cnt<=14 by rw[S.ty_cnt];exact eF hva);have HIH:=zq IH;have HP:=zq hp;obtain⟨xa,xn,xq,rfl⟩:=hcv.shape;have HRD0:=zq hrd0;clear ha hb hcx hcv hl hva IH hrd0
 go_enter Try.func87,Try.ntmps87
 go_wp2_with fail
 refine(mA (fun s=>s.size<=1) r p _ 4 4 _ ((HRD0.out.below bG).below ag) (by omega) (by omega) (by omega) (Nat.le_refl _) (by omega) (gQ [⟨#[120]⟩,⟨#[121]⟩,⟨#[122]⟩,⟨#[102]⟩] (by simp) _ (by decide))).mono ?_;rintro e w1 ⟨nm,rfl,hnm,hrd1,hc1⟩;have hch:=(Chg.of_below (fp:= [r]) (al bG ag)).trans hc1;have hz1:=hc1.size;simp only[World.size_alloc] at hz1;have HNM:=zq hnm;have fA:w1.heap[w.heap.size]?=some (.cells #[.int .i64 ak,.slice aa an aq] 25 (0,0)):=ay (a9 (a9 (a9 (aA rfl) ag) ag) ag) hc1 (by omega);have fB:w1.heap[w.heap.size+1]?=some (.cells #[.int .i64 bk,.slice ba bn bqx] 25 (0,0)):=ay (a9 (a9 (aA (by simp)) ag) ag) hc1 (by omega);have fR:w1.heap[w.heap.size+1+1]?=some (.cells (nz 0) 28 (0,0)):=ay (a9 (aA (by simp)) ag) hc1 (by omega);have fC:Hid (Chg [r] w w1):=zq hch;have rd:Hid (aR w1 r (p+1)):=zq hrd1;have hA:Hid (ai (fun x=>x≠r∧x<w.heap.size) w1 a.ty (.agg #[.int .i64 ak,.slice aa an aq])):=zq (HA.out.move (kpN hch (fun b hb=>hb.1)));have hB_:Hid (ai (fun x=>x≠r∧x<w.heap.size) w1 b.ty (.agg #[.int .i64 bk,.slice ba bn bqx])):=zq (HB.out.move (kpN hch (fun b hb=>hb.1)));have hX:Hid (aE (fun x=>x≠r∧x<w.heap.size) w1 l (.slice xa xn xq)):=zq (HX0.out.move (kpN hch (fun b hb=>hb.1)));clear hc1 hch hrd1 hnm
 go_wp2_with fail
 refine wh4 (bc0 fA) (bc1 fA) (bc0 fB) (bc1 fB) (fun U1 hb zU1a zU1b hH0=>?_);replace fA:=a9 fA hb;replace fB:=a9 fB hb;replace fR:=a9 fR hb;replace fC:=zqb fC hb;replace rd:=mh hb rd;replace hA:=mh hb hA;replace hB_:=mh hb hB_;replace hX:=mh hb hX;clear hb;refine hwq hx0 (.string nm) hH0 ?_;refine hwq hx1 (.agg #[.int .i64 ak,.slice aa an aq]) hH0 ?_;refine hwq hx3 (.pointer (some ⟨r,0,none⟩)) hH0 ?_;refine hwq hx4 (.slice xa xn xq) hH0 ?_;refine hwq hx5 (.string nm) hH0 ?_;refine hwq hx6 (.agg #[.int .i64 ak,.slice aa an aq]) hH0 ?_;refine hwq hx8 (.agg #[.int .i64 bk,.slice ba bn bqx]) hH0 ?_;refine hwq hx9 (.int .i64 dd) hH0 ?_;refine hwe hx2 (fun K hK=>?_)
 go_simp
 go_at_call 46
 refine(b5 _ a.ty _ _ hA.out HCA.out).mono ?_;rintro e X1 ⟨v,rfl,hv,hb⟩;obtain⟨kc,ac,nc,qc,rfl⟩:=hv.shape;have hN':=hv.rep.rg;clear hv
 go_wp2_with fail
 have zX1:=hb.size;replace fA:=a9 fA hb;replace fB:=a9 fB hb;replace fR:=a9 fR hb;replace fC:=zqb fC hb;replace rd:=mh hb rd;replace hA:=mh hb hA;replace hB_:=mh hb hB_;replace hX:=mh hb hX;have hN:=hN';clear hN';refine hko hK (fun hH1=>?_);clear hK K hH0 hb
 try simp only[hwA]
 refine hwe hx7 (fun K hK=>?_)
 go_simp
 go_at_call 32
 refine(mkMore HCV.out HLL.out (by have:=HNM.out;unfold maxLen;omega) hX.out hA.out).mono ?_;rintro e X2 ⟨xa2,xm2,xq2,rfl,hcx,hb⟩;have hX2':Hid (aE (fun x=>((x≠r∧x<w.heap.size)∧x<X1.heap.size)∨X1.heap.size<=x) X2 (l ++ [⟨nm,a.ty⟩]) (.slice (some xa2) xm2 xq2)):=zq hcx;clear hcx
 go_wp2_with fail
 have zX2:=hb.size;replace fA:=a9 fA hb;replace fB:=a9 fB hb;replace fR:=a9 fR hb;replace fC:=zqb fC hb;replace rd:=mh hb rd;replace hA:=mh hb hA;replace hB_:=mh hb hB_;replace hX:=mh hb hX;replace hN:=mh hb hN;have hX2:=hX2';clear hX2';refine hko hK (fun hH2=>?_);clear hK K hH1 hb
 try simp only[hwA]
 refine hwe bd (fun K hK=>?_)
 go_simp
 go_at_call 74
 refine(HIH.out nm HNM.out _ _ _ _ rd.out (hX2.out.move (.weaken fun b h _=>by have h1:=h;rcases h with ⟨h1,-⟩ | h1;exact h1.1;intro e;omega)) (.inr ⟨by simp,_,_,_,rfl⟩) (hB_.out.move (.weaken fun b h _=>h.1)) (by have:=HP.out;omega)).mono ?_;rintro e X3 ⟨t2,v,q2,rfl,hcn2,hv,hq2,hrd,hb⟩;obtain⟨kt2,nm2,ut2,tk2,ta2,tn2,tq2,fk2,fa2,fn2,fq2,lt2,ct2,mt2,qt2,rfl⟩:=hv.shape;have HC2:=zq hcn2;clear hcn2;have h2_':=hv.rg;have rd':Hid (aR X3 r q2):=zq hrd;clear hv hrd
 go_wp2_with fail
 have zX3:=hb.size;replace fA:=ay fA hb;replace fB:=ay fB hb;replace fR:=ay fR hb;replace fC:=zqc fC hb;replace hA:=zq (hA.out.move (kpN hb (fun b hb=>hb.1)));replace hB_:=zq (hB_.out.move (kpN hb (fun b hb=>hb.1)));replace hX:=zq (hX.out.move (kpN hb (fun b hb=>hb.1)));replace hN:=zq (hN.out.move (kpN hb (fun b hb=>by have h1:=hb.1;have h2:=hb.2;omega)));replace hX2:=zq (hX2.out.move (kpN hb (fun b hb=>by rcases hb with h | h;exact h.1.1;omega)));have h2_:=h2_';clear h2_';clear rd;have rd:=rd';clear rd';refine hko hK (fun hH3=>?_);clear hK K hH2 hb
 try simp only[hwA]
 refine hwe bl (fun K hK=>?_)
 go_simp
 (try go_wp2_with fail);generalize hXq:World.alloc X3 _=X4;obtain⟨hb,fL,zX4a,zX4b⟩:=alE hXq;replace fA:=a9 fA hb;replace fB:=a9 fB hb;replace fR:=a9 fR hb;replace fC:=zqb fC hb;replace rd:=mh hb rd;replace hA:=mh hb hA;replace hB_:=mh hb hB_;replace hX:=mh hb hX;replace hN:=mh hb hN;replace hX2:=mh hb hX2;replace h2_:=mh hb h2_;refine hko hK (fun hH4=>?_);clear hK K hH3 hb hXq
 try simp only[hwA]
 refine hwq bz (.agg (nv 5 nm 0 kc ac nc qc 0 none 0 0 0 (some ⟨X3.heap.size,0,none⟩) 1 1)) hH4 ?_;refine hwe bA (fun K hK=>?_);obtain⟨r0,rf0,r1,rf1,r2,rf2,r3,rf3,r4,rf4,r5,rf5,r6,rf6,r7,rf7,r8,rf8⟩:=blk9f fR
 go_simp
 (try go_wp2_with fail);have hQq:=c7 fR (.int .i64 5) (.string nm) (.int .i64 0) (.int .i64 kc) (.slice ac nc qc) (.int .i64 0) (.slice none 0 0) (.int .i64 0) (.slice (some ⟨X3.heap.size,0,none⟩) 1 1);clear fR r0 rf0 r1 rf1 r2 rf2 r3 rf3 r4 rf4 r5 rf5 r6 rf6 r7 rf7 r8 rf8;obtain⟨X5,hXq,hsq,fR,zX5a,zX5b⟩:=hQq;rw[hXq];replace fA:=hsq.bk fA;replace fB:=hsq.bk fB;replace fC:=zq (hsq.chg fC.out (by omega));replace rd:=zq (hsq.rd rd.out (by omega));replace hA:=zq (hA.out.move (hsq.keeps (fun b hb=>by have:=hb.2;omega)));replace hB_:=zq (hB_.out.move (hsq.keeps (fun b hb=>by have:=hb.2;omega)));replace hX:=zq (hX.out.move (hsq.keeps (fun b hb=>by have:=hb.2;omega)));replace hN:=zq (hsq.rep (fun b hb=>by have h1:=hb.1;have h2:=hb.2;omega) hN.out);replace hX2:=zq (hX2.out.move (hsq.keeps (fun b hb=>by rcases hb with h | h<;>omega)));replace h2_:=zq (h2_.out.move (hsq.keeps (fun b hb=>by have h1:=hb.1;have h2:=hb.2;omega)));replace fL:=hsq.bk fL;refine hko hK (fun hH5=>?_);clear hK K hH4 hsq hXq
 try simp only[hwA]
 refine hwd ?_;clear hH5;obtain⟨rc0,rc1,rc2,rc3,rc4,rc5,rc6,rc7,rc8⟩:=blk9 fR
 go_wp2_with fail
 refine bq (.agg (nv 5 nm 0 kc ac nc qc 0 none 0 0 0 (some ⟨X3.heap.size,0,none⟩) 1 1)) (by simp[results,Try.results87,go_sem,rc0,rc1,rc2,rc3,rc4,rc5,rc6,rc7,rc8]) ?_;have hks:aN (w.heap.size <= ·) X5 [t2] (.slice (some ⟨X3.heap.size,0,none⟩) 1 1):=aN.blk (by show w.heap.size<=_;omega) fL rfl (by unfold maxLen;omega) (aV.c1 (h2_.out.move (.weaken fun b h _=>by have:=h.1;omega)).srep);refine⟨.mk 5 nm 0 a.ty (.mk 0 []) 0 [t2],_,q2,rfl,?_,aB.mk (by have:=HNM.out;unfold maxLen;omega) (hN.out.move (.weaken fun b h _=>by have:=h.1;omega)) ⟨_,rfl,av.nil0⟩ hks,by omega,rd.out,fC.out⟩;have h1:=HC2.out;have h2:=HNM.out;have h3:=HCA2.out;simp only[Tm.cnt,Tm.cnts,Ty.cnt,Ty.cnts,List.length_cons,List.length_nil]
 omega
end Go.Proofs.Ytfhglkmjibjjoaa

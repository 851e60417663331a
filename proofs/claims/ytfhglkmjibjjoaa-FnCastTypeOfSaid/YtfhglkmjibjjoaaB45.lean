/- spec.DrawCastValid and its likes. And what else its parts name. -/
import Derived.Test.YtfhglkmjibjjoaaB43
set_option linter.unusedSimpArgs false
set_option linter.unusedVariables false
set_option maxRecDepth 100000
set_option maxHeartbeats 16000000
namespace Go.Proofs.Ytfhglkmjibjjoaa
open Go.RowKit
def DrC (w:World)(e:Ending)(w':World):Prop:=∃(t:Tm) (v:Value),e = .returned v∧t.cnt<=100000∧aB (w.heap.size <= ·) w' t v∧Below w.heap.size w w'
theorem cl.upC {w:World}{r r':Nat}{v:Value}(h:cl w r v)(hr:r<=r'):cl w r' v:=by
 obtain⟨a,n,cap,h1,h2,h3,h4⟩:=h
 exact⟨a,n,cap,h1,h2,h3,fun i hi=>by
   obtain⟨b,off,c,e,hb,hl,hc⟩:=h4 i hi
   exact⟨b,off,c,e,by omega,hl,hc⟩⟩
theorem ib (y:Value)(w:World)(r0:cl w w.heap.size y):Calls Try.prog 11 #[y] w (DrC w):=by
 obtain⟨a0,n0,q0,rfl⟩:=r0.shape
 go_enter Try.func11,Try.ntmps11
 go_wp2_with fail
 refine(mB _ _ _ (r0.below ag) (by simp)).mono ?_;rintro e w1 ⟨r,rfl,hro,hrd1,hb⟩;have hrl:=hrd1.1;simp only[World.size_alloc] at hro;have z1:=hb.size;simp only[World.size_alloc] at z1;have fR:w1.heap[w.heap.size]?=some (.cells (nz 0) 28 (0,0)):=a9 (aA rfl) hb;have fB:Hid (Below w.heap.size w w1):=zq (al ag hb);clear hb r0
 go_wp2_with fail
 refine(mo r 0 _ hrd1 (by omega)).mono ?_;rintro e w2 ⟨t2,v,q2,rfl,hc2,hv,hq2,hrd2,hb⟩;obtain⟨kt2,nm2,ut2,tk2,ta2,tn2,tq2,fk2,fa2,fn2,fq2,lt2,ct2,mt2,qt2,rfl⟩:=hv.shape;have zw2:=hb.size;have h2_:Hid (aB (w1.heap.size <= ·) w2 t2 (.agg (nv kt2 nm2 ut2 tk2 ta2 tn2 tq2 fk2 fa2 fn2 fq2 lt2 ct2 mt2 qt2))):=zq (hv.lower (by omega));clear hv;replace fR:=ay fR hb;replace fB:=zq (bchg fB.out hb (by omega) (Nat.le_refl _));clear hb
 go_wp2_with fail
 refine(ml r q2 7000 t2 _ _ hrd2 (h2_.out.ne (by omega)) hc2 (by omega) (by omega)).mono ?_;rintro e w3 ⟨t3,v,q3,rfl,hc3,hv,hq3,hrd3,hb⟩;obtain⟨kt3,nm3,ut3,tk3,ta3,tn3,tq3,fk3,fa3,fn3,fq3,lt3,ct3,mt3,qt3,rfl⟩:=hv.shape;have zw3:=hb.size;have h3_:Hid (aB (w1.heap.size <= ·) w3 t3 (.agg (nv kt3 nm3 ut3 tk3 ta3 tn3 tq3 fk3 fa3 fn3 fq3 lt3 ct3 mt3 qt3))):=zq (hv.lower (by omega));clear hv;replace fR:=ay fR hb;replace fB:=zq (bchg fB.out hb (by omega) (Nat.le_refl _));clear hb;replace h3_:=zq (h3_.out.move (.weaken (G:=(fun b=>w.heap.size+1<=b)) fun b h _=>by have h1:w1.heap.size<=b:=h;omega));obtain⟨x0,x1,x2,x3,x4,x5,x6,x7,x8⟩:=blk9 fR;have xf0:=aj fR 0;have xf1:=aj fR 1;have xf2:=aj fR 2;have xf3:=aj fR 3;have xf4:=aj fR 4;have xf5:=aj fR 5;have xf6:=aj fR 6;have xf7:=aj fR 7;have xf8:=aj fR 8;have xl:=aw fR
 go_wp2_with fail
 clear x0 x1 x2 x3 x4 x5 x6 x7 x8 xf0 xf1 xf2 xf3 xf4 xf5 xf6 xf7 xf8 xl;obtain⟨wz,hXq,hsq,fR_,zwza,zwzb⟩:=c7 fR (.int .i64 kt3) (.string nm3) (.int .i64 ut3) (.int .i64 tk3) (.slice ta3 tn3 tq3) (.int .i64 fk3) (.slice fa3 fn3 fq3) (.int .i64 lt3) (.slice ct3 mt3 qt3);rw[hXq];replace fB:=hsq.be fB;replace h3_:=zq (h3_.out.move (hsq.keeps (fun b hb=>by have h1:w.heap.size+1<=b:=hb;omega)));clear fR hsq hXq;have fR:=fR_;clear fR_;obtain⟨rc0,rc1,rc2,rc3,rc4,rc5,rc6,rc7,rc8⟩:=blk9 fR;refine bq (.agg (nv kt3 nm3 ut3 tk3 ta3 tn3 tq3 fk3 fa3 fn3 fq3 lt3 ct3 mt3 qt3)) (by simp[results,Try.results11,go_sem,rc0,rc1,rc2,rc3,rc4,rc5,rc6,rc7,rc8]) ?_
 exact⟨t3,_,rfl,by omega,h3_.out.move (.weaken fun b h _=>by have h1:w.heap.size+1<=b:=h;show w.heap.size<=b;omega),fB.out⟩
theorem gI (y:Value)(w:World)(r0:cl w w.heap.size y):Calls Try.prog 4 #[y] w (DrC w):=by
 obtain⟨a0,n0,q0,rfl⟩:=r0.shape
 go_enter Try.func4,Try.ntmps4
 go_wp2_with fail
 refine(ib _ _ ((r0.below ag).upC (by simp))).mono ?_;rintro e w1 ⟨t3,v,rfl,hc3,hv,hb⟩;obtain⟨kt3,nm3,ut3,tk3,ta3,tn3,tq3,fk3,fa3,fn3,fq3,lt3,ct3,mt3,qt3,rfl⟩:=hv.shape;have z1:=hb.size;simp only[World.size_alloc] at z1;have fR:w1.heap[w.heap.size]?=some (.cells (nz 0) 28 (0,0)):=a9 (aA rfl) hb;have fB:Hid (Below w.heap.size w w1):=zq (al ag hb);have h3':Hid (aB (fun b=>w.heap.size+1<=b) w1 t3 (.agg (nv kt3 nm3 ut3 tk3 ta3 tn3 tq3 fk3 fa3 fn3 fq3 lt3 ct3 mt3 qt3))):=zq (hv.move (.weaken fun b h _=>by simpa using h));clear hb hv r0;have h3_:=h3';clear h3';obtain⟨x0,x1,x2,x3,x4,x5,x6,x7,x8⟩:=blk9 fR;have xf0:=aj fR 0;have xf1:=aj fR 1;have xf2:=aj fR 2;have xf3:=aj fR 3;have xf4:=aj fR 4;have xf5:=aj fR 5;have xf6:=aj fR 6;have xf7:=aj fR 7;have xf8:=aj fR 8;have xl:=aw fR
 go_wp2_with fail
 clear x0 x1 x2 x3 x4 x5 x6 x7 x8 xf0 xf1 xf2 xf3 xf4 xf5 xf6 xf7 xf8 xl;obtain⟨wz,hXq,hsq,fR_,zwza,zwzb⟩:=c7 fR (.int .i64 kt3) (.string nm3) (.int .i64 ut3) (.int .i64 tk3) (.slice ta3 tn3 tq3) (.int .i64 fk3) (.slice fa3 fn3 fq3) (.int .i64 lt3) (.slice ct3 mt3 qt3);rw[hXq];replace fB:=hsq.be fB;replace h3_:=zq (h3_.out.move (hsq.keeps (fun b hb=>by have h1:w.heap.size+1<=b:=hb;omega)));clear fR hsq hXq;have fR:=fR_;clear fR_;obtain⟨rc0,rc1,rc2,rc3,rc4,rc5,rc6,rc7,rc8⟩:=blk9 fR;refine bq (.agg (nv kt3 nm3 ut3 tk3 ta3 tn3 tq3 fk3 fa3 fn3 fq3 lt3 ct3 mt3 qt3)) (by simp[results,Try.results4,go_sem,rc0,rc1,rc2,rc3,rc4,rc5,rc6,rc7,rc8]) ?_
 exact⟨t3,_,rfl,by omega,h3_.out.move (.weaken fun b h _=>by have h1:w.heap.size+1<=b:=h;show w.heap.size<=b;omega),fB.out⟩
end Go.Proofs.Ytfhglkmjibjjoaa

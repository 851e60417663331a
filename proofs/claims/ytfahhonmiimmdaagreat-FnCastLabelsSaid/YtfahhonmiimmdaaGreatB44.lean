/- spec.DrawCastValid and its likes. -/
import Derived.Test.YtfahhonmiimmdaaGreatB43
set_option linter.unusedSimpArgs false
set_option linter.unusedVariables false
set_option maxRecDepth 100000
set_option maxHeartbeats 16000000
namespace Go.Proofs.YtfahhonmiimmdaaGreat
open Go.RowKit
def DrC (w:World)(e:Ending)(w':World):Prop:=∃(t:Tm) (v:Value),e = .returned v∧t.cnt≤100000∧ax (w.heap.size ≤ ·) w' t v∧Below w.heap.size w w'
theorem cd.upC {w:World}{r r':Nat}{v:Value}(h:cd w r v)(hr:r≤r'):cd w r' v:=by
 obtain⟨a,n,cap,h1,h2,h3,h4⟩:=h
 exact⟨a,n,cap,h1,h2,h3,fun i hi=>by
   obtain⟨b,off,c,e,hb,hl,hc⟩:=h4 i hi
   exact⟨b,off,c,e,by omega,hl,hc⟩⟩
theorem kM (y:Value)(w:World)(r0:cd w w.heap.size y):Calls Tryz.prog 16 #[y] w (DrC w):=by
 obtain⟨a0,n0,q0,rfl⟩:=r0.shape
 go_enter Tryz.func16,Tryz.ntmps16
 go_wp2_with fail
 refine(vr _ _ _ (r0.below ai) (by simp)).mono ?_;rintro e w1 ⟨r,rfl,hro,hrd1,hb⟩;have hrl:=hrd1.1;simp only[World.size_alloc] at hro;have z1:=hb.size;simp only[World.size_alloc] at z1;have fR:w1.heap[w.heap.size]?=some (.cells #[.int .i64 0,.string {data:=#[]},.int .i64 0,.int .i64 0,.slice none 0 0,.int .i64 0,.slice none 0 0,.int .i64 0,.slice none 0 0] 28 (0,0)):=af (aB rfl) hb;have fB:Hid (Below w.heap.size w w1):=zq (aj ai hb);clear hb r0
 go_wp2_with fail
 refine(sV r 0 _ hrd1 (by omega)).mono ?_;rintro e w2 ⟨t2,v,q2,rfl,hc2,hv,hq2,hrd2,hb⟩;obtain⟨kt2,nm2,ut2,tk2,ta2,tn2,tq2,fk2,fa2,fn2,fq2,lt2,ct2,mt2,qt2,rfl⟩:=hv.shape;have zw2:=hb.size;have h2_:Hid (ax (w1.heap.size ≤ ·) w2 t2 (.agg #[.int .i64 kt2,.string nm2,.int .i64 ut2,.int .i64 tk2,.slice ta2 tn2 tq2,.int .i64 fk2,.slice fa2 fn2 fq2,.int .i64 lt2,.slice ct2 mt2 qt2])):=zq (hv.lower (by omega));clear hv;replace fR:=aw fR hb;replace fB:=zq (bchg fB.out hb (by omega) (Nat.le_refl _));clear hb
 go_wp2_with fail
 refine(sT r q2 7000 t2 _ _ hrd2 (h2_.out.ne (by omega)) hc2 (by omega) (by omega)).mono ?_;rintro e w3 ⟨t3,v,q3,rfl,hc3,hv,hq3,hrd3,hb⟩;obtain⟨kt3,nm3,ut3,tk3,ta3,tn3,tq3,fk3,fa3,fn3,fq3,lt3,ct3,mt3,qt3,rfl⟩:=hv.shape;have zw3:=hb.size;have h3_:Hid (ax (w1.heap.size ≤ ·) w3 t3 (.agg #[.int .i64 kt3,.string nm3,.int .i64 ut3,.int .i64 tk3,.slice ta3 tn3 tq3,.int .i64 fk3,.slice fa3 fn3 fq3,.int .i64 lt3,.slice ct3 mt3 qt3])):=zq (hv.lower (by omega));clear hv;replace fR:=aw fR hb;replace fB:=zq (bchg fB.out hb (by omega) (Nat.le_refl _));clear hb;replace h3_:=zq (h3_.out.move (.weaken (G:=(fun b=>w.heap.size+1≤b)) fun b h _=>by have h1:w1.heap.size≤b:=h;omega));obtain⟨x0,x1,x2,x3,x4,x5,x6,x7,x8⟩:=blk9 fR;have xf0:=al fR 0;have xf1:=al fR 1;have xf2:=al fR 2;have xf3:=al fR 3;have xf4:=al fR 4;have xf5:=al fR 5;have xf6:=al fR 6;have xf7:=al fR 7;have xf8:=al fR 8;have xl:=aC fR
 go_wp2_with fail
 clear x0 x1 x2 x3 x4 x5 x6 x7 x8 xf0 xf1 xf2 xf3 xf4 xf5 xf6 xf7 xf8 xl;obtain⟨wz,hXq,hsq,fR_,zwza,zwzb⟩:=bL fR (.int .i64 kt3) (.string nm3) (.int .i64 ut3) (.int .i64 tk3) (.slice ta3 tn3 tq3) (.int .i64 fk3) (.slice fa3 fn3 fq3) (.int .i64 lt3) (.slice ct3 mt3 qt3);rw[hXq];replace fB:=zq (hsq.bel fB.out (by omega));replace h3_:=zq (h3_.out.move (hsq.keeps (fun b hb=>by have h1:w.heap.size+1≤b:=hb;omega)));clear fR hsq hXq;have fR:=fR_;clear fR_;obtain⟨rc0,rc1,rc2,rc3,rc4,rc5,rc6,rc7,rc8⟩:=blk9 fR;refine bodyPost_ret (v:=.agg #[.int .i64 kt3,.string nm3,.int .i64 ut3,.int .i64 tk3,.slice ta3 tn3 tq3,.int .i64 fk3,.slice fa3 fn3 fq3,.int .i64 lt3,.slice ct3 mt3 qt3]) (by simp[results,Tryz.results16,go_sem,rc0,rc1,rc2,rc3,rc4,rc5,rc6,rc7,rc8]) rfl ?_
 exact⟨t3,_,rfl,by omega,h3_.out.move (.weaken fun b h _=>by have h1:w.heap.size+1≤b:=h;show w.heap.size≤b;omega),fB.out⟩
theorem jD (y:Value)(w:World)(r0:cd w w.heap.size y):Calls Tryz.prog 5 #[y] w (DrC w):=by
 obtain⟨a0,n0,q0,rfl⟩:=r0.shape
 go_enter Tryz.func5,Tryz.ntmps5
 go_wp2_with fail
 refine(kM _ _ ((r0.below ai).upC (by simp))).mono ?_;rintro e w1 ⟨t3,v,rfl,hc3,hv,hb⟩;obtain⟨kt3,nm3,ut3,tk3,ta3,tn3,tq3,fk3,fa3,fn3,fq3,lt3,ct3,mt3,qt3,rfl⟩:=hv.shape;have z1:=hb.size;simp only[World.size_alloc] at z1;have fR:w1.heap[w.heap.size]?=some (.cells #[.int .i64 0,.string {data:=#[]},.int .i64 0,.int .i64 0,.slice none 0 0,.int .i64 0,.slice none 0 0,.int .i64 0,.slice none 0 0] 28 (0,0)):=af (aB rfl) hb;have fB:Hid (Below w.heap.size w w1):=zq (aj ai hb);have h3':Hid (ax (fun b=>w.heap.size+1≤b) w1 t3 (.agg #[.int .i64 kt3,.string nm3,.int .i64 ut3,.int .i64 tk3,.slice ta3 tn3 tq3,.int .i64 fk3,.slice fa3 fn3 fq3,.int .i64 lt3,.slice ct3 mt3 qt3])):=zq (hv.move (.weaken fun b h _=>by simpa using h));clear hb hv r0;have h3_:=h3';clear h3';obtain⟨x0,x1,x2,x3,x4,x5,x6,x7,x8⟩:=blk9 fR;have xf0:=al fR 0;have xf1:=al fR 1;have xf2:=al fR 2;have xf3:=al fR 3;have xf4:=al fR 4;have xf5:=al fR 5;have xf6:=al fR 6;have xf7:=al fR 7;have xf8:=al fR 8;have xl:=aC fR
 go_wp2_with fail
 clear x0 x1 x2 x3 x4 x5 x6 x7 x8 xf0 xf1 xf2 xf3 xf4 xf5 xf6 xf7 xf8 xl;obtain⟨wz,hXq,hsq,fR_,zwza,zwzb⟩:=bL fR (.int .i64 kt3) (.string nm3) (.int .i64 ut3) (.int .i64 tk3) (.slice ta3 tn3 tq3) (.int .i64 fk3) (.slice fa3 fn3 fq3) (.int .i64 lt3) (.slice ct3 mt3 qt3);rw[hXq];replace fB:=zq (hsq.bel fB.out (by omega));replace h3_:=zq (h3_.out.move (hsq.keeps (fun b hb=>by have h1:w.heap.size+1≤b:=hb;omega)));clear fR hsq hXq;have fR:=fR_;clear fR_;obtain⟨rc0,rc1,rc2,rc3,rc4,rc5,rc6,rc7,rc8⟩:=blk9 fR;refine bodyPost_ret (v:=.agg #[.int .i64 kt3,.string nm3,.int .i64 ut3,.int .i64 tk3,.slice ta3 tn3 tq3,.int .i64 fk3,.slice fa3 fn3 fq3,.int .i64 lt3,.slice ct3 mt3 qt3]) (by simp[results,Tryz.results5,go_sem,rc0,rc1,rc2,rc3,rc4,rc5,rc6,rc7,rc8]) rfl ?_
 exact⟨t3,_,rfl,by omega,h3_.out.move (.weaken fun b h _=>by have h1:w.heap.size+1≤b:=h;show w.heap.size≤b;omega),fB.out⟩
end Go.Proofs.YtfahhonmiimmdaaGreat

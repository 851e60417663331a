/-
  spec.l3Result at applications, projections.
  spec.l3Result at conditions.
  spec.l3Result, joined.
  spec.l3Type at a node with operands.
  The type of a function by the reference.
-/
import Derived.Test.YtnaoghknnenfoaaB11
import Derived.Test.YtnaoghknnenfoaaB15
import Derived.Test.YtnaoghknnenfoaaB5
import Derived.Test.YtnaoghknnenfoaaTyMeet
import Derived.Test.YtnaoghknnenfoaaTtRa
import Derived.Test.YtnaoghknnenfoaaB16
import Derived.Test.YtnaoghknnenfoaaB6
import Derived.Test.YtnaoghknnenfoaaTyCopyB
import Derived.Deep.AppendLies
import Derived.Test.YtnaoghknnenfoaaB10
set_option linter.unusedSimpArgs false
set_option linter.unusedVariables false
set_option maxRecDepth 100000
namespace Go.Proofs.Ytnaoghknnenfoaa
open Go.RowKit
set_option maxHeartbeats 4000000 in
theorem it (G1 G2 G3:Nat→Prop)(nm:ByteArray)(u lb tk fk:Int)(ty src:Ty)(ta fa ca:Option Addr)(tn tq fn fq cm cq:Nat)(w:World)(hty:ap G1 w ty (.agg #[.int .i64 tk,.slice ta tn tq]))(hsrc:ap G2 w src (.agg #[.int .i64 fk,.slice fa fn fq]))(y:Value)(h1:S)(hv1:h1.vd=true)(hy:aF G3 w [h1.ty] y) :
  Calls Try.prog 77 #[.agg #[.int .i64 11,.string nm,.int .i64 u,.int .i64 tk,.slice ta tn tq,.int .i64 fk,.slice fa fn fq,.int .i64 lb,.slice ca cm cq],y] w (bC ((bd 11 ty [h1]).map S.ty) w):=by
 obtain⟨b,off,cap,k1,c1,m1,q1,rfl,hlb,e1a,e1b,ht1⟩:=hy.one
 obtain⟨O,hOO⟩ : ∃O:Option Ty,O=((bd 11 ty [h1]).map S.ty):=⟨_,rfl⟩
 rw [←hOO]
 have HO:=Lib.hid hOO
 clear hOO
 have HOO:=Lib.hid (pa (k:=11) (ty:=ty) (h:=h1) (by omega))
 have H1:=Lib.hid ht1.old
 have HC1:=Lib.hid (eh hv1)
 have HM:=Lib.hid (fun W (h:Below w.heap.size w W)=>dw _ h1 5 (.inr rfl) HC1.out _ W (H1.out.below h))
 generalize h1.mat 5=mm at HOO HM
 obtain⟨ma,mb,okk⟩:=mm
 simp only at HOO HM
 have fR0:=aD (w:=w.alloc (.cells #[.int .i64 11,.string nm,.int .i64 u,.int .i64 tk,.slice ta tn tq,.int .i64 fk,.slice fa fn fq,.int .i64 lb,.slice ca cm cq] 28)) (o:=.cells #[.int .i64 0,.slice none 0 0] 25) (b:=w.heap.size+1) (by simp)
 have HBV:=Lib.hid (show Below w.heap.size w ((w.alloc (.cells #[.int .i64 11,.string nm,.int .i64 u,.int .i64 tk,.slice ta tn tq,.int .i64 fk,.slice fa fn fq,.int .i64 lb,.slice ca cm cq] 28)).alloc (.cells #[.int .i64 0,.slice none 0 0] 25)) from ai ah ah)
 have m0:=a9 (ah (o:=.cells #[.int .i64 11,.string nm,.int .i64 u,.int .i64 tk,.slice ta tn tq,.int .i64 fk,.slice fa fn fq,.int .i64 lb,.slice ca cm cq] 28)) e1a
 have m1:=a9 (ah (o:=.cells #[.int .i64 11,.string nm,.int .i64 u,.int .i64 tk,.slice ta tn tq,.int .i64 fk,.slice fa fn fq,.int .i64 lb,.slice ca cm cq] 28)) e1b
 have lb1:b<w.heap.size+1:=by omega
 have lb2:b<w.heap.size+1+1:=by omega
 clear hty hsrc hy ht1 hv1
 go_enter Try.func77,Try.ntmps77
 go_wp2_with fail
 refine(HM.out _ HBV.out).mono ?_
 rintro e w3 ⟨ya,yb,rfl,hab,hst⟩
 obtain⟨k3,a3,n3,q3,k4,a4,n4,q4,rfl,rfl⟩:=hab.shape
 obtain⟨fa_,fb_,oa_,ob_,-,hBB⟩:=hab
 have HYA:=Lib.hid (oa_.rep.move (.weaken (G:=fun x=>((w.alloc (.cells #[.int .i64 11,.string nm,.int .i64 u,.int .i64 tk,.slice ta tn tq,.int .i64 fk,.slice fa fn fq,.int .i64 lb,.slice ca cm cq] 28)).alloc (.cells #[.int .i64 0,.slice none 0 0] 25)).heap.size≤x∧x<w3.heap.size) fun b h hl=>⟨hBB b (by simp [h]),hl⟩))
 have HYB:=Lib.hid (ob_.rep.move (.weaken (G:=fun x=>((w.alloc (.cells #[.int .i64 11,.string nm,.int .i64 u,.int .i64 tk,.slice ta tn tq,.int .i64 fk,.slice fa fn fq,.int .i64 lb,.slice ca cm cq] 28)).alloc (.cells #[.int .i64 0,.slice none 0 0] 25)).heap.size≤x∧x<w3.heap.size) fun b h hl=>⟨hBB b (by simp [h]),hl⟩))
 have fR3:=af fR0 hst
 have fC3:=Lib.hid (ai HBV.out hst)
 have z3:=hst.size
 simp only [World.size_alloc] at z3
 clear oa_ ob_ hBB hst
 obtain⟨r0,r1⟩:=blk2 fR3
 have rf0:=aC fR3 0
 have rf1:=aC fR3 1
 have lR:=al fR3
 have lR1:w.heap.size+1<w3.heap.size+1:=by omega
 have lR2:w.heap.size+1<w3.heap.size+1+1:=by omega
 clear m0 m1
 go_wp2_with fail
 have hY:((((w3.setCell ⟨w.heap.size+1,0,none⟩ (.int .i64 k3)).setCell ⟨w.heap.size+1,1,none⟩ (.slice a3 n3 q3)).alloc (.cells #[.int .i64 k3,.slice a3 n3 q3] 25)).alloc (.cells #[.int .i64 k4,.slice a4 n4 q4] 25)).heap[w.heap.size+1]?=some (.cells #[.int .i64 k3,.slice a3 n3 q3] 25 (0,0)):=af (af (aQ (aQ fR3 rfl) rfl) ah) ah
 obtain⟨rc0,rc1⟩:=blk2 hY
 refine bodyPost_ret (v:=.tuple #[.agg #[.int .i64 k3,.slice a3 n3 q3],.bool okk]) (by simp [results,Try.results77,go_sem,rc0,rc1]) rfl ?_
 have HN:O=if okk=true then some ma.ty else none:=by rw [HO.out,HOO.out];cases okk<;>rfl
 have hne : ∀b,(((w.alloc (.cells #[.int .i64 11,.string nm,.int .i64 u,.int .i64 tk,.slice ta tn tq,.int .i64 fk,.slice fa fn fq,.int .i64 lb,.slice ca cm cq] 28)).alloc (.cells #[.int .i64 0,.slice none 0 0] 25)).heap.size≤b∧b<w3.heap.size)→b≠w.heap.size+1:=fun b h=>by have:=h.1;simp at this;omega
 exact⟨_,_,_,_,_,ma.ty,rfl,by rw [HN];cases okk<;>rfl,(((ap.setN (ap.setN HYA.out hne) hne).below ah).below ah).move (.weaken fun b h _=>.inr (by have h1:=h.1;simp at h1;omega)),(by rw [HN];intro s h;cases okk with | false=>cases h | true=>exact Option.some.inj h),ai (ai ((fC3.out.setCell (p:=⟨w.heap.size+1,0,none⟩) (by show w.heap.size≤w.heap.size+1;omega) _).setCell (p:=⟨w.heap.size+1,1,none⟩) (by show w.heap.size≤w.heap.size+1;omega) _) ah) ah⟩
set_option maxHeartbeats 4000000 in
theorem iY (G1 G2 G3:Nat→Prop)(nm:ByteArray)(u lb tk fk:Int)(ty src:Ty)(ta fa ca:Option Addr)(tn tq fn fq cm cq:Nat)(w:World)(hty:ap G1 w ty (.agg #[.int .i64 tk,.slice ta tn tq]))(hsrc:ap G2 w src (.agg #[.int .i64 fk,.slice fa fn fq]))(y:Value)(h1:S)(hv1:h1.vd=true)(hy:aF G3 w [h1.ty] y) :
  Calls Try.prog 77 #[.agg #[.int .i64 12,.string nm,.int .i64 u,.int .i64 tk,.slice ta tn tq,.int .i64 fk,.slice fa fn fq,.int .i64 lb,.slice ca cm cq],y] w (bC ((bd 12 ty [h1]).map S.ty) w):=by
 obtain⟨b,off,cap,k1,c1,m1,q1,rfl,hlb,e1a,e1b,ht1⟩:=hy.one
 obtain⟨O,hOO⟩ : ∃O:Option Ty,O=((bd 12 ty [h1]).map S.ty):=⟨_,rfl⟩
 rw [←hOO]
 have HO:=Lib.hid hOO
 clear hOO
 have HOO:=Lib.hid (pa (k:=12) (ty:=ty) (h:=h1) (by omega))
 have H1:=Lib.hid ht1.old
 have HC1:=Lib.hid (eh hv1)
 have HM:=Lib.hid (fun W (h:Below w.heap.size w W)=>dw _ h1 5 (.inr rfl) HC1.out _ W (H1.out.below h))
 generalize h1.mat 5=mm at HOO HM
 obtain⟨ma,mb,okk⟩:=mm
 simp only at HOO HM
 have fR0:=aD (w:=w.alloc (.cells #[.int .i64 12,.string nm,.int .i64 u,.int .i64 tk,.slice ta tn tq,.int .i64 fk,.slice fa fn fq,.int .i64 lb,.slice ca cm cq] 28)) (o:=.cells #[.int .i64 0,.slice none 0 0] 25) (b:=w.heap.size+1) (by simp)
 have HBV:=Lib.hid (show Below w.heap.size w ((w.alloc (.cells #[.int .i64 12,.string nm,.int .i64 u,.int .i64 tk,.slice ta tn tq,.int .i64 fk,.slice fa fn fq,.int .i64 lb,.slice ca cm cq] 28)).alloc (.cells #[.int .i64 0,.slice none 0 0] 25)) from ai ah ah)
 have m0:=a9 (ah (o:=.cells #[.int .i64 12,.string nm,.int .i64 u,.int .i64 tk,.slice ta tn tq,.int .i64 fk,.slice fa fn fq,.int .i64 lb,.slice ca cm cq] 28)) e1a
 have m1:=a9 (ah (o:=.cells #[.int .i64 12,.string nm,.int .i64 u,.int .i64 tk,.slice ta tn tq,.int .i64 fk,.slice fa fn fq,.int .i64 lb,.slice ca cm cq] 28)) e1b
 have lb1:b<w.heap.size+1:=by omega
 have lb2:b<w.heap.size+1+1:=by omega
 clear hty hsrc hy ht1 hv1
 go_enter Try.func77,Try.ntmps77
 go_wp2_with fail
 refine(HM.out _ HBV.out).mono ?_
 rintro e w3 ⟨ya,yb,rfl,hab,hst⟩
 obtain⟨k3,a3,n3,q3,k4,a4,n4,q4,rfl,rfl⟩:=hab.shape
 obtain⟨fa_,fb_,oa_,ob_,-,hBB⟩:=hab
 have HYA:=Lib.hid (oa_.rep.move (.weaken (G:=fun x=>((w.alloc (.cells #[.int .i64 12,.string nm,.int .i64 u,.int .i64 tk,.slice ta tn tq,.int .i64 fk,.slice fa fn fq,.int .i64 lb,.slice ca cm cq] 28)).alloc (.cells #[.int .i64 0,.slice none 0 0] 25)).heap.size≤x∧x<w3.heap.size) fun b h hl=>⟨hBB b (by simp [h]),hl⟩))
 have HYB:=Lib.hid (ob_.rep.move (.weaken (G:=fun x=>((w.alloc (.cells #[.int .i64 12,.string nm,.int .i64 u,.int .i64 tk,.slice ta tn tq,.int .i64 fk,.slice fa fn fq,.int .i64 lb,.slice ca cm cq] 28)).alloc (.cells #[.int .i64 0,.slice none 0 0] 25)).heap.size≤x∧x<w3.heap.size) fun b h hl=>⟨hBB b (by simp [h]),hl⟩))
 have fR3:=af fR0 hst
 have fC3:=Lib.hid (ai HBV.out hst)
 have z3:=hst.size
 simp only [World.size_alloc] at z3
 clear oa_ ob_ hBB hst
 obtain⟨r0,r1⟩:=blk2 fR3
 have rf0:=aC fR3 0
 have rf1:=aC fR3 1
 have lR:=al fR3
 have lR1:w.heap.size+1<w3.heap.size+1:=by omega
 have lR2:w.heap.size+1<w3.heap.size+1+1:=by omega
 clear m0 m1
 go_wp2_with fail
 have hY:((((w3.setCell ⟨w.heap.size+1,0,none⟩ (.int .i64 k4)).setCell ⟨w.heap.size+1,1,none⟩ (.slice a4 n4 q4)).alloc (.cells #[.int .i64 k3,.slice a3 n3 q3] 25)).alloc (.cells #[.int .i64 k4,.slice a4 n4 q4] 25)).heap[w.heap.size+1]?=some (.cells #[.int .i64 k4,.slice a4 n4 q4] 25 (0,0)):=af (af (aQ (aQ fR3 rfl) rfl) ah) ah
 obtain⟨rc0,rc1⟩:=blk2 hY
 refine bodyPost_ret (v:=.tuple #[.agg #[.int .i64 k4,.slice a4 n4 q4],.bool okk]) (by simp [results,Try.results77,go_sem,rc0,rc1]) rfl ?_
 have HN:O=if okk=true then some mb.ty else none:=by rw [HO.out,HOO.out];cases okk<;>rfl
 have hne : ∀b,(((w.alloc (.cells #[.int .i64 12,.string nm,.int .i64 u,.int .i64 tk,.slice ta tn tq,.int .i64 fk,.slice fa fn fq,.int .i64 lb,.slice ca cm cq] 28)).alloc (.cells #[.int .i64 0,.slice none 0 0] 25)).heap.size≤b∧b<w3.heap.size)→b≠w.heap.size+1:=fun b h=>by have:=h.1;simp at this;omega
 exact⟨_,_,_,_,_,mb.ty,rfl,by rw [HN];cases okk<;>rfl,(((ap.setN (ap.setN HYB.out hne) hne).below ah).below ah).move (.weaken fun b h _=>.inr (by have h1:=h.1;simp at h1;omega)),(by rw [HN];intro s h;cases okk with | false=>cases h | true=>exact Option.some.inj h),ai (ai ((fC3.out.setCell (p:=⟨w.heap.size+1,0,none⟩) (by show w.heap.size≤w.heap.size+1;omega) _).setCell (p:=⟨w.heap.size+1,1,none⟩) (by show w.heap.size≤w.heap.size+1;omega) _) ah) ah⟩
def gr:Oper:=⟨some 27,Op.load 25 (Operand.tmp 7),25,"l3_typing.go:74",#[],none⟩
def gL:Oper:=⟨some 28,Op.move (Operand.tmp 8),4,"l3_typing.go:74",#[],none⟩
def gO:Oper:=⟨some 29,Op.move (Operand.tmp 28),4,"l3_typing.go:74",#[⟨1,.data⟩],none⟩
def iO:Oper:=⟨some 30,Op.move (Operand.tmp 1),23,"l3_typing.go:74",#[⟨2,.guard⟩],some (2,true)⟩
def iZ:Oper:=⟨some 31,Op.indexAddr 23 (Operand.tmp 30) (Operand.const (Value.int IntKind.i64 1)),0,"l3_typing.go:74",#[⟨3,.data⟩,⟨2,.guard⟩],some (2,true)⟩
def iA:Oper:=⟨some 32,Op.load 25 (Operand.tmp 31),25,"l3_typing.go:74",#[⟨4,.data⟩,⟨2,.guard⟩],some (2,true)⟩
def iF:Oper:=⟨some 33,Op.load 25 (Operand.tmp 6),25,"l3_typing.go:74",#[⟨2,.guard⟩],some (2,true)⟩
def iW:Oper:=⟨some 34,Op.call { callee:=Callee.value (Operand.func 42),args:=#[Operand.tmp 32,Operand.tmp 33],argTypes:=#[25,25] },4,"l3_typing.go:74",#[⟨5,.data⟩,⟨6,.data⟩,⟨2,.chain⟩,⟨2,.guard⟩],some (2,true)⟩
def gG:Oper:=⟨some 35,Op.pick (Operand.tmp 29) (Operand.tmp 34) (Operand.const (Value.bool false)),4,"l3_typing.go:74",#[⟨2,.data⟩,⟨7,.data⟩,⟨9,.gcOnly .lateStores⟩],none⟩
def gH:Oper:=⟨none,Op.store 25 (Operand.tmp 4) (Operand.tmp 27),0,"l3_typing.go:74",#[⟨0,.data⟩,⟨7,.chain⟩,⟨0,.phase⟩,⟨1,.textOnly .lateStores⟩,⟨2,.textOnly .lateStores⟩,⟨3,.textOnly .lateStores⟩,⟨4,.textOnly .lateStores⟩,⟨5,.textOnly .lateStores⟩,⟨6,.textOnly .lateStores⟩,⟨7,.textOnly .lateStoresUnsure⟩,⟨8,.textOnly .lateStores⟩],none⟩
def ea:Oper:=⟨some 5,Op.assign (Operand.tmp 35),4,"l3_typing.go:74",#[⟨8,.data⟩,⟨9,.chain⟩,⟨0,.phase⟩,⟨1,.phase⟩,⟨2,.phase⟩,⟨3,.phase⟩,⟨4,.phase⟩,⟨5,.phase⟩,⟨6,.phase⟩,⟨7,.phase⟩,⟨8,.phase⟩,⟨9,.phase⟩],none⟩
set_option maxHeartbeats 4000000 in
theorem ia (G1 G2 G3:Nat→Prop)(nm:ByteArray)(u lb tk fk:Int)(ty src:Ty)(ta fa ca:Option Addr)(tn tq fn fq cm cq:Nat)(w:World)(hty:ap G1 w ty (.agg #[.int .i64 tk,.slice ta tn tq]))(hsrc:ap G2 w src (.agg #[.int .i64 fk,.slice fa fn fq]))(y:Value)(h1 h2:S)(hd:(h1.mat 4).2.2=false)(hv1:h1.vd=true)(hv2:h2.vd=true)(hy:aF G3 w [h1.ty,h2.ty] y) :
  Calls Try.prog 77 #[.agg #[.int .i64 6,.string nm,.int .i64 u,.int .i64 tk,.slice ta tn tq,.int .i64 fk,.slice fa fn fq,.int .i64 lb,.slice ca cm cq],y] w (bC ((bd 6 ty [h1,h2]).map S.ty) w):=by
 obtain⟨b,off,cap,k1,c1,m1,q1,k2,c2,m2,q2,rfl,-,-,hlb,e1a,e1b,e2a,e2b,ht1,ht2⟩:=hy.two
 obtain⟨O,hOO⟩ : ∃O:Option Ty,O=((bd 6 ty [h1,h2]).map S.ty):=⟨_,rfl⟩
 rw [←hOO]
 have HO:=Lib.hid hOO
 clear hOO
 have HOO:=Lib.hid (show bd 6 ty [h1,h2]=if ((h1.mat 4).2.2&&h2.cons (h1.mat 4).1)=true then some (h1.mat 4).2.1 else none from by simp only [bd,if_true])
 have H1:=Lib.hid ht1.old
 have H2:=Lib.hid ht2.old
 have HC1:=Lib.hid (eh hv1)
 have HM:=Lib.hid (fun W (h:Below w.heap.size w W)=>dw _ h1 4 (.inl rfl) HC1.out _ W (H1.out.below h))
 have HMV:=Lib.hid (iD (k:=4) hv1)
 have V2:=Lib.hid hv2
 generalize h1.mat 4=mm at HOO HM hd HMV
 obtain⟨ma,mb,okk⟩:=mm
 simp only at HOO HM hd HMV
 subst hd
 obtain⟨d2,hd2⟩ : ∃d2,h2.cons ma=d2:=⟨_,rfl⟩
 have HD2:=Lib.hid hd2
 have fR0:=aD (w:=w.alloc (.cells #[.int .i64 6,.string nm,.int .i64 u,.int .i64 tk,.slice ta tn tq,.int .i64 fk,.slice fa fn fq,.int .i64 lb,.slice ca cm cq] 28)) (o:=.cells #[.int .i64 0,.slice none 0 0] 25) (b:=w.heap.size+1) (by simp)
 have HBV:=Lib.hid (show Below w.heap.size w ((w.alloc (.cells #[.int .i64 6,.string nm,.int .i64 u,.int .i64 tk,.slice ta tn tq,.int .i64 fk,.slice fa fn fq,.int .i64 lb,.slice ca cm cq] 28)).alloc (.cells #[.int .i64 0,.slice none 0 0] 25)) from ai ah ah)
 have m0:=a9 (ah (o:=.cells #[.int .i64 6,.string nm,.int .i64 u,.int .i64 tk,.slice ta tn tq,.int .i64 fk,.slice fa fn fq,.int .i64 lb,.slice ca cm cq] 28)) e1a
 have m1:=a9 (ah (o:=.cells #[.int .i64 6,.string nm,.int .i64 u,.int .i64 tk,.slice ta tn tq,.int .i64 fk,.slice fa fn fq,.int .i64 lb,.slice ca cm cq] 28)) e1b
 have lb1:b<w.heap.size+1:=by omega
 have lb2:b<w.heap.size+1+1:=by omega
 clear hty hsrc hy ht1 ht2 hv1 hv2 hd2
 go_enter Try.func77,Try.ntmps77
 go_wp2_with fail
 refine(HM.out _ HBV.out).mono ?_
 rintro e w3 ⟨ya,yb,rfl,hab,hst⟩
 obtain⟨k3,a3,n3,q3,k4,a4,n4,q4,rfl,rfl⟩:=hab.shape
 obtain⟨fa_,fb_,oa_,ob_,-,hBB⟩:=hab
 have HYA:=Lib.hid (oa_.rep.move (.weaken (G:=fun x=>((w.alloc (.cells #[.int .i64 6,.string nm,.int .i64 u,.int .i64 tk,.slice ta tn tq,.int .i64 fk,.slice fa fn fq,.int .i64 lb,.slice ca cm cq] 28)).alloc (.cells #[.int .i64 0,.slice none 0 0] 25)).heap.size≤x∧x<w3.heap.size) fun b h hl=>⟨hBB b (by simp [h]),hl⟩))
 have HYB:=Lib.hid (ob_.rep.move (.weaken (G:=fun x=>((w.alloc (.cells #[.int .i64 6,.string nm,.int .i64 u,.int .i64 tk,.slice ta tn tq,.int .i64 fk,.slice fa fn fq,.int .i64 lb,.slice ca cm cq] 28)).alloc (.cells #[.int .i64 0,.slice none 0 0] 25)).heap.size≤x∧x<w3.heap.size) fun b h hl=>⟨hBB b (by simp [h]),hl⟩))
 have fR3:=af fR0 hst
 have fC3:=Lib.hid (ai HBV.out hst)
 have z3:=hst.size
 simp only [World.size_alloc] at z3
 clear oa_ ob_ hBB hst
 simp only [World.size_alloc] at HYA HYB
 clear m0 m1
 go_wp2_with fail
 obtain⟨VV,hVV⟩ : ∃X,X=((w3.alloc (.cells #[.int .i64 k3,.slice a3 n3 q3] 25)).alloc (.cells #[.int .i64 k4,.slice a4 n4 q4] 25)):=⟨_,rfl⟩
 have fR:VV.heap[w.heap.size+1]?=some (.cells #[.int .i64 0,.slice none 0 0] 25 (0,0)):=by rw [hVV];exact af (af fR3 ah) ah
 have fA:VV.heap[w3.heap.size]?=some (.cells #[.int .i64 k3,.slice a3 n3 q3] 25 (0,0)):=by rw [hVV];exact af (aD rfl) ah
 have fB:VV.heap[w3.heap.size+1]?=some (.cells #[.int .i64 k4,.slice a4 n4 q4] 25 (0,0)):=by rw [hVV];exact aD (by simp)
 have fC:Hid (Below w.heap.size w VV):=by rw [hVV];exact Lib.hid (ai (ai fC3.out ah) ah)
 have hA:Hid (ap (fun x=>w.heap.size+1+1≤x∧x<w3.heap.size) VV ma.ty (.agg #[.int .i64 k3,.slice a3 n3 q3])):=by rw [hVV];exact Lib.hid ((HYA.out.below ah).below ah)
 have hB_:Hid (ap (fun x=>w.heap.size+1+1≤x∧x<w3.heap.size) VV mb.ty (.agg #[.int .i64 k4,.slice a4 n4 q4])):=by rw [hVV];exact Lib.hid ((HYB.out.below ah).below ah)
 rw [←hVV]
 have zV:VV.heap.size=_:=congrArg (fun X:World=>X.heap.size) hVV
 simp only [World.size_alloc] at zV
 refine wp_region_noPanic ?_
 refine wp_region_held_drew (S:=fun w'=>w'.cell? ⟨w3.heap.size,0,none⟩=some (.int .i64 k3)∧w'.cell? ⟨w3.heap.size,1,none⟩=some (.slice a3 n3 q3)∧w'.cell? ⟨w3.heap.size+1,0,none⟩=some (.int .i64 k4)∧w'.cell? ⟨w3.heap.size+1,1,none⟩=some (.slice a4 n4 q4)) (by kernel_rfl) ?_ (fun hHeld0=>?_)
 ·exact⟨ag fA rfl,ag fA rfl,ag fB rfl,ag fB rfl⟩
 obtain⟨U7,hU,hb,zU7a,zU7b⟩:=bO VV
 rw [hU] at hHeld0 ⊢
 replace fR:=af fR hb;replace fA:=af fA hb;replace fB:=af fB hb;replace fC:=Lib.hid (ai fC.out hb)
 replace hA:=Lib.hid (hA.out.below hb);replace hB_:=Lib.hid (hB_.out.below hb)
 rw [zV] at zU7a zU7b
 clear hU hb hVV zV
 refine hwt 0 gr (.agg #[.int .i64 k4,.slice a4 n4 q4]) hHeld0 ?_ ?_
 ·intro w' hSw;dsimp only [gr];go_simp
 try simp only [gr,hwA]
 refine hwt 1 gL (.bool false) hHeld0 ?_ ?_
 ·intro w' hSw;dsimp only [gL];go_simp
 try simp only [gL,hwA]
 refine hwt 2 gO (.bool false) hHeld0 ?_ ?_
 ·intro w' hSw;dsimp only [gO];go_simp
 try simp only [gO,hwA]
 refine hwn 3 iO hHeld0 ?_
 try simp only [iO,hwA]
 refine hwn 4 iZ hHeld0 ?_
 try simp only [iZ,hwA]
 refine hwn 5 iA hHeld0 ?_
 try simp only [iA,hwA]
 refine hwn 6 iF hHeld0 ?_
 try simp only [iF,hwA]
 refine hwn 7 iW hHeld0 ?_
 try simp only [iW,hwA]
 refine hwt 8 gG (.bool false) hHeld0 ?_ ?_
 ·intro w' hSw;dsimp only [gG];go_simp
 try simp only [gG,hwA]
 refine hwr 9 gH (fun K hK=>?_)
 obtain⟨r0,r1,rf0,rf1⟩:=cg fR
 dsimp only [gH];go_simp
 (try go_wp2_with fail)
 have hQq:=bx fR (.int .i64 k4) (.slice a4 n4 q4)
 clear fR r0 rf0 r1 rf1
 obtain⟨X1,hXq,hsq,fR,zX1a,zX1b⟩:=hQq
 rw [hXq]
 replace fA:=hsq.blk (by omega) fA;replace fB:=hsq.blk (by omega) fB;replace fC:=Lib.hid (hsq.bel fC.out (by omega));replace hA:=Lib.hid (hsq.rep (fun b hb=>by have h1:=hb.1;have h2:=hb.2;omega) hA.out)
 replace hB_:=Lib.hid (hsq.rep (fun b hb=>by have h1:=hb.1;have h2:=hb.2;omega) hB_.out)
 refine hK.out _ _ ⟨ag fA rfl,ag fA rfl,ag fB rfl,ag fB rfl⟩ (fun hHeld1=>?_)
 clear hK K hHeld0 hsq hXq
 try simp only [gH,hwA]
 refine hwt 10 ea (.bool false) hHeld1 ?_ ?_
 ·intro w' hSw;dsimp only [ea];go_simp
 try simp only [ea,hwA]
 refine wpAnyH_done (by kernel_rfl) ?_ _
 refine NoPanic.normal ?_
 clear hHeld1
 have HN:O=none:=by rw [HO.out,HOO.out];rfl
 obtain⟨rc0,rc1⟩:=blk2 fR
 go_wp2_with fail
 refine bodyPost_ret (v:=.tuple #[.agg #[.int .i64 k4,.slice a4 n4 q4],.bool false]) (by simp [results,Try.results77,go_sem,rc0,rc1]) rfl ?_
 exact⟨_,_,_,_,_,mb.ty,rfl,by rw [HN];rfl,hB_.out.move (.weaken fun b h _=>.inr (by have h1:=h.1;omega)),(by rw [HN];intro s h;cases h),fC.out⟩
set_option maxHeartbeats 4000000 in
theorem i9 (G1 G2 G3:Nat→Prop)(nm:ByteArray)(u lb tk fk:Int)(ty src:Ty)(ta fa ca:Option Addr)(tn tq fn fq cm cq:Nat)(w:World)(hty:ap G1 w ty (.agg #[.int .i64 tk,.slice ta tn tq]))(hsrc:ap G2 w src (.agg #[.int .i64 fk,.slice fa fn fq]))(y:Value)(h1 h2:S)(hd:(h1.mat 4).2.2=true)(hv1:h1.vd=true)(hv2:h2.vd=true)(hy:aF G3 w [h1.ty,h2.ty] y) :
  Calls Try.prog 77 #[.agg #[.int .i64 6,.string nm,.int .i64 u,.int .i64 tk,.slice ta tn tq,.int .i64 fk,.slice fa fn fq,.int .i64 lb,.slice ca cm cq],y] w (bC ((bd 6 ty [h1,h2]).map S.ty) w):=by
 obtain⟨b,off,cap,k1,c1,m1,q1,k2,c2,m2,q2,rfl,-,-,hlb,e1a,e1b,e2a,e2b,ht1,ht2⟩:=hy.two
 obtain⟨O,hOO⟩ : ∃O:Option Ty,O=((bd 6 ty [h1,h2]).map S.ty):=⟨_,rfl⟩
 rw [←hOO]
 have HO:=Lib.hid hOO
 clear hOO
 have HOO:=Lib.hid (show bd 6 ty [h1,h2]=if ((h1.mat 4).2.2&&h2.cons (h1.mat 4).1)=true then some (h1.mat 4).2.1 else none from by simp only [bd,if_true])
 have H1:=Lib.hid ht1.old
 have H2:=Lib.hid ht2.old
 have HC1:=Lib.hid (eh hv1)
 have HM:=Lib.hid (fun W (h:Below w.heap.size w W)=>dw _ h1 4 (.inl rfl) HC1.out _ W (H1.out.below h))
 have HMV:=Lib.hid (iD (k:=4) hv1)
 have V2:=Lib.hid hv2
 generalize h1.mat 4=mm at HOO HM hd HMV
 obtain⟨ma,mb,okk⟩:=mm
 simp only at HOO HM hd HMV
 subst hd
 obtain⟨d2,hd2⟩ : ∃d2,h2.cons ma=d2:=⟨_,rfl⟩
 have HD2:=Lib.hid hd2
 have fR0:=aD (w:=w.alloc (.cells #[.int .i64 6,.string nm,.int .i64 u,.int .i64 tk,.slice ta tn tq,.int .i64 fk,.slice fa fn fq,.int .i64 lb,.slice ca cm cq] 28)) (o:=.cells #[.int .i64 0,.slice none 0 0] 25) (b:=w.heap.size+1) (by simp)
 have HBV:=Lib.hid (show Below w.heap.size w ((w.alloc (.cells #[.int .i64 6,.string nm,.int .i64 u,.int .i64 tk,.slice ta tn tq,.int .i64 fk,.slice fa fn fq,.int .i64 lb,.slice ca cm cq] 28)).alloc (.cells #[.int .i64 0,.slice none 0 0] 25)) from ai ah ah)
 have m0:=a9 (ah (o:=.cells #[.int .i64 6,.string nm,.int .i64 u,.int .i64 tk,.slice ta tn tq,.int .i64 fk,.slice fa fn fq,.int .i64 lb,.slice ca cm cq] 28)) e1a
 have m1:=a9 (ah (o:=.cells #[.int .i64 6,.string nm,.int .i64 u,.int .i64 tk,.slice ta tn tq,.int .i64 fk,.slice fa fn fq,.int .i64 lb,.slice ca cm cq] 28)) e1b
 have lb1:b<w.heap.size+1:=by omega
 have lb2:b<w.heap.size+1+1:=by omega
 clear hty hsrc hy ht1 ht2 hv1 hv2 hd2
 go_enter Try.func77,Try.ntmps77
 go_wp2_with fail
 refine(HM.out _ HBV.out).mono ?_
 rintro e w3 ⟨ya,yb,rfl,hab,hst⟩
 obtain⟨k3,a3,n3,q3,k4,a4,n4,q4,rfl,rfl⟩:=hab.shape
 obtain⟨fa_,fb_,oa_,ob_,-,hBB⟩:=hab
 have HYA:=Lib.hid (oa_.rep.move (.weaken (G:=fun x=>((w.alloc (.cells #[.int .i64 6,.string nm,.int .i64 u,.int .i64 tk,.slice ta tn tq,.int .i64 fk,.slice fa fn fq,.int .i64 lb,.slice ca cm cq] 28)).alloc (.cells #[.int .i64 0,.slice none 0 0] 25)).heap.size≤x∧x<w3.heap.size) fun b h hl=>⟨hBB b (by simp [h]),hl⟩))
 have HYB:=Lib.hid (ob_.rep.move (.weaken (G:=fun x=>((w.alloc (.cells #[.int .i64 6,.string nm,.int .i64 u,.int .i64 tk,.slice ta tn tq,.int .i64 fk,.slice fa fn fq,.int .i64 lb,.slice ca cm cq] 28)).alloc (.cells #[.int .i64 0,.slice none 0 0] 25)).heap.size≤x∧x<w3.heap.size) fun b h hl=>⟨hBB b (by simp [h]),hl⟩))
 have fR3:=af fR0 hst
 have fC3:=Lib.hid (ai HBV.out hst)
 have z3:=hst.size
 simp only [World.size_alloc] at z3
 clear oa_ ob_ hBB hst
 simp only [World.size_alloc] at HYA HYB
 clear m0 m1
 go_wp2_with fail
 obtain⟨VV,hVV⟩ : ∃X,X=((w3.alloc (.cells #[.int .i64 k3,.slice a3 n3 q3] 25)).alloc (.cells #[.int .i64 k4,.slice a4 n4 q4] 25)):=⟨_,rfl⟩
 have fR:VV.heap[w.heap.size+1]?=some (.cells #[.int .i64 0,.slice none 0 0] 25 (0,0)):=by rw [hVV];exact af (af fR3 ah) ah
 have fA:VV.heap[w3.heap.size]?=some (.cells #[.int .i64 k3,.slice a3 n3 q3] 25 (0,0)):=by rw [hVV];exact af (aD rfl) ah
 have fB:VV.heap[w3.heap.size+1]?=some (.cells #[.int .i64 k4,.slice a4 n4 q4] 25 (0,0)):=by rw [hVV];exact aD (by simp)
 have fC:Hid (Below w.heap.size w VV):=by rw [hVV];exact Lib.hid (ai (ai fC3.out ah) ah)
 have hA:Hid (ap (fun x=>w.heap.size+1+1≤x∧x<w3.heap.size) VV ma.ty (.agg #[.int .i64 k3,.slice a3 n3 q3])):=by rw [hVV];exact Lib.hid ((HYA.out.below ah).below ah)
 have hB_:Hid (ap (fun x=>w.heap.size+1+1≤x∧x<w3.heap.size) VV mb.ty (.agg #[.int .i64 k4,.slice a4 n4 q4])):=by rw [hVV];exact Lib.hid ((HYB.out.below ah).below ah)
 have c2a_:VV.cell? ⟨b,off+2,none⟩=some (.int .i64 k2):=by rw [hVV];exact a9 ah (a9 ah (a9 fC3.out e2a))
 have c2b_:VV.cell? ⟨b,off+3,none⟩=some (.slice c2 m2 q2):=by rw [hVV];exact a9 ah (a9 ah (a9 fC3.out e2b))
 have h2_:Hid (ap (· < w.heap.size) VV h2.ty (.agg #[.int .i64 k2,.slice c2 m2 q2])):=by rw [hVV];exact Lib.hid (((H2.out.below fC3.out).below ah).below ah)
 rw [←hVV]
 have zV:VV.heap.size=_:=congrArg (fun X:World=>X.heap.size) hVV
 simp only [World.size_alloc] at zV
 refine wp_region_noPanic ?_
 refine wp_region_held_drew (S:=fun w'=>w'.cell? ⟨w3.heap.size,0,none⟩=some (.int .i64 k3)∧w'.cell? ⟨w3.heap.size,1,none⟩=some (.slice a3 n3 q3)∧w'.cell? ⟨w3.heap.size+1,0,none⟩=some (.int .i64 k4)∧w'.cell? ⟨w3.heap.size+1,1,none⟩=some (.slice a4 n4 q4)∧w'.cell? ⟨b,off+2,none⟩=some (.int .i64 k2)∧w'.cell? ⟨b,off+3,none⟩=some (.slice c2 m2 q2)) (by kernel_rfl) ?_ (fun hHeld0=>?_)
 ·exact⟨ag fA rfl,ag fA rfl,ag fB rfl,ag fB rfl,c2a_,c2b_⟩
 obtain⟨U8,hU,hb,zU8a,zU8b⟩:=bO VV
 rw [hU] at hHeld0 ⊢
 replace fR:=af fR hb;replace fA:=af fA hb;replace fB:=af fB hb;replace fC:=Lib.hid (ai fC.out hb)
 replace hA:=Lib.hid (hA.out.below hb);replace hB_:=Lib.hid (hB_.out.below hb);replace c2a_:=a9 hb c2a_;replace c2b_:=a9 hb c2b_
 replace h2_:=Lib.hid (h2_.out.below hb)
 rw [zV] at zU8a zU8b
 clear hU hb hVV zV
 refine hwt 0 gr (.agg #[.int .i64 k4,.slice a4 n4 q4]) hHeld0 ?_ ?_
 ·intro w' hSw;dsimp only [gr];go_simp
 try simp only [gr,hwA]
 refine hwt 1 gL (.bool true) hHeld0 ?_ ?_
 ·intro w' hSw;dsimp only [gL];go_simp
 try simp only [gL,hwA]
 refine hwt 2 gO (.bool true) hHeld0 ?_ ?_
 ·intro w' hSw;dsimp only [gO];go_simp
 try simp only [gO,hwA]
 refine hwt 3 iO (.slice (some ⟨b,off,none⟩) 2 cap) hHeld0 ?_ ?_
 ·intro w' hSw;dsimp only [iO];go_simp
 try simp only [iO,hwA]
 refine hwt 4 iZ (.pointer (some ⟨b,off+2,none⟩)) hHeld0 ?_ ?_
 ·intro w' hSw;dsimp only [iZ];go_simp
 try simp only [iZ,hwA]
 refine hwt 5 iA (.agg #[.int .i64 k2,.slice c2 m2 q2]) hHeld0 ?_ ?_
 ·intro w' hSw;dsimp only [iA];go_simp
 try simp only [iA,hwA]
 refine hwt 6 iF (.agg #[.int .i64 k3,.slice a3 n3 q3]) hHeld0 ?_ ?_
 ·intro w' hSw;dsimp only [iF];go_simp
 try simp only [iF,hwA]
 refine hwr 7 iW (fun K hK=>?_)
 dsimp only [iW];go_simp
 go_at_call 42
 refine(bV _ _ _ _ _ _ _ h2_.out hA.out V2.out (HMV.out (by simp)).1).mono ?_
 rintro e X1 ⟨rfl,hb⟩
 rw [HD2.out]
 go_wp2_with fail
 have zX1:U8.heap.size≤X1.heap.size:=hb.size
 replace fR:=af fR hb;replace fA:=af fA hb;replace fB:=af fB hb;replace fC:=Lib.hid (ai fC.out hb)
 replace hA:=Lib.hid (hA.out.below hb);replace hB_:=Lib.hid (hB_.out.below hb);replace c2a_:=a9 hb c2a_;replace c2b_:=a9 hb c2b_
 replace h2_:=Lib.hid (h2_.out.below hb)
 refine hK.out _ _ ⟨ag fA rfl,ag fA rfl,ag fB rfl,ag fB rfl,c2a_,c2b_⟩ (fun hHeld1=>?_)
 clear hK K hHeld0 hb
 try simp only [iW,hwA]
 refine hwt 8 gG (.bool d2) hHeld1 ?_ ?_
 ·intro w' hSw;dsimp only [gG];go_simp
 try simp only [gG,hwA]
 refine hwr 9 gH (fun K hK=>?_)
 obtain⟨r0,r1,rf0,rf1⟩:=cg fR
 dsimp only [gH];go_simp
 (try go_wp2_with fail)
 have hQq:=bx fR (.int .i64 k4) (.slice a4 n4 q4)
 clear fR r0 rf0 r1 rf1
 obtain⟨X2,hXq,hsq,fR,zX2a,zX2b⟩:=hQq
 rw [hXq]
 replace fA:=hsq.blk (by omega) fA;replace fB:=hsq.blk (by omega) fB;replace fC:=Lib.hid (hsq.bel fC.out (by omega));replace hA:=Lib.hid (hsq.rep (fun b hb=>by have h1:=hb.1;have h2:=hb.2;omega) hA.out)
 replace hB_:=Lib.hid (hsq.rep (fun b hb=>by have h1:=hb.1;have h2:=hb.2;omega) hB_.out);replace c2a_:=hsq.cell (by show b≠w.heap.size+1;omega) c2a_;replace c2b_:=hsq.cell (by show b≠w.heap.size+1;omega) c2b_;replace h2_:=Lib.hid (hsq.rep (fun b hb=>by have:b<w.heap.size:=hb;omega) h2_.out)
 refine hK.out _ _ ⟨ag fA rfl,ag fA rfl,ag fB rfl,ag fB rfl,c2a_,c2b_⟩ (fun hHeld2=>?_)
 clear hK K hHeld1 hsq hXq
 try simp only [gH,hwA]
 refine hwt 10 ea (.bool d2) hHeld2 ?_ ?_
 ·intro w' hSw;dsimp only [ea];go_simp
 try simp only [ea,hwA]
 refine wpAnyH_done (by kernel_rfl) ?_ _
 refine NoPanic.normal ?_
 clear hHeld2
 have HN:O=if d2=true then some mb.ty else none:=by rw [HO.out,HOO.out];rw [HD2.out];cases d2<;>rfl
 obtain⟨rc0,rc1⟩:=blk2 fR
 go_wp2_with fail
 refine bodyPost_ret (v:=.tuple #[.agg #[.int .i64 k4,.slice a4 n4 q4],.bool d2]) (by simp [results,Try.results77,go_sem,rc0,rc1]) rfl ?_
 exact⟨_,_,_,_,_,mb.ty,rfl,by rw [HN];cases d2<;>rfl,hB_.out.move (.weaken fun b h _=>.inr (by have h1:=h.1;omega)),(by rw [HN];intro s h;cases d2 with | false=>cases h | true=>exact Option.some.inj h),fC.out⟩
end Go.Proofs.Ytnaoghknnenfoaa
namespace Go.Proofs.Ytnaoghknnenfoaa
open Go.RowKit
theorem S.ty_meetT : ∀s u:S,s.cons u=true→s.ty.meet u.ty=(s.meet u).ty:=by
 intro s
 induction s with
 | fn a b ha hb=>
  intro u h
  cases u<;>simp [S.cons] at h
  ·simp [S.ty,Ty.meet,S.meet]
  ·simp [S.ty,Ty.meet,Ty.meets,S.meet,ha _ h.1,hb _ h.2]
 | pr a b ha hb=>
  intro u h
  cases u<;>simp [S.cons] at h
  ·simp [S.ty,Ty.meet,S.meet]
  ·simp [S.ty,Ty.meet,Ty.meets,S.meet,ha _ h.1,hb _ h.2]
 | _=>intro u h;cases u<;>simp [S.cons] at h<;>simp [S.ty,Ty.meet,Ty.meets,S.meet]
def ed:Oper:=⟨some 68,Op.move (Operand.tmp 1),23,"l3_typing.go:80",#[],none⟩
def dU:Oper:=⟨some 69,Op.indexAddr 23 (Operand.tmp 68) (Operand.const (Value.int IntKind.i64 1)),0,"l3_typing.go:80",#[⟨0,.data⟩],none⟩
def dJ:Oper:=⟨some 70,Op.load 25 (Operand.tmp 69),25,"l3_typing.go:80",#[⟨1,.data⟩],none⟩
def dN:Oper:=⟨some 71,Op.move (Operand.tmp 1),23,"l3_typing.go:80",#[],none⟩
def dO:Oper:=⟨some 72,Op.indexAddr 23 (Operand.tmp 71) (Operand.const (Value.int IntKind.i64 2)),0,"l3_typing.go:80",#[⟨3,.data⟩],none⟩
def e9:Oper:=⟨some 73,Op.load 25 (Operand.tmp 72),25,"l3_typing.go:80",#[⟨4,.data⟩],none⟩
def dZ:Oper:=⟨some 74,Op.call { callee:=Callee.value (Operand.func 42),args:=#[Operand.tmp 70,Operand.tmp 73],argTypes:=#[25,25] },4,"l3_typing.go:80",#[⟨2,.data⟩,⟨5,.data⟩],none⟩
def dW:Oper:=⟨some 75,Op.unOp UnOp.not 4 (Operand.tmp 74),4,"l3_typing.go:80",#[⟨6,.data⟩],none⟩
set_option maxHeartbeats 4000000 in
theorem ib (G1 G2 G3:Nat→Prop)(nm:ByteArray)(u lb tk fk:Int)(ty src:Ty)(ta fa ca:Option Addr)(tn tq fn fq cm cq:Nat)(w:World)(hty:ap G1 w ty (.agg #[.int .i64 tk,.slice ta tn tq]))(hsrc:ap G2 w src (.agg #[.int .i64 fk,.slice fa fn fq]))(y:Value)(h1 h2 h3:S)(d2:h2.cons h3=false)(hv1:h1.vd=true)(hv2:h2.vd=true)(hv3:h3.vd=true)(hy:aF G3 w [h1.ty,h2.ty,h3.ty] y) :
  Calls Try.prog 77 #[.agg #[.int .i64 9,.string nm,.int .i64 u,.int .i64 tk,.slice ta tn tq,.int .i64 fk,.slice fa fn fq,.int .i64 lb,.slice ca cm cq],y] w (bC ((bd 9 ty [h1,h2,h3]).map S.ty) w):=by
 obtain⟨b,off,cap,k1,c1,m1,q1,k2,c2,m2,q2,k3,c3,m3,q3,rfl,hlb,e1a,e1b,e2a,e2b,e3a,e3b,ht1,ht2,ht3⟩:=hy.three
 obtain⟨O,hOO⟩ : ∃O:Option Ty,O=((bd 9 ty [h1,h2,h3]).map S.ty):=⟨_,rfl⟩
 rw [←hOO]
 have HO:=Lib.hid hOO
 clear hOO
 have D2:=Lib.hid d2
 have V1:=Lib.hid hv1
 have V2:=Lib.hid hv2
 have V3:=Lib.hid hv3
 obtain⟨d1,hd1⟩ : ∃d1,h1.cons .bool=d1:=⟨_,rfl⟩
 have D1:=Lib.hid hd1
 clear d2 hv1 hv2 hv3 hd1
 have H1:=Lib.hid ht1.old
 have H2:=Lib.hid ht2.old
 have H3:=Lib.hid ht3.old
 clear hty hsrc hy ht1 ht2 ht3
 go_enter Try.func77,Try.ntmps77
 go_wp2_with fail
 obtain⟨VV,hVV⟩ : ∃X,X=((w.alloc (.cells #[.int .i64 9,.string nm,.int .i64 u,.int .i64 tk,.slice ta tn tq,.int .i64 fk,.slice fa fn fq,.int .i64 lb,.slice ca cm cq] 28)).alloc (.cells #[.int .i64 0,.slice none 0 0] 25)):=⟨_,rfl⟩
 have fE:VV.heap[w.heap.size]?=some (.cells #[.int .i64 9,.string nm,.int .i64 u,.int .i64 tk,.slice ta tn tq,.int .i64 fk,.slice fa fn fq,.int .i64 lb,.slice ca cm cq] 28 (0,0)):=by rw [hVV];exact af (aD rfl) ah
 have fR:VV.heap[w.heap.size+1]?=some (.cells #[.int .i64 0,.slice none 0 0] 25 (0,0)):=by rw [hVV];exact aD (by simp)
 have c1a_:VV.cell? ⟨b,off,none⟩=some (.int .i64 k1):=by rw [hVV];exact a9 ah (a9 ah e1a)
 have c1b_:VV.cell? ⟨b,off+1,none⟩=some (.slice c1 m1 q1):=by rw [hVV];exact a9 ah (a9 ah e1b)
 have h1_:Hid (ap (· < w.heap.size) VV h1.ty (.agg #[.int .i64 k1,.slice c1 m1 q1])):=by rw [hVV];exact Lib.hid ((H1.out.below ah).below ah)
 have c2a_:VV.cell? ⟨b,off+2,none⟩=some (.int .i64 k2):=by rw [hVV];exact a9 ah (a9 ah e2a)
 have c2b_:VV.cell? ⟨b,off+3,none⟩=some (.slice c2 m2 q2):=by rw [hVV];exact a9 ah (a9 ah e2b)
 have h2_:Hid (ap (· < w.heap.size) VV h2.ty (.agg #[.int .i64 k2,.slice c2 m2 q2])):=by rw [hVV];exact Lib.hid ((H2.out.below ah).below ah)
 have c3a_:VV.cell? ⟨b,off+4,none⟩=some (.int .i64 k3):=by rw [hVV];exact a9 ah (a9 ah e3a)
 have c3b_:VV.cell? ⟨b,off+5,none⟩=some (.slice c3 m3 q3):=by rw [hVV];exact a9 ah (a9 ah e3b)
 have h3_:Hid (ap (· < w.heap.size) VV h3.ty (.agg #[.int .i64 k3,.slice c3 m3 q3])):=by rw [hVV];exact Lib.hid ((H3.out.below ah).below ah)
 have fC:Hid (Below w.heap.size w VV):=by rw [hVV];exact Lib.hid (ai ah ah)
 rw [←hVV]
 have zV:VV.heap.size=_:=congrArg (fun X:World=>X.heap.size) hVV
 simp only [World.size_alloc] at zV
 refine wp_region_noPanic ?_
 refine wp_region_held_drew (S:=fun w'=>w'.cell? ⟨b,off+2,none⟩=some (.int .i64 k2)∧w'.cell? ⟨b,off+3,none⟩=some (.slice c2 m2 q2)∧w'.cell? ⟨b,off+4,none⟩=some (.int .i64 k3)∧w'.cell? ⟨b,off+5,none⟩=some (.slice c3 m3 q3)) (by kernel_rfl) ?_ (fun hHeld0=>?_)
 ·exact⟨c2a_,c2b_,c3a_,c3b_⟩
 obtain⟨U9,hU,hb,zU9a,zU9b⟩:=bO VV
 rw [hU] at hHeld0 ⊢
 replace fE:=af fE hb;replace fR:=af fR hb;replace c1a_:=a9 hb c1a_;replace c1b_:=a9 hb c1b_
 replace h1_:=Lib.hid (h1_.out.below hb);replace c2a_:=a9 hb c2a_;replace c2b_:=a9 hb c2b_;replace h2_:=Lib.hid (h2_.out.below hb)
 replace c3a_:=a9 hb c3a_;replace c3b_:=a9 hb c3b_;replace h3_:=Lib.hid (h3_.out.below hb);replace fC:=Lib.hid (ai fC.out hb)
 rw [zV] at zU9a zU9b
 clear hU hb hVV zV
 refine hwt 0 ed (.slice (some ⟨b,off,none⟩) 3 cap) hHeld0 ?_ ?_
 ·intro w' hSw;dsimp only [ed];go_simp
 try simp only [ed,hwA]
 refine hwt 1 dU (.pointer (some ⟨b,off+2,none⟩)) hHeld0 ?_ ?_
 ·intro w' hSw;dsimp only [dU];go_simp
 try simp only [dU,hwA]
 refine hwt 2 dJ (.agg #[.int .i64 k2,.slice c2 m2 q2]) hHeld0 ?_ ?_
 ·intro w' hSw;dsimp only [dJ];go_simp
 try simp only [dJ,hwA]
 refine hwt 3 dN (.slice (some ⟨b,off,none⟩) 3 cap) hHeld0 ?_ ?_
 ·intro w' hSw;dsimp only [dN];go_simp
 try simp only [dN,hwA]
 refine hwt 4 dO (.pointer (some ⟨b,off+4,none⟩)) hHeld0 ?_ ?_
 ·intro w' hSw;dsimp only [dO];go_simp
 try simp only [dO,hwA]
 refine hwt 5 e9 (.agg #[.int .i64 k3,.slice c3 m3 q3]) hHeld0 ?_ ?_
 ·intro w' hSw;dsimp only [e9];go_simp
 try simp only [e9,hwA]
 refine hwr 6 dZ (fun K hK=>?_)
 dsimp only [dZ];go_simp
 go_at_call 42
 refine(bV _ _ _ _ _ _ _ h2_.out h3_.out V2.out V3.out).mono ?_
 rintro e X1 ⟨rfl,hb⟩
 rw [D2.out]
 go_wp2_with fail
 have zX1:U9.heap.size≤X1.heap.size:=hb.size
 replace fE:=af fE hb;replace fR:=af fR hb;replace c1a_:=a9 hb c1a_;replace c1b_:=a9 hb c1b_
 replace h1_:=Lib.hid (h1_.out.below hb);replace c2a_:=a9 hb c2a_;replace c2b_:=a9 hb c2b_;replace h2_:=Lib.hid (h2_.out.below hb)
 replace c3a_:=a9 hb c3a_;replace c3b_:=a9 hb c3b_;replace h3_:=Lib.hid (h3_.out.below hb);replace fC:=Lib.hid (ai fC.out hb)
 refine hK.out _ _ ⟨c2a_,c2b_,c3a_,c3b_⟩ (fun hHeld1=>?_)
 clear hK K hHeld0 hb
 try simp only [dZ,hwA]
 refine hwt 7 dW (.bool true) hHeld1 ?_ ?_
 ·intro w' hSw;dsimp only [dW];go_simp
 try simp only [dW,hwA]
 refine wpAnyH_done (by kernel_rfl) ?_ _
 refine NoPanic.normal ?_
 clear hHeld1
 obtain⟨r0,r1,rf0,rf1⟩:=cg fR
 go_wp2_with fail
 have hY:((X1.setCell ⟨w.heap.size+1,0,none⟩ (.int .i64 0)).setCell ⟨w.heap.size+1,1,none⟩ (.slice none 0 0)).heap[w.heap.size+1]?=some (.cells #[.int .i64 0,.slice none 0 0] 25 (0,0)):=aQ (aQ fR rfl) rfl
 obtain⟨rc0,rc1⟩:=blk2 hY
 refine bodyPost_ret (v:=.tuple #[.agg #[.int .i64 0,.slice none 0 0],.bool false]) (by simp [results,Try.results77,go_sem,rc0,rc1]) rfl ?_
 have HN:O=none:=by rw [HO.out];simp only [bd,D2.out];rfl
 exact⟨_,_,_,_,_,_,rfl,by rw [HN];rfl,ap.zeroG,(by rw [HN];intro s h;cases h),(fC.out.setCell (p:=⟨w.heap.size+1,0,none⟩) (by show w.heap.size≤w.heap.size+1;omega) _).setCell (p:=⟨w.heap.size+1,1,none⟩) (by show w.heap.size≤w.heap.size+1;omega) _⟩
def nk:Oper:=⟨some 77,Op.move (Operand.tmp 1),23,"l3_typing.go:83",#[],none⟩
def oo:Oper:=⟨some 78,Op.indexAddr 23 (Operand.tmp 77) (Operand.const (Value.int IntKind.i64 1)),0,"l3_typing.go:83",#[⟨0,.data⟩],none⟩
def ou:Oper:=⟨some 79,Op.load 25 (Operand.tmp 78),25,"l3_typing.go:83",#[⟨1,.data⟩],none⟩
def nW:Oper:=⟨some 80,Op.move (Operand.tmp 1),23,"l3_typing.go:83",#[],none⟩
def lN:Oper:=⟨some 81,Op.indexAddr 23 (Operand.tmp 80) (Operand.const (Value.int IntKind.i64 2)),0,"l3_typing.go:83",#[⟨3,.data⟩],none⟩
def lP:Oper:=⟨some 82,Op.load 25 (Operand.tmp 81),25,"l3_typing.go:83",#[⟨4,.data⟩],none⟩
def n8:Oper:=⟨some 83,Op.call { callee:=Callee.value (Operand.func 81),args:=#[Operand.tmp 79,Operand.tmp 82],argTypes:=#[25,25] },25,"l3_typing.go:83",#[⟨2,.data⟩,⟨5,.data⟩],none⟩
def mS:Oper:=⟨some 84,Op.move (Operand.tmp 1),23,"l3_typing.go:83",#[],none⟩
def og:Oper:=⟨some 85,Op.indexAddr 23 (Operand.tmp 84) (Operand.const (Value.int IntKind.i64 0)),0,"l3_typing.go:83",#[⟨7,.data⟩],none⟩
def mY:Oper:=⟨some 86,Op.load 25 (Operand.tmp 85),25,"l3_typing.go:83",#[⟨8,.data⟩],none⟩
def jY:Oper:=⟨some 87,Op.call { callee:=Callee.value (Operand.func 45),args:=#[],argTypes:=#[] },25,"l3_typing.go:83",#[⟨6,.chain⟩],none⟩
def jV:Oper:=⟨some 88,Op.call { callee:=Callee.value (Operand.func 42),args:=#[Operand.tmp 86,Operand.tmp 87],argTypes:=#[25,25] },4,"l3_typing.go:83",#[⟨9,.data⟩,⟨10,.data⟩,⟨10,.chain⟩],none⟩
def jm:Oper:=⟨none,Op.store 25 (Operand.tmp 4) (Operand.tmp 83),0,"l3_typing.go:83",#[⟨6,.data⟩,⟨11,.chain⟩,⟨0,.phase⟩,⟨1,.phase⟩,⟨2,.phase⟩,⟨3,.phase⟩,⟨4,.phase⟩,⟨5,.phase⟩,⟨6,.phase⟩,⟨7,.textOnly .lateStores⟩,⟨8,.textOnly .lateStores⟩,⟨9,.textOnly .lateStores⟩,⟨10,.textOnly .lateStoresUnsure⟩,⟨11,.textOnly .lateStoresUnsure⟩],none⟩
def jv:Oper:=⟨some 5,Op.assign (Operand.tmp 88),4,"l3_typing.go:83",#[⟨11,.data⟩,⟨12,.chain⟩,⟨0,.phase⟩,⟨1,.phase⟩,⟨2,.phase⟩,⟨3,.phase⟩,⟨4,.phase⟩,⟨5,.phase⟩,⟨6,.phase⟩,⟨7,.phase⟩,⟨8,.phase⟩,⟨9,.phase⟩,⟨10,.phase⟩,⟨11,.phase⟩,⟨12,.phase⟩],none⟩
set_option maxHeartbeats 4000000 in
theorem ic (G1 G2 G3:Nat→Prop)(nm:ByteArray)(u lb tk fk:Int)(ty src:Ty)(ta fa ca:Option Addr)(tn tq fn fq cm cq:Nat)(w:World)(hty:ap G1 w ty (.agg #[.int .i64 tk,.slice ta tn tq]))(hsrc:ap G2 w src (.agg #[.int .i64 fk,.slice fa fn fq]))(y:Value)(h1 h2 h3:S)(d2:h2.cons h3=true)(hv1:h1.vd=true)(hv2:h2.vd=true)(hv3:h3.vd=true)(hy:aF G3 w [h1.ty,h2.ty,h3.ty] y) :
  Calls Try.prog 77 #[.agg #[.int .i64 9,.string nm,.int .i64 u,.int .i64 tk,.slice ta tn tq,.int .i64 fk,.slice fa fn fq,.int .i64 lb,.slice ca cm cq],y] w (bC ((bd 9 ty [h1,h2,h3]).map S.ty) w):=by
 obtain⟨b,off,cap,k1,c1,m1,q1,k2,c2,m2,q2,k3,c3,m3,q3,rfl,hlb,e1a,e1b,e2a,e2b,e3a,e3b,ht1,ht2,ht3⟩:=hy.three
 obtain⟨O,hOO⟩ : ∃O:Option Ty,O=((bd 9 ty [h1,h2,h3]).map S.ty):=⟨_,rfl⟩
 rw [←hOO]
 have HO:=Lib.hid hOO
 clear hOO
 have D2:=Lib.hid d2
 have V1:=Lib.hid hv1
 have V2:=Lib.hid hv2
 have V3:=Lib.hid hv3
 obtain⟨d1,hd1⟩ : ∃d1,h1.cons .bool=d1:=⟨_,rfl⟩
 have D1:=Lib.hid hd1
 have HMT:=Lib.hid (fun(Fa Fb:Nat→Prop) (ya yb:Value) (W:World) (ha:ap Fa W h2.ty ya) (hb:ap Fb W h3.ty yb)=>(by
   have h:=j0 Fa Fb h2.ty h3.ty ya yb W ha hb (by rw [S.ty_cons];exact d2) (S.cnt_ok hv2) (S.cnt_ok hv3)
   rwa [S.ty_meetT _ _ d2] at h:Calls Try.prog 81 #[ya,yb] W (df (h2.meet h3).ty W)))
 clear d2 hv1 hv2 hv3 hd1
 have H1:=Lib.hid ht1.old
 have H2:=Lib.hid ht2.old
 have H3:=Lib.hid ht3.old
 clear hty hsrc hy ht1 ht2 ht3
 go_enter Try.func77,Try.ntmps77
 go_wp2_with fail
 obtain⟨VV,hVV⟩ : ∃X,X=((w.alloc (.cells #[.int .i64 9,.string nm,.int .i64 u,.int .i64 tk,.slice ta tn tq,.int .i64 fk,.slice fa fn fq,.int .i64 lb,.slice ca cm cq] 28)).alloc (.cells #[.int .i64 0,.slice none 0 0] 25)):=⟨_,rfl⟩
 have fE:VV.heap[w.heap.size]?=some (.cells #[.int .i64 9,.string nm,.int .i64 u,.int .i64 tk,.slice ta tn tq,.int .i64 fk,.slice fa fn fq,.int .i64 lb,.slice ca cm cq] 28 (0,0)):=by rw [hVV];exact af (aD rfl) ah
 have fR:VV.heap[w.heap.size+1]?=some (.cells #[.int .i64 0,.slice none 0 0] 25 (0,0)):=by rw [hVV];exact aD (by simp)
 have c1a_:VV.cell? ⟨b,off,none⟩=some (.int .i64 k1):=by rw [hVV];exact a9 ah (a9 ah e1a)
 have c1b_:VV.cell? ⟨b,off+1,none⟩=some (.slice c1 m1 q1):=by rw [hVV];exact a9 ah (a9 ah e1b)
 have h1_:Hid (ap (· < w.heap.size) VV h1.ty (.agg #[.int .i64 k1,.slice c1 m1 q1])):=by rw [hVV];exact Lib.hid ((H1.out.below ah).below ah)
 have c2a_:VV.cell? ⟨b,off+2,none⟩=some (.int .i64 k2):=by rw [hVV];exact a9 ah (a9 ah e2a)
 have c2b_:VV.cell? ⟨b,off+3,none⟩=some (.slice c2 m2 q2):=by rw [hVV];exact a9 ah (a9 ah e2b)
 have h2_:Hid (ap (· < w.heap.size) VV h2.ty (.agg #[.int .i64 k2,.slice c2 m2 q2])):=by rw [hVV];exact Lib.hid ((H2.out.below ah).below ah)
 have c3a_:VV.cell? ⟨b,off+4,none⟩=some (.int .i64 k3):=by rw [hVV];exact a9 ah (a9 ah e3a)
 have c3b_:VV.cell? ⟨b,off+5,none⟩=some (.slice c3 m3 q3):=by rw [hVV];exact a9 ah (a9 ah e3b)
 have h3_:Hid (ap (· < w.heap.size) VV h3.ty (.agg #[.int .i64 k3,.slice c3 m3 q3])):=by rw [hVV];exact Lib.hid ((H3.out.below ah).below ah)
 have fC:Hid (Below w.heap.size w VV):=by rw [hVV];exact Lib.hid (ai ah ah)
 rw [←hVV]
 have zV:VV.heap.size=_:=congrArg (fun X:World=>X.heap.size) hVV
 simp only [World.size_alloc] at zV
 refine wp_region_noPanic ?_
 refine wp_region_held_drew (S:=fun w'=>w'.cell? ⟨b,off+2,none⟩=some (.int .i64 k2)∧w'.cell? ⟨b,off+3,none⟩=some (.slice c2 m2 q2)∧w'.cell? ⟨b,off+4,none⟩=some (.int .i64 k3)∧w'.cell? ⟨b,off+5,none⟩=some (.slice c3 m3 q3)) (by kernel_rfl) ?_ (fun hHeld0=>?_)
 ·exact⟨c2a_,c2b_,c3a_,c3b_⟩
 obtain⟨U10,hU,hb,zU10a,zU10b⟩:=bO VV
 rw [hU] at hHeld0 ⊢
 replace fE:=af fE hb;replace fR:=af fR hb;replace c1a_:=a9 hb c1a_;replace c1b_:=a9 hb c1b_
 replace h1_:=Lib.hid (h1_.out.below hb);replace c2a_:=a9 hb c2a_;replace c2b_:=a9 hb c2b_;replace h2_:=Lib.hid (h2_.out.below hb)
 replace c3a_:=a9 hb c3a_;replace c3b_:=a9 hb c3b_;replace h3_:=Lib.hid (h3_.out.below hb);replace fC:=Lib.hid (ai fC.out hb)
 rw [zV] at zU10a zU10b
 clear hU hb hVV zV
 refine hwt 0 ed (.slice (some ⟨b,off,none⟩) 3 cap) hHeld0 ?_ ?_
 ·intro w' hSw;dsimp only [ed];go_simp
 try simp only [ed,hwA]
 refine hwt 1 dU (.pointer (some ⟨b,off+2,none⟩)) hHeld0 ?_ ?_
 ·intro w' hSw;dsimp only [dU];go_simp
 try simp only [dU,hwA]
 refine hwt 2 dJ (.agg #[.int .i64 k2,.slice c2 m2 q2]) hHeld0 ?_ ?_
 ·intro w' hSw;dsimp only [dJ];go_simp
 try simp only [dJ,hwA]
 refine hwt 3 dN (.slice (some ⟨b,off,none⟩) 3 cap) hHeld0 ?_ ?_
 ·intro w' hSw;dsimp only [dN];go_simp
 try simp only [dN,hwA]
 refine hwt 4 dO (.pointer (some ⟨b,off+4,none⟩)) hHeld0 ?_ ?_
 ·intro w' hSw;dsimp only [dO];go_simp
 try simp only [dO,hwA]
 refine hwt 5 e9 (.agg #[.int .i64 k3,.slice c3 m3 q3]) hHeld0 ?_ ?_
 ·intro w' hSw;dsimp only [e9];go_simp
 try simp only [e9,hwA]
 refine hwr 6 dZ (fun K hK=>?_)
 dsimp only [dZ];go_simp
 go_at_call 42
 refine(bV _ _ _ _ _ _ _ h2_.out h3_.out V2.out V3.out).mono ?_
 rintro e X1 ⟨rfl,hb⟩
 rw [D2.out]
 go_wp2_with fail
 have zX1:U10.heap.size≤X1.heap.size:=hb.size
 replace fE:=af fE hb;replace fR:=af fR hb;replace c1a_:=a9 hb c1a_;replace c1b_:=a9 hb c1b_
 replace h1_:=Lib.hid (h1_.out.below hb);replace c2a_:=a9 hb c2a_;replace c2b_:=a9 hb c2b_;replace h2_:=Lib.hid (h2_.out.below hb)
 replace c3a_:=a9 hb c3a_;replace c3b_:=a9 hb c3b_;replace h3_:=Lib.hid (h3_.out.below hb);replace fC:=Lib.hid (ai fC.out hb)
 refine hK.out _ _ ⟨c2a_,c2b_,c3a_,c3b_⟩ (fun hHeld1=>?_)
 clear hK K hHeld0 hb
 try simp only [dZ,hwA]
 refine hwt 7 dW (.bool false) hHeld1 ?_ ?_
 ·intro w' hSw;dsimp only [dW];go_simp
 try simp only [dW,hwA]
 refine wpAnyH_done (by kernel_rfl) ?_ _
 refine NoPanic.normal ?_
 clear hHeld1
 go_wp2_with fail
 refine wp_region_noPanic ?_
 refine wp_region_held_drew (S:=fun w'=>w'.cell? ⟨b,off,none⟩=some (.int .i64 k1)∧w'.cell? ⟨b,off+1,none⟩=some (.slice c1 m1 q1)∧w'.cell? ⟨b,off+2,none⟩=some (.int .i64 k2)∧w'.cell? ⟨b,off+3,none⟩=some (.slice c2 m2 q2)∧w'.cell? ⟨b,off+4,none⟩=some (.int .i64 k3)∧w'.cell? ⟨b,off+5,none⟩=some (.slice c3 m3 q3)) (by kernel_rfl) ?_ (fun hHeld0=>?_)
 ·exact⟨c1a_,c1b_,c2a_,c2b_,c3a_,c3b_⟩
 obtain⟨U11,hU,hb,zU11a,zU11b⟩:=bO X1
 rw [hU] at hHeld0 ⊢
 replace fE:=af fE hb;replace fR:=af fR hb;replace c1a_:=a9 hb c1a_;replace c1b_:=a9 hb c1b_
 replace h1_:=Lib.hid (h1_.out.below hb);replace c2a_:=a9 hb c2a_;replace c2b_:=a9 hb c2b_;replace h2_:=Lib.hid (h2_.out.below hb)
 replace c3a_:=a9 hb c3a_;replace c3b_:=a9 hb c3b_;replace h3_:=Lib.hid (h3_.out.below hb);replace fC:=Lib.hid (ai fC.out hb)
 (try simp only [World.size_alloc] at zU11a zU11b)
 clear hU hb
 refine hwt 0 nk (.slice (some ⟨b,off,none⟩) 3 cap) hHeld0 ?_ ?_
 ·intro w' hSw;dsimp only [nk];go_simp
 try simp only [nk,hwA]
 refine hwt 1 oo (.pointer (some ⟨b,off+2,none⟩)) hHeld0 ?_ ?_
 ·intro w' hSw;dsimp only [oo];go_simp
 try simp only [oo,hwA]
 refine hwt 2 ou (.agg #[.int .i64 k2,.slice c2 m2 q2]) hHeld0 ?_ ?_
 ·intro w' hSw;dsimp only [ou];go_simp
 try simp only [ou,hwA]
 refine hwt 3 nW (.slice (some ⟨b,off,none⟩) 3 cap) hHeld0 ?_ ?_
 ·intro w' hSw;dsimp only [nW];go_simp
 try simp only [nW,hwA]
 refine hwt 4 lN (.pointer (some ⟨b,off+4,none⟩)) hHeld0 ?_ ?_
 ·intro w' hSw;dsimp only [lN];go_simp
 try simp only [lN,hwA]
 refine hwt 5 lP (.agg #[.int .i64 k3,.slice c3 m3 q3]) hHeld0 ?_ ?_
 ·intro w' hSw;dsimp only [lP];go_simp
 try simp only [lP,hwA]
 refine hwt 7 mS (.slice (some ⟨b,off,none⟩) 3 cap) hHeld0 ?_ ?_
 ·intro w' hSw;dsimp only [mS];go_simp
 try simp only [mS,hwA]
 refine hwt 8 og (.pointer (some ⟨b,off,none⟩)) hHeld0 ?_ ?_
 ·intro w' hSw;dsimp only [og];go_simp
 try simp only [og,hwA]
 refine hwt 9 mY (.agg #[.int .i64 k1,.slice c1 m1 q1]) hHeld0 ?_ ?_
 ·intro w' hSw;dsimp only [mY];go_simp
 try simp only [mY,hwA]
 refine hwr 6 n8 (fun K hK=>?_)
 dsimp only [n8];go_simp
 go_at_call 81
 refine(HMT.out _ _ _ _ _ h2_.out h3_.out).mono ?_
 rintro e X22 ⟨v,rfl,hv,hb⟩
 obtain⟨km,am,nx,qm,rfl⟩:=hv.shape
 have hM':Hid (ap (fun b=>U11.heap.size≤b∧b<X22.heap.size) X22 (h2.meet h3).ty (.agg #[.int .i64 km,.slice am nx qm])):=Lib.hid (hv.rep.move (.weaken fun b h1 h2=>⟨h1,h2⟩))
 clear hv
 go_wp2_with fail
 have zX22:U11.heap.size≤X22.heap.size:=hb.size
 replace fE:=af fE hb;replace fR:=af fR hb;replace c1a_:=a9 hb c1a_;replace c1b_:=a9 hb c1b_
 replace h1_:=Lib.hid (h1_.out.below hb);replace c2a_:=a9 hb c2a_;replace c2b_:=a9 hb c2b_;replace h2_:=Lib.hid (h2_.out.below hb)
 replace c3a_:=a9 hb c3a_;replace c3b_:=a9 hb c3b_;replace h3_:=Lib.hid (h3_.out.below hb);replace fC:=Lib.hid (ai fC.out hb)
 have hM:=hM'
 clear hM'
 refine hK.out _ _ ⟨c1a_,c1b_,c2a_,c2b_,c3a_,c3b_⟩ (fun hHeld42=>?_)
 clear hK K hHeld0 hb
 try simp only [n8,hwA]
 refine hwr 10 jY (fun K hK=>?_)
 dsimp only [jY];go_simp
 go_at_call 45
 refine(cJ _).mono ?_
 rintro e X23 ⟨rfl,hb⟩
 go_wp2_with fail
 have zX23:X22.heap.size≤X23.heap.size:=hb.size
 replace fE:=af fE hb;replace fR:=af fR hb;replace c1a_:=a9 hb c1a_;replace c1b_:=a9 hb c1b_
 replace h1_:=Lib.hid (h1_.out.below hb);replace c2a_:=a9 hb c2a_;replace c2b_:=a9 hb c2b_;replace h2_:=Lib.hid (h2_.out.below hb)
 replace c3a_:=a9 hb c3a_;replace c3b_:=a9 hb c3b_;replace h3_:=Lib.hid (h3_.out.below hb);replace fC:=Lib.hid (ai fC.out hb)
 replace hM:=Lib.hid (hM.out.below hb)
 refine hK.out _ _ ⟨c1a_,c1b_,c2a_,c2b_,c3a_,c3b_⟩ (fun hHeld43=>?_)
 clear hK K hHeld42 hb
 try simp only [jY,hwA]
 refine hwr 11 jV (fun K hK=>?_)
 dsimp only [jV];go_simp
 go_at_call 42
 refine(bV _ _ _ S.bool _ _ _ h1_.out (ap.leaf 3) V1.out rfl).mono ?_
 rintro e X24 ⟨rfl,hb⟩
 rw [D1.out]
 go_wp2_with fail
 have zX24:X23.heap.size≤X24.heap.size:=hb.size
 replace fE:=af fE hb;replace fR:=af fR hb;replace c1a_:=a9 hb c1a_;replace c1b_:=a9 hb c1b_
 replace h1_:=Lib.hid (h1_.out.below hb);replace c2a_:=a9 hb c2a_;replace c2b_:=a9 hb c2b_;replace h2_:=Lib.hid (h2_.out.below hb)
 replace c3a_:=a9 hb c3a_;replace c3b_:=a9 hb c3b_;replace h3_:=Lib.hid (h3_.out.below hb);replace fC:=Lib.hid (ai fC.out hb)
 replace hM:=Lib.hid (hM.out.below hb)
 refine hK.out _ _ ⟨c1a_,c1b_,c2a_,c2b_,c3a_,c3b_⟩ (fun hHeld44=>?_)
 clear hK K hHeld43 hb
 try simp only [jV,hwA]
 refine hwr 12 jm (fun K hK=>?_)
 obtain⟨r0,r1,rf0,rf1⟩:=cg fR
 dsimp only [jm];go_simp
 (try go_wp2_with fail)
 have hQq:=bx fR (.int .i64 km) (.slice am nx qm)
 clear fR r0 rf0 r1 rf1
 obtain⟨X25,hXq,hsq,fR,zX25a,zX25b⟩:=hQq
 rw [hXq]
 replace fE:=hsq.blk (by omega) fE;replace c1a_:=hsq.cell (by show b≠w.heap.size+1;omega) c1a_;replace c1b_:=hsq.cell (by show b≠w.heap.size+1;omega) c1b_;replace h1_:=Lib.hid (hsq.rep (fun b hb=>by have:b<w.heap.size:=hb;omega) h1_.out)
 replace c2a_:=hsq.cell (by show b≠w.heap.size+1;omega) c2a_;replace c2b_:=hsq.cell (by show b≠w.heap.size+1;omega) c2b_;replace h2_:=Lib.hid (hsq.rep (fun b hb=>by have:b<w.heap.size:=hb;omega) h2_.out);replace c3a_:=hsq.cell (by show b≠w.heap.size+1;omega) c3a_
 replace c3b_:=hsq.cell (by show b≠w.heap.size+1;omega) c3b_;replace h3_:=Lib.hid (hsq.rep (fun b hb=>by have:b<w.heap.size:=hb;omega) h3_.out);replace fC:=Lib.hid (hsq.bel fC.out (by omega));replace hM:=Lib.hid (hsq.rep (fun b hb=>by have h1:U11.heap.size≤b:=hb.1;have h2:b<X22.heap.size:=hb.2;omega) hM.out)
 refine hK.out _ _ ⟨c1a_,c1b_,c2a_,c2b_,c3a_,c3b_⟩ (fun hHeld45=>?_)
 clear hK K hHeld44 hsq hXq
 try simp only [jm,hwA]
 refine hwt 13 jv (.bool d1) hHeld45 ?_ ?_
 ·intro w' hSw;dsimp only [jv];go_simp
 try simp only [jv,hwA]
 refine wpAnyH_done (by kernel_rfl) ?_ _
 refine NoPanic.normal ?_
 clear hHeld45
 have HN:O=if d1=true then some (h2.meet h3).ty else none:=by rw [HO.out];simp only [bd,D2.out,D1.out,Bool.true_and];cases d1<;>rfl
 obtain⟨rc0,rc1⟩:=blk2 fR
 go_wp2_with fail
 refine bodyPost_ret (v:=.tuple #[.agg #[.int .i64 km,.slice am nx qm],.bool d1]) (by simp [results,Try.results77,go_sem,rc0,rc1]) rfl ?_
 exact⟨_,_,_,_,_,(h2.meet h3).ty,rfl,by rw [HN];cases d1<;>rfl,hM.out.move (.weaken fun b h _=>.inr (by have h1:=h.1;omega)),(by rw [HN];intro s h;cases d1 with | false=>cases h | true=>exact Option.some.inj h),fC.out⟩
end Go.Proofs.Ytnaoghknnenfoaa
namespace Go.Proofs.Ytnaoghknnenfoaa
open Go.RowKit
theorem nK (k:Int)(hs:List S)(hk:6≤k∧k≤13)(hlen:aJ k=(hs.length:Int))(hv : ∀h∈hs,h.vd=true)(G1 G2 G3:Nat→Prop)(nm:ByteArray)(u lb tk fk:Int)(ty src:Ty)(ta fa ca:Option Addr)(tn tq fn fq cm cq:Nat)(w:World)(hty:ap G1 w ty (.agg #[.int .i64 tk,.slice ta tn tq]))(hsrc:ap G2 w src (.agg #[.int .i64 fk,.slice fa fn fq]))(hvt:k=13→ty.valid=true)(y:Value)(hy:aF G3 w (hs.map S.ty) y) :
  Calls Try.prog 77 #[.agg #[.int .i64 k,.string nm,.int .i64 u,.int .i64 tk,.slice ta tn tq,.int .i64 fk,.slice fa fn fq,.int .i64 lb,.slice ca cm cq],y] w (bC ((bd k ty hs).map S.ty) w):=by
 have hcase:k=6∨k=7∨k=8∨k=9∨k=10∨k=11∨k=12∨k=13:=by omega
 have two : ∀ {l:List S},l.length=2→∃a b,l = [a,b]:=fun {l} h=>by
  match l,h with
  | [a,b],_=>exact⟨a,b,rfl⟩
 rcases hcase with rfl | rfl | rfl | rfl | rfl | rfl | rfl | rfl
 ·obtain⟨h1,h2,rfl⟩:=two (l:=hs) (by simp [aJ] at hlen;omega)
  cases e:(h1.mat 4).2.2 with
  | false=>exact ia G1 G2 G3 nm u lb tk fk ty src ta fa ca tn tq fn fq cm cq w hty hsrc y h1 h2 e (hv h1 (by simp)) (hv h2 (by simp)) hy
  | true=>exact i9 G1 G2 G3 nm u lb tk fk ty src ta fa ca tn tq fn fq cm cq w hty hsrc y h1 h2 e (hv h1 (by simp)) (hv h2 (by simp)) hy
 ·obtain⟨h1,h2,rfl⟩:=two (l:=hs) (by simp [aJ] at hlen;omega)
  cases e:h1.cons .int with
  | false=>exact il G1 G2 G3 nm u lb tk fk ty src ta fa ca tn tq fn fq cm cq w hty hsrc y h1 h2 e (hv h1 (by simp)) (hv h2 (by simp)) hy
  | true=>exact ig G1 G2 G3 nm u lb tk fk ty src ta fa ca tn tq fn fq cm cq w hty hsrc y h1 h2 e (hv h1 (by simp)) (hv h2 (by simp)) hy
 ·obtain⟨h1,h2,rfl⟩:=two (l:=hs) (by simp [aJ] at hlen;omega)
  cases e:h1.cons .int with
  | false=>exact ie G1 G2 G3 nm u lb tk fk ty src ta fa ca tn tq fn fq cm cq w hty hsrc y h1 h2 e (hv h1 (by simp)) (hv h2 (by simp)) hy
  | true=>exact ik G1 G2 G3 nm u lb tk fk ty src ta fa ca tn tq fn fq cm cq w hty hsrc y h1 h2 e (hv h1 (by simp)) (hv h2 (by simp)) hy
 ·obtain⟨h1,h2,h3,rfl⟩ : ∃a b c,hs = [a,b,c]:=by
   have:hs.length=3:=by simp [aJ] at hlen;omega
   match hs,this with
   | [a,b,c],_=>exact⟨a,b,c,rfl⟩
  cases e:h2.cons h3 with
  | false=>exact ib G1 G2 G3 nm u lb tk fk ty src ta fa ca tn tq fn fq cm cq w hty hsrc y h1 h2 h3 e (hv h1 (by simp)) (hv h2 (by simp)) (hv h3 (by simp)) hy
  | true=>exact ic G1 G2 G3 nm u lb tk fk ty src ta fa ca tn tq fn fq cm cq w hty hsrc y h1 h2 h3 e (hv h1 (by simp)) (hv h2 (by simp)) (hv h3 (by simp)) hy
 ·obtain⟨h1,h2,rfl⟩:=two (l:=hs) (by simp [aJ] at hlen;omega)
  exact iX G1 G2 G3 nm u lb tk fk ty src ta fa ca tn tq fn fq cm cq w hty hsrc y h1 h2 (hv h1 (by simp)) (hv h2 (by simp)) hy
 ·obtain⟨h1,rfl⟩ : ∃h1,hs = [h1]:=List.length_eq_one_iff.1 (by simp [aJ] at hlen;omega)
  exact it G1 G2 G3 nm u lb tk fk ty src ta fa ca tn tq fn fq cm cq w hty hsrc y h1 (hv h1 (by simp)) hy
 ·obtain⟨h1,rfl⟩ : ∃h1,hs = [h1]:=List.length_eq_one_iff.1 (by simp [aJ] at hlen;omega)
  exact iY G1 G2 G3 nm u lb tk fk ty src ta fa ca tn tq fn fq cm cq w hty hsrc y h1 (hv h1 (by simp)) hy
 ·obtain⟨h1,rfl⟩ : ∃h1,hs = [h1]:=List.length_eq_one_iff.1 (by simp [aJ] at hlen;omega)
  exact iU G1 G2 G3 nm u lb tk fk ty src ta fa ca tn tq fn fq cm cq w hty hsrc y (hvt rfl) h1 (hv h1 (by simp)) hy
end Go.Proofs.Ytnaoghknnenfoaa
namespace Go.Proofs.Ytnaoghknnenfoaa
open Go.RowKit
theorem pq {ts:List Tm}{l:List Bd}{j:Nat}(h:j<ts.length):Tm.typsS (ts.drop j) l=match ts[j].typS l with
  | none=>none
  | some h=>(match Tm.typsS (ts.drop (j+1)) l with
    | none=>none
    | some hs=>some (h :: hs)):=by
 rw [List.drop_eq_getElem_cons h,Tm.typsS]
 cases ts[j].typS l with
 | none=>rfl
 | some x=>cases Tm.typsS (ts.drop (j+1)) l<;>rfl
theorem pz {k:Int}{nm:ByteArray}{u lb:Int}{ty src:Ty}{ts:List Tm}{l:List Bd}(hk:6≤k):(Tm.mk k nm u ty src lb ts).typS l=match Tm.typsS ts l with
  | some hs=>bd k ty hs
  | none=>none:=by
 rw [Tm.typS,if_neg (by omega),if_neg (by omega),if_neg (by omega),if_neg (by omega)]
 cases Tm.typsS ts l<;>rfl
set_option maxHeartbeats 8000000 in
theorem oN (G:Nat→Prop)(k:Int)(nm:ByteArray)(u lb tk fk:Int)(ty src:Ty)(ts:List Tm)(l:List Bd)(xa ta fa ca:Option Addr)(xn xq tn tq fn fq cm cq:Nat)(w:World)
  (he:az G w (.mk k nm u ty src lb ts) (.agg #[.int .i64 k,.string nm,.int .i64 u,.int .i64 tk,.slice ta tn tq,.int .i64 fk,.slice fa fn fq,.int .i64 lb,.slice ca cm cq]))
  (IH : ∀t'∈ts,∀(W:World) (y':Value),Below w.heap.size w W→az G W t' y'→Calls Try.prog 69 #[.slice xa xn xq,y'] W (bC ((t'.typS l).map S.ty) W))
  (IV : ∀t'∈ts,∀h,t'.typS l=some h→h.vd=true)
  (hk:6≤k∧k≤13) (hlen:aJ k=(ts.length:Int)) (hvt:k=13→ty.valid=true) (hsm:ts.length≤3) :
  Calls Try.prog 69 #[.slice xa xn xq,.agg #[.int .i64 k,.string nm,.int .i64 u,.int .i64 tk,.slice ta tn tq,.int .i64 fk,.slice fa fn fq,.int .i64 lb,.slice ca cm cq]] w (bC (((Tm.mk k nm u ty src lb ts).typS l).map S.ty) w):=by
 obtain⟨-,-,-,-,-,-,-,-,hm,hnm,hmq,hqm,hty,hsrc,hks⟩:=he.parts
 simp only [Tm.type,Tm.src,Tm.kids] at hm hty hsrc hks
 obtain⟨i0,hi,hz0,hz1,hz2⟩:=info_parts Try.infoTy
 have Z0:=Lib.hid hz0
 have Z1:=Lib.hid hz1
 have Z2:=Lib.hid hz2
 have HI:=Lib.hid hi
 have q1:(k==1)=false:=by rw [beq_eq_false_iff_ne];omega
 have q2:(k==2)=false:=by rw [beq_eq_false_iff_ne];omega
 have q3:(k==3)=false:=by rw [beq_eq_false_iff_ne];omega
 have q4:(k==4)=false:=by rw [beq_eq_false_iff_ne];omega
 have q5:(k==5)=false:=by rw [beq_eq_false_iff_ne];omega
 have hm3:cm≤3:=by omega
 have HM:=Lib.hid hm
 have HKS:=Lib.hid hks
 have HIH:=Lib.hid IH
 have HIV:=Lib.hid IV
 have HEX:=Lib.hid (fun(hs:List S) (h1:hs.length=ts.length) (h2 : ∀h∈hs,h.vd=true) (W:World) (hW:Below w.heap.size w W) (G3:Nat→Prop) (y:Value) (hy:aF G3 W (hs.map S.ty) y)=>nK k hs hk (by rw [h1];exact hlen) h2 G G G3 nm u lb tk fk ty src ta fa ca tn tq fn fq cm cq W (hty.below hW) (hsrc.below hW) hvt y hy)
 obtain⟨O,hO⟩ : ∃O:Option Ty,O=((Tm.mk k nm u ty src lb ts).typS l).map S.ty:=⟨_,rfl⟩
 rw [←hO]
 have HO:=Lib.hid (show O=(match Tm.typsS ts l with
   | some hs=>bd k ty hs
   | none=>none:Option S).map S.ty from by rw [hO,pz (by omega)])
 have fE:=Lib.hid (af (af (aD (w:=w) (o:=.cells #[.int .i64 k,.string nm,.int .i64 u,.int .i64 tk,.slice ta tn tq,.int .i64 fk,.slice fa fn fq,.int .i64 lb,.slice ca cm cq] 28) rfl) (ah (o:=.cells #[.int .i64 0,.slice none 0 0] 25))) (ah (o:=.cells #[] 25)))
 have fR:=Lib.hid (af (aD (w:=w.alloc (.cells #[.int .i64 k,.string nm,.int .i64 u,.int .i64 tk,.slice ta tn tq,.int .i64 fk,.slice fa fn fq,.int .i64 lb,.slice ca cm cq] 28)) (o:=.cells #[.int .i64 0,.slice none 0 0] 25) (b:=w.heap.size+1) (by simp)) (ah (o:=.cells #[] 25)))
 have fK:=Lib.hid (aD (w:=(w.alloc (.cells #[.int .i64 k,.string nm,.int .i64 u,.int .i64 tk,.slice ta tn tq,.int .i64 fk,.slice fa fn fq,.int .i64 lb,.slice ca cm cq] 28)).alloc (.cells #[.int .i64 0,.slice none 0 0] 25)) (o:=.cells #[] 25) (b:=w.heap.size+1+1) (by simp))
 clear hO he IH IV hty hsrc hks hi hz0 hz1 hz2 hm hlen hvt hk
 go_enter Try.func69,Try.ntmps69
 go_wp2_with fail
 go_loopw [8,9] (fun s8 s9 wr=>∃(j:Nat) (hs:List S) (cv:Option Addr) (qv:Nat),j≤cm∧s8 = .slice cv j qv∧s9 = .int .i64 j∧Hid (Below w.heap.size w wr)∧w.heap.size+1+1<wr.heap.size ∧
     Hid (wr.heap[w.heap.size]?=some (.cells #[.int .i64 k,.string nm,.int .i64 u,.int .i64 tk,.slice ta tn tq,.int .i64 fk,.slice fa fn fq,.int .i64 lb,.slice ca cm cq] 28 (0,0)))∧Hid (wr.heap[w.heap.size+1]?=some (.cells #[.int .i64 0,.slice none 0 0] 25 (0,0)))∧Hid (bA (w.heap.size+1+1) 25 2 wr (.slice cv j qv) j (Ty.rows (hs.map S.ty))) ∧
     Hid (hs.length=j∧(∀h∈hs,h.vd=true)∧Tm.typsS ts l=(Tm.typsS (ts.drop j) l).map (hs ++ ·))) (fun _ i _=>cm-(intOf i).toNat)
 case atStart=>exact⟨0,[],_,_,by omega,rfl,rfl,Lib.hid (ai (ai ah ah) ah),by simp,fE,fR,Lib.hid ⟨rfl,[],⟨rfl,.inr ⟨_,0,#[],rfl,Nat.le_refl _,fK.out,Nat.le_refl _,by unfold maxLen;omega,rfl,by simp⟩⟩,rfl⟩,Lib.hid ⟨rfl,by simp,by simp⟩⟩
 case round=>
  obtain⟨j,hs,cv,qv,hj,rfl,rfl,hbw,hsz,hE,hR,hrow,hrel2⟩:=hrel
  clear fE fR fK
  have x0:wr.cell? ⟨w.heap.size,6,none⟩=some (.slice fa fn fq):=ag hE.out rfl
  have x8:wr.cell? ⟨w.heap.size,8,none⟩=some (.slice ca cm cq):=ag hE.out rfl
  have lx8:w.heap.size<wr.heap.size:=by omega
  by_cases hlt:j<cm
  ·have hjt:j<ts.length:=by rw [←HM.out];exact hlt
   obtain⟨b,off,kk0,nn0,uu0,tk0,ta0,tn0,tq0,fk0,fa0,fn0,fq0,ll0,a0,m0,q0,rfl,lb_,e0,e1,e2,e3,e4,e5,e6,e7,e8,ht⟩:=HKS.out.at hbw.out hjt
   have HC:=Lib.hid (HIH.out ts[j] (List.getElem_mem hjt) wr _ hbw.out ht)
   have HCV:=Lib.hid (HIV.out ts[j] (List.getElem_mem hjt))
   have HCD:=Lib.hid (pq (l:=l) hjt)
   generalize hoj:ts[j].typS l=oj at HC HCV HCD
   have lr:=al hR.out
   have hz3:j+1≤3:=by omega
   clear hoj ht
   cases oj with
   | none=>
    have HREL:=Lib.hid (show O=none from by rw [HO.out,hrel2.out.2.2,HCD.out];rfl)
    have r0:wr.cell? ⟨w.heap.size+1,0,none⟩=some (.int .i64 0):=ag hR.out rfl
    go_wp2_with fail
    refine HC.out.mono ?_
    rintro e w1 ⟨kt,at_,nt,qt,bt,tt,rfl,hbt,htt,hot,hst⟩
    obtain rfl:bt=false:=hbt
    have hR1:=af hR.out hst
    have HB1:=Lib.hid (ai hbw.out hst)
    have hz1:=hst.size
    clear htt hot hst r0
    have r0:w1.cell? ⟨w.heap.size+1,0,none⟩=some (.int .i64 0):=ag hR1 rfl
    have r1:w1.cell? ⟨w.heap.size+1,1,none⟩=some (.slice none 0 0):=ag hR1 rfl
    have rf0:=aC hR1 0
    have rf1:=aC hR1 1
    have lr1:=al hR1
    have lr2:w.heap.size+1<w1.heap.size+1:=by omega
    go_wp2_with fail
    have hY:(((w1.setCell ⟨w.heap.size+1,0,none⟩ (.int .i64 0)).setCell ⟨w.heap.size+1,1,none⟩ (.slice none 0 0)).alloc (.cells #[.int .i64 kt,.slice at_ nt qt] 25)).heap[w.heap.size+1]?=some (.cells #[.int .i64 0,.slice none 0 0] 25 (0,0)):=af (aQ (aQ hR1 rfl) rfl) ah
    obtain⟨rc0,rc1⟩:=blk2 hY
    refine bodyPost_ret (v:=.tuple #[.agg #[.int .i64 0,.slice none 0 0],.bool false]) (by simp [results,Try.results69,go_sem,rc0,rc1]) rfl ?_
    exact⟨_,_,_,_,_,_,rfl,by rw [HREL.out];rfl,ap.zeroG,(by rw [HREL.out];intro s h;cases h),ai ((HB1.out.setCell (p:=⟨w.heap.size+1,0,none⟩) (by show w.heap.size≤w.heap.size+1;omega) _).setCell (p:=⟨w.heap.size+1,1,none⟩) (by show w.heap.size≤w.heap.size+1;omega) _) ah⟩
   | some hh=>
    have HVD:=Lib.hid (HCV.out hh rfl)
    have HNX:=Lib.hid (show Tm.typsS ts l=(Tm.typsS (ts.drop (j+1)) l).map ((hs ++ [hh]) ++ ·) from by
      rw [hrel2.out.2.2,HCD.out]
      cases Tm.typsS (ts.drop (j+1)) l<;>simp)
    obtain⟨hlenr,xs,ho,hvals⟩:=hrow.out
    have HLEN:=Lib.hid hlenr
    have HOW:=Lib.hid ho
    have HV:=Lib.hid hvals
    clear hlenr ho hvals hrow
    go_wp2_with fail
    refine HC.out.mono ?_
    rintro e w1 ⟨kt,at_,nt,qt,bt,tt,rfl,hbt,htt,hot,hst⟩
    obtain rfl:bt=true:=hbt
    obtain rfl:tt=hh.ty:=hot _ rfl
    have HT1:=Lib.hid htt
    have HST:=Lib.hid hst
    have hE1:=af hE.out hst
    have hR1:=af hR.out hst
    have HB1:=Lib.hid (ai hbw.out hst)
    have hz1:=hst.size
    have hW:=Lib.hid (show Below wr.heap.size wr ((w1.alloc (.cells #[.int .i64 kt,.slice at_ nt qt] 25)).alloc (.cells #[.int .i64 kt,.slice at_ nt qt] 25)) from ai (ai hst ah) ah)
    clear htt hot hst
    go_wp2_with (first | (at_builtin;refine wpList_append_lies _ rfl (.tmp 75) (.tmp 77) 23 rfl (w.heap.size+1+1) 25 i0 _ 2 32 Try.underlying23 HI.out Z0.out Z1.out Z2.out rfl (by omega) (.slice cv j qv) j xs rfl (bi HOW.out hW.out) ⟨w1.heap.size+1,0,none⟩ 1 1 [.int .i64 kt,.slice at_ nt qt] rfl rfl (World.news_of_block (cs:=#[.int .i64 kt,.slice at_ nt qt]) (t:=25) (fr:=(0,0)) (aD (by simp))) (by simp [Value.oneCell']) (by omega) (by unfold maxLen;omega) (by omega) (by simp;omega) _ rfl ?_) | fail)
    intro gg cap2 w6 hown2 hgrow hat hlt2
    have HROW:=Lib.hid (bA.push (r:=w.heap.size) HLEN.out HOW.out HV.out (by omega) (Chg.of_below hW.out) (((HT1.out.move (.weaken fun b h _=>h.elim False.elim id)).below ah).below ah).srep (by omega) hown2 hgrow (by simpa using hat))
    have HBEL:=Lib.hid (ck hbw.out hW.out HOW.out (by omega) hgrow)
    have hfar:=cF hW.out HOW.out hgrow
    have HFAR:=Lib.hid hfar
    have hsz6:wr.heap.size≤w6.heap.size:=Nat.le_trans hW.out.size hgrow.size
    clear hown2 hgrow hat hfar
    go_wp2_with fail
    go_roundw
    case rel=>exact⟨j+1,hs ++ [hh],_,_,by omega,rfl,by go_num,HBEL,by omega,Lib.hid ((HFAR.out w.heap.size (by omega) (by omega)).trans hE.out),Lib.hid ((HFAR.out (w.heap.size+1) (by omega) (by omega)).trans hR.out),(by
        unfold Hid
        have e1:Ty.rows ((hs ++ [hh]).map S.ty)=Ty.rows (hs.map S.ty) ++ [hh.ty.row]:=by simp [Ty.rows_eq]
        rw [e1]
        exact HROW.out),Lib.hid ⟨by simp [hrel2.out.1],fun h hm=>(List.mem_append.1 hm).elim (hrel2.out.2.1 h) (fun q=>by simp at q;subst q;exact HVD.out),HNX.out⟩⟩
    case measure=>simp [intOf];omega
  ·have HJE:=Lib.hid (show j=cm by omega)
   have HJL:=Lib.hid (show ts.drop j = [] from List.drop_eq_nil_of_le (by have:=HM.out;have:=HJE.out;omega))
   have HREL:=Lib.hid (show O=(bd k ty hs).map S.ty from by
     rw [HO.out,hrel2.out.2.2,HJL.out,Tm.typsS]
     simp)
   have HTY:=Lib.hid (show aF (w.heap.size+1+1 ≤ ·) wr (hs.map S.ty) (.slice cv j qv) from hrow.out.rep)
   have HCX:=Lib.hid (HEX.out hs (by have:=hrel2.out.1;have:=HM.out;have:=HJE.out;omega) hrel2.out.2.1 wr hbw.out _ _ HTY.out)
   have d0:wr.cell? ⟨w.heap.size,0,none⟩=some (.int .i64 k):=ag hE.out rfl
   have d1:wr.cell? ⟨w.heap.size,1,none⟩=some (.string nm):=ag hE.out rfl
   have d2:wr.cell? ⟨w.heap.size,2,none⟩=some (.int .i64 u):=ag hE.out rfl
   have d3:wr.cell? ⟨w.heap.size,3,none⟩=some (.int .i64 tk):=ag hE.out rfl
   have d4:wr.cell? ⟨w.heap.size,4,none⟩=some (.slice ta tn tq):=ag hE.out rfl
   have d5:wr.cell? ⟨w.heap.size,5,none⟩=some (.int .i64 fk):=ag hE.out rfl
   have d7:wr.cell? ⟨w.heap.size,7,none⟩=some (.int .i64 lb):=ag hE.out rfl
   clear hrow
   go_wp2_with fail
   refine HCX.out.mono ?_
   rintro e w1 ⟨kt,at_,nt,qt,bt,tt,rfl,hbt,htt,hot,hst⟩
   have HBT:=Lib.hid hbt
   have HTT:=Lib.hid htt
   have HOT:=Lib.hid hot
   have hR1:=af hR.out hst
   have HB1:=Lib.hid (ai hbw.out hst)
   have hz1:=hst.size
   clear htt hot hst hbt d0 d1 d2 d3 d4 d5 d7 x0 x8
   have r0:w1.cell? ⟨w.heap.size+1,0,none⟩=some (.int .i64 0):=ag hR1 rfl
   have r1:w1.cell? ⟨w.heap.size+1,1,none⟩=some (.slice none 0 0):=ag hR1 rfl
   have rf0:=aC hR1 0
   have rf1:=aC hR1 1
   go_wp2_with fail
   have hY:((w1.setCell ⟨w.heap.size+1,0,none⟩ (.int .i64 kt)).setCell ⟨w.heap.size+1,1,none⟩ (.slice at_ nt qt)).heap[w.heap.size+1]?=some (.cells #[.int .i64 kt,.slice at_ nt qt] 25 (0,0)):=aQ (aQ hR1 rfl) rfl
   obtain⟨rc0,rc1⟩:=blk2 hY
   refine bodyPost_ret (v:=.tuple #[.agg #[.int .i64 kt,.slice at_ nt qt],.bool bt]) (by simp [results,Try.results69,go_sem,rc0,rc1]) rfl ?_
   have hne : ∀b,(False∨wr.heap.size≤b)→b≠w.heap.size+1:=fun b h=>by
    have h1:=h.elim False.elim id
    omega
   exact⟨_,_,_,_,_,tt,rfl,by rw [HREL.out];exact HBT.out,(ap.setN (ap.setN HTT.out hne) hne).move (.weaken fun b h _=>.inr (by have h1:=h.elim False.elim id;omega)),(by rw [HREL.out];exact HOT.out),(HB1.out.setCell (p:=⟨w.heap.size+1,0,none⟩) (by show w.heap.size≤w.heap.size+1;omega) _).setCell (p:=⟨w.heap.size+1,1,none⟩) (by show w.heap.size≤w.heap.size+1;omega) _⟩
end Go.Proofs.Ytnaoghknnenfoaa
namespace Go.Proofs.Ytnaoghknnenfoaa
open Go.RowKit
theorem cY {nm:ByteArray}{u lb:Int}{ty src:Ty}{t1:Tm}{l:List Bd}(h:t1.typS (l ++ [⟨nm,ty⟩])=none):(Tm.mk 5 nm u ty src lb [t1]).typS l=none:=by
 rw [Tm.typS,if_neg (by omega),if_neg (by omega),if_neg (by omega),if_pos rfl]
 simp [Tm.typsS,h]
theorem d9 {nm:ByteArray}{u lb:Int}{ty src:Ty}{t1:Tm}{l:List Bd}{h1:S}(hv:ty.valid=true)(h:t1.typS (l ++ [⟨nm,ty⟩])=some h1):((Tm.mk 5 nm u ty src lb [t1]).typS l).map S.ty=if (Ty.mk 4 [ty,h1.ty]).valid=true then some (.mk 4 [ty,h1.ty]) else none:=by
 rw [Tm.typS,if_neg (by omega),if_neg (by omega),if_neg (by omega),if_pos rfl]
 have e:(S.fn ty.toS h1).ty = .mk 4 [ty,h1.ty]:=by rw [S.ty,Ty.toS_ty hv]
 have e2:(S.fn ty.toS h1).vd=(Ty.mk 4 [ty,h1.ty]).valid:=by rw [←e,S.valid]
 simp only [Tm.typsS,h]
 rw [e2]
 cases (Ty.mk 4 [ty,h1.ty]).valid<;>simp [e]
end Go.Proofs.Ytnaoghknnenfoaa

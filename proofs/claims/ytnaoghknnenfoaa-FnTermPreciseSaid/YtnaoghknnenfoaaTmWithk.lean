/-
  A term with other types, by the reference (k).
-/
import Derived.Test.YtnaoghknnenfoaaB17
set_option linter.unusedSimpArgs false
set_option linter.unusedVariables false
set_option maxRecDepth 100000
namespace Go.Proofs.Ytnaoghknnenfoaa
open Go.RowKit
set_option maxHeartbeats 8000000 in
theorem withk (F G:Nat→Prop)(L:List Ty)(t:Tm)(h5:(t.kind==5)=false)(h13:(t.kind==13)=false)(IH0 : ∀t'∈t.kids,dD F G L t'):dD F G L t:=by
 intro at0 y lv w hy hlv hcnt hLc hat hLn
 have IH : ∀t'∈t.kids,∀(a:Nat) (y lv:Value) (W:World),az F W t' y→aF G W L lv→a+t'.tys.length≤L.length→Calls Try.prog 54 #[y,lv,.int .i64 (a:Int)] W fun e W'=>∃v,e = .returned (.tuple #[v,.int .i64 ((a+t'.tys.length:Nat):Int)])∧b3 W.heap.size W' (t'.rety (L.drop a)) v∧Below W.heap.size W W':=
  fun t' ht a y lv W h h2 h3=>IH0 t' ht a y lv W h h2 (by have:=Tm.cnt_kid ht;omega) hLc h3 hLn
 clear IH0
 obtain⟨k,nm,u,tk,ta,tn,tq,fk,fa,fn,fq,l,c,m,q,rfl⟩:=hy.shape
 obtain⟨r1,r2,r3,r4,r5,r6,r7,r8,r9,rn,rm,rq,hty,hsr,hks⟩:=hy.parts
 obtain⟨i0,hi,hz0,hz1,hz2⟩:=info_parts Try.infoTm
 obtain⟨la,lq,rfl,hl1,hl2,-⟩:=hlv.open
 cases t with | mk kk nn uu tt ff ll ts=>
 simp only [Tm.kind,Tm.name,Tm.num,Tm.type,Tm.src,Tm.label,Tm.kids] at *
 subst r1 r2 r3 r8
 unfold Tm.cnt at hcnt
 have hcl:m≤1048576:=by omega
 have hct:tt.cnt≤1048576∧ff.cnt≤1048576:=⟨by omega,by omega⟩
 obtain⟨LN,hln⟩ : ∃x,L.length=x:=⟨_,rfl⟩
 rw [hln] at hl1 hlv hat hLn ⊢
 have HLN:=Lib.hid hln
 have HN:=Lib.hid r9
 have HRN:=Lib.hid rn
 have HCT:=Lib.hid hct
 have HLC:=Lib.hid hLc
 have IHH:=Lib.hid IH
 have Z0:=Lib.hid hz0
 have Z1:=Lib.hid hz1
 have Z2:=Lib.hid hz2
 have HI:=Lib.hid hi
 have HR4:=Lib.hid r4
 have HR6:=Lib.hid r6
 unfold maxLen at rq hl2
 have hk:b7 k=false:=by unfold b7;simp only [h5,h13];rfl
 have hre:(Tm.mk k nm u tt ff l ts).rety (L.drop at0) = .mk k nm u tt ff l (Tm.retys ts (L.drop at0)):=by
  unfold Tm.rety
  rw [if_neg (by rw [hk];simp),if_neg (by rw [hk];simp)]
 have htl:(Tm.mk k nm u tt ff l ts).tys.length=(Tm.tyss ts).length:=by unfold Tm.tys;rw [if_neg (by rw [hk];simp)];rfl
 rw [hre]
 rw [htl] at hat ⊢
 have HAT1:=Lib.hid hat
 clear hre htl hat hk
 clear IH hy r9 r4 r5 r6 r7 rn hz0 hz1 hz2 hi hcnt hct hLc hln
 go_enter Try.func54,Try.ntmps54
 go_wp2_with fail
 refine(b8 F tt _ _ (hty.below bS) HCT.out.1).mono ?_
 rintro e w1 ⟨v1,rfl,⟨fp1,hv1,hd1,hx1⟩,hb1⟩
 obtain⟨k1,c1',m1,q1,rfl,hk1,ho1⟩:=hv1.shape
 have o0:w1.cell? ⟨w.heap.size+1+1,0,none⟩=some (.int .i64 k):=a9 hb1 (aT 0)
 have o1:w1.cell? ⟨w.heap.size+1+1,1,none⟩=some (.string nm):=a9 hb1 (aT 1)
 have o2:w1.cell? ⟨w.heap.size+1+1,2,none⟩=some (.int .i64 u):=a9 hb1 (aT 2)
 have o3:w1.cell? ⟨w.heap.size+1+1,3,none⟩=some (.int .i64 tk):=a9 hb1 (aT 3)
 have o4:w1.cell? ⟨w.heap.size+1+1,4,none⟩=some (.slice ta tn tq):=a9 hb1 (aT 4)
 have o5:w1.cell? ⟨w.heap.size+1+1,5,none⟩=some (.int .i64 fk):=a9 hb1 (aT 5)
 have o6:w1.cell? ⟨w.heap.size+1+1,6,none⟩=some (.slice fa fn fq):=a9 hb1 (aT 6)
 have o7:w1.cell? ⟨w.heap.size+1+1,7,none⟩=some (.int .i64 l):=a9 hb1 (aT 7)
 have o8:w1.cell? ⟨w.heap.size+1+1,8,none⟩=some (.slice c m q):=a9 hb1 (aT 8)
 have p3:w1.frozen? ⟨w.heap.size+1+1,3,none⟩=false:=aw hb1 (aT 3) (bu 3)
 have p4:w1.frozen? ⟨w.heap.size+1+1,4,none⟩=false:=aw hb1 (aT 4) (bu 4)
 have p5:w1.frozen? ⟨w.heap.size+1+1,5,none⟩=false:=aw hb1 (aT 5) (bu 5)
 have p6:w1.frozen? ⟨w.heap.size+1+1,6,none⟩=false:=aw hb1 (aT 6) (bu 6)
 have p8:w1.frozen? ⟨w.heap.size+1+1,8,none⟩=false:=aw hb1 (aT 8) (bu 8)
 have x0:w1.cell? ⟨w.heap.size,0,none⟩=some (.int .i64 k):=a9 hb1 (a9 ah (a9 ah (ao 0)))
 have x5:w1.cell? ⟨w.heap.size,5,none⟩=some (.int .i64 fk):=a9 hb1 (a9 ah (a9 ah (ao 5)))
 have x6:w1.cell? ⟨w.heap.size,6,none⟩=some (.slice fa fn fq):=a9 hb1 (a9 ah (a9 ah (ao 6)))
 have x8:w1.cell? ⟨w.heap.size,8,none⟩=some (.slice c m q):=a9 hb1 (a9 ah (a9 ah (ao 8)))
 have hz1:w.heap.size+1+1+1≤w1.heap.size:=by have:=hb1.size;simp at this;omega
 have lw1:=World.block_lt_of_cell? _ _ o0
 have HK1:=Lib.hid hk1
 have HO1:=Lib.hid ho1
 have HD1:=Lib.hid hd1
 have HX1:=Lib.hid (show ∀x∈fp1,w.heap.size+1+1+1≤x from fun x hx=>by have:=hx1 x hx;simp at this;omega)
 have HB1:=Lib.hid (ai bS hb1)
 have HRZ:=Lib.hid (show ∀i:Nat,i<9→∃uu:Value,w1.cell? ⟨w.heap.size+1,i,none⟩=some uu from fun i hi=>by
   have h9:i=0∨i=1∨i=2∨i=3∨i=4∨i=5∨i=6∨i=7∨i=8:=by omega
   rcases h9 with rfl | rfl | rfl | rfl | rfl | rfl | rfl | rfl | rfl<;>exact⟨_,a9 hb1 (a9 ah (ax _))⟩)
 have HRF:=Lib.hid (show ∀o,w1.frozen? ⟨w.heap.size+1,o,none⟩=false from fun o=>bz hb1 (by simp) (bz ah (by simp) (aK o)))
 have HOF:=Lib.hid (show ∀o,w1.frozen? ⟨w.heap.size+1+1,o,none⟩=false from fun o=>bz hb1 (by simp) (bu o))
 clear hk1 hv1 ho1 hd1 hx1 hb1
 go_wp2_with fail
 have HB1a:=Lib.hid (show Below w.heap.size w ((w1.setCell ⟨w.heap.size+1+1,3,none⟩ (.int .i64 k1)).setCell ⟨w.heap.size+1+1,4,none⟩ (.slice c1' m1 q1)) from(HB1.out.setCell (by show w.heap.size≤w.heap.size+1+1;omega) _).setCell (by show w.heap.size≤w.heap.size+1+1;omega) _)
 refine(b8 F ff _ _ (hsr.below HB1a.out) HCT.out.2).mono ?_
 rintro e w2 ⟨v2,rfl,⟨fp2,hv2,hd2,hx2⟩,hb2⟩
 obtain⟨k2,c2',m2,q2,rfl,hk2,ho2⟩:=hv2.shape
 have oo0:w2.cell? ⟨w.heap.size+1+1,0,none⟩=some (.int .i64 k):=a9 hb2 (av (av o0 (by simp)) (by simp))
 have oo1:w2.cell? ⟨w.heap.size+1+1,1,none⟩=some (.string nm):=a9 hb2 (av (av o1 (by simp)) (by simp))
 have oo2:w2.cell? ⟨w.heap.size+1+1,2,none⟩=some (.int .i64 u):=a9 hb2 (av (av o2 (by simp)) (by simp))
 have oo3:w2.cell? ⟨w.heap.size+1+1,3,none⟩=some (.int .i64 k1):=a9 hb2 (av (aY o3) (by simp))
 have oo4:w2.cell? ⟨w.heap.size+1+1,4,none⟩=some (.slice c1' m1 q1):=a9 hb2 (aY (av o4 (by simp)))
 have oo5:w2.cell? ⟨w.heap.size+1+1,5,none⟩=some (.int .i64 fk):=a9 hb2 (av (av o5 (by simp)) (by simp))
 have oo6:w2.cell? ⟨w.heap.size+1+1,6,none⟩=some (.slice fa fn fq):=a9 hb2 (av (av o6 (by simp)) (by simp))
 have oo7:w2.cell? ⟨w.heap.size+1+1,7,none⟩=some (.int .i64 l):=a9 hb2 (av (av o7 (by simp)) (by simp))
 have oo8:w2.cell? ⟨w.heap.size+1+1,8,none⟩=some (.slice c m q):=a9 hb2 (av (av o8 (by simp)) (by simp))
 have pp3:w2.frozen? ⟨w.heap.size+1+1,3,none⟩=false:=aw hb2 (av (aY o3) (by simp)) ((aO _ _ _ _).trans ((aO _ _ _ _).trans p3))
 have pp4:w2.frozen? ⟨w.heap.size+1+1,4,none⟩=false:=aw hb2 (aY (av o4 (by simp))) ((aO _ _ _ _).trans ((aO _ _ _ _).trans p4))
 have pp5:w2.frozen? ⟨w.heap.size+1+1,5,none⟩=false:=aw hb2 (av (av o5 (by simp)) (by simp)) ((aO _ _ _ _).trans ((aO _ _ _ _).trans p5))
 have pp6:w2.frozen? ⟨w.heap.size+1+1,6,none⟩=false:=aw hb2 (av (av o6 (by simp)) (by simp)) ((aO _ _ _ _).trans ((aO _ _ _ _).trans p6))
 have pp8:w2.frozen? ⟨w.heap.size+1+1,8,none⟩=false:=aw hb2 (av (av o8 (by simp)) (by simp)) ((aO _ _ _ _).trans ((aO _ _ _ _).trans p8))
 have xx0:w2.cell? ⟨w.heap.size,0,none⟩=some (.int .i64 k):=a9 hb2 (av (av x0 (by simp)) (by simp))
 have xx8:w2.cell? ⟨w.heap.size,8,none⟩=some (.slice c m q):=a9 hb2 (av (av x8 (by simp)) (by simp))
 have hz2:w1.heap.size≤w2.heap.size:=by have:=hb2.size;simp [World.setCell] at this;omega
 have lw2:=World.block_lt_of_cell? _ _ oo0
 have HK2:=Lib.hid hk2
 have HO2:=Lib.hid ho2
 have HD2:=Lib.hid hd2
 have HX2:=Lib.hid (show ∀x∈fp2,w1.heap.size≤x from fun x hx=>by have:=hx2 x hx;simp [World.setCell] at this;omega)
 have HB2:=Lib.hid (ai HB1a.out hb2)
 have HKP2:=Lib.hid (show ∀b,b<w1.heap.size→b≠w.heap.size+1+1→w2.heap[b]?=w1.heap[b]? from fun b hb hn=>(hb2.block b (by simp [World.setCell];omega)).trans ((Below.heap_setCell _ ⟨w.heap.size+1+1,4,none⟩ _ b hn).trans (Below.heap_setCell _ ⟨w.heap.size+1+1,3,none⟩ _ b hn)))
 have HOF2:=Lib.hid (show ∀o,w2.frozen? ⟨w.heap.size+1+1,o,none⟩=false from fun o=>bz hb2 (by simp [World.setCell];omega) ((aO _ _ _ _).trans ((aO _ _ _ _).trans (HOF.out o))))
 clear hk2 hv2 ho2 hd2 hx2 hb2 o0 o1 o2 o3 o4 o5 o6 o7 o8 p3 p4 p5 p6 p8 x0 x5 x6 x8 lw1 hty hsr
 go_wp2_with fail
 have KW2 : ∀b,b<w2.heap.size→b≠w.heap.size+1+1→(((w2.setCell ⟨w.heap.size+1+1,5,none⟩ (.int .i64 k2)).setCell ⟨w.heap.size+1+1,6,none⟩ (.slice c2' m2 q2)).setCell ⟨w.heap.size+1+1,8,none⟩ (.slice none 0 0)).heap[b]?=w2.heap[b]?:=fun b hb hn=>(Below.heap_setCell _ ⟨w.heap.size+1+1,8,none⟩ _ b hn).trans ((Below.heap_setCell _ ⟨w.heap.size+1+1,6,none⟩ _ b hn).trans (Below.heap_setCell _ ⟨w.heap.size+1+1,5,none⟩ _ b hn))
 have hE8:(((w2.setCell ⟨w.heap.size+1+1,5,none⟩ (.int .i64 k2)).setCell ⟨w.heap.size+1+1,6,none⟩ (.slice c2' m2 q2)).setCell ⟨w.heap.size+1+1,8,none⟩ (.slice none 0 0)).cell? ⟨w.heap.size,8,none⟩=some (.slice c m q):=av (av (av xx8 (by simp)) (by simp)) (by simp)
 have hFO : ∀o,(((w2.setCell ⟨w.heap.size+1+1,5,none⟩ (.int .i64 k2)).setCell ⟨w.heap.size+1+1,6,none⟩ (.slice c2' m2 q2)).setCell ⟨w.heap.size+1+1,8,none⟩ (.slice none 0 0)).frozen? ⟨w.heap.size+1+1,o,none⟩=false:=fun o=>(aO _ _ _ _).trans ((aO _ _ _ _).trans ((aO _ _ _ _).trans (HOF2.out o)))
 have hB1:Below w.heap.size w (((w2.setCell ⟨w.heap.size+1+1,5,none⟩ (.int .i64 k2)).setCell ⟨w.heap.size+1+1,6,none⟩ (.slice c2' m2 q2)).setCell ⟨w.heap.size+1+1,8,none⟩ (.slice none 0 0)):=((HB2.out.setCell (by show w.heap.size≤w.heap.size+1+1;omega) _).setCell (by show w.heap.size≤w.heap.size+1+1;omega) _).setCell (by show w.heap.size≤w.heap.size+1+1;omega) _
 have hS1:w.heap.size+1+1+1≤(((w2.setCell ⟨w.heap.size+1+1,5,none⟩ (.int .i64 k2)).setCell ⟨w.heap.size+1+1,6,none⟩ (.slice c2' m2 q2)).setCell ⟨w.heap.size+1+1,8,none⟩ (.slice none 0 0)).heap.size:=by simp [World.setCell];omega
 have g0:(((w2.setCell ⟨w.heap.size+1+1,5,none⟩ (.int .i64 k2)).setCell ⟨w.heap.size+1+1,6,none⟩ (.slice c2' m2 q2)).setCell ⟨w.heap.size+1+1,8,none⟩ (.slice none 0 0)).cell? ⟨w.heap.size+1+1,0,none⟩=some (.int .i64 k):=av (av (av (oo0) (by simp)) (by simp)) (by simp)
 have g1:(((w2.setCell ⟨w.heap.size+1+1,5,none⟩ (.int .i64 k2)).setCell ⟨w.heap.size+1+1,6,none⟩ (.slice c2' m2 q2)).setCell ⟨w.heap.size+1+1,8,none⟩ (.slice none 0 0)).cell? ⟨w.heap.size+1+1,1,none⟩=some (.string nm):=av (av (av (oo1) (by simp)) (by simp)) (by simp)
 have g2:(((w2.setCell ⟨w.heap.size+1+1,5,none⟩ (.int .i64 k2)).setCell ⟨w.heap.size+1+1,6,none⟩ (.slice c2' m2 q2)).setCell ⟨w.heap.size+1+1,8,none⟩ (.slice none 0 0)).cell? ⟨w.heap.size+1+1,2,none⟩=some (.int .i64 u):=av (av (av (oo2) (by simp)) (by simp)) (by simp)
 have g3:(((w2.setCell ⟨w.heap.size+1+1,5,none⟩ (.int .i64 k2)).setCell ⟨w.heap.size+1+1,6,none⟩ (.slice c2' m2 q2)).setCell ⟨w.heap.size+1+1,8,none⟩ (.slice none 0 0)).cell? ⟨w.heap.size+1+1,3,none⟩=some (.int .i64 k1):=av (av (av (oo3) (by simp)) (by simp)) (by simp)
 have g4:(((w2.setCell ⟨w.heap.size+1+1,5,none⟩ (.int .i64 k2)).setCell ⟨w.heap.size+1+1,6,none⟩ (.slice c2' m2 q2)).setCell ⟨w.heap.size+1+1,8,none⟩ (.slice none 0 0)).cell? ⟨w.heap.size+1+1,4,none⟩=some (.slice c1' m1 q1):=av (av (av (oo4) (by simp)) (by simp)) (by simp)
 have g5:(((w2.setCell ⟨w.heap.size+1+1,5,none⟩ (.int .i64 k2)).setCell ⟨w.heap.size+1+1,6,none⟩ (.slice c2' m2 q2)).setCell ⟨w.heap.size+1+1,8,none⟩ (.slice none 0 0)).cell? ⟨w.heap.size+1+1,5,none⟩=some (.int .i64 k2):=av (av (aY (oo5)) (by simp)) (by simp)
 have g6:(((w2.setCell ⟨w.heap.size+1+1,5,none⟩ (.int .i64 k2)).setCell ⟨w.heap.size+1+1,6,none⟩ (.slice c2' m2 q2)).setCell ⟨w.heap.size+1+1,8,none⟩ (.slice none 0 0)).cell? ⟨w.heap.size+1+1,6,none⟩=some (.slice c2' m2 q2):=av (aY (av (oo6) (by simp))) (by simp)
 have g7:(((w2.setCell ⟨w.heap.size+1+1,5,none⟩ (.int .i64 k2)).setCell ⟨w.heap.size+1+1,6,none⟩ (.slice c2' m2 q2)).setCell ⟨w.heap.size+1+1,8,none⟩ (.slice none 0 0)).cell? ⟨w.heap.size+1+1,7,none⟩=some (.int .i64 l):=av (av (av (oo7) (by simp)) (by simp)) (by simp)
 have g8:(((w2.setCell ⟨w.heap.size+1+1,5,none⟩ (.int .i64 k2)).setCell ⟨w.heap.size+1+1,6,none⟩ (.slice c2' m2 q2)).setCell ⟨w.heap.size+1+1,8,none⟩ (.slice none 0 0)).cell? ⟨w.heap.size+1+1,8,none⟩=some (.slice none 0 0):=aY (av (av (oo8) (by simp)) (by simp))
 have hRZ : ∀i:Nat,i<9→∃uu:Value,(((w2.setCell ⟨w.heap.size+1+1,5,none⟩ (.int .i64 k2)).setCell ⟨w.heap.size+1+1,6,none⟩ (.slice c2' m2 q2)).setCell ⟨w.heap.size+1+1,8,none⟩ (.slice none 0 0)).cell? ⟨w.heap.size+1,i,none⟩=some uu:=fun i hi=>by
  obtain⟨uu,h⟩:=HRZ.out i hi
  exact⟨uu,((World.cell?_of_block (a:=⟨w.heap.size+1,i,none⟩) ((KW2 (w.heap.size+1) (by omega) (by omega)).trans (HKP2.out (w.heap.size+1) (by omega) (by omega))))).trans h⟩
 have hRF : ∀o,(((w2.setCell ⟨w.heap.size+1+1,5,none⟩ (.int .i64 k2)).setCell ⟨w.heap.size+1+1,6,none⟩ (.slice c2' m2 q2)).setCell ⟨w.heap.size+1+1,8,none⟩ (.slice none 0 0)).frozen? ⟨w.heap.size+1,o,none⟩=false:=fun o=>((World.frozen?_of_block (a:=⟨w.heap.size+1,o,none⟩) ((KW2 (w.heap.size+1) (by omega) (by omega)).trans (HKP2.out (w.heap.size+1) (by omega) (by omega))))).trans (HRF.out o)
 have hT1:aG (((w2.setCell ⟨w.heap.size+1+1,5,none⟩ (.int .i64 k2)).setCell ⟨w.heap.size+1+1,6,none⟩ (.slice c2' m2 q2)).setCell ⟨w.heap.size+1+1,8,none⟩ (.slice none 0 0)) (.sl (Ty.rows tt.kids)) (.slice c1' m1 q1) fp1:=aG.move _ _ _ (fun b hb=>(KW2 b (by have:=aG.lt _ _ _ HO1.out b hb;omega) (by have:=HX1.out b hb;omega)).trans (HKP2.out b (aG.lt _ _ _ HO1.out b hb) (by have:=HX1.out b hb;omega))) HO1.out
 have hT2:aG (((w2.setCell ⟨w.heap.size+1+1,5,none⟩ (.int .i64 k2)).setCell ⟨w.heap.size+1+1,6,none⟩ (.slice c2' m2 q2)).setCell ⟨w.heap.size+1+1,8,none⟩ (.slice none 0 0)) (.sl (Ty.rows ff.kids)) (.slice c2' m2 q2) fp2:=aG.move _ _ _ (fun b hb=>KW2 b (aG.lt _ _ _ HO2.out b hb) (by have:=HX2.out b hb;omega)) HO2.out
 have hDD:(fp1++fp2).Nodup:=List.nodup_append.2 ⟨HD1.out,HD2.out,fun x hx z hz e=>by have h1:=aG.lt _ _ _ HO1.out x hx;have h2:=HX2.out z hz;omega⟩
 have hXX : ∀x∈fp1++fp2,w.heap.size+1+1+1≤x:=fun x hx=>by
  rcases List.mem_append.1 hx with hx | hx
  ·exact(show ∀x∈fp1,w.heap.size+1+1+1≤x from HX1.out) x hx
  ·have:=HX2.out x hx;omega
 clear KW2
 obtain⟨W1,hW1⟩ : ∃x,(((w2.setCell ⟨w.heap.size+1+1,5,none⟩ (.int .i64 k2)).setCell ⟨w.heap.size+1+1,6,none⟩ (.slice c2' m2 q2)).setCell ⟨w.heap.size+1+1,8,none⟩ (.slice none 0 0))=x:=⟨_,rfl⟩
 rw [hW1] at hB1 hS1 hE8 hFO hRZ hRF hT1 hT2 g0 g1 g2 g3 g4 g5 g6 g7 g8 ⊢
 clear hW1
 have GC:Hid (W1.cell? ⟨w.heap.size+1+1,0,none⟩=some (.int .i64 k)∧W1.cell? ⟨w.heap.size+1+1,1,none⟩=some (.string nm)∧W1.cell? ⟨w.heap.size+1+1,2,none⟩=some (.int .i64 u)∧W1.cell? ⟨w.heap.size+1+1,3,none⟩=some (.int .i64 k1)∧W1.cell? ⟨w.heap.size+1+1,4,none⟩=some (.slice c1' m1 q1)∧W1.cell? ⟨w.heap.size+1+1,5,none⟩=some (.int .i64 k2)∧W1.cell? ⟨w.heap.size+1+1,6,none⟩=some (.slice c2' m2 q2)∧W1.cell? ⟨w.heap.size+1+1,7,none⟩=some (.int .i64 l)):=Lib.hid ⟨g0,g1,g2,g3,g4,g5,g6,g7⟩
 have HB1L:=Lib.hid hB1
 have HFO:=Lib.hid hFO
 have RZ:=Lib.hid hRZ
 have RF:=Lib.hid hRF
 have HT1:=Lib.hid hT1
 have HT2:=Lib.hid hT2
 have HDD:=Lib.hid hDD
 have HXX:=Lib.hid hXX
 have HE8:=Lib.hid hE8
 clear hB1 hFO hRZ hRF hT1 hT2 hDD hXX hE8 g0 g1 g2 g3 g4 g5 g6 g7 oo0 oo1 oo2 oo3 oo4 oo5 oo6 oo7 oo8 pp3 pp4 pp5 pp6 pp8 xx0 xx8 lw2 hz1 hz2
 have hsz0:w.heap.size+1+1+1≤W1.heap.size:=hS1
 go_loopw [9,2] (fun i p wr=>∃j:Nat,j≤m∧i = .int .i64 j∧(∃a:Nat,a≤LN∧p = .int .i64 a∧Hid (a=(at0)+(Tm.tyss (ts.take j)).length))∧Hid (Below w.heap.size w wr)∧W1.heap.size≤wr.heap.size∧Hid (∀b,b<W1.heap.size→b≠w.heap.size+1+1→wr.heap[b]?=W1.heap[b]?)∧Hid (∀o,o≠8→wr.cell? ⟨w.heap.size+1+1,o,none⟩=W1.cell? ⟨w.heap.size+1+1,o,none⟩)∧Hid (∀o,wr.frozen? ⟨w.heap.size+1+1,o,none⟩=false) ∧
     ∃v,wr.cell? ⟨w.heap.size+1+1,8,none⟩=some v∧aH W1.heap.size 28 9 wr v j (Tm.rows (Tm.retys (ts.take j) (L.drop (at0))))) (fun i _ _=>m-(intOf i).toNat)
 case atStart=>exact⟨0,by omega,rfl,⟨(at0),by have:=HAT1.out;omega,by simp,by simp [Hid,Tm.tyss]⟩,HB1L.out,Nat.le_refl _,fun _ _ _=>rfl,fun _ _=>rfl,HFO.out,_,g8,by simpa [Tm.retys,Tm.rows] using aH.nil _ _ _ _⟩
 case round=>
  obtain⟨j,hj,rfl,⟨a,haL,rfl,haE⟩,hbw,hsz,hR,hO,hF,v,hv,hacc⟩:=hrel
  have x8:wr.cell? ⟨w.heap.size,8,none⟩=some (.slice c m q):=(World.cell?_of_block (a:=⟨w.heap.size,8,none⟩) (hR.out w.heap.size (by omega) (by omega))).trans HE8.out
  have lx8:=World.block_lt_of_cell? _ _ x8
  have lhv:=World.block_lt_of_cell? _ _ hv
  by_cases hlt:j<m
  ·have hjt:j<ts.length:=by rw [←HN.out];exact hlt
   obtain⟨b,off,k0,nm0,u0,tk0,ta0,tn0,tq0,fk0,fa0,fn0,fq0,l0,a0,m0,q0,rfl,lb9,e0,e1,e2,e3,e4,e5,e6,e7,e8,ht⟩:=hks.at hbw.out hjt
   have hts:=Tm.retys_take_succ ts (L.drop (at0)) j hjt
   have htk:=Tm.tyss_take_succ ts j hjt
   have htl:=Tm.tyss_take_le ts (j+1)
   rw [htk,List.length_append] at htl
   rw [List.drop_drop,←haE.out] at hts
   have haN:a+ts[j].tys.length≤LN:=by have:=HAT1.out;have:=haE.out;omega
   have HC:=Lib.hid (fun W (h:Below wr.heap.size wr W)=>IHH.out ts[j] (List.getElem_mem hjt) a _ _ W (ht.below h) (hlv.below (ai hbw.out h)) (by rw [HLN.out];exact haN))
   generalize ts[j].rety (L.drop a)=gt at HC hts
   generalize ts[j].tys=gtys at HC htk haN htl
   obtain⟨gn,hgn⟩ : ∃x,gtys.length=x:=⟨_,rfl⟩
   rw [hgn] at HC haN
   have HTS:=Lib.hid hts
   have HTK:=Lib.hid htk
   have HGN:=Lib.hid hgn
   have HAE:=Lib.hid haE.out
   obtain⟨cv,qv,rfl⟩:=hacc.shape
   obtain⟨xs,fps,ho,hl,hs,hd,hfp⟩:=hacc
   have HO:=Lib.hid ho
   have HS:=Lib.hid hs
   have HD:=Lib.hid hd
   have HFP:=Lib.hid hfp
   have HL:=Lib.hid hl
   clear ho hs hd hfp hl hts ht htk htl hgn haE
   go_wp2_with fail
   refine(HC.out _ ah).mono ?_
   rintro e w4 ⟨v1,rfl,hv1,hb1⟩
   obtain⟨k9,nm9,u9',tk9,ta9,tn9,tq9,fk9,fa9,fn9,fq9,l9,c9,m9,q9,fp9,rfl,hs1,hd1,hx1⟩:=hv1.open
   have kz0:w4.cell? ⟨wr.heap.size,0,none⟩=some (.int .i64 0):=a9 hb1 (ao 0)
   have kf0:w4.frozen? ⟨wr.heap.size,0,none⟩=false:=aw hb1 (ao 0) (aP 0)
   have kz1:w4.cell? ⟨wr.heap.size,1,none⟩=some (.string { data:=#[] }):=a9 hb1 (ao 1)
   have kf1:w4.frozen? ⟨wr.heap.size,1,none⟩=false:=aw hb1 (ao 1) (aP 1)
   have kz2:w4.cell? ⟨wr.heap.size,2,none⟩=some (.int .i64 0):=a9 hb1 (ao 2)
   have kf2:w4.frozen? ⟨wr.heap.size,2,none⟩=false:=aw hb1 (ao 2) (aP 2)
   have kz3:w4.cell? ⟨wr.heap.size,3,none⟩=some (.int .i64 0):=a9 hb1 (ao 3)
   have kf3:w4.frozen? ⟨wr.heap.size,3,none⟩=false:=aw hb1 (ao 3) (aP 3)
   have kz4:w4.cell? ⟨wr.heap.size,4,none⟩=some (.slice none 0 0):=a9 hb1 (ao 4)
   have kf4:w4.frozen? ⟨wr.heap.size,4,none⟩=false:=aw hb1 (ao 4) (aP 4)
   have kz5:w4.cell? ⟨wr.heap.size,5,none⟩=some (.int .i64 0):=a9 hb1 (ao 5)
   have kf5:w4.frozen? ⟨wr.heap.size,5,none⟩=false:=aw hb1 (ao 5) (aP 5)
   have kz6:w4.cell? ⟨wr.heap.size,6,none⟩=some (.slice none 0 0):=a9 hb1 (ao 6)
   have kf6:w4.frozen? ⟨wr.heap.size,6,none⟩=false:=aw hb1 (ao 6) (aP 6)
   have kz7:w4.cell? ⟨wr.heap.size,7,none⟩=some (.int .i64 0):=a9 hb1 (ao 7)
   have kf7:w4.frozen? ⟨wr.heap.size,7,none⟩=false:=aw hb1 (ao 7) (aP 7)
   have kz8:w4.cell? ⟨wr.heap.size,8,none⟩=some (.slice none 0 0):=a9 hb1 (ao 8)
   have kf8:w4.frozen? ⟨wr.heap.size,8,none⟩=false:=aw hb1 (ao 8) (aP 8)
   have hq1:w4.cell? ⟨w.heap.size+1+1,8,none⟩=some (.slice cv j qv):=a9 (ai ah hb1) hv
   have hf1:w4.frozen? ⟨w.heap.size+1+1,8,none⟩=false:=aw (ai ah hb1) hv (hF.out 8)
   have hbz:wr.heap.size+1≤w4.heap.size:=by have:=hb1.size;simp at this;omega
   have lk0:=World.block_lt_of_cell? _ _ kz0
   obtain⟨WT,hWT⟩ : ∃x,(((((((((w4.setCell ⟨wr.heap.size,0,none⟩ (.int .i64 k9)).setCell ⟨wr.heap.size,1,none⟩ (.string nm9)).setCell ⟨wr.heap.size,2,none⟩ (.int .i64 u9')).setCell ⟨wr.heap.size,3,none⟩ (.int .i64 tk9)).setCell ⟨wr.heap.size,4,none⟩ (.slice ta9 tn9 tq9)).setCell ⟨wr.heap.size,5,none⟩ (.int .i64 fk9)).setCell ⟨wr.heap.size,6,none⟩ (.slice fa9 fn9 fq9)).setCell ⟨wr.heap.size,7,none⟩ (.int .i64 l9)).setCell ⟨wr.heap.size,8,none⟩ (.slice c9 m9 q9))=x:=⟨_,rfl⟩
   have hWS:Below wr.heap.size wr WT:=by rw [←hWT];exact((((((((((ai ah hb1)).setCell (by show wr.heap.size≤wr.heap.size;omega) _).setCell (by show wr.heap.size≤wr.heap.size;omega) _).setCell (by show wr.heap.size≤wr.heap.size;omega) _).setCell (by show wr.heap.size≤wr.heap.size;omega) _).setCell (by show wr.heap.size≤wr.heap.size;omega) _).setCell (by show wr.heap.size≤wr.heap.size;omega) _).setCell (by show wr.heap.size≤wr.heap.size;omega) _).setCell (by show wr.heap.size≤wr.heap.size;omega) _).setCell (by show wr.heap.size≤wr.heap.size;omega) _
   have hmv : ∀b,b≠wr.heap.size→WT.heap[b]?=w4.heap[b]?:=fun b hn=>by rw [←hWT];exact(Below.heap_setCell _ ⟨wr.heap.size,8,none⟩ _ b hn).trans ((Below.heap_setCell _ ⟨wr.heap.size,7,none⟩ _ b hn).trans ((Below.heap_setCell _ ⟨wr.heap.size,6,none⟩ _ b hn).trans ((Below.heap_setCell _ ⟨wr.heap.size,5,none⟩ _ b hn).trans ((Below.heap_setCell _ ⟨wr.heap.size,4,none⟩ _ b hn).trans ((Below.heap_setCell _ ⟨wr.heap.size,3,none⟩ _ b hn).trans ((Below.heap_setCell _ ⟨wr.heap.size,2,none⟩ _ b hn).trans ((Below.heap_setCell _ ⟨wr.heap.size,1,none⟩ _ b hn).trans ((Below.heap_setCell _ ⟨wr.heap.size,0,none⟩ _ b hn)))))))))
   have hsW:WT.heap.size=w4.heap.size:=by rw [←hWT];simp [World.setCell]
   have ho':=bi HO.out (ai hWS ah) (w':=WT.alloc (.cells #[.int .i64 k9,.string nm9,.int .i64 u9',.int .i64 tk9,.slice ta9 tn9 tq9,.int .i64 fk9,.slice fa9 fn9 fq9,.int .i64 l9,.slice c9 m9 q9] 28))
   have HO':=Lib.hid ho'
   have HWS:=Lib.hid hWS
   have HSW:=Lib.hid hsW
   have HWT:=Lib.hid hWT
   have HS1:=Lib.hid (hs1.move (w':=WT) _ _ _ fun b hb=>hmv b (by have:=hx1 b hb;simp at this;omega))
   have HD1':=Lib.hid hd1
   have HX1':=Lib.hid (show ∀x∈fp9,wr.heap.size≤x from fun x hx=>by have:=hx1 x hx;simp at this;omega)
   have hB1:W1.heap.size≤w4.heap.size:=by omega
   clear ho' hWS hmv hsW hWT hv1 hs1 hd1 hx1 hb1
   go_wp2_with (first | (at_builtin;rw [HWT.out];refine wpList_append_lies _ rfl (.tmp 57) (.tmp 59) 26 rfl W1.heap.size 28 i0 _ 9 128 Try.underlying26 HI.out Z0.out Z1.out Z2.out rfl (by omega) (.slice cv j qv) j xs rfl HO'.out ⟨w4.heap.size,0,none⟩ 1 1 [.int .i64 k9,.string nm9,.int .i64 u9',.int .i64 tk9,.slice ta9 tn9 tq9,.int .i64 fk9,.slice fa9 fn9 fq9,.int .i64 l9,.slice c9 m9 q9] rfl rfl (by rw [←HSW.out];exact World.news_of_block (cs:=#[.int .i64 k9,.string nm9,.int .i64 u9',.int .i64 tk9,.slice ta9 tn9 tq9,.int .i64 fk9,.slice fa9 fn9 fq9,.int .i64 l9,.slice c9 m9 q9]) (t:=28) (fr:=(0,0)) (heap_alloc_new WT _)) (by simp [Value.oneCell']) (by omega) (by unfold maxLen;omega) (by omega) (by have:=HSW.out;simp;omega) _ rfl ?_) | fail)
   intro gg cap2 w5 hown2 hgrow hat hlt2
   have hfar:=cF (ai HWS.out ah) HO.out hgrow
   have hq:w5.cell? ⟨w.heap.size+1+1,8,none⟩=some (.slice cv j qv):=(World.cell?_of_block (a:=⟨w.heap.size+1+1,8,none⟩) (hfar (w.heap.size+1+1) (by omega) (by omega))).trans hv
   have hqf:w5.frozen? ⟨w.heap.size+1+1,8,none⟩=false:=(World.frozen?_of_block (a:=⟨w.heap.size+1+1,8,none⟩) (hfar (w.heap.size+1+1) (by omega) (by omega))).trans (hF.out _)
   have HFAR:=Lib.hid hfar
   have hacc2:=aH.push (W0:=wr) HL.out HO.out HS.out HD.out HFP.out hsz (ai HWS.out ah) (Nat.le_refl _) (HS1.out.move _ _ _ fun b hb=>heap_alloc_old _ _ (bg.lt _ _ _ HS1.out b hb)) HD1'.out HX1'.out hown2 hgrow (hat.elim .inl (fun h=>.inr (by first | exact h | (rw [h];simp;exact HSW.out.symm) | (rw [h];simp;done))))
   have HACC:=Lib.hid hacc2
   have HBEL:=Lib.hid (ck hbw.out (ai HWS.out ah) HO.out (by omega) hgrow)
   have hsz2:wr.heap.size≤w5.heap.size:=Nat.le_trans (ai HWS.out ah).size hgrow.size
   clear hfar hacc2 hown2 hgrow hat hq1 hf1 kz0 kz1 kz2 kz3 kz4 kz5 kz6 kz7 kz8 kf0 kf1 kf2 kf3 kf4 kf5 kf6 kf7 kf8
   go_wp2_with fail
   go_roundw
   case rel=>
    refine⟨j+1,by omega,by go_num,⟨a+gn,haN,rfl,by have h1:=HAE.out;have h2:=HTK.out;have h3:=HGN.out;unfold Hid;rw [h2,List.length_append];omega⟩,HBEL.out.setCell (by show w.heap.size≤w.heap.size+1+1;omega) _,by simp [World.setCell];omega,
      fun b hb hn=>(Below.heap_setCell w5 ⟨w.heap.size+1+1,8,none⟩ _ b hn).trans ((HFAR.out b (by omega) hb).trans (hR.out b hb hn)),
      fun o ho=>(World.cell?_setCell_other w5 _ _ _ (fun e=>by cases e;exact ho rfl)).trans ((World.cell?_of_block (a:=⟨w.heap.size+1+1,o,none⟩) (HFAR.out (w.heap.size+1+1) (by omega) (by omega))).trans (hO.out o ho)),
      fun o=>(aO _ _ _ _).trans ((World.frozen?_of_block (a:=⟨w.heap.size+1+1,o,none⟩) (HFAR.out (w.heap.size+1+1) (by omega) (by omega))).trans (hF.out o)),_,aY hq,?_⟩
    have h:=HACC.out.setCell (p:=⟨w.heap.size+1+1,8,none⟩) (by show w.heap.size+1+1<W1.heap.size;omega) (.slice (some ⟨gg,0,none⟩) (j+1) cap2)
    rw [HTS.out,Tm.rows_eq,List.map_append,←Tm.rows_eq]
    exact h
   case measure=>simp [intOf];omega
  ·have hje:ts.take j=ts:=List.take_of_length_le (by have:=HN.out;omega)
   have haF:=haE.out
   rw [hje] at hacc haF
   obtain⟨cv,qv,rfl⟩:=hacc.shape
   have HACC:=Lib.hid hacc
   have HAF:=Lib.hid haF
   clear hacc hje haF haE
   obtain⟨uu0,z0⟩:=RZ.out 0 (by omega)
   replace z0:=(World.cell?_of_block (a:=⟨w.heap.size+1,0,none⟩) (hR.out (w.heap.size+1) (by omega) (by omega))).trans z0
   have y0:=(World.frozen?_of_block (a:=⟨w.heap.size+1,0,none⟩) (hR.out (w.heap.size+1) (by omega) (by omega))).trans (RF.out 0)
   obtain⟨uu1,z1⟩:=RZ.out 1 (by omega)
   replace z1:=(World.cell?_of_block (a:=⟨w.heap.size+1,1,none⟩) (hR.out (w.heap.size+1) (by omega) (by omega))).trans z1
   have y1:=(World.frozen?_of_block (a:=⟨w.heap.size+1,1,none⟩) (hR.out (w.heap.size+1) (by omega) (by omega))).trans (RF.out 1)
   obtain⟨uu2,z2⟩:=RZ.out 2 (by omega)
   replace z2:=(World.cell?_of_block (a:=⟨w.heap.size+1,2,none⟩) (hR.out (w.heap.size+1) (by omega) (by omega))).trans z2
   have y2:=(World.frozen?_of_block (a:=⟨w.heap.size+1,2,none⟩) (hR.out (w.heap.size+1) (by omega) (by omega))).trans (RF.out 2)
   obtain⟨uu3,z3⟩:=RZ.out 3 (by omega)
   replace z3:=(World.cell?_of_block (a:=⟨w.heap.size+1,3,none⟩) (hR.out (w.heap.size+1) (by omega) (by omega))).trans z3
   have y3:=(World.frozen?_of_block (a:=⟨w.heap.size+1,3,none⟩) (hR.out (w.heap.size+1) (by omega) (by omega))).trans (RF.out 3)
   obtain⟨uu4,z4⟩:=RZ.out 4 (by omega)
   replace z4:=(World.cell?_of_block (a:=⟨w.heap.size+1,4,none⟩) (hR.out (w.heap.size+1) (by omega) (by omega))).trans z4
   have y4:=(World.frozen?_of_block (a:=⟨w.heap.size+1,4,none⟩) (hR.out (w.heap.size+1) (by omega) (by omega))).trans (RF.out 4)
   obtain⟨uu5,z5⟩:=RZ.out 5 (by omega)
   replace z5:=(World.cell?_of_block (a:=⟨w.heap.size+1,5,none⟩) (hR.out (w.heap.size+1) (by omega) (by omega))).trans z5
   have y5:=(World.frozen?_of_block (a:=⟨w.heap.size+1,5,none⟩) (hR.out (w.heap.size+1) (by omega) (by omega))).trans (RF.out 5)
   obtain⟨uu6,z6⟩:=RZ.out 6 (by omega)
   replace z6:=(World.cell?_of_block (a:=⟨w.heap.size+1,6,none⟩) (hR.out (w.heap.size+1) (by omega) (by omega))).trans z6
   have y6:=(World.frozen?_of_block (a:=⟨w.heap.size+1,6,none⟩) (hR.out (w.heap.size+1) (by omega) (by omega))).trans (RF.out 6)
   obtain⟨uu7,z7⟩:=RZ.out 7 (by omega)
   replace z7:=(World.cell?_of_block (a:=⟨w.heap.size+1,7,none⟩) (hR.out (w.heap.size+1) (by omega) (by omega))).trans z7
   have y7:=(World.frozen?_of_block (a:=⟨w.heap.size+1,7,none⟩) (hR.out (w.heap.size+1) (by omega) (by omega))).trans (RF.out 7)
   obtain⟨uu8,z8⟩:=RZ.out 8 (by omega)
   replace z8:=(World.cell?_of_block (a:=⟨w.heap.size+1,8,none⟩) (hR.out (w.heap.size+1) (by omega) (by omega))).trans z8
   have y8:=(World.frozen?_of_block (a:=⟨w.heap.size+1,8,none⟩) (hR.out (w.heap.size+1) (by omega) (by omega))).trans (RF.out 8)
   have g0:=(hO.out 0 (by omega)).trans GC.out.1
   have g1:=(hO.out 1 (by omega)).trans GC.out.2.1
   have g2:=(hO.out 2 (by omega)).trans GC.out.2.2.1
   have g3:=(hO.out 3 (by omega)).trans GC.out.2.2.2.1
   have g4:=(hO.out 4 (by omega)).trans GC.out.2.2.2.2.1
   have g5:=(hO.out 5 (by omega)).trans GC.out.2.2.2.2.2.1
   have g6:=(hO.out 6 (by omega)).trans GC.out.2.2.2.2.2.2.1
   have g7:=(hO.out 7 (by omega)).trans GC.out.2.2.2.2.2.2.2
   have lz0:=World.block_lt_of_cell? _ _ z0
   go_wp2_with fail
   refine bodyPost_ret (v:=.tuple #[.agg #[.int .i64 k,.string nm,.int .i64 u,.int .i64 k1,(.slice c1' m1 q1),.int .i64 k2,.slice c2' m2 q2,.int .i64 l,.slice cv j qv],.int .i64 a]) (by simp [results,Try.results54,go_sem,z0,z1,z2,z3,z4,z5,z6,z7,z8]) rfl ?_
   obtain⟨fpk,hok,hdk,hxk⟩:=HACC.out.tms
   have hltk : ∀x∈fp1++fp2,x<W1.heap.size:=fun x hx=>by
    rcases List.mem_append.1 hx with hx | hx
    ·exact aG.lt _ _ _ HT1.out x hx
    ·exact aG.lt _ _ _ HT2.out x hx
   have hnew:b3 (w.heap.size+1+1+1) wr (Tm.mk k nm u tt ff l (Tm.retys ts (L.drop (at0)))) (.agg #[.int .i64 k,.string nm,.int .i64 u,.int .i64 k1,(.slice c1' m1 q1),.int .i64 k2,.slice c2' m2 q2,.int .i64 l,.slice cv j qv]):=
    b3.of HRN.out HK1.out HK2.out (aG.move _ _ _ (fun b hb=>hR.out b (hltk b (List.mem_append_left _ hb)) (by have:=HXX.out b (List.mem_append_left _ hb);omega)) HT1.out)
     (aG.move _ _ _ (fun b hb=>hR.out b (hltk b (List.mem_append_right _ hb)) (by have:=HXX.out b (List.mem_append_right _ hb);omega)) HT2.out) hok
     (by rw [←List.append_assoc];exact List.nodup_append.2 ⟨HDD.out,hdk,fun x hx z hz e=>by have h1:=hltk x hx;have h2:=hxk z hz;omega⟩)
     (fun x hx=>by
       rw [←List.append_assoc] at hx
       rcases List.mem_append.1 hx with hx | hx
       · exact HXX.out x hx
       · have:=hxk x hx;omega)
   exact⟨_,by(rw [HAF.out];first | rfl | simp),b3.mono ((((((((((hnew).setCell (by show w.heap.size+1<w.heap.size+1+1+1;omega) _).setCell (by show w.heap.size+1<w.heap.size+1+1+1;omega) _).setCell (by show w.heap.size+1<w.heap.size+1+1+1;omega) _).setCell (by show w.heap.size+1<w.heap.size+1+1+1;omega) _).setCell (by show w.heap.size+1<w.heap.size+1+1+1;omega) _).setCell (by show w.heap.size+1<w.heap.size+1+1+1;omega) _).setCell (by show w.heap.size+1<w.heap.size+1+1+1;omega) _).setCell (by show w.heap.size+1<w.heap.size+1+1+1;omega) _).setCell (by show w.heap.size+1<w.heap.size+1+1+1;omega) _) (by omega),(((((((((hbw.out).setCell (by show w.heap.size≤w.heap.size+1;omega) _).setCell (by show w.heap.size≤w.heap.size+1;omega) _).setCell (by show w.heap.size≤w.heap.size+1;omega) _).setCell (by show w.heap.size≤w.heap.size+1;omega) _).setCell (by show w.heap.size≤w.heap.size+1;omega) _).setCell (by show w.heap.size≤w.heap.size+1;omega) _).setCell (by show w.heap.size≤w.heap.size+1;omega) _).setCell (by show w.heap.size≤w.heap.size+1;omega) _).setCell (by show w.heap.size≤w.heap.size+1;omega) _⟩
end Go.Proofs.Ytnaoghknnenfoaa

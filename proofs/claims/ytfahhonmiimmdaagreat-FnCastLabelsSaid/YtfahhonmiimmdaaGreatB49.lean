/- spec.l3Make: the way of the kind fn. And what else its parts name. -/
import Derived.Test.YtfahhonmiimmdaaGreatB39
import Derived.Sort.OwnSortedInts
set_option linter.unusedSimpArgs false
set_option linter.unusedVariables false
set_option maxRecDepth 100000
set_option maxHeartbeats 16000000
namespace Go.Proofs.YtfahhonmiimmdaaGreat
open Go.RowKit
def ri:Oper:=⟨some 150,.move (.tmp 0),46,"l3_typing.go:216",#[],none⟩
def rj:Oper:=⟨some 151,.move (.tmp 1),96,"l3_typing.go:216",#[],none⟩
def rl:Oper:=⟨some 152,.fieldAddr 25 (.tmp 6) 1,0,"l3_typing.go:216",#[],none⟩
def ro:Oper:=⟨some 153,.load 23 (.tmp 152),23,"l3_typing.go:216",#[⟨2,.data⟩],none⟩
def rp:Oper:=⟨some 154,.indexAddr 23 (.tmp 153) (.const (.int .i64 0)),0,"l3_typing.go:216",#[⟨3,.data⟩],none⟩
def rt:Oper:=⟨some 155,.load 25 (.tmp 154),25,"l3_typing.go:216",#[⟨4,.data⟩],none⟩
def ru:Oper:=⟨some 156,.fieldAddr 25 (.tmp 6) 1,0,"l3_typing.go:216",#[],none⟩
def rv:Oper:=⟨some 157,.load 23 (.tmp 156),23,"l3_typing.go:216",#[⟨6,.data⟩],none⟩
def ry:Oper:=⟨some 158,.indexAddr 23 (.tmp 157) (.const (.int .i64 1)),0,"l3_typing.go:216",#[⟨7,.data⟩],none⟩
def rz:Oper:=⟨some 159,.load 25 (.tmp 158),25,"l3_typing.go:216",#[⟨8,.data⟩],none⟩
def nj:Oper:=⟨some 160,.move (.tmp 3),3,"l3_typing.go:216",#[],none⟩
def nk:Oper:=⟨some 161,.binOp .sub 3 (.tmp 160) (.const (.int .i64 1)) 3,3,"l3_typing.go:216",#[⟨10,.data⟩],none⟩
def nl:Oper:=⟨some 162,.call {callee:=.value (.func 86),args:=#[.tmp 150,.tmp 151,.tmp 155,.tmp 159,.tmp 161],argTypes:=#[46,96,25,25,3]},28,"l3_typing.go:216",#[⟨0,.data⟩,⟨1,.data⟩,⟨5,.data⟩,⟨9,.data⟩,⟨11,.data⟩],none⟩
def np:Oper:=⟨none,.store 28 (.tmp 8) (.tmp 162),0,"l3_typing.go:216",#[⟨12,.data⟩,⟨12,.chain⟩,⟨0,.phase⟩,⟨1,.phase⟩,⟨2,.phase⟩,⟨3,.phase⟩,⟨4,.phase⟩,⟨5,.phase⟩,⟨6,.phase⟩,⟨7,.phase⟩,⟨8,.phase⟩,⟨9,.phase⟩,⟨10,.phase⟩,⟨11,.phase⟩,⟨12,.phase⟩],none⟩
theorem mkWfn (dd:Int)(r p:Nat)(l:List Bd)(w:World)(kt:Int)(ta:Option Addr)(tn tq:Nat)(xa:Option Addr)(xn xq:Nat)(a b:S):(dV dd (S.fn a b) r p l w kt ta tn tq xa xn xq).1.2.2.2.2:=by
 intro _ _ _ _ _ _ _ _ HWK _ _ _ HNL HCV HOK HSV HIH _ HKT HL60 MB _ _ HMB _ _ _ _ _ _ _ _ _ _ _ _ _ _ _ _ _ _ _ _ _ _ _ _ _ _ _ _ _ _ _ _ _ _ _ _ _ _ _ _ _ _ wc _ _ _ _ _ _ _ _ _ _ _ _ _ _ _ _ _ _ _ _ _ _ _ _ _ _ _ _ _ _ _ _ _ _ _ _ _ _ _ _ _ _ _ _ _ _ _ _ _ _ _ _ _ _ _ _ _ _ _ _ _ _ _ _ _ _ _ _ _ _ _ _ _ _ _ _ _ _ _ _ _ _ _ _ _ _ _ _ _ _ _ _ _ _ _ _ _ _ _ _ _ _ _ _ _ _ _ _ _ _ _ _ _ _ _ _ _ _ _ _ _ _ _ _ _ _ _ _ _ _ _ _ _ _ _ _ _ _ _ _ _ _ _ _ _ _ _ _ _ _ _ _ _ _ _ _ _ _ _ _ _ _ _ _ _ _ _ _ _ _ _ _ _ _ _ _ _ _ _ _ _ _ _ _ _ _ _ _ _ _ _ _ _ _ _ _ _ _ _ _ _ _ _ _ _ _ _ _ _ _ _ _ _ _ _ _ _ _ _ _ _ fC rd fT fR hX hT;obtain rfl:kt=4:=HKT.out;have hT0:=hT.out;obtain⟨-,hks0⟩:=ao.pairK hT0;obtain⟨b2,off2,cap2,k5,c5,m5,q5,k6,c6,m6,q6,hsl,-,-,hlb2,e5a,e5b,e6a,e6b,ht5,ht6⟩:=hks0.two;simp only[Value.slice.injEq] at hsl;obtain⟨rfl,rfl,rfl⟩:=hsl;have hbF:=hks0.blkT (by simp);have hbr:b2≠r:=hbF.1;have hbw:b2<w.heap.size:=hbF.2;have HVA:=zq (show a.vd=true∧b.vd=true from jP HSV.out);have HB0:=zq (mkB_fn (d:=dd) HSV.out);have h5_:=zq ht5;have h6_:=zq ht6;clear hT0 hks0 hbF ht5 ht6;have c5a_:=e5a;have c5b_:=e5b;have c6a_:=e6a;have c6b_:=e6b;clear e5a e5b e6a e6b;obtain⟨y0,y1⟩:=blk2 fT;have lyT:=aC fT
 go_wp2_with fail
 clear y0 y1 lyT;refine wp_region_noPanic ?_;refine wp_region_held_drew (S:=fun w'=>w'.cell? ⟨w.heap.size,1,none⟩=some (.slice (some ⟨b2,off2,none⟩) 2 tq)∧w'.cell? ⟨b2,off2,none⟩=some (.int .i64 k5)∧w'.cell? ⟨b2,off2+1,none⟩=some (.slice c5 m5 q5)∧w'.cell? ⟨b2,off2+2,none⟩=some (.int .i64 k6)∧w'.cell? ⟨b2,off2+3,none⟩=some (.slice c6 m6 q6)) (by kernel_rfl) ?_ (fun hH0=>?_)
 ·exact⟨ag fT rfl,c5a_,c5b_,c6a_,c6b_⟩
 obtain⟨U4,hU,hb,zU4a,zU4b⟩:=bD wc;rw[hU] at hH0 ⊢;replace fT:=af fT hb;replace fR:=af fR hb;replace fC:=zqb fC hb;replace rd:=zq (rd.out.below hb);replace hX:=zq (hX.out.below hb);replace hT:=zq (hT.out.below hb);replace c5a_:=ah hb c5a_;replace c5b_:=ah hb c5b_;replace h5_:=zq (h5_.out.below hb);replace c6a_:=ah hb c6a_;replace c6b_:=ah hb c6b_;replace h6_:=zq (h6_.out.below hb);(try simp only[World.size_alloc] at zU4a zU4b);clear hU hb;refine hwt 0 ri (.pointer (some ⟨r,0,none⟩)) hH0 ?_ ?_
 ·intro w' hSw;dsimp only[ri];go_simp
 try simp only[ri,hwA]
 refine hwt 1 rj (.slice xa xn xq) hH0 ?_ ?_
 ·intro w' hSw;dsimp only[rj];go_simp
 try simp only[rj,hwA]
 refine hwt 2 rl (.pointer (some ⟨w.heap.size,1,none⟩)) hH0 ?_ ?_
 ·intro w' hSw;dsimp only[rl];go_simp
 try simp only[rl,hwA]
 refine hwt 3 ro (.slice (some ⟨b2,off2,none⟩) 2 tq) hH0 ?_ ?_
 ·intro w' hSw;dsimp only[ro];go_simp
 try simp only[ro,hwA]
 refine hwt 4 rp (.pointer (some ⟨b2,off2,none⟩)) hH0 ?_ ?_
 ·intro w' hSw;dsimp only[rp];go_simp
 try simp only[rp,hwA]
 refine hwt 5 rt (.agg #[.int .i64 k5,.slice c5 m5 q5]) hH0 ?_ ?_
 ·intro w' hSw;dsimp only[rt];go_simp
 try simp only[rt,hwA]
 refine hwt 6 ru (.pointer (some ⟨w.heap.size,1,none⟩)) hH0 ?_ ?_
 ·intro w' hSw;dsimp only[ru];go_simp
 try simp only[ru,hwA]
 refine hwt 7 rv (.slice (some ⟨b2,off2,none⟩) 2 tq) hH0 ?_ ?_
 ·intro w' hSw;dsimp only[rv];go_simp
 try simp only[rv,hwA]
 refine hwt 8 ry (.pointer (some ⟨b2,off2+2,none⟩)) hH0 ?_ ?_
 ·intro w' hSw;dsimp only[ry];go_simp
 try simp only[ry,hwA]
 refine hwt 9 rz (.agg #[.int .i64 k6,.slice c6 m6 q6]) hH0 ?_ ?_
 ·intro w' hSw;dsimp only[rz];go_simp
 try simp only[rz,hwA]
 refine hwt 10 nj (.int .i64 dd) hH0 ?_ ?_
 ·intro w' hSw;dsimp only[nj];go_simp
 try simp only[nj,hwA]
 refine hwt 11 nk (.int .i64 (dd-1)) hH0 ?_ ?_
 ·intro w' hSw;dsimp only[nk];go_simp;exact HWK.out
 try simp only[nk,hwA]
 refine hwr 12 nl (fun K hK=>?_)
 dsimp only[nl];go_simp
 go_at_call 86
 refine(ob r _ (dd-1) a b l _ _ _ _ rd.out (hX.out.move (.weaken fun b h _=>h.1)) HCV.out (by have:=HL60.out;omega) (h5_.out.move (.weaken fun b h _=>h.1)) (h6_.out.move (.weaken fun b h _=>h.1)) HVA.out.1 (fun nm hnm=>HIH.out b (l ++ [⟨nm,S.ty a⟩]) (mi (by simp[S.dep];omega)) HVA.out.2 (HOK.out.snoc ((S.valid a).trans HVA.out.1)) (by simp) (fun b hb=>(List.mem_append.1 hb).elim (HNL.out b) (fun h=>by simp at h;subst h;exact hnm))) (by have h1:=HB0.out;have h2:=HMB.out;omega)).mono ?_;rintro e X1701 ⟨t2,v,q2,rfl,hcn2,hv,hq2,hrd,hb⟩;obtain⟨kt2,nm2,ut2,tk2,ta2,tn2,tq2,fk2,fa2,fn2,fq2,lt2,ct2,mt2,qt2,rfl⟩:=hv.shape;have HC2:=zq hcn2;clear hcn2;have h2_':=hv.rg;have rd':Hid (aQ X1701 r q2):=zq hrd;clear hv hrd
 go_wp2_with fail
 have zX1701:U4.heap.size≤X1701.heap.size:=hb.size;replace fT:=aw fT hb;replace fR:=aw fR hb;replace fC:=zqc fC hb;replace hX:=zq (hX.out.move (kpN hb (fun b hb=>hb.1)));replace hT:=zq (hT.out.move (kpN hb (fun b hb=>hb.1)));replace c5a_:=aK hb (by omega) c5a_;replace c5b_:=aK hb (by omega) c5b_;replace h5_:=zq (h5_.out.move (kpN hb (fun b hb=>hb.1)));replace c6a_:=aK hb (by omega) c6a_;replace c6b_:=aK hb (by omega) c6b_;replace h6_:=zq (h6_.out.move (kpN hb (fun b hb=>hb.1)));have h2_:=h2_';clear h2_';clear rd;have rd:=rd';clear rd';refine hK.out _ _ ⟨ag fT rfl,c5a_,c5b_,c6a_,c6b_⟩ (fun hH1701=>?_);clear hK K hH0 hb
 try simp only[nl,hwA]
 refine hwr 13 np (fun K hK=>?_);obtain⟨r0,rf0,r1,rf1,r2,rf2,r3,rf3,r4,rf4,r5,rf5,r6,rf6,r7,rf7,r8,rf8⟩:=blk9f fR
 dsimp only[np];go_simp
 (try go_wp2_with fail);have hQq:=bL fR (.int .i64 kt2) (.string nm2) (.int .i64 ut2) (.int .i64 tk2) (.slice ta2 tn2 tq2) (.int .i64 fk2) (.slice fa2 fn2 fq2) (.int .i64 lt2) (.slice ct2 mt2 qt2);clear fR r0 rf0 r1 rf1 r2 rf2 r3 rf3 r4 rf4 r5 rf5 r6 rf6 r7 rf7 r8 rf8;obtain⟨X1702,hXq,hsq,fR,zX1702a,zX1702b⟩:=hQq;rw[hXq];replace fT:=hsq.blk (by omega) fT;replace fC:=zq (hsq.chg fC.out (by omega));replace rd:=zq (hsq.rd rd.out (by omega));replace hX:=zq (hX.out.move (hsq.keeps (fun b hb=>by have:=hb.2;omega)));replace hT:=zq (hsq.rep (fun b hb=>by have:=hb.2;omega) hT.out);replace c5a_:=hsq.cell (by show b2≠w.heap.size+1;omega) c5a_;replace c5b_:=hsq.cell (by show b2≠w.heap.size+1;omega) c5b_;replace h5_:=zq (hsq.rep (fun b hb=>by have:=hb.2;omega) h5_.out);replace c6a_:=hsq.cell (by show b2≠w.heap.size+1;omega) c6a_;replace c6b_:=hsq.cell (by show b2≠w.heap.size+1;omega) c6b_;replace h6_:=zq (hsq.rep (fun b hb=>by have:=hb.2;omega) h6_.out);replace h2_:=zq (h2_.out.move (hsq.keeps (fun b hb=>by have h1:=hb.1;have h2:=hb.2;omega)));refine hK.out _ _ ⟨ag fT rfl,c5a_,c5b_,c6a_,c6b_⟩ (fun hH1702=>?_);clear hK K hH1701 hsq hXq
 try simp only[np,hwA]
 refine wpAnyH_done (by kernel_rfl) ?_ _;refine NoPanic.normal ?_;clear hH1702;obtain⟨rc0,rc1,rc2,rc3,rc4,rc5,rc6,rc7,rc8⟩:=blk9 fR
 go_wp2_with fail
 refine bodyPost_ret (v:=.agg #[.int .i64 kt2,.string nm2,.int .i64 ut2,.int .i64 tk2,.slice ta2 tn2 tq2,.int .i64 fk2,.slice fa2 fn2 fq2,.int .i64 lt2,.slice ct2 mt2 qt2]) (by simp[results,Tryz.results51,go_sem,rc0,rc1,rc2,rc3,rc4,rc5,rc6,rc7,rc8]) rfl ?_;have h1:=HB0.out;have h2:=HMB.out;have hcc:(t2).cnt≤MB:=by
  have g1:=HC2.out;(try simp only[Tm.cnt,Tm.cnts,Ty.cnt,Ty.cnts,List.length_cons,List.length_nil,show({data:=#[]}:ByteArray).size=0 from rfl])
  omega
 exact⟨t2,_,q2,rfl,hcc,h2_.out.move (.weaken fun b h _=>by have h1:=h.1;show w.heap.size≤b;omega),by omega,rd.out,fC.out⟩
end Go.Proofs.YtfahhonmiimmdaaGreat
namespace Go.Proofs.YtfahhonmiimmdaaGreat
open Go.RowKit Go.Sort
theorem Tryz.infoInt:(Tryz.prog.info? 3).map (fun i=>(i.zero,i.size,i.bytes))=some (some (.int .i64 0),1,8):=by kernel_rfl
theorem cj {w:World}{B n:Nat}{e:TypeId}{size:Nat}{v:Value}{xs:List Value}(h:w.ownsRow B e size v n xs) : ∃c q,v = .slice c n q:=by
 rcases h.2 with ⟨rfl,rfl⟩ | ⟨g,cap,cur,rfl,-⟩
 ·exact⟨none,0,rfl⟩
 ·exact⟨_,cap,rfl⟩
theorem nK {w:World}{B n m cap g:Nat}{e:TypeId}{xs:List Value}(h:w.ownsRow B e 1 (.slice (some ⟨g,0,none⟩) n cap) n xs)(hm:m≤n):w.ownsRow B e 1 (.slice (some ⟨g,0,none⟩) m cap) m (xs.take m):=by
 obtain⟨hl,h⟩:=h
 rcases h with ⟨h,-⟩ | ⟨g',cap',cur,he,hb,hg,h1,h2,h3,h4⟩
 ·cases h
 ·simp only[Value.slice.injEq,Option.some.injEq,Addr.mk.injEq,and_true,true_and] at he
  obtain⟨rfl,rfl⟩:=he;refine⟨by rw[List.length_take];omega,.inr ⟨g,cap,cur,rfl,hb,hg,by omega,h2,h3,?_⟩⟩;rw[←h4,List.take_take]
  congr 1
  omega
theorem sortOwn {B n:Nat}{l:List Int}{v:Value}(w:World)(h:w.ownsRow B 3 1 v n (l.map (Value.int .i64)))(hn:n≤1000000) :
  Calls Tryz.prog 18 #[v] w fun e w'=>e = .returned (.tuple #[])∧w'.ownsRow B 3 1 v n ((gK l).map (Value.int .i64))∧w.grownBy w' v.ownBlock:=by
 have hl:l.length=n:=by have:=h.1;simpa using this
 rcases h.2 with ⟨rfl,rfl⟩ | ⟨g,cap,cur,rfl,hb,hg,h1,h2,h3,h4⟩
 ·refine(Tryz.slices_Sort_int_none none 0 w).mono ?_
  rintro e w' ⟨rfl,rfl⟩;have:l = []:=List.eq_nil_of_length_eq_zero hl;subst this
  exact⟨rfl,by simpa [gK] using h,rfl,rfl,rfl,Nat.le_refl _,fun _ _ _=>rfl⟩
 ·subst hl
  rw[Nat.mul_one] at h4;refine(Tryz.slices_Sort_int g 0 cap l w (holds_of_blockI hg h4) (Array.getElem?_eq_some_iff.1 hg).1 (by omega)).mono ?_;rintro e w' ⟨rfl,q,os,rfl⟩
  exact⟨rfl,ownsRow_sortedI (List.length_mergeSort _) hb hg h1 h2 h3,grownBy_sortedI _⟩
theorem uo {B n:Nat}{l:List Int}{v:Value}(w:World)(h:w.ownsRow B 3 1 v n (l.map (Value.int .i64)))(hn:n≤1000000) :
  Calls Tryz.prog 19 #[v] w fun e w'=>∃v',e = .returned v'∧w'.ownsRow B 3 1 v' (Lib.compact l).length ((Lib.compact l).map (Value.int .i64))∧w.grownBy w' v.ownBlock:=by
 have hl:l.length=n:=by have:=h.1;simpa using this
 rcases h.2 with ⟨rfl,rfl⟩ | ⟨g,cap,cur,rfl,hb,hg,h1,h2,h3,h4⟩
 ·refine(Tryz.slices_Compact_int_empty none 0 w).mono ?_
  rintro e w' ⟨rfl,rfl⟩;have:l = []:=List.eq_nil_of_length_eq_zero hl;subst this
  exact⟨_,rfl,by simpa [Lib.compact,Lib.compactUpTo] using h,rfl,rfl,rfl,Nat.le_refl _,fun _ _ _=>rfl⟩
 ·subst hl
  rw[Nat.mul_one] at h4;refine(Tryz.slices_Compact_int g 0 cap l w (holds_of_blockI hg h4) (by omega) h1).mono ?_;rintro e w' ⟨rfl,q,rfl⟩;have hc:(Lib.compact l).length≤l.length:=by
   unfold Lib.compact Lib.compactUpTo;have:=List.length_filter_le (Lib.keeps l.toArray) (List.range l.length)
   simpa using this
  have h5:=ownsRow_sortedI (w:=w) (base:=B) (n:=q) (os:=#[]) (ss:=l) (ts:=Lib.compact l++List.replicate (l.length-(Lib.compact l).length) 0) (by rw[List.length_append,List.length_replicate];omega) hb hg h1 h2 h3;rw[Sort.grow_empty] at h5;have h6:=nK h5 hc;rw[List.map_append,List.take_append_of_le_length (by simp),List.take_of_length_le (by simp)] at h6;have h7:=grownBy_sortedI (w:=w) (g:=g) (n:=q) (os:=#[]) (Lib.compact l++List.replicate (l.length-(Lib.compact l).length) 0).toArray;rw[Sort.grow_empty] at h7
  exact⟨_,rfl,h6,h7⟩
theorem mc (F:Nat→Prop)(t:Tm)(y:Value)(w:World)(hy:ax F w t y) :
  Calls Tryz.prog 6 #[y] w (ud t.labels w):=by
 have hyB:ax (· < w.heap.size) w t y:=hy.move (.weaken fun _ _ h=>h);have hv:=fun W (h:Below w.heap.size w W)=>i9 F t y W (hy.below h);have hc:=fun(hok:t.castValid=true) W (h:Below w.heap.size w W)=>iT (· < w.heap.size) w.heap.size (fun _ h=>h) t (by have:=Tm.casts_ok hok;omega) y W (hyB.below h) h.size;have hlen:=fun(hok:t.castValid=true)=>Tm.casts_ok hok;unfold Tm.labels;rw[←Tm.labs_eq];obtain⟨k,nm,u,tk,ta,tn,tq,fk,fa,fn,fq,l,c,m,q,rfl⟩:=hy.shape;obtain⟨i0,hi,hz0,hz1,hz2⟩:=info_parts Tryz.infoInt;generalize t.casts=us at *;generalize t.castValid=v at *;have HV:=zq hv;have HC:=zq hc;have HLEN:=zq hlen;have Z0:=zq hz0;have Z1:=zq hz1;have Z2:=zq hz2;have HI:=zq hi;clear hv hc hlen hy hyB hz0 hz1 hz2 hi
 cases v
 ·simp only[Bool.false_eq_true,if_false]
  go_enter Tryz.func6,Tryz.ntmps6
  go_wp2_with fail
  refine(HV.out _ ai).mono ?_;rintro e w1 ⟨rfl,hb1⟩
  go_wp2_with fail
  go_ret
  exact⟨_,rfl,⟨[],bC.nilv (by unfold maxLen;omega),List.nodup_nil,by simp⟩,aj ai hb1⟩
 ·simp only[if_true]
  have hlen:=HLEN.out rfl;have HLEN':=zq hlen;clear hlen HLEN
  go_enter Tryz.func6,Tryz.ntmps6
  go_wp2_with fail
  refine(HV.out _ ai).mono ?_;rintro e w1 ⟨rfl,hb1⟩;have c0:w1.cell? ⟨w.heap.size,0,none⟩=some (.int .i64 k):=ah hb1 (az 0);have c1:w1.cell? ⟨w.heap.size,1,none⟩=some (.string nm):=ah hb1 (az 1);have c2:w1.cell? ⟨w.heap.size,2,none⟩=some (.int .i64 u):=ah hb1 (az 2);have c3:w1.cell? ⟨w.heap.size,3,none⟩=some (.int .i64 tk):=ah hb1 (az 3);have c4:w1.cell? ⟨w.heap.size,4,none⟩=some (.slice ta tn tq):=ah hb1 (az 4);have c5:w1.cell? ⟨w.heap.size,5,none⟩=some (.int .i64 fk):=ah hb1 (az 5);have c6:w1.cell? ⟨w.heap.size,6,none⟩=some (.slice fa fn fq):=ah hb1 (az 6);have c7:w1.cell? ⟨w.heap.size,7,none⟩=some (.int .i64 l):=ah hb1 (az 7);have c8:w1.cell? ⟨w.heap.size,8,none⟩=some (.slice c m q):=ah hb1 (az 8);have hB1:=aj ai hb1;have hbz:=hB1.size
  go_wp2_with fail
  refine(HC.out (by simp) _ hB1).mono ?_;rintro e w2 ⟨v2,rfl,hacc2,-,hb2⟩;have hts:=hacc2.tms;obtain⟨a2,q2,rfl,hq1,hq2,-⟩:=hts.open;have hB2:=aj hB1 hb2;have hbz2:=hB2.size;have HB2:=zq hB2;have HTS0:=zq hts;clear hts hacc2 c0 c1 c2 c3 c4 c5 c6 c7 c8 hb1 hb2 hB1 hB2 HV HC;obtain⟨n,hn⟩ : ∃n,us.length=n:=⟨_,rfl⟩
  have hts:=HTS0.out;rw[hn] at hq1 hts ⊢;have HN:=zq hn;have HTS:=zq hts;have hn2:n≤200:=by have:=HLEN'.out;omega
  unfold maxLen at hq2;clear hn HTS0 hts
  go_wp2_with fail
  go_loopw [12,3] (fun i p wr=>∃j:Nat,j≤n∧i = .int .i64 j∧(∃pv,pv=p∧Hid (wr.ownsRow w2.heap.size 3 1 pv j (((us.take j).map Tm.label).map (Value.int .i64))))∧Hid (Below w2.heap.size w2 wr)∧w2.heap.size≤wr.heap.size) (fun i _ _=>n-(intOf i).toNat)
  case atStart=>exact⟨0,by omega,rfl,⟨_,rfl,by simpa [Hid] using World.ownsRow_nil _ _ _ _⟩,Below.refl _ _,Nat.le_refl _⟩
  case round=>
   obtain⟨j,hj,rfl,⟨pv,rfl,hown⟩,hbw,hsz⟩:=hrel;obtain⟨cv,qv,rfl⟩:=cj hown.out
   by_cases hlt:j<n
   ·have hjt:j<us.length:=by rw[HN.out];exact hlt
    obtain⟨b,off,k0,nm0,u0,tk0,ta0,tn0,tq0,fk0,fa0,fn0,fq0,l0,a0,m0,q0,rfl,lb0,e0,e1,e2,e3,e4,e5,e6,e7,e8,ht⟩:=HTS.out.at hbw.out hjt;obtain⟨-,-,-,-,-,-,-,r8,-⟩:=ht.parts;have hmap:(((us.take (j+1)).map Tm.label).map (Value.int .i64))=((us.take j).map Tm.label).map (Value.int .i64) ++ [.int .i64 l0]:=by rw[List.take_succ_eq_append_getElem hjt,List.map_append,List.map_append,r8];rfl
    obtain⟨xs,hxs⟩ : ∃x,((us.take j).map Tm.label).map (Value.int .i64)=x:=⟨_,rfl⟩
    rw[hxs] at hown hmap;have HMAP:=zq hmap;have HO':=zq (aP hown.out (aT (o:=.cells #[.int .i64 k0,.string nm0,.int .i64 u0,.int .i64 tk0,.slice ta0 tn0 tq0,.int .i64 fk0,.slice fa0 fn0 fq0,.int .i64 l0,.slice a0 m0 q0] 28) (o':=.cells #[.int .i64 l0] 3)));clear ht r8 hmap hxs
    go_wp2_with (first | (at_builtin;refine wpList_append_lies _ rfl (.tmp 16) (.tmp 19) 30 rfl w2.heap.size 3 i0 _ 1 8 Tryz.underlying30 HI.out Z0.out Z1.out Z2.out rfl (by omega) (.slice cv j qv) j xs rfl HO'.out ⟨wr.heap.size+1,0,none⟩ 1 1 [.int .i64 l0] rfl rfl (World.news_of_block (cs:=#[.int .i64 l0]) (t:=3) (fr:=(0,0)) (by rw[show wr.heap.size+1=(wr.alloc (.cells #[.int .i64 k0,.string nm0,.int .i64 u0,.int .i64 tk0,.slice ta0 tn0 tq0,.int .i64 fk0,.slice fa0 fn0 fq0,.int .i64 l0,.slice a0 m0 q0] 28)).heap.size by simp];exact heap_alloc_new _ _)) (by simp[Value.oneCell']) (by omega) (by unfold maxLen;omega) (by omega) (by simp;omega) _ rfl ?_) | fail)
    intro gg cap2 w5 hown2 hgrow hat hlt2;have HOWN2:=zq hown2;have HBEL:=zq (bj hbw.out aT hown.out (Nat.le_refl _) hgrow);have hsz5:=HBEL.out.size;clear hown2 hgrow hat
    go_wp2_with fail
    go_roundw
    case rel=>exact⟨j+1,by omega,by go_num,⟨_,rfl,by unfold Hid;rw[HMAP.out];exact HOWN2.out⟩,HBEL.out,hsz5⟩
    case measure=>simp[intOf];omega
   ·have hje:us.take j=us:=List.take_of_length_le (by have:=HN.out;omega)
    have hjn:j=n:=by omega
    subst hjn;have ho:=hown.out;rw[hje] at ho;have HO:=zq ho;clear ho hje hown
    go_wp2_with fail
    refine(sortOwn wr HO.out (by omega)).mono ?_;rintro e w6 ⟨rfl,ho6,hg6⟩;have HO6:=zq ho6;have HB6:=zq ((HB2.out.trans (hbw.out.mono hbz2)).grown hg6 (Nat.le_trans hbz2 hsz) (fun k hk=>by have:=(HO.out.lt k hk).1;omega));clear ho6 hg6
    go_wp2_with fail
    refine(uo w6 HO6.out (by omega)).mono ?_;rintro e w7 ⟨v7,rfl,ho7,hg7⟩;have HO7:=zq ho7;have HB7:=zq (HB6.out.grown hg7 HB6.out.size (fun k hk=>by have:=(HO.out.lt k hk).1;omega));obtain⟨c7',q7,rfl⟩:=cj ho7;clear ho7 hg7
    go_wp2_with fail
    go_ret
    obtain⟨fp,h1,h2,h3⟩:=bC.of_row HO7.out
    exact⟨_,rfl,⟨fp,h1,h2,fun x hx=>by have:=h3 x hx;omega⟩,HB7.out⟩
end Go.Proofs.YtfahhonmiimmdaaGreat
namespace Go.Proofs.YtfahhonmiimmdaaGreat
open Go.RowKit
theorem jw {w:World}{B B' n size:Nat}{e:TypeId}{v:Value}{xs:List Value}(h:w.ownsRow B e size v n xs)(hb:B'≤B):w.ownsRow B' e size v n xs:=by
 obtain⟨h0,h1⟩:=h
 rcases h1 with h1 | ⟨g,cap,cur,e1,e2,e3⟩
 ·exact⟨h0,.inl h1⟩
 ·exact⟨h0,.inr ⟨g,cap,cur,e1,Nat.le_trans hb e2,e3⟩⟩
theorem ia {B g:Nat}{e:TypeId}{size:Nat}{w:World}(hB:B≤g)(h:w.heap[g]?=some (.cells #[] e (0,0))):w.ownsRow B e size (.slice (some ⟨g,0,none⟩) 0 0) 0 []:=
 ⟨by simp,.inr ⟨g,0,#[],rfl,hB,h,Nat.le_refl _,by unfold maxLen;omega,by simp,by simp⟩⟩
theorem uO {n:Int}{l O:List Int}{d:Bool}(h:n∉l)(hs:cM n l=(O,d)):cx n l=if d then O else O ++ [n]:=by
 unfold cx;rw[if_neg (fun hc=>h (List.contains_iff_mem.1 hc)),hs]
theorem sW (B:Nat)(l:List Int)(n:Nat)(nn:Int)(v:Value)(w:World)(hown:w.ownsRow B 3 1 v n (l.map (Value.int .i64)))(hn:n≤100000)(hBw:B≤w.heap.size) :
  Calls Tryz.prog 42 #[v,.int .i64 nn] w fun e w'=>∃v',e = .returned v'∧w'.ownsRow B 3 1 v' (cx nn l).length ((cx nn l).map (Value.int .i64))∧Below w.heap.size w w':=by
 have hl:l.length=n:=by have:=hown.1;simpa using this
 obtain⟨i0,hi,hz0,hz1,hz2⟩:=info_parts Tryz.infoInt;obtain⟨lv,lq,rfl⟩:=cj hown;have Z0:=zq hz0;have Z1:=zq hz1;have Z2:=zq hz2;have HI:=zq hi;have HL:=zq hl;have HOWN:=zq hown;have hlq:n≤lq:=by
  rcases hown.2 with ⟨he,h0⟩ | ⟨g,cap,cur,he,-,-,h1,-⟩
  ·omega
  ·cases he;exact h1
 have hlm:lq≤maxLen:=by
  rcases hown.2 with ⟨he,h0⟩ | ⟨g,cap,cur,he,-,-,h1,h2,-⟩
  ·cases he;exact Nat.zero_le _
  ·cases he;exact h2
 unfold maxLen at hlm;obtain⟨RR,hRR⟩ : ∃x,cx nn l=x:=⟨_,rfl⟩
 rw[hRR];have HRR:=zq hRR;clear hz0 hz1 hz2 hi hl hown hRR
 go_enter Tryz.func42,Tryz.ntmps42
 go_wp2_with fail
 go_loopw [7,5,6] (fun i o dn wr=>∃j:Nat,j≤n∧i = .int .i64 j∧(∃(O:List Int) (N:Nat) (d:Bool) (ov:Value),ov=o∧dn = .bool d∧N≤2*j∧Hid (wr.ownsRow w.heap.size 3 1 ov N (O.map (Value.int .i64)))∧Hid (cM nn (l.take j)=(O,d)))∧Hid (nn∉l.take j)∧Hid (Below w.heap.size w wr)∧w.heap.size≤wr.heap.size) (fun i _ _ _=>n-(intOf i).toNat)
 case atStart=>exact⟨0,by omega,rfl,⟨[],0,false,_,rfl,rfl,by omega,ia (Nat.le_refl _) (heap_alloc_new w _),by simp[Hid,cM]⟩,by simp[Hid],ai,by simp⟩
 case round=>
  obtain⟨j,hj,rfl,⟨O,N,d,ov,rfl,rfl,hNj,hown,hsf⟩,hni,hbw,hsz⟩:=hrel;obtain⟨cv,qv,rfl⟩:=cj hown.out
  by_cases hlt:j<n
  ·have hjt:j<l.length:=by rw[HL.out];exact hlt
   have hlt':(j:Int)<(n:Int):=by omega
   obtain⟨g,rfl,hgB,hgl⟩ : ∃g,lv=some ⟨g,0,none⟩∧B≤g∧g<w.heap.size:=by
    rcases HOWN.out.2 with ⟨he,h0⟩ | ⟨g,cap,cur,he,hb,hg,-⟩
    ·omega
    ·cases he;exact⟨g,rfl,hb,(Array.getElem?_eq_some_iff.1 hg).1⟩
   have e0w:w.cell? ⟨g,j,none⟩=some (.int .i64 l[j]):=by
    have h:=eT HOWN.out j (.int .i64 l[j]) (by simp[hjt]);have e1:(⟨g,0,none⟩:Addr).add j=⟨g,j,none⟩:=by
     by_cases hj:j=0
     ·subst hj;rfl
     ·simp[Addr.add,hj]
    rw[e1] at h
    exact h
   have e0:=ah hbw.out e0w;have htk:l.take (j+1)=l.take j ++ [l[j]]:=List.take_succ_eq_append_getElem hjt;have hmem:l[j]∈l:=List.getElem_mem hjt;have hsn:=hJ nn (l.take j) l[j];rw[←htk,hsf.out] at hsn;generalize l[j]=x at e0 e0w htk hmem hsn;have lg:=World.block_lt_of_cell? _ _ e0;have E0:=zq e0;have HTK:=zq htk;have HMEM:=zq hmem;have HSN:=zq hsn;clear htk hmem hsn e0w
   by_cases hx:x=nn
   ·subst hx
    have hres:RR=l:=by rw[←HRR.out];unfold cx;rw[if_pos (List.contains_iff_mem.2 HMEM.out)]
    have HRES:=zq hres;clear hres
    go_wp2_with fail
    go_ret
    exact⟨_,rfl,by rw[HRES.out,HL.out];exact aP HOWN.out hbw.out,hbw.out⟩
   ·have hxe:(x==nn)=false:=by simpa using hx
    have hni2:nn∉l.take (j+1):=by
     rw[HTK.out];intro h
     rcases List.mem_append.1 h with h | h
     ·exact hni.out h
     ·rw[List.mem_singleton] at h;exact hx h.symm
    have HNI2:=zq hni2;obtain⟨xs,hxs⟩ : ∃y,O.map (Value.int .i64)=y:=⟨_,rfl⟩
    rw[hxs] at hown;have HXS:=zq hxs;clear hni2 hxs hx
    by_cases hdx:(!d&&decide (x>nn))=true
    ·have hd:d=false:=by cases d;rfl;cases hdx
     subst hd;have hgt:x>nn:=by simpa using hdx
     have hgt':decide (x>nn)=true:=decide_eq_true hgt;have hs2:cM nn (l.take (j+1))=(O ++ [nn] ++ [x],true):=by rw[HSN.out];unfold fH;rw[if_pos hdx]
     have HS2:=zq hs2;clear hs2 hdx hgt;have HOA:=zq (aP hown.out (ai (o:=.cells #[.int .i64 nn] 3)))
     go_wp2_with (first | (at_builtin;refine wpList_append_lies _ rfl (.tmp 32) (.tmp 34) 30 rfl w.heap.size 3 i0 _ 1 8 Tryz.underlying30 HI.out Z0.out Z1.out Z2.out rfl (by omega) (.slice cv N qv) N xs rfl HOA.out ⟨wr.heap.size,0,none⟩ 1 1 [.int .i64 nn] rfl rfl (World.news_of_block (cs:=#[.int .i64 nn]) (t:=3) (fr:=(0,0)) (heap_alloc_new wr _)) (by simp[Value.oneCell']) (by omega) (by unfold maxLen;omega) (by omega) (by simp;omega) _ rfl ?_) | fail)
     intro g5 cap5 w5 hown2 hgrow hat hlt2;have HOw5:=zq hown2;have hfar:=cr ai hown.out hgrow;clear HOA;have e5:w5.cell? ⟨g,j,none⟩=some (.int .i64 x):=(World.cell?_of_block (a:=⟨g,j,none⟩) (hfar g (by omega) hgl)).trans E0.out;have lg5:=World.block_lt_of_cell? _ _ e5;have HB5:=zq (bj hbw.out ai hown.out (Nat.le_refl _) hgrow);have hsz5:=HB5.out.size;clear hown2 hgrow hat hfar e0 lg;have HOA:=zq (aP HOw5.out (ai (o:=.cells #[.int .i64 x] 3)))
     go_wp2_with (first | (at_builtin;refine wpList_append_lies _ rfl (.tmp 36) (.tmp 41) 30 rfl w.heap.size 3 i0 _ 1 8 Tryz.underlying30 HI.out Z0.out Z1.out Z2.out rfl (by omega) (.slice (some ⟨g5,0,none⟩) (N+1) cap5) (N+1) (xs ++ [.int .i64 nn]) rfl HOA.out ⟨w5.heap.size,0,none⟩ 1 1 [.int .i64 x] rfl rfl (World.news_of_block (cs:=#[.int .i64 x]) (t:=3) (fr:=(0,0)) (heap_alloc_new w5 _)) (by simp[Value.oneCell']) (by omega) (by unfold maxLen;omega) (by omega) (by simp;omega) _ rfl ?_) | fail)
     intro g6 cap6 w6 hown2 hgrow hat hlt2;have HOw6:=zq hown2;have hfar:=cr ai HOw5.out hgrow;clear HOA;have HB6:=zq (bj HB5.out ai HOw5.out (Nat.le_refl _) hgrow);have hsz6:=HB6.out.size;clear hown2 hgrow hat hfar e5
     go_wp2_with fail
     go_roundw
     case rel=>exact⟨j+1,by omega,by go_num,⟨O ++ [nn] ++ [x],N+1+1,true,_,rfl,rfl,by omega,by unfold Hid;rw[List.map_append,List.map_append,HXS.out,List.append_assoc];exact HOw6.out,HS2.out⟩,HNI2.out,HB6.out,hsz6⟩
     case measure=>simp[intOf];omega
    ·have hs2:cM nn (l.take (j+1))=(O ++ [x],d):=by rw[HSN.out];unfold fH;rw[if_neg hdx]
     have HS2:=zq hs2;clear hs2
     cases d
     ·have hgt':decide (x>nn)=false:=by simpa using hdx
      clear hdx;have HOA:=zq (aP hown.out (ai (o:=.cells #[.int .i64 x] 3)))
      go_wp2_with (first | (at_builtin;refine wpList_append_lies _ rfl (.tmp 36) (.tmp 41) 30 rfl w.heap.size 3 i0 _ 1 8 Tryz.underlying30 HI.out Z0.out Z1.out Z2.out rfl (by omega) (.slice cv N qv) N xs rfl HOA.out ⟨wr.heap.size,0,none⟩ 1 1 [.int .i64 x] rfl rfl (World.news_of_block (cs:=#[.int .i64 x]) (t:=3) (fr:=(0,0)) (heap_alloc_new wr _)) (by simp[Value.oneCell']) (by omega) (by unfold maxLen;omega) (by omega) (by simp;omega) _ rfl ?_) | fail)
      intro g5 cap5 w5 hown2 hgrow hat hlt2;have HOw5:=zq hown2;have hfar:=cr ai hown.out hgrow;clear HOA;have HB5:=zq (bj hbw.out ai hown.out (Nat.le_refl _) hgrow);have hsz5:=HB5.out.size;clear hown2 hgrow hat hfar e0 lg
      go_wp2_with fail
      go_roundw
      case rel=>exact⟨j+1,by omega,by go_num,⟨O ++ [x],N+1,false,_,rfl,rfl,by omega,by unfold Hid;rw[List.map_append,HXS.out];exact HOw5.out,HS2.out⟩,HNI2.out,HB5.out,hsz5⟩
      case measure=>simp[intOf];omega
     ·clear hdx
      have HOA:=zq (aP hown.out (ai (o:=.cells #[.int .i64 x] 3)))
      go_wp2_with (first | (at_builtin;refine wpList_append_lies _ rfl (.tmp 36) (.tmp 41) 30 rfl w.heap.size 3 i0 _ 1 8 Tryz.underlying30 HI.out Z0.out Z1.out Z2.out rfl (by omega) (.slice cv N qv) N xs rfl HOA.out ⟨wr.heap.size,0,none⟩ 1 1 [.int .i64 x] rfl rfl (World.news_of_block (cs:=#[.int .i64 x]) (t:=3) (fr:=(0,0)) (heap_alloc_new wr _)) (by simp[Value.oneCell']) (by omega) (by unfold maxLen;omega) (by omega) (by simp;omega) _ rfl ?_) | fail)
      intro g5 cap5 w5 hown2 hgrow hat hlt2;have HOw5:=zq hown2;have hfar:=cr ai hown.out hgrow;clear HOA;have HB5:=zq (bj hbw.out ai hown.out (Nat.le_refl _) hgrow);have hsz5:=HB5.out.size;clear hown2 hgrow hat hfar e0 lg
      go_wp2_with fail
      go_roundw
      case rel=>exact⟨j+1,by omega,by go_num,⟨O ++ [x],N+1,true,_,rfl,rfl,by omega,by unfold Hid;rw[List.map_append,HXS.out];exact HOw5.out,HS2.out⟩,HNI2.out,HB5.out,hsz5⟩
      case measure=>simp[intOf];omega
  ·have hje:l.take j=l:=List.take_of_length_le (by have:=HL.out;omega)
   have hres:=uO hni.out hsf.out;rw[hje,HRR.out] at hres;obtain⟨xs,hxs⟩ : ∃y,O.map (Value.int .i64)=y:=⟨_,rfl⟩
   rw[hxs] at hown;have hol:O.length=N:=by have:=hown.out.1;rw[←hxs] at this;simpa using this
   have HXS:=zq hxs;have HRES:=zq hres;have HOL:=zq hol;clear hres hxs hje hol
   cases d
   ·skip
    have HOA:=zq (aP hown.out (ai (o:=.cells #[.int .i64 nn] 3)))
    go_wp2_with (first | (at_builtin;refine wpList_append_lies _ rfl (.tmp 45) (.tmp 47) 30 rfl w.heap.size 3 i0 _ 1 8 Tryz.underlying30 HI.out Z0.out Z1.out Z2.out rfl (by omega) (.slice cv N qv) N xs rfl HOA.out ⟨wr.heap.size,0,none⟩ 1 1 [.int .i64 nn] rfl rfl (World.news_of_block (cs:=#[.int .i64 nn]) (t:=3) (fr:=(0,0)) (heap_alloc_new wr _)) (by simp[Value.oneCell']) (by omega) (by unfold maxLen;omega) (by omega) (by simp;omega) _ rfl ?_) | fail)
    intro g5 cap5 w5 hown2 hgrow hat hlt2;have HOw5:=zq hown2;have hfar:=cr ai hown.out hgrow;clear HOA;have HB5:=zq (bj hbw.out ai hown.out (Nat.le_refl _) hgrow);clear hown2 hgrow hat hfar
    go_wp2_with fail
    go_ret
    refine⟨_,rfl,?_,HB5.out⟩;rw[HRES.out];simp only[Bool.false_eq_true,if_false];rw[List.map_append,HXS.out,List.length_append,HOL.out,List.length_singleton]
    exact jw HOw5.out hBw
   ·go_wp2_with fail
    go_ret
    refine⟨_,rfl,?_,hbw.out⟩;rw[HRES.out];simp only[if_true];rw[HXS.out,HOL.out]
    exact jw hown.out hBw
def LabC (F:Nat→Prop)(B:Nat)(t:Tm):Prop:=∀(l:List Int) (n:Nat) (v y:Value) (w:World),w.ownsRow B 3 1 v n (l.map (Value.int .i64))→ax F w t y→n+t.casts.length≤100000→B≤w.heap.size →
  Calls Tryz.prog 21 #[v,y] w fun e w'=>∃v',e = .returned v'∧w'.ownsRow B 3 1 v' (t.labs l).length ((t.labs l).map (Value.int .i64))∧Below w.heap.size w w'
theorem lc (F:Nat→Prop)(B:Nat)(t:Tm)(IH0 : ∀t'∈t.kids,LabC F B t'):LabC F B t:=by
 intro l0 n v y w hown hy hln hBw;have hl:l0.length=n:=by have:=hown.1;simpa using this
 obtain⟨k,nm,u,tk,ta,tn,tq,fk,fa,fn,fq,l,c,m,q,rfl⟩:=hy.shape;obtain⟨r1,r2,r3,r4,r5,r6,r7,r8,r9,rn,rm,rq,hty,hsr,hks⟩:=hy.parts;obtain⟨lv,lq,rfl⟩:=cj hown
 cases t with | mk kk n' uu tt ff ll ts=>
 simp only[Tm.kind,Tm.name,Tm.num,Tm.type,Tm.src,Tm.label,Tm.kids] at *;subst r1 r2 r3 r8;obtain⟨R,hR⟩ : ∃R,(Tm.mk k nm u tt ff l ts).labs l0=R:=⟨_,rfl⟩
 rw[hR];unfold Tm.labs at hR;unfold Tm.casts at hln;rw[List.length_append] at hln;have HN:=zq r9;have IHH:=zq IH0;have HOWN:=zq hown;unfold maxLen at rq;clear IH0 hy r9 r4 r5 r6 r7 rn hty hsr hown
 by_cases hk:k=14
 ·subst hk
  have hR2:Tm.labss ts (cx l l0)=R:=hR;have hln2:n+1+(Tm.castss ts).length≤100000:=by simpa [Nat.add_assoc] using hln
  have HR:=zq hR2;have HLN:=zq hln2;have hsl:=sK l l0;rw[hl] at hsl;have HSL:=zq hsl;have hS:=fun W (h:Below w.heap.size w W)=>sW B l0 n l (.slice lv n lq) W (aP HOWN.out h) (by omega) (by have:=h.size;omega);have HS:=zq hS;clear hR hR2 hln hln2 hsl hS
  go_enter Tryz.func21,Tryz.ntmps21
  go_wp2_with fail
  refine(HS.out _ ai).mono ?_;rintro e w1 ⟨v1,rfl,ho1,hb1⟩;have HO1:=zq ho1;have g8:w1.cell? ⟨w.heap.size,8,none⟩=some (.slice c m q):=ah hb1 (az 8);have HB:=zq (aj ai hb1);clear ho1 hb1
  go_wp2_with fail
  go_loopw [5,0] (fun i o wr=>∃j:Nat,j≤m∧i = .int .i64 j∧(∃ov,ov=o∧Hid (wr.ownsRow B 3 1 ov (Tm.labss (ts.take j) (cx l l0)).length ((Tm.labss (ts.take j) (cx l l0)).map (Value.int .i64))))∧wr.cell? ⟨w.heap.size,8,none⟩=some (.slice c m q)∧Hid (Below w.heap.size w wr)) (fun i _ _=>m-(intOf i).toNat)
  case atStart=>exact⟨0,by omega,rfl,⟨_,rfl,by simpa [Hid,Tm.labss] using (HO1.out)⟩,g8,HB.out⟩
  case round=>
   obtain⟨j,hj,rfl,⟨ov,rfl,hown⟩,x8,hbw⟩:=hrel;obtain⟨cv,qv,rfl⟩:=cj hown.out;have lx8:=World.block_lt_of_cell? _ _ x8
   by_cases hlt:j<m
   ·have hjt:j<ts.length:=by rw[←HN.out];exact hlt
    obtain⟨b,off,k0,nm0,u0,tk0,ta0,tn0,tq0,fk0,fa0,fn0,fq0,l0',a0,m0,q0,rfl,lb9,e0,e1,e2,e3,e4,e5,e6,e7,e8,ht⟩:=hks.at hbw.out hjt;have hlen:(Tm.labss (ts.take j) (cx l l0)).length+ts[j].casts.length≤100000:=by
     have h1:=Tm.labss_len (ts.take j) (cx l l0);have h2:=Tm.castss_take_le ts (j+1);rw[Tm.castss_take_succ ts j hjt,List.length_append] at h2;have h3:=HLN.out;have h4:(cx l l0).length≤(n+1):=by have:=HSL.out;omega
     omega
    have HC:=zq (IHH.out ts[j] (List.getElem_mem hjt) (Tm.labss (ts.take j) (cx l l0)) _ _ _ wr hown.out ht hlen (by have:=hbw.out.size;omega));have hts:=Tm.labss_take_succ ts (cx l l0) j hjt;generalize ts[j].labs (Tm.labss (ts.take j) (cx l l0))=gl at HC hts;have HTS:=zq hts;obtain⟨NN,hNN⟩ : ∃x,(Tm.labss (ts.take j) (cx l l0)).length=x:=⟨_,rfl⟩
    rw[hNN] at HC ⊢;clear ht hts hown hlen hNN
    go_wp2_with fail
    refine HC.out.mono ?_;rintro e w4 ⟨v4,rfl,ho4,hb4⟩;have HO4:=zq ho4;clear ho4
    go_wp2_with fail
    go_roundw
    case rel=>exact⟨j+1,by omega,by go_num,⟨_,rfl,by unfold Hid;rw[HTS.out];exact HO4.out⟩,ah hb4 x8,aj hbw.out hb4⟩
    case measure=>simp[intOf];omega
   ·have hje:ts.take j=ts:=List.take_of_length_le (by have:=HN.out;omega)
    have ho:=hown.out;rw[hje,HR.out] at ho;have HO:=zq ho;obtain⟨NN,hNN⟩ : ∃x,(Tm.labss (ts.take j) (cx l l0)).length=x:=⟨_,rfl⟩
    rw[hje,HR.out] at hNN;have hNN2:(Tm.labss (ts.take j) (cx l l0)).length=NN:=by rw[hje,HR.out];exact hNN
    rw[hNN] at HO;have HNN:=zq hNN;rw[hNN2];clear ho hown hje hNN hNN2
    go_wp2_with fail
    go_ret
    exact⟨_,rfl,by rw[HNN.out];exact(show wr.ownsRow B 3 1 _ NN (R.map (Value.int .i64)) from by first | exact HO.out | (rw[←HNN.out];exact HO.out)),hbw.out⟩
 ·have hk':(k==14)=false:=by simpa using hk
  have hR2:Tm.labss ts l0=R:=by rw[←hR,hk'];rfl
  have hln2:n+(Tm.castss ts).length≤100000:=by rw[hk'] at hln;simpa using hln
  have HR:=zq hR2;have HLN:=zq hln2;clear hR hR2 hln hln2 hk
  go_enter Tryz.func21,Tryz.ntmps21
  go_wp2_with fail
  obtain⟨w1,hw1⟩ : ∃x,w.alloc (.cells #[.int .i64 k,.string nm,.int .i64 u,.int .i64 tk,.slice ta tn tq,.int .i64 fk,.slice fa fn fq,.int .i64 l,.slice c m q] 28)=x:=⟨_,rfl⟩
  have HB:=zq (show Below w.heap.size w w1 from hw1▸ai);have g8:w1.cell? ⟨w.heap.size,8,none⟩=some (.slice c m q):=hw1▸az 8;have HO1:=zq (aP HOWN.out HB.out);rw[hw1];clear hw1
  go_loopw [5,0] (fun i o wr=>∃j:Nat,j≤m∧i = .int .i64 j∧(∃ov,ov=o∧Hid (wr.ownsRow B 3 1 ov (Tm.labss (ts.take j) l0).length ((Tm.labss (ts.take j) l0).map (Value.int .i64))))∧wr.cell? ⟨w.heap.size,8,none⟩=some (.slice c m q)∧Hid (Below w.heap.size w wr)) (fun i _ _=>m-(intOf i).toNat)
  case atStart=>exact⟨0,by omega,rfl,⟨_,rfl,by simpa [Hid,Tm.labss] using (by rw[hl];exact HO1.out)⟩,g8,HB.out⟩
  case round=>
   obtain⟨j,hj,rfl,⟨ov,rfl,hown⟩,x8,hbw⟩:=hrel;obtain⟨cv,qv,rfl⟩:=cj hown.out;have lx8:=World.block_lt_of_cell? _ _ x8
   by_cases hlt:j<m
   ·have hjt:j<ts.length:=by rw[←HN.out];exact hlt
    obtain⟨b,off,k0,nm0,u0,tk0,ta0,tn0,tq0,fk0,fa0,fn0,fq0,l0',a0,m0,q0,rfl,lb9,e0,e1,e2,e3,e4,e5,e6,e7,e8,ht⟩:=hks.at hbw.out hjt;have hlen:(Tm.labss (ts.take j) l0).length+ts[j].casts.length≤100000:=by
     have h1:=Tm.labss_len (ts.take j) l0;have h2:=Tm.castss_take_le ts (j+1);rw[Tm.castss_take_succ ts j hjt,List.length_append] at h2;have h3:=HLN.out;have h4:l0.length≤n:=by omega
     omega
    have HC:=zq (IHH.out ts[j] (List.getElem_mem hjt) (Tm.labss (ts.take j) l0) _ _ _ wr hown.out ht hlen (by have:=hbw.out.size;omega));have hts:=Tm.labss_take_succ ts l0 j hjt;generalize ts[j].labs (Tm.labss (ts.take j) l0)=gl at HC hts;have HTS:=zq hts;obtain⟨NN,hNN⟩ : ∃x,(Tm.labss (ts.take j) l0).length=x:=⟨_,rfl⟩
    rw[hNN] at HC ⊢;clear ht hts hown hlen hNN
    go_wp2_with fail
    refine HC.out.mono ?_;rintro e w4 ⟨v4,rfl,ho4,hb4⟩;have HO4:=zq ho4;clear ho4
    go_wp2_with fail
    go_roundw
    case rel=>exact⟨j+1,by omega,by go_num,⟨_,rfl,by unfold Hid;rw[HTS.out];exact HO4.out⟩,ah hb4 x8,aj hbw.out hb4⟩
    case measure=>simp[intOf];omega
   ·have hje:ts.take j=ts:=List.take_of_length_le (by have:=HN.out;omega)
    have ho:=hown.out;rw[hje,HR.out] at ho;have HO:=zq ho;obtain⟨NN,hNN⟩ : ∃x,(Tm.labss (ts.take j) l0).length=x:=⟨_,rfl⟩
    rw[hje,HR.out] at hNN;have hNN2:(Tm.labss (ts.take j) l0).length=NN:=by rw[hje,HR.out];exact hNN
    rw[hNN] at HO;have HNN:=zq hNN;rw[hNN2];clear ho hown hje hNN hNN2
    go_wp2_with fail
    go_ret
    exact⟨_,rfl,by rw[HNN.out];exact(show wr.ownsRow B 3 1 _ NN (R.map (Value.int .i64)) from by first | exact HO.out | (rw[←HNN.out];exact HO.out)),hbw.out⟩
theorem jH (F:Nat→Prop)(B:Nat)(t:Tm):LabC F B t:=
 lc F B t (fun t' ht=>jH F B t')
termination_by SizeOf.sizeOf t
decreasing_by exact Tm.kid_lt ht
theorem nM (F:Nat→Prop)(t:Tm)(y:Value)(w:World)(hy:ax F w t y) :
  Calls Tryz.prog 8 #[y] w (ud t.labels w):=by
 have hv:=fun W (h:Below w.heap.size w W)=>oK F t y W (hy.below h);have hL:=fun(hok:t.castValid=true) W (h:Below w.heap.size w W) v (ho:W.ownsRow w.heap.size 3 1 v 0 (([]:List Int).map (Value.int .i64)))=>jH F w.heap.size t [] 0 v y W ho (hy.below h) (by have:=Tm.casts_ok hok;omega) h.size;unfold Tm.labels;obtain⟨k,nm,u,tk,ta,tn,tq,fk,fa,fn,fq,l,c,m,q,rfl⟩:=hy.shape;generalize t.labs []=us at *;generalize t.castValid=v at *;have HV:=zq hv;have HL:=zq hL;clear hv hL hy
 cases v
 ·simp only[Bool.false_eq_true,if_false]
  go_enter Tryz.func8,Tryz.ntmps8
  go_wp2_with fail
  refine(HV.out _ ai).mono ?_;rintro e w1 ⟨rfl,hb1⟩
  go_wp2_with fail
  go_ret
  exact⟨_,rfl,⟨[],bC.nilv (by unfold maxLen;omega),List.nodup_nil,by simp⟩,aj (aj ai hb1) ai⟩
 ·simp only[if_true]
  go_enter Tryz.func8,Tryz.ntmps8
  go_wp2_with fail
  refine(HV.out _ ai).mono ?_;rintro e w1 ⟨rfl,hb1⟩;have c0:w1.cell? ⟨w.heap.size,0,none⟩=some (.int .i64 k):=ah hb1 (az 0);have c1:w1.cell? ⟨w.heap.size,1,none⟩=some (.string nm):=ah hb1 (az 1);have c2:w1.cell? ⟨w.heap.size,2,none⟩=some (.int .i64 u):=ah hb1 (az 2);have c3:w1.cell? ⟨w.heap.size,3,none⟩=some (.int .i64 tk):=ah hb1 (az 3);have c4:w1.cell? ⟨w.heap.size,4,none⟩=some (.slice ta tn tq):=ah hb1 (az 4);have c5:w1.cell? ⟨w.heap.size,5,none⟩=some (.int .i64 fk):=ah hb1 (az 5);have c6:w1.cell? ⟨w.heap.size,6,none⟩=some (.slice fa fn fq):=ah hb1 (az 6);have c7:w1.cell? ⟨w.heap.size,7,none⟩=some (.int .i64 l):=ah hb1 (az 7);have c8:w1.cell? ⟨w.heap.size,8,none⟩=some (.slice c m q):=ah hb1 (az 8);have lg:=World.block_lt_of_cell? _ _ c0;have HB1:=zq (aj (aj ai hb1) (ai (o:=.cells #[] 3)));have hz1:w.heap.size+1≤w1.heap.size:=by have:=hb1.size;simp at this;omega
  go_wp2_with fail
  refine(HL.out (by simp) _ HB1.out _ (ia (by omega) (heap_alloc_new w1 _))).mono ?_;rintro e w2 ⟨v2,rfl,ho2,hb2⟩;have HO2:=zq ho2;have HB2:=zq (aj HB1.out hb2);obtain⟨c2',q2',rfl⟩:=cj ho2;clear ho2 hb2
  go_wp2_with fail
  go_ret
  obtain⟨fp,h1,h2,h3⟩:=bC.of_row HO2.out
  exact⟨_,rfl,⟨fp,h1,h2,h3⟩,HB2.out⟩
end Go.Proofs.YtfahhonmiimmdaaGreat

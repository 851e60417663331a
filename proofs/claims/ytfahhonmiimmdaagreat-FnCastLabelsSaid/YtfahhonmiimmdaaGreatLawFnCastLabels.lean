/- The law FnCastLabels. -/
import Derived.Test.YtfahhonmiimmdaaGreatB44
set_option linter.unusedSimpArgs false
set_option linter.unusedVariables false
set_option maxRecDepth 100000
set_option maxHeartbeats 16000000
namespace Go.Proofs.YtfahhonmiimmdaaGreat
open Go.RowKit
theorem pairs_gets (xs:List Ty)(h:cO xs=true):xs.length % 2=0∧∀(i:Nat) (he:i % 2=0) (h1:i<xs.length) (h2:i+1<xs.length),(xs[i].valid&&xs[i+1].valid&&xs[i].cons xs[i+1])=true:=by
 obtain⟨p,q⟩:=o9 xs h;refine⟨p,fun i he h1 h2=>?_⟩;obtain⟨k,rfl⟩ : ∃k,i=2*k:=⟨i / 2,by omega⟩
 exact q k h1 h2
theorem Tm.labels_lenB (t:Tm):t.labels.length≤200:=by
 unfold Tm.labels
 split
 ·rename_i h
  have h1:=Tm.labs_len t [];have h2:=Tm.casts_ok h;simp only[List.length_nil] at h1
  omega
 ·simp
theorem Tm.castTypes_lenB (t:Tm)(x:Int):(t.castTypes x).length≤400:=by
 unfold Tm.castTypes
 split
 ·rename_i h
  exact(Tm.ctys_ok x h).1
 ·simp
def oFL16_0:Oper:=⟨some 70,.move (.tmp 6),23,"laws.go:722",#[],none⟩
def oFL16_1:Oper:=⟨some 71,.move (.tmp 7),3,"laws.go:722",#[],none⟩
def oFL16_2:Oper:=⟨some 72,.indexAddr 23 (.tmp 70) (.tmp 71),0,"laws.go:722",#[⟨0,.data⟩,⟨1,.data⟩],none⟩
def oFL16_3:Oper:=⟨some 73,.load 25 (.tmp 72),25,"laws.go:722",#[⟨2,.data⟩],none⟩
def oFL16_4:Oper:=⟨some 74,.move (.tmp 6),23,"laws.go:722",#[],none⟩
def oFL16_5:Oper:=⟨some 75,.move (.tmp 7),3,"laws.go:722",#[],none⟩
def oFL16_6:Oper:=⟨some 76,.binOp .add 3 (.tmp 75) (.const (.int .i64 1)) 3,3,"laws.go:722",#[⟨5,.data⟩],none⟩
def oFL16_7:Oper:=⟨some 77,.indexAddr 23 (.tmp 74) (.tmp 76),0,"laws.go:722",#[⟨4,.data⟩,⟨6,.data⟩],none⟩
def oFL16_8:Oper:=⟨some 78,.load 25 (.tmp 77),25,"laws.go:722",#[⟨7,.data⟩],none⟩
def oFL16_9:Oper:=⟨some 79,.call {callee:=.value (.func 10),args:=#[.tmp 73,.tmp 78],argTypes:=#[25,25]},4,"laws.go:722",#[⟨3,.data⟩,⟨8,.data⟩],none⟩
def oFL16_10:Oper:=⟨some 80,.unOp .not 4 (.tmp 79),4,"laws.go:722",#[⟨9,.data⟩],none⟩
def fe:Oper:=⟨some 32,.move (.tmp 5),3,"laws.go:718",#[],none⟩
def fg:Oper:=⟨some 33,.binOp .gtr 3 (.tmp 32) (.const (.int .i64 0)) 3,4,"laws.go:718",#[⟨0,.data⟩],none⟩
def fh:Oper:=⟨some 34,.move (.tmp 33),4,"laws.go:718",#[⟨1,.data⟩],none⟩
def ga:Oper:=⟨some 35,.move (.tmp 4),30,"laws.go:718",#[⟨2,.guard⟩],some (2,true)⟩
def gb:Oper:=⟨some 36,.move (.tmp 5),3,"laws.go:718",#[⟨2,.guard⟩],some (2,true)⟩
def gc:Oper:=⟨some 37,.binOp .sub 3 (.tmp 36) (.const (.int .i64 1)) 3,3,"laws.go:718",#[⟨4,.data⟩,⟨2,.guard⟩],some (2,true)⟩
def gd:Oper:=⟨some 38,.indexAddr 30 (.tmp 35) (.tmp 37),0,"laws.go:718",#[⟨3,.data⟩,⟨5,.data⟩,⟨2,.guard⟩],some (2,true)⟩
def ge:Oper:=⟨some 39,.load 3 (.tmp 38),3,"laws.go:718",#[⟨6,.data⟩,⟨2,.guard⟩],some (2,true)⟩
def gf:Oper:=⟨some 40,.move (.tmp 4),30,"laws.go:718",#[⟨2,.guard⟩],some (2,true)⟩
def gh:Oper:=⟨some 41,.move (.tmp 5),3,"laws.go:718",#[⟨2,.guard⟩],some (2,true)⟩
def fu:Oper:=⟨some 42,.indexAddr 30 (.tmp 40) (.tmp 41),0,"laws.go:718",#[⟨8,.data⟩,⟨9,.data⟩,⟨2,.guard⟩],some (2,true)⟩
def fw:Oper:=⟨some 43,.load 3 (.tmp 42),3,"laws.go:718",#[⟨10,.data⟩,⟨2,.guard⟩],some (2,true)⟩
def fx:Oper:=⟨some 44,.binOp .geq 3 (.tmp 39) (.tmp 43) 3,4,"laws.go:718",#[⟨7,.data⟩,⟨11,.data⟩,⟨2,.guard⟩],some (2,true)⟩
def er:Oper:=⟨some 45,.pick (.tmp 34) (.tmp 44) (.const (.bool false)),4,"laws.go:718",#[⟨2,.data⟩,⟨12,.data⟩],none⟩
def es:Oper:=⟨some 46,.move (.tmp 45),4,"laws.go:718",#[⟨13,.data⟩,⟨2,.chain⟩],none⟩
def et:Oper:=⟨some 47,.move (.tmp 6),23,"laws.go:718",#[⟨14,.guard⟩],some (14,false)⟩
def eu:Oper:=⟨some 48,.call {callee:=.builtin .len,args:=#[.tmp 47],argTypes:=#[23]},3,"laws.go:718",#[⟨15,.data⟩,⟨14,.guard⟩],some (14,false)⟩
def ew:Oper:=⟨some 49,.binOp .eql 3 (.tmp 48) (.const (.int .i64 0)) 3,4,"laws.go:718",#[⟨16,.data⟩,⟨14,.guard⟩],some (14,false)⟩
def ex:Oper:=⟨some 50,.pick (.tmp 46) (.const (.bool true)) (.tmp 49),4,"laws.go:718",#[⟨14,.data⟩,⟨17,.data⟩],none⟩
def ey:Oper:=⟨some 51,.move (.tmp 50),4,"laws.go:718",#[⟨18,.data⟩,⟨14,.chain⟩],none⟩
def eA:Oper:=⟨some 52,.move (.tmp 6),23,"laws.go:718",#[⟨19,.guard⟩],some (19,false)⟩
def eB:Oper:=⟨some 53,.call {callee:=.builtin .len,args:=#[.tmp 52],argTypes:=#[23]},3,"laws.go:718",#[⟨20,.data⟩,⟨19,.guard⟩],some (19,false)⟩
def eC:Oper:=⟨some 54,.binOp .rem 3 (.tmp 53) (.const (.int .i64 2)) 3,3,"laws.go:718",#[⟨21,.data⟩,⟨19,.guard⟩],some (19,false)⟩
def eD:Oper:=⟨some 55,.binOp .neq 3 (.tmp 54) (.const (.int .i64 0)) 3,4,"laws.go:718",#[⟨22,.data⟩,⟨19,.guard⟩],some (19,false)⟩
def eE:Oper:=⟨some 56,.pick (.tmp 51) (.const (.bool true)) (.tmp 55),4,"laws.go:718",#[⟨19,.data⟩,⟨23,.data⟩],none⟩
def eF:Oper:=⟨some 57,.move (.tmp 56),4,"laws.go:718",#[⟨24,.data⟩,⟨19,.chain⟩],none⟩
def eG:Oper:=⟨some 58,.move (.tmp 4),30,"laws.go:718",#[⟨25,.guard⟩],some (25,false)⟩
def eH:Oper:=⟨some 59,.move (.tmp 5),3,"laws.go:718",#[⟨25,.guard⟩],some (25,false)⟩
def eI:Oper:=⟨some 60,.indexAddr 30 (.tmp 58) (.tmp 59),0,"laws.go:718",#[⟨26,.data⟩,⟨27,.data⟩,⟨25,.guard⟩],some (25,false)⟩
def eJ:Oper:=⟨some 61,.load 3 (.tmp 60),3,"laws.go:718",#[⟨28,.data⟩,⟨25,.guard⟩],some (25,false)⟩
def eK:Oper:=⟨some 62,.binOp .eql 3 (.tmp 61) (.const (.int .i64 0)) 3,4,"laws.go:718",#[⟨29,.data⟩,⟨25,.guard⟩],some (25,false)⟩
def eL:Oper:=⟨some 63,.pick (.tmp 57) (.const (.bool true)) (.tmp 62),4,"laws.go:718",#[⟨25,.data⟩,⟨30,.data⟩],none⟩
def mj:Oper:=⟨some 26,.load 28 (.tmp 3),28,"laws.go:717",#[],none⟩
def mn:Oper:=⟨some 27,.move (.tmp 4),30,"laws.go:717",#[],none⟩
def mo:Oper:=⟨some 28,.move (.tmp 5),3,"laws.go:717",#[],none⟩
def mp:Oper:=⟨some 29,.indexAddr 30 (.tmp 27) (.tmp 28),0,"laws.go:717",#[⟨1,.data⟩,⟨2,.data⟩],none⟩
def mr:Oper:=⟨some 30,.load 3 (.tmp 29),3,"laws.go:717",#[⟨3,.data⟩],none⟩
def ms:Oper:=⟨some 31,.call {callee:=.value (.func 9),args:=#[.tmp 26,.tmp 30],argTypes:=#[28,3]},23,"laws.go:717",#[⟨0,.data⟩,⟨4,.data⟩],none⟩
def mu:Oper:=⟨some 6,.assign (.tmp 31),23,"laws.go:717",#[⟨5,.data⟩,⟨5,.chain⟩,⟨0,.phase⟩,⟨1,.phase⟩,⟨2,.phase⟩,⟨3,.phase⟩,⟨4,.phase⟩,⟨5,.phase⟩],none⟩
theorem walk_FnCastLabels (y0:Value)(w:World)(r0:cd w w.heap.size y0):Calls Tryz.prog 3 #[y0] w fun e w'=>e = .returned (.bool true)∧Below w.heap.size w w':=by
  have HD:=zq (jD y0 w r0);obtain⟨a0,n0,q0,rfl⟩:=r0.shape;clear r0
  rcases Bool.eq_false_or_eq_true (decide ((n0:Int)>1048576)) with hq | hq
  · go_enter Tryz.func3,Tryz.ntmps3
    go_wp2_with fail
    go_ret
    exact⟨rfl,Below.refl _ _⟩
  go_enter Tryz.func3,Tryz.ntmps3
  go_wp2_with fail
  refine HD.out.mono ?_;rintro e w1 ⟨t1,v1,rfl,hc1,hv1,hb1⟩;obtain⟨kt1,nm1,ut1,tk1,ta1,tn1,tq1,fk1,fa1,fn1,fq1,lt1,ct1,mt1,qt1,rfl⟩:=hv1.shape;have HB1:=zq hb1;have HI:=zq (fun W (k:Below w1.heap.size w1 W)=>mc _ t1 _ W (hv1.below k));have HS:=zq (fun W (k:Below w1.heap.size w1 W)=>nM _ t1 _ W (hv1.below k));have HCT:=zq (fun W (k:Below w1.heap.size w1 W) lb=>ol _ t1 lb _ W (hv1.below k));have hlaw:=Tm.labels_law t1;have hlen:=Tm.labels_lenB t1;generalize t1.labels=L at HI HS hlaw hlen
  skip
  obtain⟨n,hn⟩ : ∃n,L.length=n:=⟨_,rfl⟩
  rw[hn] at hlen;have HLAW:=zq hlaw;have HN:=zq hn;clear hv1 hb1 hc1 hq HD hlaw hn;have hB0:Below w1.heap.size w1 (w1.alloc (.cells #[.int .i64 kt1,.string nm1,.int .i64 ut1,.int .i64 tk1,.slice ta1 tn1 tq1,.int .i64 fk1,.slice fa1 fn1 fq1,.int .i64 lt1,.slice ct1 mt1 qt1] 28)):=ai
  go_wp2_with fail
  refine(HI.out _ hB0).mono ?_;rintro e w2 ⟨v,rfl,⟨fp,hl,-,-⟩,hb⟩;have hlr:=hl.rep;obtain⟨la,lq,rfl,-,-,-⟩:=hl;rw[HN.out] at hlr ⊢;have z2:=hb.size;simp only[World.size_alloc] at z2;have fA:w2.heap[w1.heap.size]?=some (.cells #[.int .i64 kt1,.string nm1,.int .i64 ut1,.int .i64 tk1,.slice ta1 tn1 tq1,.int .i64 fk1,.slice fa1 fn1 fq1,.int .i64 lt1,.slice ct1 mt1 qt1] 28 (0,0)):=af (aB rfl) hb;have fB:Hid (Below w1.heap.size w1 w2):=zq (aj hB0 hb);have hL:Hid (cn (fun _=>True) w2 L (.slice la n lq)):=zq (hlr.move (.weaken fun _ _ _=>trivial));clear hlr hb hB0 HI;obtain⟨y0,y1,y2,y3,y4,y5,y6,y7,y8⟩:=blk9 fA;have yl:=aC fA
  go_wp2_with fail
  clear y0 y1 y2 y3 y4 y5 y6 y7 y8 yl;refine(HS.out _ fB.out).mono ?_;rintro e w3 ⟨v,rfl,⟨fp2,hl,-,-⟩,hb⟩;have hlr:=hl.rep;obtain⟨ma,mq,rfl,-,-,-⟩:=hl;rw[HN.out] at hlr ⊢;have z3:=hb.size;have hM:=zq hlr;clear hlr HS;replace fA:=af fA hb;replace fB:=zq (aj fB.out hb);replace hL:=zq (hL.out.below hb);clear hb
  go_wp2_with fail
  refine(uv _ _ L _ _ n _ _ _ HN.out (by omega) hL.out hM.out).mono ?_;rintro e w4 ⟨rfl,hb⟩;clear hM;have zw4:=hb.size;(try simp only[World.size_alloc] at zw4);replace fA:=af fA hb;replace fB:=zq (aj fB.out hb);replace hL:=zq (hL.out.below hb);clear hb
  go_wp2_with fail
  go_loopw [5] (fun s5 wr=>∃j:Nat,j≤n∧s5 = .int .i64 (j:Int)∧w4.heap.size≤wr.heap.size∧Hid (wr.heap[w1.heap.size]?=some (.cells #[.int .i64 kt1,.string nm1,.int .i64 ut1,.int .i64 tk1,.slice ta1 tn1 tq1,.int .i64 fk1,.slice fa1 fn1 fq1,.int .i64 lt1,.slice ct1 mt1 qt1] 28 (0,0)))∧Hid (Below w1.heap.size w1 wr)∧Hid (cn (fun _=>True) wr L (.slice la n lq))) (fun i _=>n-(intOf i).toNat)
  case atStart=>exact⟨0,by omega,rfl,by omega,zq fA,fB,hL⟩
  case round=>
    clear fA fB hL;obtain⟨j,hj,rfl,hsz,fA0,fB,hL⟩:=hrel;have fA:=fA0.out;clear fA0
    by_cases hlt:j<n
    · have hjl:j<L.length:=by rw[HN.out];exact hlt
      obtain⟨b,off,rfl,lb_,e0⟩:=hL.out.at (Below.refl _ _) hjl;obtain⟨x0,xl,xp⟩:=HLAW.out.2 L[j] (List.getElem_mem hjl);have hprev : ∀i (hi:i<L.length),i<j→L[i]<L[j]:=fun i hi hij=>(List.pairwise_iff_getElem.1 HLAW.out.1) i j hi hjl hij;obtain⟨x,hx⟩ : ∃x,L[j]=x:=⟨_,rfl⟩
      rw[hx] at e0 x0 xl xp;simp only[hx] at hprev;obtain⟨p1,p2⟩:=pairs_gets _ xp;have HCX:=zq (fun W k=>HCT.out W k x);have hcl:=Tm.castTypes_lenB t1 x;generalize t1.castTypes x=C at HCX xl p1 p2 hcl;obtain⟨m,hm⟩ : ∃m,C.length=m:=⟨_,rfl⟩
      rw[hm] at xl p1 hcl;have HM:=zq hm;have HPG:=zq p2;have HPR:=zq hprev;have HP1:=zq p1;clear hm p2 xp hx hjl hprev;have hji:(j:Int)<(n:Int):=by omega
      have hj0:(0:Int)≤(j:Int):=by omega
      go_wp2_with fail
      refine wp_region_noPanic ?_;refine wp_region_held_drew (S:=fun w'=>w'.cell? ⟨w1.heap.size,0,none⟩=some (.int .i64 kt1)∧w'.cell? ⟨w1.heap.size,1,none⟩=some (.string nm1)∧w'.cell? ⟨w1.heap.size,2,none⟩=some (.int .i64 ut1)∧w'.cell? ⟨w1.heap.size,3,none⟩=some (.int .i64 tk1)∧w'.cell? ⟨w1.heap.size,4,none⟩=some (.slice ta1 tn1 tq1)∧w'.cell? ⟨w1.heap.size,5,none⟩=some (.int .i64 fk1)∧w'.cell? ⟨w1.heap.size,6,none⟩=some (.slice fa1 fn1 fq1)∧w'.cell? ⟨w1.heap.size,7,none⟩=some (.int .i64 lt1)∧w'.cell? ⟨w1.heap.size,8,none⟩=some (.slice ct1 mt1 qt1)∧w'.cell? ⟨b,off+j,none⟩=some (.int .i64 x)) (by kernel_rfl) ?_ (fun hH0=>?_)
      · exact blk9r fA (e0)
      obtain⟨U2,hU,hb,zU2a,zU2b⟩:=bD wr;rw[hU] at hH0 ⊢;replace fA:=af fA hb;replace fB:=zq (aj fB.out hb);replace hL:=zq (hL.out.below hb);replace e0:=ah hb e0;(try simp only[World.size_alloc] at zU2a zU2b);clear hU hb;refine hwt 0 mj (.agg #[.int .i64 kt1,.string nm1,.int .i64 ut1,.int .i64 tk1,.slice ta1 tn1 tq1,.int .i64 fk1,.slice fa1 fn1 fq1,.int .i64 lt1,.slice ct1 mt1 qt1]) hH0 ?_ ?_
      · intro w' hSw;dsimp only[mj];go_simp
      try simp only[mj,hwA]
      refine hwt 1 mn (.slice (some ⟨b,off,none⟩) n lq) hH0 ?_ ?_
      · intro w' hSw;dsimp only[mn];go_simp
      try simp only[mn,hwA]
      refine hwt 2 mo (.int .i64 (j:Int)) hH0 ?_ ?_
      · intro w' hSw;dsimp only[mo];go_simp
      try simp only[mo,hwA]
      refine hwt 3 mp (.pointer (some ⟨b,off+j,none⟩)) hH0 ?_ ?_
      · intro w' hSw;dsimp only[mp];go_simp
      try simp only[mp,hwA]
      refine hwt 4 mr (.int .i64 x) hH0 ?_ ?_
      · intro w' hSw;dsimp only[mr];go_simp
      try simp only[mr,hwA]
      refine hwr 5 ms (fun K hK=>?_)
      dsimp only[ms];go_simp
      go_at_call 9
      refine(HCX.out _ fB.out).mono ?_;rintro e X1 ⟨v,rfl,hv,hb⟩;have hcr:=hv.rep;obtain⟨cc,cq,hve,-,-,-⟩:=hcr.open;subst hve;rw[HM.out] at hcr ⊢;have hC':Hid (aA (fun _=>True) X1 C (.slice cc m cq)):=zq (hcr.move (.weaken fun _ _ _=>trivial));clear hv hcr
      go_wp2_with fail
      have zX1:U2.heap.size≤X1.heap.size:=hb.size;replace fA:=af fA hb;replace fB:=zq (aj fB.out hb);replace hL:=zq (hL.out.below hb);replace e0:=ah hb e0;have hC:=hC';clear hC';refine hK.out _ _ (blk9r fA (e0)) (fun hH1=>?_);clear hK K hH0 hb
      try simp only[ms,hwA]
      refine hwt 6 mu (.slice cc m cq) hH1 ?_ ?_
      · intro w' hSw;dsimp only[mu];go_simp
      try simp only[mu,hwA]
      refine wpAnyH_done (by kernel_rfl) ?_ _;refine NoPanic.normal ?_;clear hH1
      by_cases hjz:j=0
      ·have hgt:decide ((j:Int)>0)=false:=decide_eq_false (by omega)
       have HJZ:=zq hjz;clear hjz;have hm0:((m:Int)==0)=false:=by simp;omega
       have hm2:((m:Int).tmod 2)=0:=by rw[Int.tmod_eq_emod_of_nonneg (by omega)];omega
       have hx0:(x==0)=false:=by simpa using x0
       go_wp2_with fail
       refine wp_region_noPanic ?_;refine wp_region_held_drew (S:=fun w'=>w'.cell? ⟨b,off+j,none⟩=some (.int .i64 x)) (by kernel_rfl) ?_ (fun hH0=>?_)
       · exact e0
       obtain⟨U3,hU,hb,zU3a,zU3b⟩:=bD X1;rw[hU] at hH0 ⊢;replace fA:=af fA hb;replace fB:=zq (aj fB.out hb);replace hL:=zq (hL.out.below hb);replace e0:=ah hb e0;replace hC:=zq (hC.out.below hb);(try simp only[World.size_alloc] at zU3a zU3b);clear hU hb;refine hwt 0 fe (.int .i64 (j:Int)) hH0 ?_ ?_
       · intro w' hSw;dsimp only[fe];go_simp
       try simp only[fe,hwA]
       refine hwt 1 fg (.bool false) hH0 ?_ ?_
       · intro w' hSw;dsimp only[fg];go_simp;exact HJZ.out
       try simp only[fg,hwA]
       refine hwt 2 fh (.bool false) hH0 ?_ ?_
       · intro w' hSw;dsimp only[fh];go_simp
       try simp only[fh,hwA]
       refine hwn 3 ga hH0 ?_
       try simp only[ga,hwA]
       refine hwn 4 gb hH0 ?_
       try simp only[gb,hwA]
       refine hwn 5 gc hH0 ?_
       try simp only[gc,hwA]
       refine hwn 6 gd hH0 ?_
       try simp only[gd,hwA]
       refine hwn 7 ge hH0 ?_
       try simp only[ge,hwA]
       refine hwn 8 gf hH0 ?_
       try simp only[gf,hwA]
       refine hwn 9 gh hH0 ?_
       try simp only[gh,hwA]
       refine hwn 10 fu hH0 ?_
       try simp only[fu,hwA]
       refine hwn 11 fw hH0 ?_
       try simp only[fw,hwA]
       refine hwn 12 fx hH0 ?_
       try simp only[fx,hwA]
       refine hwt 13 er (.bool false) hH0 ?_ ?_
       · intro w' hSw;dsimp only[er];go_simp
       try simp only[er,hwA]
       refine hwt 14 es (.bool false) hH0 ?_ ?_
       · intro w' hSw;dsimp only[es];go_simp
       try simp only[es,hwA]
       refine hwt 15 et (.slice cc m cq) hH0 ?_ ?_
       · intro w' hSw;dsimp only[et];go_simp
       try simp only[et,hwA]
       refine hwt 16 eu (.int .i64 (m:Int)) hH0 ?_ ?_
       · intro w' hSw;dsimp only[eu];go_simp
       try simp only[eu,hwA]
       refine hwt 17 ew (.bool false) hH0 ?_ ?_
       · intro w' hSw;dsimp only[ew];go_simp
       try simp only[ew,hwA]
       refine hwt 18 ex (.bool false) hH0 ?_ ?_
       · intro w' hSw;dsimp only[ex];go_simp
       try simp only[ex,hwA]
       refine hwt 19 ey (.bool false) hH0 ?_ ?_
       · intro w' hSw;dsimp only[ey];go_simp
       try simp only[ey,hwA]
       refine hwt 20 eA (.slice cc m cq) hH0 ?_ ?_
       · intro w' hSw;dsimp only[eA];go_simp
       try simp only[eA,hwA]
       refine hwt 21 eB (.int .i64 (m:Int)) hH0 ?_ ?_
       · intro w' hSw;dsimp only[eB];go_simp
       try simp only[eB,hwA]
       refine hwt 22 eC (.int .i64 0) hH0 ?_ ?_
       · intro w' hSw;dsimp only[eC];go_simp
       try simp only[eC,hwA]
       refine hwt 23 eD (.bool false) hH0 ?_ ?_
       · intro w' hSw;dsimp only[eD];go_simp
       try simp only[eD,hwA]
       refine hwt 24 eE (.bool false) hH0 ?_ ?_
       · intro w' hSw;dsimp only[eE];go_simp
       try simp only[eE,hwA]
       refine hwt 25 eF (.bool false) hH0 ?_ ?_
       · intro w' hSw;dsimp only[eF];go_simp
       try simp only[eF,hwA]
       refine hwt 26 eG (.slice (some ⟨b,off,none⟩) n lq) hH0 ?_ ?_
       · intro w' hSw;dsimp only[eG];go_simp
       try simp only[eG,hwA]
       refine hwt 27 eH (.int .i64 (j:Int)) hH0 ?_ ?_
       · intro w' hSw;dsimp only[eH];go_simp
       try simp only[eH,hwA]
       refine hwt 28 eI (.pointer (some ⟨b,off+j,none⟩)) hH0 ?_ ?_
       · intro w' hSw;dsimp only[eI];go_simp
       try simp only[eI,hwA]
       refine hwt 29 eJ (.int .i64 x) hH0 ?_ ?_
       · intro w' hSw;dsimp only[eJ];go_simp
       try simp only[eJ,hwA]
       refine hwt 30 eK (.bool false) hH0 ?_ ?_
       · intro w' hSw;dsimp only[eK];go_simp
       try simp only[eK,hwA]
       refine hwt 31 eL (.bool false) hH0 ?_ ?_
       · intro w' hSw;dsimp only[eL];go_simp
       try simp only[eL,hwA]
       refine wpAnyH_done (by kernel_rfl) ?_ _;refine NoPanic.normal ?_;clear hH0
       go_wp2_with fail
       go_loopw [7] (fun s7 wr=>∃i2:Nat,i2≤m∧Hid (i2 % 2=0)∧s7 = .int .i64 (i2:Int)∧U3.heap.size≤wr.heap.size∧Hid (wr.heap[w1.heap.size]?=some (.cells #[.int .i64 kt1,.string nm1,.int .i64 ut1,.int .i64 tk1,.slice ta1 tn1 tq1,.int .i64 fk1,.slice fa1 fn1 fq1,.int .i64 lt1,.slice ct1 mt1 qt1] 28 (0,0)))∧Hid (Below w1.heap.size w1 wr)∧Hid (cn (fun _=>True) wr L (.slice (some ⟨b,off,none⟩) n lq))∧Hid (aA (fun _=>True) wr C (.slice cc m cq))) (fun q _=>m-(intOf q).toNat)
       case atStart=>exact⟨0,by omega,zq rfl,rfl,Nat.le_refl _,zq fA,fB,hL,hC⟩
       case round=>
        clear fA fB hL hC;obtain⟨i2,hk,HE,rfl,hsz2,fA0,fB,hL,hC⟩:=hrel;have fA:=fA0.out;clear fA0
        by_cases hlk:i2<m
        ·have hk1:i2+1<m:=by have:=HE.out;have:=HP1.out;omega
         have hl1:i2<C.length:=by rw[HM.out];exact hlk
         have hl2:i2+1<C.length:=by rw[HM.out];exact hk1
         obtain⟨bc,oc,k5,c5,m5,q5,rfl,lbc,r0,r1,hr⟩:=hC.out.at (Below.refl _ _) hl1;obtain⟨bd,od,k6,c6,m6,q6,hbd,lbd,s0,s1,hs⟩:=hC.out.at (Below.refl _ _) hl2;simp only[Option.some.injEq,Addr.mk.injEq,and_true] at hbd;obtain⟨rfl,rfl⟩:=hbd;have hpg:=HPG.out i2 HE.out hl1 hl2;obtain⟨ci,hci⟩ : ∃c,C[i2]=c:=⟨_,rfl⟩
         obtain⟨cj,hcj⟩ : ∃c,C[i2+1]=c:=⟨_,rfl⟩
         rw[hci] at hpg hr;rw[hcj] at hpg hs;have h5_:Hid (ao (fun _=>True) wr ci (.agg #[.int .i64 k5,.slice c5 m5 q5])):=zq hr;have h6_:Hid (ao (fun _=>True) wr cj (.agg #[.int .i64 k6,.slice c6 m6 q6])):=zq hs;have HPC:=zq hpg;obtain⟨i3,hi3⟩ : ∃i3,i2+1=i3:=⟨_,rfl⟩
         simp only[hi3] at s0 s1;rw[hi3] at hk1;have hk2:(i2:Int)<(m:Int):=by omega
         have hk0:(0:Int)≤(i2:Int):=by omega
         have hk3:(i3:Int)<(m:Int):=by omega
         have hk4:(0:Int)≤(i3:Int):=by omega
         have HWK:=zq (show IntKind.i64.wrap ((i2:Int)+1)=(i3:Int) from by rw[IntWalk.i64_in ((i2:Int)+1) (by omega)];omega);clear hpg hr hs hci hcj hl1 hl2 hi3
         go_wp2_with fail
         refine wp_region_noPanic ?_;refine wp_region_held_drew (S:=fun w'=>w'.cell? ⟨bc,oc+i2*2,none⟩=some (.int .i64 k5)∧w'.cell? ⟨bc,oc+i2*2+1,none⟩=some (.slice c5 m5 q5)∧w'.cell? ⟨bc,oc+i3*2,none⟩=some (.int .i64 k6)∧w'.cell? ⟨bc,oc+i3*2+1,none⟩=some (.slice c6 m6 q6)) (by kernel_rfl) ?_ (fun hH0=>?_)
         · exact⟨r0,r1,s0,s1⟩
         obtain⟨U4,hU,hb,zU4a,zU4b⟩:=bD wr;rw[hU] at hH0 ⊢;replace fA:=af fA hb;replace fB:=zq (aj fB.out hb);replace hL:=zq (hL.out.below hb);replace hC:=zq (hC.out.below hb);replace r0:=ah hb r0;replace r1:=ah hb r1;replace s0:=ah hb s0;replace s1:=ah hb s1;replace h5_:=zq (h5_.out.below hb);replace h6_:=zq (h6_.out.below hb);(try simp only[World.size_alloc] at zU4a zU4b);clear hU hb;refine hwt 0 oFL16_0 (.slice (some ⟨bc,oc,none⟩) m cq) hH0 ?_ ?_
         · intro w' hSw;dsimp only[oFL16_0];go_simp
         try simp only[oFL16_0,hwA]
         refine hwt 1 oFL16_1 (.int .i64 (i2:Int)) hH0 ?_ ?_
         · intro w' hSw;dsimp only[oFL16_1];go_simp
         try simp only[oFL16_1,hwA]
         refine hwt 2 oFL16_2 (.pointer (some ⟨bc,oc+i2*2,none⟩)) hH0 ?_ ?_
         · intro w' hSw;dsimp only[oFL16_2];go_simp
         try simp only[oFL16_2,hwA]
         refine hwt 3 oFL16_3 (.agg #[.int .i64 k5,.slice c5 m5 q5]) hH0 ?_ ?_
         · intro w' hSw;dsimp only[oFL16_3];go_simp
         try simp only[oFL16_3,hwA]
         refine hwt 4 oFL16_4 (.slice (some ⟨bc,oc,none⟩) m cq) hH0 ?_ ?_
         · intro w' hSw;dsimp only[oFL16_4];go_simp
         try simp only[oFL16_4,hwA]
         refine hwt 5 oFL16_5 (.int .i64 (i2:Int)) hH0 ?_ ?_
         · intro w' hSw;dsimp only[oFL16_5];go_simp
         try simp only[oFL16_5,hwA]
         refine hwt 6 oFL16_6 (.int .i64 (i3:Int)) hH0 ?_ ?_
         · intro w' hSw;dsimp only[oFL16_6];go_simp;exact HWK.out
         try simp only[oFL16_6,hwA]
         refine hwt 7 oFL16_7 (.pointer (some ⟨bc,oc+i3*2,none⟩)) hH0 ?_ ?_
         · intro w' hSw;dsimp only[oFL16_7];go_simp
         try simp only[oFL16_7,hwA]
         refine hwt 8 oFL16_8 (.agg #[.int .i64 k6,.slice c6 m6 q6]) hH0 ?_ ?_
         · intro w' hSw;dsimp only[oFL16_8];go_simp
         try simp only[oFL16_8,hwA]
         refine hwr 9 oFL16_9 (fun K hK=>?_)
         dsimp only[oFL16_9];go_simp
         go_at_call 10
         have HCO:=ep _ _ _ _ _ _ U4 h5_.out h6_.out;rw[HPC.out] at HCO;refine HCO.mono ?_;rintro e X82 ⟨rfl,hb⟩;clear HCO
         go_wp2_with fail
         have zX82:U4.heap.size≤X82.heap.size:=hb.size;replace fA:=af fA hb;replace fB:=zq (aj fB.out hb);replace hL:=zq (hL.out.below hb);replace hC:=zq (hC.out.below hb);replace r0:=ah hb r0;replace r1:=ah hb r1;replace s0:=ah hb s0;replace s1:=ah hb s1;replace h5_:=zq (h5_.out.below hb);replace h6_:=zq (h6_.out.below hb);refine hK.out _ _ ⟨r0,r1,s0,s1⟩ (fun hH102=>?_);clear hK K hH0 hb
         try simp only[oFL16_9,hwA]
         refine hwt 10 oFL16_10 (.bool false) hH102 ?_ ?_
         · intro w' hSw;dsimp only[oFL16_10];go_simp
         try simp only[oFL16_10,hwA]
         refine wpAnyH_done (by kernel_rfl) ?_ _;refine NoPanic.normal ?_;clear hH102
         go_wp2_with fail
         go_roundw
         case rel=>exact⟨i2+2,by have:=HE.out;have:=HP1.out;omega,zq (by have:=HE.out;omega),by go_num,by omega,zq fA,fB,hL,hC⟩
         case measure=>simp[intOf];omega
        ·go_wp2_with fail
         go_roundw
         case rel=>exact⟨j+1,by omega,by go_num,by omega,zq fA,fB,hL⟩
         case measure=>simp[intOf];omega
      ·have hjp:0<j:=by omega
       obtain⟨i,hij⟩ : ∃i,i+1=j:=⟨j-1,by omega⟩
       have HWI:=zq (show IntKind.i64.wrap ((j:Int)-1)=(i:Int) from by rw[IntWalk.i64_in ((j:Int)-1) (by omega)];omega);have HIJ:=zq hij;have hil:i<L.length:=by rw[HN.out];omega
       obtain⟨b',off',hbe,lb2,e1⟩:=hL.out.at (Below.refl _ _) hil;simp only[Option.some.injEq,Addr.mk.injEq,and_true] at hbe;obtain⟨rfl,rfl⟩:=hbe;have hpx:=HPR.out i hil (by omega);obtain⟨p,hp⟩ : ∃p,L[i]=p:=⟨_,rfl⟩
       rw[hp] at e1 hpx;have hiI:(i:Int)<(n:Int):=by omega
       have hiz:(0:Int)≤(i:Int):=by omega
       clear hp hil hij;have hm0:((m:Int)==0)=false:=by simp;omega
       have hm2:((m:Int).tmod 2)=0:=by rw[Int.tmod_eq_emod_of_nonneg (by omega)];omega
       have hx0:(x==0)=false:=by simpa using x0
       have hgt:decide ((j:Int)>0)=true:=decide_eq_true (by omega);have hge:decide (p≥x)=false:=decide_eq_false (by omega)
       go_wp2_with fail
       refine wp_region_noPanic ?_;refine wp_region_held_drew (S:=fun w'=>w'.cell? ⟨b,off+j,none⟩=some (.int .i64 x)∧w'.cell? ⟨b,off+i,none⟩=some (.int .i64 p)) (by kernel_rfl) ?_ (fun hH0=>?_)
       · exact⟨e0,e1⟩
       obtain⟨U5,hU,hb,zU5a,zU5b⟩:=bD X1;rw[hU] at hH0 ⊢;replace fA:=af fA hb;replace fB:=zq (aj fB.out hb);replace hL:=zq (hL.out.below hb);replace e0:=ah hb e0;replace hC:=zq (hC.out.below hb);replace e1:=ah hb e1;(try simp only[World.size_alloc] at zU5a zU5b);clear hU hb;refine hwt 0 fe (.int .i64 (j:Int)) hH0 ?_ ?_
       · intro w' hSw;dsimp only[fe];go_simp
       try simp only[fe,hwA]
       refine hwt 1 fg (.bool true) hH0 ?_ ?_
       · intro w' hSw;dsimp only[fg];go_simp
       try simp only[fg,hwA]
       refine hwt 2 fh (.bool true) hH0 ?_ ?_
       · intro w' hSw;dsimp only[fh];go_simp
       try simp only[fh,hwA]
       refine hwt 3 ga (.slice (some ⟨b,off,none⟩) n lq) hH0 ?_ ?_
       · intro w' hSw;dsimp only[ga];go_simp
       try simp only[ga,hwA]
       refine hwt 4 gb (.int .i64 (j:Int)) hH0 ?_ ?_
       · intro w' hSw;dsimp only[gb];go_simp
       try simp only[gb,hwA]
       refine hwt 5 gc (.int .i64 (i:Int)) hH0 ?_ ?_
       · intro w' hSw;dsimp only[gc];go_simp;exact HWI.out
       try simp only[gc,hwA]
       refine hwt 6 gd (.pointer (some ⟨b,off+i,none⟩)) hH0 ?_ ?_
       · intro w' hSw;dsimp only[gd];go_simp
       try simp only[gd,hwA]
       refine hwt 7 ge (.int .i64 p) hH0 ?_ ?_
       · intro w' hSw;dsimp only[ge];go_simp
       try simp only[ge,hwA]
       refine hwt 8 gf (.slice (some ⟨b,off,none⟩) n lq) hH0 ?_ ?_
       · intro w' hSw;dsimp only[gf];go_simp
       try simp only[gf,hwA]
       refine hwt 9 gh (.int .i64 (j:Int)) hH0 ?_ ?_
       · intro w' hSw;dsimp only[gh];go_simp
       try simp only[gh,hwA]
       refine hwt 10 fu (.pointer (some ⟨b,off+j,none⟩)) hH0 ?_ ?_
       · intro w' hSw;dsimp only[fu];go_simp
       try simp only[fu,hwA]
       refine hwt 11 fw (.int .i64 x) hH0 ?_ ?_
       · intro w' hSw;dsimp only[fw];go_simp
       try simp only[fw,hwA]
       refine hwt 12 fx (.bool false) hH0 ?_ ?_
       · intro w' hSw;dsimp only[fx];go_simp
       try simp only[fx,hwA]
       refine hwt 13 er (.bool false) hH0 ?_ ?_
       · intro w' hSw;dsimp only[er];go_simp
       try simp only[er,hwA]
       refine hwt 14 es (.bool false) hH0 ?_ ?_
       · intro w' hSw;dsimp only[es];go_simp
       try simp only[es,hwA]
       refine hwt 15 et (.slice cc m cq) hH0 ?_ ?_
       · intro w' hSw;dsimp only[et];go_simp
       try simp only[et,hwA]
       refine hwt 16 eu (.int .i64 (m:Int)) hH0 ?_ ?_
       · intro w' hSw;dsimp only[eu];go_simp
       try simp only[eu,hwA]
       refine hwt 17 ew (.bool false) hH0 ?_ ?_
       · intro w' hSw;dsimp only[ew];go_simp
       try simp only[ew,hwA]
       refine hwt 18 ex (.bool false) hH0 ?_ ?_
       · intro w' hSw;dsimp only[ex];go_simp
       try simp only[ex,hwA]
       refine hwt 19 ey (.bool false) hH0 ?_ ?_
       · intro w' hSw;dsimp only[ey];go_simp
       try simp only[ey,hwA]
       refine hwt 20 eA (.slice cc m cq) hH0 ?_ ?_
       · intro w' hSw;dsimp only[eA];go_simp
       try simp only[eA,hwA]
       refine hwt 21 eB (.int .i64 (m:Int)) hH0 ?_ ?_
       · intro w' hSw;dsimp only[eB];go_simp
       try simp only[eB,hwA]
       refine hwt 22 eC (.int .i64 0) hH0 ?_ ?_
       · intro w' hSw;dsimp only[eC];go_simp
       try simp only[eC,hwA]
       refine hwt 23 eD (.bool false) hH0 ?_ ?_
       · intro w' hSw;dsimp only[eD];go_simp
       try simp only[eD,hwA]
       refine hwt 24 eE (.bool false) hH0 ?_ ?_
       · intro w' hSw;dsimp only[eE];go_simp
       try simp only[eE,hwA]
       refine hwt 25 eF (.bool false) hH0 ?_ ?_
       · intro w' hSw;dsimp only[eF];go_simp
       try simp only[eF,hwA]
       refine hwt 26 eG (.slice (some ⟨b,off,none⟩) n lq) hH0 ?_ ?_
       · intro w' hSw;dsimp only[eG];go_simp
       try simp only[eG,hwA]
       refine hwt 27 eH (.int .i64 (j:Int)) hH0 ?_ ?_
       · intro w' hSw;dsimp only[eH];go_simp
       try simp only[eH,hwA]
       refine hwt 28 eI (.pointer (some ⟨b,off+j,none⟩)) hH0 ?_ ?_
       · intro w' hSw;dsimp only[eI];go_simp
       try simp only[eI,hwA]
       refine hwt 29 eJ (.int .i64 x) hH0 ?_ ?_
       · intro w' hSw;dsimp only[eJ];go_simp
       try simp only[eJ,hwA]
       refine hwt 30 eK (.bool false) hH0 ?_ ?_
       · intro w' hSw;dsimp only[eK];go_simp
       try simp only[eK,hwA]
       refine hwt 31 eL (.bool false) hH0 ?_ ?_
       · intro w' hSw;dsimp only[eL];go_simp
       try simp only[eL,hwA]
       refine wpAnyH_done (by kernel_rfl) ?_ _;refine NoPanic.normal ?_;clear hH0
       go_wp2_with fail
       go_loopw [7] (fun s7 wr=>∃i2:Nat,i2≤m∧Hid (i2 % 2=0)∧s7 = .int .i64 (i2:Int)∧U5.heap.size≤wr.heap.size∧Hid (wr.heap[w1.heap.size]?=some (.cells #[.int .i64 kt1,.string nm1,.int .i64 ut1,.int .i64 tk1,.slice ta1 tn1 tq1,.int .i64 fk1,.slice fa1 fn1 fq1,.int .i64 lt1,.slice ct1 mt1 qt1] 28 (0,0)))∧Hid (Below w1.heap.size w1 wr)∧Hid (cn (fun _=>True) wr L (.slice (some ⟨b,off,none⟩) n lq))∧Hid (aA (fun _=>True) wr C (.slice cc m cq))) (fun q _=>m-(intOf q).toNat)
       case atStart=>exact⟨0,by omega,zq rfl,rfl,Nat.le_refl _,zq fA,fB,hL,hC⟩
       case round=>
        clear fA fB hL hC;obtain⟨i2,hk,HE,rfl,hsz2,fA0,fB,hL,hC⟩:=hrel;have fA:=fA0.out;clear fA0
        by_cases hlk:i2<m
        ·have hk1:i2+1<m:=by have:=HE.out;have:=HP1.out;omega
         have hl1:i2<C.length:=by rw[HM.out];exact hlk
         have hl2:i2+1<C.length:=by rw[HM.out];exact hk1
         obtain⟨bc,oc,k5,c5,m5,q5,rfl,lbc,r0,r1,hr⟩:=hC.out.at (Below.refl _ _) hl1;obtain⟨bd,od,k6,c6,m6,q6,hbd,lbd,s0,s1,hs⟩:=hC.out.at (Below.refl _ _) hl2;simp only[Option.some.injEq,Addr.mk.injEq,and_true] at hbd;obtain⟨rfl,rfl⟩:=hbd;have hpg:=HPG.out i2 HE.out hl1 hl2;obtain⟨ci,hci⟩ : ∃c,C[i2]=c:=⟨_,rfl⟩
         obtain⟨cj,hcj⟩ : ∃c,C[i2+1]=c:=⟨_,rfl⟩
         rw[hci] at hpg hr;rw[hcj] at hpg hs;have h5_:Hid (ao (fun _=>True) wr ci (.agg #[.int .i64 k5,.slice c5 m5 q5])):=zq hr;have h6_:Hid (ao (fun _=>True) wr cj (.agg #[.int .i64 k6,.slice c6 m6 q6])):=zq hs;have HPC:=zq hpg;obtain⟨i3,hi3⟩ : ∃i3,i2+1=i3:=⟨_,rfl⟩
         simp only[hi3] at s0 s1;rw[hi3] at hk1;have hk2:(i2:Int)<(m:Int):=by omega
         have hk0:(0:Int)≤(i2:Int):=by omega
         have hk3:(i3:Int)<(m:Int):=by omega
         have hk4:(0:Int)≤(i3:Int):=by omega
         have HWK:=zq (show IntKind.i64.wrap ((i2:Int)+1)=(i3:Int) from by rw[IntWalk.i64_in ((i2:Int)+1) (by omega)];omega);clear hpg hr hs hci hcj hl1 hl2 hi3
         go_wp2_with fail
         refine wp_region_noPanic ?_;refine wp_region_held_drew (S:=fun w'=>w'.cell? ⟨bc,oc+i2*2,none⟩=some (.int .i64 k5)∧w'.cell? ⟨bc,oc+i2*2+1,none⟩=some (.slice c5 m5 q5)∧w'.cell? ⟨bc,oc+i3*2,none⟩=some (.int .i64 k6)∧w'.cell? ⟨bc,oc+i3*2+1,none⟩=some (.slice c6 m6 q6)) (by kernel_rfl) ?_ (fun hH0=>?_)
         · exact⟨r0,r1,s0,s1⟩
         obtain⟨U6,hU,hb,zU6a,zU6b⟩:=bD wr;rw[hU] at hH0 ⊢;replace fA:=af fA hb;replace fB:=zq (aj fB.out hb);replace hL:=zq (hL.out.below hb);replace hC:=zq (hC.out.below hb);replace r0:=ah hb r0;replace r1:=ah hb r1;replace s0:=ah hb s0;replace s1:=ah hb s1;replace h5_:=zq (h5_.out.below hb);replace h6_:=zq (h6_.out.below hb);(try simp only[World.size_alloc] at zU6a zU6b);clear hU hb;refine hwt 0 oFL16_0 (.slice (some ⟨bc,oc,none⟩) m cq) hH0 ?_ ?_
         · intro w' hSw;dsimp only[oFL16_0];go_simp
         try simp only[oFL16_0,hwA]
         refine hwt 1 oFL16_1 (.int .i64 (i2:Int)) hH0 ?_ ?_
         · intro w' hSw;dsimp only[oFL16_1];go_simp
         try simp only[oFL16_1,hwA]
         refine hwt 2 oFL16_2 (.pointer (some ⟨bc,oc+i2*2,none⟩)) hH0 ?_ ?_
         · intro w' hSw;dsimp only[oFL16_2];go_simp
         try simp only[oFL16_2,hwA]
         refine hwt 3 oFL16_3 (.agg #[.int .i64 k5,.slice c5 m5 q5]) hH0 ?_ ?_
         · intro w' hSw;dsimp only[oFL16_3];go_simp
         try simp only[oFL16_3,hwA]
         refine hwt 4 oFL16_4 (.slice (some ⟨bc,oc,none⟩) m cq) hH0 ?_ ?_
         · intro w' hSw;dsimp only[oFL16_4];go_simp
         try simp only[oFL16_4,hwA]
         refine hwt 5 oFL16_5 (.int .i64 (i2:Int)) hH0 ?_ ?_
         · intro w' hSw;dsimp only[oFL16_5];go_simp
         try simp only[oFL16_5,hwA]
         refine hwt 6 oFL16_6 (.int .i64 (i3:Int)) hH0 ?_ ?_
         · intro w' hSw;dsimp only[oFL16_6];go_simp;exact HWK.out
         try simp only[oFL16_6,hwA]
         refine hwt 7 oFL16_7 (.pointer (some ⟨bc,oc+i3*2,none⟩)) hH0 ?_ ?_
         · intro w' hSw;dsimp only[oFL16_7];go_simp
         try simp only[oFL16_7,hwA]
         refine hwt 8 oFL16_8 (.agg #[.int .i64 k6,.slice c6 m6 q6]) hH0 ?_ ?_
         · intro w' hSw;dsimp only[oFL16_8];go_simp
         try simp only[oFL16_8,hwA]
         refine hwr 9 oFL16_9 (fun K hK=>?_)
         dsimp only[oFL16_9];go_simp
         go_at_call 10
         have HCO:=ep _ _ _ _ _ _ U6 h5_.out h6_.out;rw[HPC.out] at HCO;refine HCO.mono ?_;rintro e X62 ⟨rfl,hb⟩;clear HCO
         go_wp2_with fail
         have zX62:U6.heap.size≤X62.heap.size:=hb.size;replace fA:=af fA hb;replace fB:=zq (aj fB.out hb);replace hL:=zq (hL.out.below hb);replace hC:=zq (hC.out.below hb);replace r0:=ah hb r0;replace r1:=ah hb r1;replace s0:=ah hb s0;replace s1:=ah hb s1;replace h5_:=zq (h5_.out.below hb);replace h6_:=zq (h6_.out.below hb);refine hK.out _ _ ⟨r0,r1,s0,s1⟩ (fun hH82=>?_);clear hK K hH0 hb
         try simp only[oFL16_9,hwA]
         refine hwt 10 oFL16_10 (.bool false) hH82 ?_ ?_
         · intro w' hSw;dsimp only[oFL16_10];go_simp
         try simp only[oFL16_10,hwA]
         refine wpAnyH_done (by kernel_rfl) ?_ _;refine NoPanic.normal ?_;clear hH82
         go_wp2_with fail
         go_roundw
         case rel=>exact⟨i2+2,by have:=HE.out;have:=HP1.out;omega,zq (by have:=HE.out;omega),by go_num,by omega,zq fA,fB,hL,hC⟩
         case measure=>simp[intOf];omega
        ·go_wp2_with fail
         go_roundw
         case rel=>exact⟨j+1,by omega,by go_num,by omega,zq fA,fB,hL⟩
         case measure=>simp[intOf];omega
    · go_wp2_with fail
      go_ret
      exact⟨rfl,aj HB1.out fB.out⟩
end Go.Proofs.YtfahhonmiimmdaaGreat

/- spec.l3More: a context with another binding, its blocks named. And what else its parts name. -/
import Derived.Test.YtfahhonmiimmdaaGreatB13
import Derived.Test.YtfahhonmiimmdaaGreatB19
set_option linter.unusedSimpArgs false
set_option linter.unusedVariables false
set_option maxRecDepth 100000
set_option maxHeartbeats 16000000
namespace Go.Proofs.YtfahhonmiimmdaaGreat
open Go.RowKit
def j6 (Q:Nat→Prop)(l:List Bd)(w:World)(e:Ending)(w':World):Prop:=∃(a:Addr) (m q:Nat),e = .returned (.slice (some a) m q)∧aL (fun x=>(Q x∧x<w.heap.size)∨w.heap.size≤x) w' l (.slice (some a) m q)∧Below w.heap.size w w'
theorem eY (Q:Nat→Prop)(l:List Bd)(ad:Addr)(n q:Nat)(nm:ByteArray)(ty:Ty)(tk:Int)(ta:Option Addr)(tn tq:Nat)(w:World)(hy:aL Q w l (.slice (some ad) n q))(hl:l.length≤1000000)(hl1:1≤l.length)(hnm:nm.size≤maxLen)(ht:ap Q w ty (.agg #[.int .i64 tk,.slice ta tn tq])) :
  Calls Tryz.prog 109 #[.slice (some ad) n q,.string nm,.agg #[.int .i64 tk,.slice ta tn tq]] w (j6 Q (l ++ [⟨nm,ty⟩]) w):=by
 obtain⟨i0,hi,hz0,hz1,hz2⟩:=info_parts Tryz.infoBdC;have Z0:=zq hz0;have Z1:=zq hz1;have Z2:=zq hz2;have HI:=zq hi;have hn:=hy.n_eq;have HN:=zq hn.symm;have hn1:0<n:=by omega
 have hn2:n≤1000000:=by omega
 have HY:=zq (hy.move (.weaken (G:=(fun x=>Q x∧x<w.heap.size)) fun b h hl=>⟨h,hl⟩));have HT:=zq (ht.move (.weaken (G:=(fun x=>Q x∧x<w.heap.size)) fun b h hl=>⟨h,hl⟩));clear hi hz0 hz1 hz2 hn hy ht
 go_enter Tryz.func109,Tryz.ntmps109
 go_wp2_with fail
 have fB:(w.alloc (.cells #[.int .i64 tk,.slice ta tn tq] 25)).heap[w.heap.size]?=some (.cells #[.int .i64 tk,.slice ta tn tq] 25 (0,0)):=aF rfl;have fC:=zq (show Below w.heap.size w (w.alloc (.cells #[.int .i64 tk,.slice ta tn tq] 25)) from aj);refine wp_region_noPanic ?_;refine wp_region_held_drew (S:=fun w'=>w'.cell? ⟨w.heap.size,0,none⟩=some (.int .i64 tk)∧w'.cell? ⟨w.heap.size,1,none⟩=some (.slice ta tn tq)) (by kernel_rfl) ?_ (fun hH0=>?_)
 ·exact⟨ay (ah fB (o:=0) rfl),ay (ah fB (o:=1) rfl)⟩
 obtain⟨U,hU⟩ : ∃X:World,X=World.drew (w.alloc (.cells #[.int .i64 tk,.slice ta tn tq] 25)):=⟨_,rfl⟩
 have fB':U.heap[w.heap.size]?=some (.cells #[.int .i64 tk,.slice ta tn tq] 25 (0,0)):=by rw[hU];exact fB
 have fC':=zq (show Below w.heap.size w U from by rw[hU];exact fC.out.drew);have zU:U.heap.size=w.heap.size+1:=by rw[hU];simp
 rw[←hU] at hH0 ⊢;have zUa:w.heap.size+1≤U.heap.size:=by omega
 have zUb:U.heap.size≤w.heap.size+1:=by omega
 clear zU;clear hU fB fC;have fB:=fB';have fC:=fC';clear fB' fC';refine hwt 1 oM1 (.slice (some ad) n q) hH0 ?_ ?_
 ·intro w' hSw;dsimp only[oM1];go_simp
 try simp only[oM1,hwA]
 refine hwt 3 oM3 (.string nm) hH0 ?_ ?_
 ·intro w' hSw;dsimp only[oM3];go_simp
 try simp only[oM3,hwA]
 refine hwt 4 oM4 (.agg #[.int .i64 tk,.slice ta tn tq]) hH0 ?_ ?_
 ·intro w' hSw;dsimp only[oM4];go_simp
 try simp only[oM4,hwA]
 refine hwt 5 oM5 (.agg #[.string nm,.int .i64 tk,.slice ta tn tq]) hH0 ?_ ?_
 ·intro w' hSw;dsimp only[oM5];go_simp
 try simp only[oM5,hwA]
 refine wpAnyH_ready (rs:= [0,6]) (by kernel_rfl) (by simp) ?_;refine(AllReadyH.cons (o:=oM0) rfl (fun K hK=>?_) (AllReadyH.cons (o:=oM6) rfl (fun K hK=>?_) AllReadyH.nil))
 ·skip
  dsimp only[oM0]
  go_simp
  (try go_wp2_with fail);have fE2:(U.alloc (.cells #[] 99)).heap[U.heap.size]?=some (.cells #[] 99 (0,0)):=aF rfl;have fB2:=ag fB (aj (o:=.cells #[] 99));have fC2:=zq (al fC.out (aj (o:=.cells #[] 99)));have hzW2:(U.alloc (.cells #[] 99)).heap.size=U.heap.size+1:=by simp
  refine hK.out _ _ ⟨ah fB2 (o:=0) rfl,ah fB2 (o:=1) rfl⟩ (fun hH1=>?_);clear hK K hH0 fB fC
  try simp only[oM0,hwA]
  obtain⟨X1,hWW⟩ : ∃X:World,X=(U.alloc (.cells #[] 99)):=⟨_,rfl⟩
  rw[←hWW] at fB2 fC2 fE2 hzW2 hH1 ⊢;clear hWW;have fB:=fB2;have fC:=fC2;have fE:=fE2;clear fB2 fC2 fE2;have zX1a:U.heap.size+1≤X1.heap.size:=by omega
  have zX1b:X1.heap.size≤U.heap.size+1:=by omega
  clear hzW2;refine wpAnyH_ready (rs:= [2,6]) (by kernel_rfl) (by simp) ?_;refine(AllReadyH.cons (o:=oM2) rfl (fun K hK=>?_) (AllReadyH.cons (o:=oM6) rfl (fun K hK=>?_) AllReadyH.nil))
  ·skip
   obtain⟨xs0,ho0,hv0⟩:BdM U.heap.size X1 (.slice (some ⟨U.heap.size,0,none⟩) 0 0) []:=BdM.nil (Nat.le_refl _) fE rfl;obtain rfl:xs0 = []:=hv0;have hlg:w.heap.size≤U.heap.size:=by have:=fC.out.size;omega
   obtain⟨ad1',xs,ha1,Y1,Y2,Y3⟩ : ∃ad' xs,some ad=some ad'∧b8 (fun b=>(Q b∧b<w.heap.size)∧(Value.slice (some ⟨U.heap.size,0,none⟩) 0 0).ownBlock≠some b) X1 l xs∧(∀j u,xs[j]?=some u→X1.cell? (ad'.add j)=some u)∧∀u∈xs,u.oneCell'=true:=by
    have h0:=(HY.out.below fC.out).move (.weaken (G:=fun b=>(Q b∧b<w.heap.size)∧(Value.slice (some ⟨U.heap.size,0,none⟩) 0 0).ownBlock≠some b) fun b hb _=>⟨hb,fun e=>by simp[Value.ownBlock] at e;have:=hb.2;omega⟩)
    exact h0.cellsAny
   obtain rfl:ad=ad1':=by simpa using ha1
   have hxl:xs.length=n*3:=by rw[Y1.len,HN.out]
   refine step_append_lies _ (by rfl) (.tmp 7) (.tmp 8) 96 (by rfl) U.heap.size 99 i0 _ 3 48 Tryz.underlying96 HI.out Z0.out Z1.out Z2.out rfl (by omega) (.slice (some ⟨U.heap.size,0,none⟩) 0 0) 0 [] (by rfl) ho0 ad n q xs (by rfl) hxl Y2 Y3 hn1 (by unfold maxLen;omega) (by omega) (by omega) _ rfl ?_;intro gg cap w5 hown hgrow hat hlt2;simp only[Nat.zero_add] at hown ⊢;have MM2:=zq (show BdG (fun x=>Q x∧x<w.heap.size) U.heap.size w5 (.slice (some ⟨gg,0,none⟩) n cap) ([]++l) from BdG.push (F:=(fun x=>Q x∧x<w.heap.size)) (W:=X1) (v:=(.slice (some ⟨U.heap.size,0,none⟩) 0 0)) (bs:= []) (cs:=l) (xs:= []) (ys:=xs) rfl Y1 (by simpa [HN.out] using hown) hgrow (by rcases hat with h | h;exact .inl (h.symm▸rfl);exact .inr (by rw[h];rfl)));have hb45:Below U.heap.size X1 w5:=Below.grown (Below.refl _ _) hgrow (by omega) (fun k hk=>by simp[Value.ownBlock] at hk;omega);have fC2:=zq (fC.out.trans (hb45.mono hlg));have fB2:w5.heap[w.heap.size]?=some (.cells #[.int .i64 tk,.slice ta tn tq] 25 (0,0)):=(hb45.block _ (by omega)).trans fB;have z5:X1.heap.size≤w5.heap.size:=hgrow.size;refine hK.out _ _ ⟨ah fB2 (o:=0) rfl,ah fB2 (o:=1) rfl⟩ (fun hH2=>?_);clear hK K hH1 fB fC fE ho0 Y1 Y2 Y3 hown hgrow hat ha1 hxl hb45
   try simp only[oM2,hwA]
   have MM:=MM2;have fC:=fC2;have fB:=fB2;clear MM2 fC2 fB2;refine hwr 6 oM6 (fun K hK=>?_)
   ·skip
    dsimp only[oM6]
    go_simp
    (try go_wp2_with fail);have fN2:(w5.alloc (.cells #[.string nm,.int .i64 tk,.slice ta tn tq] 99)).heap[w5.heap.size]?=some (.cells #[.string nm,.int .i64 tk,.slice ta tn tq] 99 (0,0)):=aF rfl;have MM2:=zq (MM.out.below (aj (o:=.cells #[.string nm,.int .i64 tk,.slice ta tn tq] 99)));have fB2:=ag fB (aj (o:=.cells #[.string nm,.int .i64 tk,.slice ta tn tq] 99));have fC2:=zq (al fC.out (aj (o:=.cells #[.string nm,.int .i64 tk,.slice ta tn tq] 99)));have hzW2:(w5.alloc (.cells #[.string nm,.int .i64 tk,.slice ta tn tq] 99)).heap.size=w5.heap.size+1:=by simp
    refine hK.out _ _ ⟨ah fB2 (o:=0) rfl,ah fB2 (o:=1) rfl⟩ (fun hH3=>?_);clear hK K hH2 fB fC MM
    try simp only[oM6,hwA]
    obtain⟨X3,hWW⟩ : ∃X:World,X=(w5.alloc (.cells #[.string nm,.int .i64 tk,.slice ta tn tq] 99)):=⟨_,rfl⟩
    rw[←hWW] at fB2 fC2 fN2 MM2 hzW2 hH3 ⊢;clear hWW;have fB:=fB2;have fC:=fC2;have fN:=fN2;have MM:=MM2;clear fB2 fC2 fN2 MM2;have zX3a:w5.heap.size+1≤X3.heap.size:=by omega
    have zX3b:X3.heap.size≤w5.heap.size+1:=by omega
    clear hzW2;refine hwr 7 oM7 (fun K hK=>?_)
    ·skip
     obtain⟨xs5,ho5,hv5⟩:=MM.out;have hv1:b8 (fun b=>(Q b∧b<w.heap.size)∧(Value.slice (some ⟨gg,0,none⟩) n cap).ownBlock≠some b) X3 [⟨nm,ty⟩] [.string nm,.int .i64 tk,.slice ta tn tq]:=dM hnm ((HT.out.below fC.out).move (.weaken fun b hb _=>⟨hb,fun e=>by have:=(ho5.lt b e).1;have:=hb.2;omega⟩));refine step_append_lies _ (by rfl) (.tmp 9) (.tmp 13) 96 (by rfl) U.heap.size 99 i0 _ 3 48 Tryz.underlying96 HI.out Z0.out Z1.out Z2.out rfl (by omega) (.slice (some ⟨gg,0,none⟩) n cap) n xs5 (by rfl) (by simpa [HN.out] using ho5) ⟨w5.heap.size,0,none⟩ 1 1 [.string nm,.int .i64 tk,.slice ta tn tq] (by rfl) (by rfl) (World.news_of_block (cs:=#[.string nm,.int .i64 tk,.slice ta tn tq]) (t:=99) (fr:=(0,0)) fN) (by simp[Value.oneCell']) (by omega) (by unfold maxLen;omega) (by omega) (by omega) _ rfl ?_;intro g6 cap6 w6 hown hgrow hat hlt3;have M6:BdG (fun x=>Q x∧x<w.heap.size) U.heap.size w6 (.slice (some ⟨g6,0,none⟩) (n+1) cap6) (([]++l) ++ [⟨nm,ty⟩]):=BdG.push (F:=(fun x=>Q x∧x<w.heap.size)) (W:=X3) (v:=(.slice (some ⟨gg,0,none⟩) n cap)) hv5 hv1 (by simpa [HN.out] using hown) hgrow (by rcases hat with h | h;exact .inl (h.symm▸rfl);exact .inr (by rw[h];rfl));have RF:=zq (show aL (fun x=>(Q x∧x<w.heap.size)∨w.heap.size≤x) w6 (l ++ [⟨nm,ty⟩]) (.slice (some ⟨g6,0,none⟩) (n+1) cap6) from M6.rep.move (.weaken fun b h _=>h.imp id fun q=>by have:=fC.out.size;omega));have hb56:Below U.heap.size X3 w6:=Below.grown (Below.refl _ _) hgrow (by omega) (fun k hk=>(ho5.lt k hk).1);have fC2:=zq (fC.out.trans (hb56.mono hlg));have fB2:w6.heap[w.heap.size]?=some (.cells #[.int .i64 tk,.slice ta tn tq] 25 (0,0)):=(hb56.block _ (by omega)).trans fB;refine hK.out _ _ ⟨ah fB2 (o:=0) rfl,ah fB2 (o:=1) rfl⟩ (fun hH4=>?_);clear hK K hH3 fB fC fN ho5 hv5 hv1 hown hgrow hat M6 hb56 MM
     try simp only[oM7,hwA]
     have fC:=fC2;have fB:=fB2;clear fC2 fB2;refine hwt 8 oM8 (.slice (some ⟨g6,0,none⟩) (n+1) cap6) hH4 ?_ ?_
     ·intro w' hSw;dsimp only[oM8];go_simp
     try simp only[oM8,hwA]
     refine wpAnyH_done (by kernel_rfl) ?_ _;refine NoPanic.normal ?_;clear hH4
     go_wp2_with fail
     go_ret
     exact⟨_,_,_,rfl,RF.out,fC.out⟩
  ·skip
   dsimp only[oM6]
   go_simp
   (try go_wp2_with fail);have fN2:(X1.alloc (.cells #[.string nm,.int .i64 tk,.slice ta tn tq] 99)).heap[X1.heap.size]?=some (.cells #[.string nm,.int .i64 tk,.slice ta tn tq] 99 (0,0)):=aF rfl;have fE2:=ag fE (aj (o:=.cells #[.string nm,.int .i64 tk,.slice ta tn tq] 99));have fB2:=ag fB (aj (o:=.cells #[.string nm,.int .i64 tk,.slice ta tn tq] 99));have fC2:=zq (al fC.out (aj (o:=.cells #[.string nm,.int .i64 tk,.slice ta tn tq] 99)));have hzW2:(X1.alloc (.cells #[.string nm,.int .i64 tk,.slice ta tn tq] 99)).heap.size=X1.heap.size+1:=by simp
   refine hK.out _ _ ⟨ah fB2 (o:=0) rfl,ah fB2 (o:=1) rfl⟩ (fun hH2=>?_);clear hK K hH1 fB fC fE
   try simp only[oM6,hwA]
   obtain⟨X2,hWW⟩ : ∃X:World,X=(X1.alloc (.cells #[.string nm,.int .i64 tk,.slice ta tn tq] 99)):=⟨_,rfl⟩
   rw[←hWW] at fB2 fC2 fE2 fN2 hzW2 hH2 ⊢;clear hWW;have fB:=fB2;have fC:=fC2;have fE:=fE2;have fN:=fN2;clear fB2 fC2 fE2 fN2;have zX2a:X1.heap.size+1≤X2.heap.size:=by omega
   have zX2b:X2.heap.size≤X1.heap.size+1:=by omega
   clear hzW2;refine hwr 2 oM2 (fun K hK=>?_)
   ·skip
    obtain⟨xs0,ho0,hv0⟩:BdM U.heap.size X2 (.slice (some ⟨U.heap.size,0,none⟩) 0 0) []:=BdM.nil (Nat.le_refl _) fE rfl;obtain rfl:xs0 = []:=hv0;have hlg:w.heap.size≤U.heap.size:=by have:=fC.out.size;omega
    obtain⟨ad1',xs,ha1,Y1,Y2,Y3⟩ : ∃ad' xs,some ad=some ad'∧b8 (fun b=>(Q b∧b<w.heap.size)∧(Value.slice (some ⟨U.heap.size,0,none⟩) 0 0).ownBlock≠some b) X2 l xs∧(∀j u,xs[j]?=some u→X2.cell? (ad'.add j)=some u)∧∀u∈xs,u.oneCell'=true:=by
     have h0:=(HY.out.below fC.out).move (.weaken (G:=fun b=>(Q b∧b<w.heap.size)∧(Value.slice (some ⟨U.heap.size,0,none⟩) 0 0).ownBlock≠some b) fun b hb _=>⟨hb,fun e=>by simp[Value.ownBlock] at e;have:=hb.2;omega⟩)
     exact h0.cellsAny
    obtain rfl:ad=ad1':=by simpa using ha1
    have hxl:xs.length=n*3:=by rw[Y1.len,HN.out]
    refine step_append_lies _ (by rfl) (.tmp 7) (.tmp 8) 96 (by rfl) U.heap.size 99 i0 _ 3 48 Tryz.underlying96 HI.out Z0.out Z1.out Z2.out rfl (by omega) (.slice (some ⟨U.heap.size,0,none⟩) 0 0) 0 [] (by rfl) ho0 ad n q xs (by rfl) hxl Y2 Y3 hn1 (by unfold maxLen;omega) (by omega) (by omega) _ rfl ?_;intro gg cap w5 hown hgrow hat hlt2;simp only[Nat.zero_add] at hown ⊢;have MM2:=zq (show BdG (fun x=>Q x∧x<w.heap.size) U.heap.size w5 (.slice (some ⟨gg,0,none⟩) n cap) ([]++l) from BdG.push (F:=(fun x=>Q x∧x<w.heap.size)) (W:=X2) (v:=(.slice (some ⟨U.heap.size,0,none⟩) 0 0)) (bs:= []) (cs:=l) (xs:= []) (ys:=xs) rfl Y1 (by simpa [HN.out] using hown) hgrow (by rcases hat with h | h;exact .inl (h.symm▸rfl);exact .inr (by rw[h];rfl)));have hb45:Below U.heap.size X2 w5:=Below.grown (Below.refl _ _) hgrow (by omega) (fun k hk=>by simp[Value.ownBlock] at hk;omega);have fC2:=zq (fC.out.trans (hb45.mono hlg));have fB2:w5.heap[w.heap.size]?=some (.cells #[.int .i64 tk,.slice ta tn tq] 25 (0,0)):=(hb45.block _ (by omega)).trans fB;have fN2:w5.heap[X1.heap.size]?=some (.cells #[.string nm,.int .i64 tk,.slice ta tn tq] 99 (0,0)):=(hgrow.block _ (aD fN) (by simp[Value.ownBlock];omega)).trans fN;have z5:X2.heap.size≤w5.heap.size:=hgrow.size;refine hK.out _ _ ⟨ah fB2 (o:=0) rfl,ah fB2 (o:=1) rfl⟩ (fun hH5=>?_);clear hK K hH2 fB fC fE fN ho0 Y1 Y2 Y3 hown hgrow hat ha1 hxl hb45
    try simp only[oM2,hwA]
    have MM:=MM2;have fC:=fC2;have fB:=fB2;have fN:=fN2;clear MM2 fC2 fB2 fN2;refine hwr 7 oM7 (fun K hK=>?_)
    ·skip
     obtain⟨xs5,ho5,hv5⟩:=MM.out;have hv1:b8 (fun b=>(Q b∧b<w.heap.size)∧(Value.slice (some ⟨gg,0,none⟩) n cap).ownBlock≠some b) w5 [⟨nm,ty⟩] [.string nm,.int .i64 tk,.slice ta tn tq]:=dM hnm ((HT.out.below fC.out).move (.weaken fun b hb _=>⟨hb,fun e=>by have:=(ho5.lt b e).1;have:=hb.2;omega⟩));refine step_append_lies _ (by rfl) (.tmp 9) (.tmp 13) 96 (by rfl) U.heap.size 99 i0 _ 3 48 Tryz.underlying96 HI.out Z0.out Z1.out Z2.out rfl (by omega) (.slice (some ⟨gg,0,none⟩) n cap) n xs5 (by rfl) (by simpa [HN.out] using ho5) ⟨X1.heap.size,0,none⟩ 1 1 [.string nm,.int .i64 tk,.slice ta tn tq] (by rfl) (by rfl) (World.news_of_block (cs:=#[.string nm,.int .i64 tk,.slice ta tn tq]) (t:=99) (fr:=(0,0)) fN) (by simp[Value.oneCell']) (by omega) (by unfold maxLen;omega) (by omega) (by omega) _ rfl ?_;intro g6 cap6 w6 hown hgrow hat hlt3;have M6:BdG (fun x=>Q x∧x<w.heap.size) U.heap.size w6 (.slice (some ⟨g6,0,none⟩) (n+1) cap6) (([]++l) ++ [⟨nm,ty⟩]):=BdG.push (F:=(fun x=>Q x∧x<w.heap.size)) (W:=w5) (v:=(.slice (some ⟨gg,0,none⟩) n cap)) hv5 hv1 (by simpa [HN.out] using hown) hgrow (by rcases hat with h | h;exact .inl (h.symm▸rfl);exact .inr (by rw[h];rfl));have RF:=zq (show aL (fun x=>(Q x∧x<w.heap.size)∨w.heap.size≤x) w6 (l ++ [⟨nm,ty⟩]) (.slice (some ⟨g6,0,none⟩) (n+1) cap6) from M6.rep.move (.weaken fun b h _=>h.imp id fun q=>by have:=fC.out.size;omega));have hb56:Below U.heap.size w5 w6:=Below.grown (Below.refl _ _) hgrow (by omega) (fun k hk=>(ho5.lt k hk).1);have fC2:=zq (fC.out.trans (hb56.mono hlg));have fB2:w6.heap[w.heap.size]?=some (.cells #[.int .i64 tk,.slice ta tn tq] 25 (0,0)):=(hb56.block _ (by omega)).trans fB;refine hK.out _ _ ⟨ah fB2 (o:=0) rfl,ah fB2 (o:=1) rfl⟩ (fun hH6=>?_);clear hK K hH5 fB fC fN ho5 hv5 hv1 hown hgrow hat M6 hb56 MM
     try simp only[oM7,hwA]
     have fC:=fC2;have fB:=fB2;clear fC2 fB2;refine hwt 8 oM8 (.slice (some ⟨g6,0,none⟩) (n+1) cap6) hH6 ?_ ?_
     ·intro w' hSw;dsimp only[oM8];go_simp
     try simp only[oM8,hwA]
     refine wpAnyH_done (by kernel_rfl) ?_ _;refine NoPanic.normal ?_;clear hH6
     go_wp2_with fail
     go_ret
     exact⟨_,_,_,rfl,RF.out,fC.out⟩
 ·skip
  dsimp only[oM6]
  go_simp
  (try go_wp2_with fail);have fN2:(U.alloc (.cells #[.string nm,.int .i64 tk,.slice ta tn tq] 99)).heap[U.heap.size]?=some (.cells #[.string nm,.int .i64 tk,.slice ta tn tq] 99 (0,0)):=aF rfl;have fB2:=ag fB (aj (o:=.cells #[.string nm,.int .i64 tk,.slice ta tn tq] 99));have fC2:=zq (al fC.out (aj (o:=.cells #[.string nm,.int .i64 tk,.slice ta tn tq] 99)));have hzW2:(U.alloc (.cells #[.string nm,.int .i64 tk,.slice ta tn tq] 99)).heap.size=U.heap.size+1:=by simp
  refine hK.out _ _ ⟨ah fB2 (o:=0) rfl,ah fB2 (o:=1) rfl⟩ (fun hH1=>?_);clear hK K hH0 fB fC
  try simp only[oM6,hwA]
  obtain⟨X1,hWW⟩ : ∃X:World,X=(U.alloc (.cells #[.string nm,.int .i64 tk,.slice ta tn tq] 99)):=⟨_,rfl⟩
  rw[←hWW] at fB2 fC2 fN2 hzW2 hH1 ⊢;clear hWW;have fB:=fB2;have fC:=fC2;have fN:=fN2;clear fB2 fC2 fN2;have zX1a:U.heap.size+1≤X1.heap.size:=by omega
  have zX1b:X1.heap.size≤U.heap.size+1:=by omega
  clear hzW2;refine hwr 0 oM0 (fun K hK=>?_)
  ·skip
   dsimp only[oM0]
   go_simp
   (try go_wp2_with fail);have fE2:(X1.alloc (.cells #[] 99)).heap[X1.heap.size]?=some (.cells #[] 99 (0,0)):=aF rfl;have fN2:=ag fN (aj (o:=.cells #[] 99));have fB2:=ag fB (aj (o:=.cells #[] 99));have fC2:=zq (al fC.out (aj (o:=.cells #[] 99)));have hzW2:(X1.alloc (.cells #[] 99)).heap.size=X1.heap.size+1:=by simp
   refine hK.out _ _ ⟨ah fB2 (o:=0) rfl,ah fB2 (o:=1) rfl⟩ (fun hH7=>?_);clear hK K hH1 fB fC fN
   try simp only[oM0,hwA]
   obtain⟨X7,hWW⟩ : ∃X:World,X=(X1.alloc (.cells #[] 99)):=⟨_,rfl⟩
   rw[←hWW] at fB2 fC2 fE2 fN2 hzW2 hH7 ⊢;clear hWW;have fB:=fB2;have fC:=fC2;have fE:=fE2;have fN:=fN2;clear fB2 fC2 fE2 fN2;have zX7a:X1.heap.size+1≤X7.heap.size:=by omega
   have zX7b:X7.heap.size≤X1.heap.size+1:=by omega
   clear hzW2;refine hwr 2 oM2 (fun K hK=>?_)
   ·skip
    obtain⟨xs0,ho0,hv0⟩:BdM X1.heap.size X7 (.slice (some ⟨X1.heap.size,0,none⟩) 0 0) []:=BdM.nil (Nat.le_refl _) fE rfl;obtain rfl:xs0 = []:=hv0;have hlg:w.heap.size≤X1.heap.size:=by have:=fC.out.size;omega
    obtain⟨ad1',xs,ha1,Y1,Y2,Y3⟩ : ∃ad' xs,some ad=some ad'∧b8 (fun b=>(Q b∧b<w.heap.size)∧(Value.slice (some ⟨X1.heap.size,0,none⟩) 0 0).ownBlock≠some b) X7 l xs∧(∀j u,xs[j]?=some u→X7.cell? (ad'.add j)=some u)∧∀u∈xs,u.oneCell'=true:=by
     have h0:=(HY.out.below fC.out).move (.weaken (G:=fun b=>(Q b∧b<w.heap.size)∧(Value.slice (some ⟨X1.heap.size,0,none⟩) 0 0).ownBlock≠some b) fun b hb _=>⟨hb,fun e=>by simp[Value.ownBlock] at e;have:=hb.2;omega⟩)
     exact h0.cellsAny
    obtain rfl:ad=ad1':=by simpa using ha1
    have hxl:xs.length=n*3:=by rw[Y1.len,HN.out]
    refine step_append_lies _ (by rfl) (.tmp 7) (.tmp 8) 96 (by rfl) X1.heap.size 99 i0 _ 3 48 Tryz.underlying96 HI.out Z0.out Z1.out Z2.out rfl (by omega) (.slice (some ⟨X1.heap.size,0,none⟩) 0 0) 0 [] (by rfl) ho0 ad n q xs (by rfl) hxl Y2 Y3 hn1 (by unfold maxLen;omega) (by omega) (by omega) _ rfl ?_;intro gg cap w5 hown hgrow hat hlt2;simp only[Nat.zero_add] at hown ⊢;have MM2:=zq (show BdG (fun x=>Q x∧x<w.heap.size) X1.heap.size w5 (.slice (some ⟨gg,0,none⟩) n cap) ([]++l) from BdG.push (F:=(fun x=>Q x∧x<w.heap.size)) (W:=X7) (v:=(.slice (some ⟨X1.heap.size,0,none⟩) 0 0)) (bs:= []) (cs:=l) (xs:= []) (ys:=xs) rfl Y1 (by simpa [HN.out] using hown) hgrow (by rcases hat with h | h;exact .inl (h.symm▸rfl);exact .inr (by rw[h];rfl)));have hb45:Below X1.heap.size X7 w5:=Below.grown (Below.refl _ _) hgrow (by omega) (fun k hk=>by simp[Value.ownBlock] at hk;omega);have fC2:=zq (fC.out.trans (hb45.mono hlg));have fB2:w5.heap[w.heap.size]?=some (.cells #[.int .i64 tk,.slice ta tn tq] 25 (0,0)):=(hb45.block _ (by omega)).trans fB;have fN2:w5.heap[U.heap.size]?=some (.cells #[.string nm,.int .i64 tk,.slice ta tn tq] 99 (0,0)):=(hgrow.block _ (aD fN) (by simp[Value.ownBlock];omega)).trans fN;have z5:X7.heap.size≤w5.heap.size:=hgrow.size;refine hK.out _ _ ⟨ah fB2 (o:=0) rfl,ah fB2 (o:=1) rfl⟩ (fun hH8=>?_);clear hK K hH7 fB fC fE fN ho0 Y1 Y2 Y3 hown hgrow hat ha1 hxl hb45
    try simp only[oM2,hwA]
    have MM:=MM2;have fC:=fC2;have fB:=fB2;have fN:=fN2;clear MM2 fC2 fB2 fN2;refine hwr 7 oM7 (fun K hK=>?_)
    ·skip
     obtain⟨xs5,ho5,hv5⟩:=MM.out;have hv1:b8 (fun b=>(Q b∧b<w.heap.size)∧(Value.slice (some ⟨gg,0,none⟩) n cap).ownBlock≠some b) w5 [⟨nm,ty⟩] [.string nm,.int .i64 tk,.slice ta tn tq]:=dM hnm ((HT.out.below fC.out).move (.weaken fun b hb _=>⟨hb,fun e=>by have:=(ho5.lt b e).1;have:=hb.2;omega⟩));refine step_append_lies _ (by rfl) (.tmp 9) (.tmp 13) 96 (by rfl) X1.heap.size 99 i0 _ 3 48 Tryz.underlying96 HI.out Z0.out Z1.out Z2.out rfl (by omega) (.slice (some ⟨gg,0,none⟩) n cap) n xs5 (by rfl) (by simpa [HN.out] using ho5) ⟨U.heap.size,0,none⟩ 1 1 [.string nm,.int .i64 tk,.slice ta tn tq] (by rfl) (by rfl) (World.news_of_block (cs:=#[.string nm,.int .i64 tk,.slice ta tn tq]) (t:=99) (fr:=(0,0)) fN) (by simp[Value.oneCell']) (by omega) (by unfold maxLen;omega) (by omega) (by omega) _ rfl ?_;intro g6 cap6 w6 hown hgrow hat hlt3;have M6:BdG (fun x=>Q x∧x<w.heap.size) X1.heap.size w6 (.slice (some ⟨g6,0,none⟩) (n+1) cap6) (([]++l) ++ [⟨nm,ty⟩]):=BdG.push (F:=(fun x=>Q x∧x<w.heap.size)) (W:=w5) (v:=(.slice (some ⟨gg,0,none⟩) n cap)) hv5 hv1 (by simpa [HN.out] using hown) hgrow (by rcases hat with h | h;exact .inl (h.symm▸rfl);exact .inr (by rw[h];rfl));have RF:=zq (show aL (fun x=>(Q x∧x<w.heap.size)∨w.heap.size≤x) w6 (l ++ [⟨nm,ty⟩]) (.slice (some ⟨g6,0,none⟩) (n+1) cap6) from M6.rep.move (.weaken fun b h _=>h.imp id fun q=>by have:=fC.out.size;omega));have hb56:Below X1.heap.size w5 w6:=Below.grown (Below.refl _ _) hgrow (by omega) (fun k hk=>(ho5.lt k hk).1);have fC2:=zq (fC.out.trans (hb56.mono hlg));have fB2:w6.heap[w.heap.size]?=some (.cells #[.int .i64 tk,.slice ta tn tq] 25 (0,0)):=(hb56.block _ (by omega)).trans fB;refine hK.out _ _ ⟨ah fB2 (o:=0) rfl,ah fB2 (o:=1) rfl⟩ (fun hH9=>?_);clear hK K hH8 fB fC fN ho5 hv5 hv1 hown hgrow hat M6 hb56 MM
     try simp only[oM7,hwA]
     have fC:=fC2;have fB:=fB2;clear fC2 fB2;refine hwt 8 oM8 (.slice (some ⟨g6,0,none⟩) (n+1) cap6) hH9 ?_ ?_
     ·intro w' hSw;dsimp only[oM8];go_simp
     try simp only[oM8,hwA]
     refine wpAnyH_done (by kernel_rfl) ?_ _;refine NoPanic.normal ?_;clear hH9
     go_wp2_with fail
     go_ret
     exact⟨_,_,_,rfl,RF.out,fC.out⟩
theorem eq (Q:Nat→Prop)(nm:ByteArray)(ty:Ty)(tk:Int)(ta:Option Addr)(tn tq:Nat)(w:World)(hnm:nm.size≤maxLen)(ht:ap Q w ty (.agg #[.int .i64 tk,.slice ta tn tq])) :
  Calls Tryz.prog 109 #[.slice none 0 0,.string nm,.agg #[.int .i64 tk,.slice ta tn tq]] w (j6 Q ([] ++ [⟨nm,ty⟩]) w):=by
 obtain⟨i0,hi,hz0,hz1,hz2⟩:=info_parts Tryz.infoBdC;have Z0:=zq hz0;have Z1:=zq hz1;have Z2:=zq hz2;have HI:=zq hi;have HN:=zq (show([]:List Bd).length=0 from rfl);have HT:=zq (ht.move (.weaken (G:=(fun x=>Q x∧x<w.heap.size)) fun b h hl=>⟨h,hl⟩));clear hi hz0 hz1 hz2 ht
 go_enter Tryz.func109,Tryz.ntmps109
 go_wp2_with fail
 have fB:(w.alloc (.cells #[.int .i64 tk,.slice ta tn tq] 25)).heap[w.heap.size]?=some (.cells #[.int .i64 tk,.slice ta tn tq] 25 (0,0)):=aF rfl;have fC:=zq (show Below w.heap.size w (w.alloc (.cells #[.int .i64 tk,.slice ta tn tq] 25)) from aj);refine wp_region_noPanic ?_;refine wp_region_held_drew (S:=fun w'=>w'.cell? ⟨w.heap.size,0,none⟩=some (.int .i64 tk)∧w'.cell? ⟨w.heap.size,1,none⟩=some (.slice ta tn tq)) (by kernel_rfl) ?_ (fun hH0=>?_)
 ·exact⟨ay (ah fB (o:=0) rfl),ay (ah fB (o:=1) rfl)⟩
 obtain⟨U,hU⟩ : ∃X:World,X=World.drew (w.alloc (.cells #[.int .i64 tk,.slice ta tn tq] 25)):=⟨_,rfl⟩
 have fB':U.heap[w.heap.size]?=some (.cells #[.int .i64 tk,.slice ta tn tq] 25 (0,0)):=by rw[hU];exact fB
 have fC':=zq (show Below w.heap.size w U from by rw[hU];exact fC.out.drew);have zU:U.heap.size=w.heap.size+1:=by rw[hU];simp
 rw[←hU] at hH0 ⊢;have zUa:w.heap.size+1≤U.heap.size:=by omega
 have zUb:U.heap.size≤w.heap.size+1:=by omega
 clear zU;clear hU fB fC;have fB:=fB';have fC:=fC';clear fB' fC';refine hwt 1 oM1 (.slice none 0 0) hH0 ?_ ?_
 ·intro w' hSw;dsimp only[oM1];go_simp
 try simp only[oM1,hwA]
 refine hwt 3 oM3 (.string nm) hH0 ?_ ?_
 ·intro w' hSw;dsimp only[oM3];go_simp
 try simp only[oM3,hwA]
 refine hwt 4 oM4 (.agg #[.int .i64 tk,.slice ta tn tq]) hH0 ?_ ?_
 ·intro w' hSw;dsimp only[oM4];go_simp
 try simp only[oM4,hwA]
 refine hwt 5 oM5 (.agg #[.string nm,.int .i64 tk,.slice ta tn tq]) hH0 ?_ ?_
 ·intro w' hSw;dsimp only[oM5];go_simp
 try simp only[oM5,hwA]
 refine wpAnyH_ready (rs:= [0,6]) (by kernel_rfl) (by simp) ?_;refine(AllReadyH.cons (o:=oM0) rfl (fun K hK=>?_) (AllReadyH.cons (o:=oM6) rfl (fun K hK=>?_) AllReadyH.nil))
 ·skip
  dsimp only[oM0]
  go_simp
  (try go_wp2_with fail);have fE2:(U.alloc (.cells #[] 99)).heap[U.heap.size]?=some (.cells #[] 99 (0,0)):=aF rfl;have fB2:=ag fB (aj (o:=.cells #[] 99));have fC2:=zq (al fC.out (aj (o:=.cells #[] 99)));have hzW2:(U.alloc (.cells #[] 99)).heap.size=U.heap.size+1:=by simp
  refine hK.out _ _ ⟨ah fB2 (o:=0) rfl,ah fB2 (o:=1) rfl⟩ (fun hH10=>?_);clear hK K hH0 fB fC
  try simp only[oM0,hwA]
  obtain⟨X10,hWW⟩ : ∃X:World,X=(U.alloc (.cells #[] 99)):=⟨_,rfl⟩
  rw[←hWW] at fB2 fC2 fE2 hzW2 hH10 ⊢;clear hWW;have fB:=fB2;have fC:=fC2;have fE:=fE2;clear fB2 fC2 fE2;have zX10a:U.heap.size+1≤X10.heap.size:=by omega
  have zX10b:X10.heap.size≤U.heap.size+1:=by omega
  clear hzW2;refine wpAnyH_ready (rs:= [2,6]) (by kernel_rfl) (by simp) ?_;refine(AllReadyH.cons (o:=oM2) rfl (fun K hK=>?_) (AllReadyH.cons (o:=oM6) rfl (fun K hK=>?_) AllReadyH.nil))
  ·skip
   obtain⟨xs0,ho0,hv0⟩:BdM U.heap.size X10 (.slice (some ⟨U.heap.size,0,none⟩) 0 0) []:=BdM.nil (Nat.le_refl _) fE rfl;obtain rfl:xs0 = []:=hv0;have hlg:w.heap.size≤U.heap.size:=by have:=fC.out.size;omega
   refine ed () (by rfl) (.tmp 7) (.tmp 8) 96 (by rfl) U.heap.size 99 i0 3 Tryz.underlying96 HI.out (.slice (some ⟨U.heap.size,0,none⟩) 0 0) 0 [] (by rfl) ho0 (by rfl) ?_;have MM2:=zq (show BdG (fun x=>Q x∧x<w.heap.size) U.heap.size X10 (.slice (some ⟨U.heap.size,0,none⟩) 0 0) [] from⟨[],ho0,rfl⟩);refine hK.out _ _ ⟨ah fB (o:=0) rfl,ah fB (o:=1) rfl⟩ (fun hH11=>?_);clear hK K hH10 fE ho0
   try simp only[oM2,hwA]
   have MM:=MM2;clear MM2;refine hwr 6 oM6 (fun K hK=>?_)
   ·skip
    dsimp only[oM6]
    go_simp
    (try go_wp2_with fail);have fN2:(X10.alloc (.cells #[.string nm,.int .i64 tk,.slice ta tn tq] 99)).heap[X10.heap.size]?=some (.cells #[.string nm,.int .i64 tk,.slice ta tn tq] 99 (0,0)):=aF rfl;have MM2:=zq (MM.out.below (aj (o:=.cells #[.string nm,.int .i64 tk,.slice ta tn tq] 99)));have fB2:=ag fB (aj (o:=.cells #[.string nm,.int .i64 tk,.slice ta tn tq] 99));have fC2:=zq (al fC.out (aj (o:=.cells #[.string nm,.int .i64 tk,.slice ta tn tq] 99)));have hzW2:(X10.alloc (.cells #[.string nm,.int .i64 tk,.slice ta tn tq] 99)).heap.size=X10.heap.size+1:=by simp
    refine hK.out _ _ ⟨ah fB2 (o:=0) rfl,ah fB2 (o:=1) rfl⟩ (fun hH12=>?_);clear hK K hH11 fB fC MM
    try simp only[oM6,hwA]
    obtain⟨X12,hWW⟩ : ∃X:World,X=(X10.alloc (.cells #[.string nm,.int .i64 tk,.slice ta tn tq] 99)):=⟨_,rfl⟩
    rw[←hWW] at fB2 fC2 fN2 MM2 hzW2 hH12 ⊢;clear hWW;have fB:=fB2;have fC:=fC2;have fN:=fN2;have MM:=MM2;clear fB2 fC2 fN2 MM2;have zX12a:X10.heap.size+1≤X12.heap.size:=by omega
    have zX12b:X12.heap.size≤X10.heap.size+1:=by omega
    clear hzW2;refine hwr 7 oM7 (fun K hK=>?_)
    ·skip
     obtain⟨xs5,ho5,hv5⟩:=MM.out;have hv1:b8 (fun b=>(Q b∧b<w.heap.size)∧(Value.slice (some ⟨U.heap.size,0,none⟩) 0 0).ownBlock≠some b) X12 [⟨nm,ty⟩] [.string nm,.int .i64 tk,.slice ta tn tq]:=dM hnm ((HT.out.below fC.out).move (.weaken fun b hb _=>⟨hb,fun e=>by have:=(ho5.lt b e).1;have:=hb.2;omega⟩));refine step_append_lies _ (by rfl) (.tmp 9) (.tmp 13) 96 (by rfl) U.heap.size 99 i0 _ 3 48 Tryz.underlying96 HI.out Z0.out Z1.out Z2.out rfl (by omega) (.slice (some ⟨U.heap.size,0,none⟩) 0 0) 0 xs5 (by rfl) (by simpa [HN.out] using ho5) ⟨X10.heap.size,0,none⟩ 1 1 [.string nm,.int .i64 tk,.slice ta tn tq] (by rfl) (by rfl) (World.news_of_block (cs:=#[.string nm,.int .i64 tk,.slice ta tn tq]) (t:=99) (fr:=(0,0)) fN) (by simp[Value.oneCell']) (by omega) (by unfold maxLen;omega) (by omega) (by omega) _ rfl ?_;intro g6 cap6 w6 hown hgrow hat hlt3;have M6:BdG (fun x=>Q x∧x<w.heap.size) U.heap.size w6 (.slice (some ⟨g6,0,none⟩) (0+1) cap6) ([] ++ [⟨nm,ty⟩]):=BdG.push (F:=(fun x=>Q x∧x<w.heap.size)) (W:=X12) (v:=(.slice (some ⟨U.heap.size,0,none⟩) 0 0)) hv5 hv1 (by simpa [HN.out] using hown) hgrow (by rcases hat with h | h;exact .inl (h.symm▸rfl);exact .inr (by rw[h];rfl));have RF:=zq (show aL (fun x=>(Q x∧x<w.heap.size)∨w.heap.size≤x) w6 ([] ++ [⟨nm,ty⟩]) (.slice (some ⟨g6,0,none⟩) (0+1) cap6) from M6.rep.move (.weaken fun b h _=>h.imp id fun q=>by have:=fC.out.size;omega));have hb56:Below U.heap.size X12 w6:=Below.grown (Below.refl _ _) hgrow (by omega) (fun k hk=>(ho5.lt k hk).1);have fC2:=zq (fC.out.trans (hb56.mono hlg));have fB2:w6.heap[w.heap.size]?=some (.cells #[.int .i64 tk,.slice ta tn tq] 25 (0,0)):=(hb56.block _ (by omega)).trans fB;refine hK.out _ _ ⟨ah fB2 (o:=0) rfl,ah fB2 (o:=1) rfl⟩ (fun hH13=>?_);clear hK K hH12 fB fC fN ho5 hv5 hv1 hown hgrow hat M6 hb56 MM
     try simp only[oM7,hwA]
     have fC:=fC2;have fB:=fB2;clear fC2 fB2;refine hwt 8 oM8 (.slice (some ⟨g6,0,none⟩) (0+1) cap6) hH13 ?_ ?_
     ·intro w' hSw;dsimp only[oM8];go_simp
     try simp only[oM8,hwA]
     refine wpAnyH_done (by kernel_rfl) ?_ _;refine NoPanic.normal ?_;clear hH13
     go_wp2_with fail
     go_ret
     exact⟨_,_,_,rfl,RF.out,fC.out⟩
  ·skip
   dsimp only[oM6]
   go_simp
   (try go_wp2_with fail);have fN2:(X10.alloc (.cells #[.string nm,.int .i64 tk,.slice ta tn tq] 99)).heap[X10.heap.size]?=some (.cells #[.string nm,.int .i64 tk,.slice ta tn tq] 99 (0,0)):=aF rfl;have fE2:=ag fE (aj (o:=.cells #[.string nm,.int .i64 tk,.slice ta tn tq] 99));have fB2:=ag fB (aj (o:=.cells #[.string nm,.int .i64 tk,.slice ta tn tq] 99));have fC2:=zq (al fC.out (aj (o:=.cells #[.string nm,.int .i64 tk,.slice ta tn tq] 99)));have hzW2:(X10.alloc (.cells #[.string nm,.int .i64 tk,.slice ta tn tq] 99)).heap.size=X10.heap.size+1:=by simp
   refine hK.out _ _ ⟨ah fB2 (o:=0) rfl,ah fB2 (o:=1) rfl⟩ (fun hH11=>?_);clear hK K hH10 fB fC fE
   try simp only[oM6,hwA]
   obtain⟨X11,hWW⟩ : ∃X:World,X=(X10.alloc (.cells #[.string nm,.int .i64 tk,.slice ta tn tq] 99)):=⟨_,rfl⟩
   rw[←hWW] at fB2 fC2 fE2 fN2 hzW2 hH11 ⊢;clear hWW;have fB:=fB2;have fC:=fC2;have fE:=fE2;have fN:=fN2;clear fB2 fC2 fE2 fN2;have zX11a:X10.heap.size+1≤X11.heap.size:=by omega
   have zX11b:X11.heap.size≤X10.heap.size+1:=by omega
   clear hzW2;refine hwr 2 oM2 (fun K hK=>?_)
   ·skip
    obtain⟨xs0,ho0,hv0⟩:BdM U.heap.size X11 (.slice (some ⟨U.heap.size,0,none⟩) 0 0) []:=BdM.nil (Nat.le_refl _) fE rfl;obtain rfl:xs0 = []:=hv0;have hlg:w.heap.size≤U.heap.size:=by have:=fC.out.size;omega
    refine ed () (by rfl) (.tmp 7) (.tmp 8) 96 (by rfl) U.heap.size 99 i0 3 Tryz.underlying96 HI.out (.slice (some ⟨U.heap.size,0,none⟩) 0 0) 0 [] (by rfl) ho0 (by rfl) ?_;have MM2:=zq (show BdG (fun x=>Q x∧x<w.heap.size) U.heap.size X11 (.slice (some ⟨U.heap.size,0,none⟩) 0 0) [] from⟨[],ho0,rfl⟩);refine hK.out _ _ ⟨ah fB (o:=0) rfl,ah fB (o:=1) rfl⟩ (fun hH14=>?_);clear hK K hH11 fE ho0
    try simp only[oM2,hwA]
    have MM:=MM2;clear MM2;refine hwr 7 oM7 (fun K hK=>?_)
    ·skip
     obtain⟨xs5,ho5,hv5⟩:=MM.out;have hv1:b8 (fun b=>(Q b∧b<w.heap.size)∧(Value.slice (some ⟨U.heap.size,0,none⟩) 0 0).ownBlock≠some b) X11 [⟨nm,ty⟩] [.string nm,.int .i64 tk,.slice ta tn tq]:=dM hnm ((HT.out.below fC.out).move (.weaken fun b hb _=>⟨hb,fun e=>by have:=(ho5.lt b e).1;have:=hb.2;omega⟩));refine step_append_lies _ (by rfl) (.tmp 9) (.tmp 13) 96 (by rfl) U.heap.size 99 i0 _ 3 48 Tryz.underlying96 HI.out Z0.out Z1.out Z2.out rfl (by omega) (.slice (some ⟨U.heap.size,0,none⟩) 0 0) 0 xs5 (by rfl) (by simpa [HN.out] using ho5) ⟨X10.heap.size,0,none⟩ 1 1 [.string nm,.int .i64 tk,.slice ta tn tq] (by rfl) (by rfl) (World.news_of_block (cs:=#[.string nm,.int .i64 tk,.slice ta tn tq]) (t:=99) (fr:=(0,0)) fN) (by simp[Value.oneCell']) (by omega) (by unfold maxLen;omega) (by omega) (by omega) _ rfl ?_;intro g6 cap6 w6 hown hgrow hat hlt3;have M6:BdG (fun x=>Q x∧x<w.heap.size) U.heap.size w6 (.slice (some ⟨g6,0,none⟩) (0+1) cap6) ([] ++ [⟨nm,ty⟩]):=BdG.push (F:=(fun x=>Q x∧x<w.heap.size)) (W:=X11) (v:=(.slice (some ⟨U.heap.size,0,none⟩) 0 0)) hv5 hv1 (by simpa [HN.out] using hown) hgrow (by rcases hat with h | h;exact .inl (h.symm▸rfl);exact .inr (by rw[h];rfl));have RF:=zq (show aL (fun x=>(Q x∧x<w.heap.size)∨w.heap.size≤x) w6 ([] ++ [⟨nm,ty⟩]) (.slice (some ⟨g6,0,none⟩) (0+1) cap6) from M6.rep.move (.weaken fun b h _=>h.imp id fun q=>by have:=fC.out.size;omega));have hb56:Below U.heap.size X11 w6:=Below.grown (Below.refl _ _) hgrow (by omega) (fun k hk=>(ho5.lt k hk).1);have fC2:=zq (fC.out.trans (hb56.mono hlg));have fB2:w6.heap[w.heap.size]?=some (.cells #[.int .i64 tk,.slice ta tn tq] 25 (0,0)):=(hb56.block _ (by omega)).trans fB;refine hK.out _ _ ⟨ah fB2 (o:=0) rfl,ah fB2 (o:=1) rfl⟩ (fun hH15=>?_);clear hK K hH14 fB fC fN ho5 hv5 hv1 hown hgrow hat M6 hb56 MM
     try simp only[oM7,hwA]
     have fC:=fC2;have fB:=fB2;clear fC2 fB2;refine hwt 8 oM8 (.slice (some ⟨g6,0,none⟩) (0+1) cap6) hH15 ?_ ?_
     ·intro w' hSw;dsimp only[oM8];go_simp
     try simp only[oM8,hwA]
     refine wpAnyH_done (by kernel_rfl) ?_ _;refine NoPanic.normal ?_;clear hH15
     go_wp2_with fail
     go_ret
     exact⟨_,_,_,rfl,RF.out,fC.out⟩
 ·skip
  dsimp only[oM6]
  go_simp
  (try go_wp2_with fail);have fN2:(U.alloc (.cells #[.string nm,.int .i64 tk,.slice ta tn tq] 99)).heap[U.heap.size]?=some (.cells #[.string nm,.int .i64 tk,.slice ta tn tq] 99 (0,0)):=aF rfl;have fB2:=ag fB (aj (o:=.cells #[.string nm,.int .i64 tk,.slice ta tn tq] 99));have fC2:=zq (al fC.out (aj (o:=.cells #[.string nm,.int .i64 tk,.slice ta tn tq] 99)));have hzW2:(U.alloc (.cells #[.string nm,.int .i64 tk,.slice ta tn tq] 99)).heap.size=U.heap.size+1:=by simp
  refine hK.out _ _ ⟨ah fB2 (o:=0) rfl,ah fB2 (o:=1) rfl⟩ (fun hH10=>?_);clear hK K hH0 fB fC
  try simp only[oM6,hwA]
  obtain⟨X10,hWW⟩ : ∃X:World,X=(U.alloc (.cells #[.string nm,.int .i64 tk,.slice ta tn tq] 99)):=⟨_,rfl⟩
  rw[←hWW] at fB2 fC2 fN2 hzW2 hH10 ⊢;clear hWW;have fB:=fB2;have fC:=fC2;have fN:=fN2;clear fB2 fC2 fN2;have zX10a:U.heap.size+1≤X10.heap.size:=by omega
  have zX10b:X10.heap.size≤U.heap.size+1:=by omega
  clear hzW2;refine hwr 0 oM0 (fun K hK=>?_)
  ·skip
   dsimp only[oM0]
   go_simp
   (try go_wp2_with fail);have fE2:(X10.alloc (.cells #[] 99)).heap[X10.heap.size]?=some (.cells #[] 99 (0,0)):=aF rfl;have fN2:=ag fN (aj (o:=.cells #[] 99));have fB2:=ag fB (aj (o:=.cells #[] 99));have fC2:=zq (al fC.out (aj (o:=.cells #[] 99)));have hzW2:(X10.alloc (.cells #[] 99)).heap.size=X10.heap.size+1:=by simp
   refine hK.out _ _ ⟨ah fB2 (o:=0) rfl,ah fB2 (o:=1) rfl⟩ (fun hH16=>?_);clear hK K hH10 fB fC fN
   try simp only[oM0,hwA]
   obtain⟨X16,hWW⟩ : ∃X:World,X=(X10.alloc (.cells #[] 99)):=⟨_,rfl⟩
   rw[←hWW] at fB2 fC2 fE2 fN2 hzW2 hH16 ⊢;clear hWW;have fB:=fB2;have fC:=fC2;have fE:=fE2;have fN:=fN2;clear fB2 fC2 fE2 fN2;have zX16a:X10.heap.size+1≤X16.heap.size:=by omega
   have zX16b:X16.heap.size≤X10.heap.size+1:=by omega
   clear hzW2;refine hwr 2 oM2 (fun K hK=>?_)
   ·skip
    obtain⟨xs0,ho0,hv0⟩:BdM X10.heap.size X16 (.slice (some ⟨X10.heap.size,0,none⟩) 0 0) []:=BdM.nil (Nat.le_refl _) fE rfl;obtain rfl:xs0 = []:=hv0;have hlg:w.heap.size≤X10.heap.size:=by have:=fC.out.size;omega
    refine ed () (by rfl) (.tmp 7) (.tmp 8) 96 (by rfl) X10.heap.size 99 i0 3 Tryz.underlying96 HI.out (.slice (some ⟨X10.heap.size,0,none⟩) 0 0) 0 [] (by rfl) ho0 (by rfl) ?_;have MM2:=zq (show BdG (fun x=>Q x∧x<w.heap.size) X10.heap.size X16 (.slice (some ⟨X10.heap.size,0,none⟩) 0 0) [] from⟨[],ho0,rfl⟩);refine hK.out _ _ ⟨ah fB (o:=0) rfl,ah fB (o:=1) rfl⟩ (fun hH17=>?_);clear hK K hH16 fE ho0
    try simp only[oM2,hwA]
    have MM:=MM2;clear MM2;refine hwr 7 oM7 (fun K hK=>?_)
    ·skip
     obtain⟨xs5,ho5,hv5⟩:=MM.out;have hv1:b8 (fun b=>(Q b∧b<w.heap.size)∧(Value.slice (some ⟨X10.heap.size,0,none⟩) 0 0).ownBlock≠some b) X16 [⟨nm,ty⟩] [.string nm,.int .i64 tk,.slice ta tn tq]:=dM hnm ((HT.out.below fC.out).move (.weaken fun b hb _=>⟨hb,fun e=>by have:=(ho5.lt b e).1;have:=hb.2;omega⟩));refine step_append_lies _ (by rfl) (.tmp 9) (.tmp 13) 96 (by rfl) X10.heap.size 99 i0 _ 3 48 Tryz.underlying96 HI.out Z0.out Z1.out Z2.out rfl (by omega) (.slice (some ⟨X10.heap.size,0,none⟩) 0 0) 0 xs5 (by rfl) (by simpa [HN.out] using ho5) ⟨U.heap.size,0,none⟩ 1 1 [.string nm,.int .i64 tk,.slice ta tn tq] (by rfl) (by rfl) (World.news_of_block (cs:=#[.string nm,.int .i64 tk,.slice ta tn tq]) (t:=99) (fr:=(0,0)) fN) (by simp[Value.oneCell']) (by omega) (by unfold maxLen;omega) (by omega) (by omega) _ rfl ?_;intro g6 cap6 w6 hown hgrow hat hlt3;have M6:BdG (fun x=>Q x∧x<w.heap.size) X10.heap.size w6 (.slice (some ⟨g6,0,none⟩) (0+1) cap6) ([] ++ [⟨nm,ty⟩]):=BdG.push (F:=(fun x=>Q x∧x<w.heap.size)) (W:=X16) (v:=(.slice (some ⟨X10.heap.size,0,none⟩) 0 0)) hv5 hv1 (by simpa [HN.out] using hown) hgrow (by rcases hat with h | h;exact .inl (h.symm▸rfl);exact .inr (by rw[h];rfl));have RF:=zq (show aL (fun x=>(Q x∧x<w.heap.size)∨w.heap.size≤x) w6 ([] ++ [⟨nm,ty⟩]) (.slice (some ⟨g6,0,none⟩) (0+1) cap6) from M6.rep.move (.weaken fun b h _=>h.imp id fun q=>by have:=fC.out.size;omega));have hb56:Below X10.heap.size X16 w6:=Below.grown (Below.refl _ _) hgrow (by omega) (fun k hk=>(ho5.lt k hk).1);have fC2:=zq (fC.out.trans (hb56.mono hlg));have fB2:w6.heap[w.heap.size]?=some (.cells #[.int .i64 tk,.slice ta tn tq] 25 (0,0)):=(hb56.block _ (by omega)).trans fB;refine hK.out _ _ ⟨ah fB2 (o:=0) rfl,ah fB2 (o:=1) rfl⟩ (fun hH18=>?_);clear hK K hH17 fB fC fN ho5 hv5 hv1 hown hgrow hat M6 hb56 MM
     try simp only[oM7,hwA]
     have fC:=fC2;have fB:=fB2;clear fC2 fB2;refine hwt 8 oM8 (.slice (some ⟨g6,0,none⟩) (0+1) cap6) hH18 ?_ ?_
     ·intro w' hSw;dsimp only[oM8];go_simp
     try simp only[oM8,hwA]
     refine wpAnyH_done (by kernel_rfl) ?_ _;refine NoPanic.normal ?_;clear hH18
     go_wp2_with fail
     go_ret
     exact⟨_,_,_,rfl,RF.out,fC.out⟩
theorem mkMore {r:Nat}{l:List Bd}{xa:Option Addr}{xn xq:Nat}{W w:World}{nm:ByteArray}{ty:Ty}{tk:Int}{ta:Option Addr}{tn tq:Nat}(hcv:eL l (.slice xa xn xq))(hl:l.length≤100)(hnm:nm.size≤maxLen)(hx:aL (fun x=>x≠r∧x<w.heap.size) W l (.slice xa xn xq))(ht:ap (fun x=>x≠r∧x<w.heap.size) W ty (.agg #[.int .i64 tk,.slice ta tn tq])) :
  Calls Tryz.prog 109 #[.slice xa xn xq,.string nm,.agg #[.int .i64 tk,.slice ta tn tq]] W (j6 (fun x=>x≠r∧x<w.heap.size) (l ++ [⟨nm,ty⟩]) W):=by
 rcases hcv with ⟨rfl,h⟩ | ⟨h1,a,m,q,h⟩
 ·rw[h];exact eq _ nm ty tk ta tn tq W hnm ht
 ·simp only[Value.slice.injEq] at h
  obtain⟨rfl,rfl,rfl⟩:=h
  exact eY _ l a xn xq nm ty tk ta tn tq W hx (by omega) h1 hnm ht
def oQ2_0:Oper:=⟨some 15,.move (.tmp 11),9,"l3_typing.go:236",#[],none⟩
def oQ2_1:Oper:=⟨some 16,.load 25 (.tmp 7),25,"l3_typing.go:236",#[],none⟩
def oQ2_2:Oper:=⟨some 17,.call {callee:=.value (.func 81),args:=#[.tmp 16],argTypes:=#[25]},25,"l3_typing.go:236",#[⟨1,.data⟩],none⟩
def oQ2_3:Oper:=⟨some 18,.move (.tmp 0),46,"l3_typing.go:236",#[],none⟩
def oQ2_4:Oper:=⟨some 19,.move (.tmp 1),96,"l3_typing.go:236",#[],none⟩
def oQ2_5:Oper:=⟨some 20,.move (.tmp 11),9,"l3_typing.go:236",#[],none⟩
def oQ2_6:Oper:=⟨some 21,.load 25 (.tmp 7),25,"l3_typing.go:236",#[],none⟩
def oQ2_7:Oper:=⟨some 22,.call {callee:=.value (.func 109),args:=#[.tmp 19,.tmp 20,.tmp 21],argTypes:=#[96,9,25]},96,"l3_typing.go:236",#[⟨4,.data⟩,⟨5,.data⟩,⟨6,.data⟩,⟨2,.chain⟩],none⟩
def oQ2_8:Oper:=⟨some 23,.load 25 (.tmp 8),25,"l3_typing.go:236",#[],none⟩
def oQ2_9:Oper:=⟨some 24,.move (.tmp 4),3,"l3_typing.go:236",#[],none⟩
def qA:Oper:=⟨some 25,.call {callee:=.value (.func 51),args:=#[.tmp 18,.tmp 22,.tmp 23,.tmp 24],argTypes:=#[46,96,25,3]},28,"l3_typing.go:236",#[⟨3,.data⟩,⟨7,.data⟩,⟨8,.data⟩,⟨9,.data⟩,⟨7,.chain⟩],none⟩
def qB:Oper:=⟨some 26,.buildSlice 26 1 #[(0,.tmp 25)],26,"l3_typing.go:236",#[⟨10,.data⟩],none⟩
def qC:Oper:=⟨some 27,.build 28 #[(0,.const (.int .i64 5)),(1,.tmp 15),(3,.tmp 17),(6,.tmp 26)],28,"l3_typing.go:236",#[⟨0,.data⟩,⟨2,.data⟩,⟨11,.data⟩],none⟩
def qD:Oper:=⟨none,.store 28 (.tmp 10) (.tmp 27),0,"l3_typing.go:236",#[⟨12,.data⟩,⟨10,.chain⟩,⟨0,.phase⟩,⟨1,.phase⟩,⟨2,.phase⟩,⟨3,.phase⟩,⟨4,.phase⟩,⟨5,.phase⟩,⟨6,.phase⟩,⟨7,.phase⟩,⟨8,.phase⟩,⟨9,.phase⟩,⟨10,.phase⟩,⟨11,.phase⟩,⟨12,.phase⟩],none⟩
theorem nj (r p:Nat)(dd:Int)(a b:S)(l:List Bd)(w:World)(c ya yb:Value)(hrd0:aT w r p)(hcx:aL (· ≠ r) w l c)(hcv:eL l c)(hl:l.length≤100)(ha:ap (· ≠ r) w a.ty ya)(hb:ap (· ≠ r) w b.ty yb)(hva:a.vd=true)
  (IH : ∀nm:ByteArray,nm.size≤1→MkC r dd b (l ++ [⟨nm,a.ty⟩])) (hp:p+1+mkB dd b≤1125899906800000) :
  Calls Tryz.prog 86 #[.pointer (some ⟨r,0,none⟩),c,ya,yb,.int .i64 dd] w (DTm r p (mkB dd b+1) (mkB dd b+40) w):=by
 obtain⟨ak,aa,an,aq,rfl⟩:=ha.shape;obtain⟨bk,ba,bn,bq,rfl⟩:=hb.shape;have hrl:=hrd0.1;have HA:=zq (ha.move (.weaken (G:=(fun x=>x≠r∧x<w.heap.size)) fun b h hl=>⟨h,hl⟩));have HB:=zq (hb.move (.weaken (G:=(fun x=>x≠r∧x<w.heap.size)) fun b h hl=>⟨h,hl⟩));have HX0:=zq (hcx.move (.weaken (G:=(fun x=>x≠r∧x<w.heap.size)) fun b h hl=>⟨h,hl⟩));have HCV:=zq hcv;have HLL:=zq hl;have HCA:=zq (S.cnt_ok hva);have HCA2:=zq (show a.ty.cnt≤14 by rw[S.ty_cnt];exact gy hva);have HIH:=zq IH;have HP:=zq hp;obtain⟨xa,xn,xq,rfl⟩:=hcv.shape;have HRD0:=zq hrd0;clear ha hb hcx hcv hl hva IH hrd0
 go_enter Tryz.func86,Tryz.ntmps86
 go_wp2_with fail
 refine(rP (fun s=>s.size≤1) r p _ 4 4 _ ((HRD0.out.below cA).below aj) (by omega) (by omega) (by omega) (Nat.le_refl _) (by omega) (iZ [⟨#[120]⟩,⟨#[121]⟩,⟨#[122]⟩,⟨#[102]⟩] (by simp) _ (by decide))).mono ?_;rintro e w1 ⟨nm,rfl,hnm,hrd1,hc1⟩;have hch:=(Chg.of_below (fp:= [r]) (al cA aj)).trans hc1;have hz1:=hc1.size;simp only[World.size_alloc] at hz1;have HNM:=zq hnm;have fA:w1.heap[w.heap.size]?=some (.cells #[.int .i64 ak,.slice aa an aq] 25 (0,0)):=aB (ag (ag (ag (aF rfl) aj) aj) aj) hc1 (by omega);have fB:w1.heap[w.heap.size+1]?=some (.cells #[.int .i64 bk,.slice ba bn bq] 25 (0,0)):=aB (ag (ag (aF (by simp)) aj) aj) hc1 (by omega);have fR:w1.heap[w.heap.size+1+1]?=some (.cells #[.int .i64 0,.string {data:=#[]},.int .i64 0,.int .i64 0,.slice none 0 0,.int .i64 0,.slice none 0 0,.int .i64 0,.slice none 0 0] 28 (0,0)):=aB (ag (aF (by simp)) aj) hc1 (by omega);have fC:Hid (Chg [r] w w1):=zq hch;have rd:Hid (aT w1 r (p+1)):=zq hrd1;have hA:Hid (ap (fun x=>x≠r∧x<w.heap.size) w1 a.ty (.agg #[.int .i64 ak,.slice aa an aq])):=zq (HA.out.move (kpN hch (fun b hb=>hb.1)));have hB_:Hid (ap (fun x=>x≠r∧x<w.heap.size) w1 b.ty (.agg #[.int .i64 bk,.slice ba bn bq])):=zq (HB.out.move (kpN hch (fun b hb=>hb.1)));have hX:Hid (aL (fun x=>x≠r∧x<w.heap.size) w1 l (.slice xa xn xq)):=zq (HX0.out.move (kpN hch (fun b hb=>hb.1)));clear hc1 hch hrd1 hnm
 go_wp2_with fail
 refine wp_region_noPanic ?_;refine wp_region_held_drew (S:=fun w'=>w'.cell? ⟨w.heap.size,0,none⟩=some (.int .i64 ak)∧w'.cell? ⟨w.heap.size,1,none⟩=some (.slice aa an aq)∧w'.cell? ⟨w.heap.size+1,0,none⟩=some (.int .i64 bk)∧w'.cell? ⟨w.heap.size+1,1,none⟩=some (.slice ba bn bq)) (by kernel_rfl) ?_ (fun hH0=>?_)
 ·exact⟨ah fA rfl,ah fA rfl,ah fB rfl,ah fB rfl⟩
 obtain⟨U1,hU,hb,zU1a,zU1b⟩:=bK w1;rw[hU] at hH0 ⊢;replace fA:=ag fA hb;replace fB:=ag fB hb;replace fR:=ag fR hb;replace fC:=zqb fC hb;replace rd:=zq (rd.out.below hb);replace hA:=zq (hA.out.below hb);replace hB_:=zq (hB_.out.below hb);replace hX:=zq (hX.out.below hb);(try simp only[World.size_alloc] at zU1a zU1b);clear hU hb;refine hwt 0 oQ2_0 (.string nm) hH0 ?_ ?_
 ·intro w' hSw;dsimp only[oQ2_0];go_simp
 try simp only[oQ2_0,hwA]
 refine hwt 1 oQ2_1 (.agg #[.int .i64 ak,.slice aa an aq]) hH0 ?_ ?_
 ·intro w' hSw;dsimp only[oQ2_1];go_simp
 try simp only[oQ2_1,hwA]
 refine hwt 3 oQ2_3 (.pointer (some ⟨r,0,none⟩)) hH0 ?_ ?_
 ·intro w' hSw;dsimp only[oQ2_3];go_simp
 try simp only[oQ2_3,hwA]
 refine hwt 4 oQ2_4 (.slice xa xn xq) hH0 ?_ ?_
 ·intro w' hSw;dsimp only[oQ2_4];go_simp
 try simp only[oQ2_4,hwA]
 refine hwt 5 oQ2_5 (.string nm) hH0 ?_ ?_
 ·intro w' hSw;dsimp only[oQ2_5];go_simp
 try simp only[oQ2_5,hwA]
 refine hwt 6 oQ2_6 (.agg #[.int .i64 ak,.slice aa an aq]) hH0 ?_ ?_
 ·intro w' hSw;dsimp only[oQ2_6];go_simp
 try simp only[oQ2_6,hwA]
 refine hwt 8 oQ2_8 (.agg #[.int .i64 bk,.slice ba bn bq]) hH0 ?_ ?_
 ·intro w' hSw;dsimp only[oQ2_8];go_simp
 try simp only[oQ2_8,hwA]
 refine hwt 9 oQ2_9 (.int .i64 dd) hH0 ?_ ?_
 ·intro w' hSw;dsimp only[oQ2_9];go_simp
 try simp only[oQ2_9,hwA]
 refine hwr 2 oQ2_2 (fun K hK=>?_)
 dsimp only[oQ2_2];go_simp
 go_at_call 81
 refine(bi _ a.ty _ _ hA.out HCA.out).mono ?_;rintro e X1 ⟨v,rfl,hv,hb⟩;obtain⟨kc,ac,nc,qc,rfl⟩:=hv.shape;have hN':=hv.rep.rg;clear hv
 go_wp2_with fail
 have zX1:U1.heap.size≤X1.heap.size:=hb.size;replace fA:=ag fA hb;replace fB:=ag fB hb;replace fR:=ag fR hb;replace fC:=zqb fC hb;replace rd:=zq (rd.out.below hb);replace hA:=zq (hA.out.below hb);replace hB_:=zq (hB_.out.below hb);replace hX:=zq (hX.out.below hb);have hN:=hN';clear hN';refine hK.out _ _ ⟨ah fA rfl,ah fA rfl,ah fB rfl,ah fB rfl⟩ (fun hH1=>?_);clear hK K hH0 hb
 try simp only[oQ2_2,hwA]
 refine hwr 7 oQ2_7 (fun K hK=>?_)
 dsimp only[oQ2_7];go_simp
 go_at_call 109
 refine(mkMore HCV.out HLL.out (by have:=HNM.out;unfold maxLen;omega) hX.out hA.out).mono ?_;rintro e X2 ⟨xa2,xm2,xq2,rfl,hcx,hb⟩;have hX2':Hid (aL (fun x=>((x≠r∧x<w.heap.size)∧x<X1.heap.size)∨X1.heap.size≤x) X2 (l ++ [⟨nm,a.ty⟩]) (.slice (some xa2) xm2 xq2)):=zq hcx;clear hcx
 go_wp2_with fail
 have zX2:X1.heap.size≤X2.heap.size:=hb.size;replace fA:=ag fA hb;replace fB:=ag fB hb;replace fR:=ag fR hb;replace fC:=zqb fC hb;replace rd:=zq (rd.out.below hb);replace hA:=zq (hA.out.below hb);replace hB_:=zq (hB_.out.below hb);replace hX:=zq (hX.out.below hb);replace hN:=zq (hN.out.below hb);have hX2:=hX2';clear hX2';refine hK.out _ _ ⟨ah fA rfl,ah fA rfl,ah fB rfl,ah fB rfl⟩ (fun hH2=>?_);clear hK K hH1 hb
 try simp only[oQ2_7,hwA]
 refine hwr 10 qA (fun K hK=>?_)
 dsimp only[qA];go_simp
 go_at_call 51
 refine(HIH.out nm HNM.out _ _ _ _ rd.out (hX2.out.move (.weaken fun b h _=>by have h1:=h;rcases h with ⟨h1,-⟩ | h1;exact h1.1;intro e;omega)) (.inr ⟨by simp,_,_,_,rfl⟩) (hB_.out.move (.weaken fun b h _=>h.1)) (by have:=HP.out;omega)).mono ?_;rintro e X3 ⟨t2,v,q2,rfl,hcn2,hv,hq2,hrd,hb⟩;obtain⟨kt2,nm2,ut2,tk2,ta2,tn2,tq2,fk2,fa2,fn2,fq2,lt2,ct2,mt2,qt2,rfl⟩:=hv.shape;have HC2:=zq hcn2;clear hcn2;have h2_':=hv.rg;have rd':Hid (aT X3 r q2):=zq hrd;clear hv hrd
 go_wp2_with fail
 have zX3:X2.heap.size≤X3.heap.size:=hb.size;replace fA:=aB fA hb;replace fB:=aB fB hb;replace fR:=aB fR hb;replace fC:=zqc fC hb;replace hA:=zq (hA.out.move (kpN hb (fun b hb=>hb.1)));replace hB_:=zq (hB_.out.move (kpN hb (fun b hb=>hb.1)));replace hX:=zq (hX.out.move (kpN hb (fun b hb=>hb.1)));replace hN:=zq (hN.out.move (kpN hb (fun b hb=>by have h1:=hb.1;have h2:=hb.2;omega)));replace hX2:=zq (hX2.out.move (kpN hb (fun b hb=>by rcases hb with h | h;exact h.1.1;omega)));have h2_:=h2_';clear h2_';clear rd;have rd:=rd';clear rd';refine hK.out _ _ ⟨ah fA rfl,ah fA rfl,ah fB rfl,ah fB rfl⟩ (fun hH3=>?_);clear hK K hH2 hb
 try simp only[qA,hwA]
 refine hwr 11 qB (fun K hK=>?_)
 dsimp only[qB];go_simp
 (try go_wp2_with fail);obtain⟨X4,hXq,hb,fL,zX4a,zX4b⟩:=aZ X3 (.cells #[.int .i64 kt2,.string nm2,.int .i64 ut2,.int .i64 tk2,.slice ta2 tn2 tq2,.int .i64 fk2,.slice fa2 fn2 fq2,.int .i64 lt2,.slice ct2 mt2 qt2] 28);rw[hXq];replace fA:=ag fA hb;replace fB:=ag fB hb;replace fR:=ag fR hb;replace fC:=zqb fC hb;replace rd:=zq (rd.out.below hb);replace hA:=zq (hA.out.below hb);replace hB_:=zq (hB_.out.below hb);replace hX:=zq (hX.out.below hb);replace hN:=zq (hN.out.below hb);replace hX2:=zq (hX2.out.below hb);replace h2_:=zq (h2_.out.below hb);refine hK.out _ _ ⟨ah fA rfl,ah fA rfl,ah fB rfl,ah fB rfl⟩ (fun hH4=>?_);clear hK K hH3 hb hXq
 try simp only[qB,hwA]
 refine hwt 12 qC (.agg #[.int .i64 5,.string nm,.int .i64 0,.int .i64 kc,.slice ac nc qc,.int .i64 0,.slice none 0 0,.int .i64 0,.slice (some ⟨X3.heap.size,0,none⟩) 1 1]) hH4 ?_ ?_
 ·intro w' hSw;dsimp only[qC];go_simp
 try simp only[qC,hwA]
 refine hwr 13 qD (fun K hK=>?_);obtain⟨r0,rf0,r1,rf1,r2,rf2,r3,rf3,r4,rf4,r5,rf5,r6,rf6,r7,rf7,r8,rf8⟩:=blk9f fR
 dsimp only[qD];go_simp
 (try go_wp2_with fail);have hQq:=bQ fR (.int .i64 5) (.string nm) (.int .i64 0) (.int .i64 kc) (.slice ac nc qc) (.int .i64 0) (.slice none 0 0) (.int .i64 0) (.slice (some ⟨X3.heap.size,0,none⟩) 1 1);clear fR r0 rf0 r1 rf1 r2 rf2 r3 rf3 r4 rf4 r5 rf5 r6 rf6 r7 rf7 r8 rf8;obtain⟨X5,hXq,hsq,fR,zX5a,zX5b⟩:=hQq;rw[hXq];replace fA:=hsq.blk (by omega) fA;replace fB:=hsq.blk (by omega) fB;replace fC:=zq (hsq.chg fC.out (by omega));replace rd:=zq (hsq.rd rd.out (by omega));replace hA:=zq (hA.out.move (hsq.keeps (fun b hb=>by have:=hb.2;omega)));replace hB_:=zq (hB_.out.move (hsq.keeps (fun b hb=>by have:=hb.2;omega)));replace hX:=zq (hX.out.move (hsq.keeps (fun b hb=>by have:=hb.2;omega)));replace hN:=zq (hsq.rep (fun b hb=>by have h1:=hb.1;have h2:=hb.2;omega) hN.out);replace hX2:=zq (hX2.out.move (hsq.keeps (fun b hb=>by rcases hb with h | h<;>omega)));replace h2_:=zq (h2_.out.move (hsq.keeps (fun b hb=>by have h1:=hb.1;have h2:=hb.2;omega)));replace fL:=hsq.blk (by omega) fL;refine hK.out _ _ ⟨ah fA rfl,ah fA rfl,ah fB rfl,ah fB rfl⟩ (fun hH5=>?_);clear hK K hH4 hsq hXq
 try simp only[qD,hwA]
 refine wpAnyH_done (by kernel_rfl) ?_ _;refine NoPanic.normal ?_;clear hH5;obtain⟨rc0,rc1,rc2,rc3,rc4,rc5,rc6,rc7,rc8⟩:=blk9 fR
 go_wp2_with fail
 refine bodyPost_ret (v:=.agg #[.int .i64 5,.string nm,.int .i64 0,.int .i64 kc,.slice ac nc qc,.int .i64 0,.slice none 0 0,.int .i64 0,.slice (some ⟨X3.heap.size,0,none⟩) 1 1]) (by simp[results,Tryz.results86,go_sem,rc0,rc1,rc2,rc3,rc4,rc5,rc6,rc7,rc8]) rfl ?_;have hks:aS (w.heap.size ≤ ·) X5 [t2] (.slice (some ⟨X3.heap.size,0,none⟩) 1 1):=aS.blk (by show w.heap.size≤_;omega) fL rfl (by unfold maxLen;omega) (aW.c1 (h2_.out.move (.weaken fun b h _=>by have:=h.1;omega)).srep);refine⟨.mk 5 nm 0 a.ty (.mk 0 []) 0 [t2],_,q2,rfl,?_,aA.mk (by have:=HNM.out;unfold maxLen;omega) (hN.out.move (.weaken fun b h _=>by have:=h.1;omega)) ⟨_,rfl,aE.nil0⟩ hks,by omega,rd.out,fC.out⟩;have h1:=HC2.out;have h2:=HNM.out;have h3:=HCA2.out;simp only[Tm.cnt,Tm.cnts,Ty.cnt,Ty.cnts,List.length_cons,List.length_nil]
 omega
theorem bareSc (nt:Int)(F:Nat→Prop)(t:Tm)(hc:t.kind=13∨t.kind=14)(IH0 : ∀t'∈t.kids,eQ nt F t'):eQ nt F t:=by
 intro d y w hsh hy hcnt;have IH : ∀t'∈t.kids,∀(y:Value) (W:World),aA F W t' y→Calls Tryz.prog 34 #[y] W (ex t'.bare W):=
  fun t' ht y W h=>IH0 t' ht (d-1) y W (by cases t with | mk k s u ty f l ts=>exact Tm.shapes_mem (Tm.shape_parts hsh).2.2.2.2 ht) h (by have:=Tm.cnt_kid ht;omega)
 clear IH0;obtain⟨k,nm,u,tk,ta,tn,tq,fk,fa,fn,fq,l,c,m,q,rfl⟩:=hy.shape;obtain⟨r1,r2,r3,r4,r5,r6,r7,r8,r9,rn,rm,rq,hty,hsr,hks⟩:=hy.parts;obtain⟨i0,hi,hz0,hz1,hz2⟩:=info_parts Tryz.infoTm
 cases t with | mk kk nn uu tt ff ll ts=>
 obtain⟨-,-,htop,-,-⟩:=Tm.shape_parts hsh;simp only[Tm.kind,Tm.name,Tm.num,Tm.type,Tm.src,Tm.label,Tm.kids] at *;subst r1 r2 r3 r8;unfold Tm.cnt at hcnt;have hcl:m≤1048576:=by omega
 have HN:=zq r9;have HRN:=zq rn;have IHH:=zq IH;have Z0:=zq hz0;have Z1:=zq hz1;have Z2:=zq hz2;have HI:=zq hi;unfold maxLen at rq;have hlen:0<ts.length:=by
  have h:aG k=1:=by rcases hc with rfl | rfl<;>rfl
  omega
 obtain⟨kid,rest,rfl⟩ : ∃a b,ts=a :: b:=by cases ts with | nil=>simp at hlen | cons a b=>exact⟨a,b,rfl⟩
 have hbare:(Tm.mk k nm u tt ff l (kid :: rest)).bare=kid.bare:=by rw[Tm.bare,Tm.bares];rcases hc with rfl | rfl<;>rfl
 rw[hbare];have hm0:0<m:=by omega
 have hn1:=r9;clear hy r9 r4 r5 r6 r7 rn hsh hz0 hz1 hz2 hi hcnt htop hbare hty hsr hlen;obtain⟨b,off,k0,nm0,u0,tk0,ta0,tn0,tq0,fk0,fa0,fn0,fq0,l0,a0,m0,q0,rfl,lb,e0,e1,e2,e3,e4,e5,e6,e7,e8,ht⟩:=hks.at (i:=0) (Below.refl _ _) (by simp);simp only[Nat.zero_mul,Nat.add_zero,List.getElem_cons_zero] at e0 e1 e2 e3 e4 e5 e6 e7 e8 ht;have HC:=zq (fun W (h:Below w.heap.size w W)=>IH kid (by simp) _ W (ht.below h));clear IH ht hks hn1 HN IHH;have g0:=af (aH (w:=w) (o:=.cells #[.int .i64 k,.string nm,.int .i64 u,.int .i64 tk,.slice ta tn tq,.int .i64 fk,.slice fa fn fq,.int .i64 l,.slice (some ⟨b,off,none⟩) m q] 28) (o':=.cells #[.int .i64 0,.string {data:=#[]},.int .i64 0,.int .i64 0,.slice none 0 0,.int .i64 0,.slice none 0 0,.int .i64 0,.slice none 0 0] 28)) e0;have g1:=af (aH (w:=w) (o:=.cells #[.int .i64 k,.string nm,.int .i64 u,.int .i64 tk,.slice ta tn tq,.int .i64 fk,.slice fa fn fq,.int .i64 l,.slice (some ⟨b,off,none⟩) m q] 28) (o':=.cells #[.int .i64 0,.string {data:=#[]},.int .i64 0,.int .i64 0,.slice none 0 0,.int .i64 0,.slice none 0 0,.int .i64 0,.slice none 0 0] 28)) e1;have g2:=af (aH (w:=w) (o:=.cells #[.int .i64 k,.string nm,.int .i64 u,.int .i64 tk,.slice ta tn tq,.int .i64 fk,.slice fa fn fq,.int .i64 l,.slice (some ⟨b,off,none⟩) m q] 28) (o':=.cells #[.int .i64 0,.string {data:=#[]},.int .i64 0,.int .i64 0,.slice none 0 0,.int .i64 0,.slice none 0 0,.int .i64 0,.slice none 0 0] 28)) e2;have g3:=af (aH (w:=w) (o:=.cells #[.int .i64 k,.string nm,.int .i64 u,.int .i64 tk,.slice ta tn tq,.int .i64 fk,.slice fa fn fq,.int .i64 l,.slice (some ⟨b,off,none⟩) m q] 28) (o':=.cells #[.int .i64 0,.string {data:=#[]},.int .i64 0,.int .i64 0,.slice none 0 0,.int .i64 0,.slice none 0 0,.int .i64 0,.slice none 0 0] 28)) e3;have g4:=af (aH (w:=w) (o:=.cells #[.int .i64 k,.string nm,.int .i64 u,.int .i64 tk,.slice ta tn tq,.int .i64 fk,.slice fa fn fq,.int .i64 l,.slice (some ⟨b,off,none⟩) m q] 28) (o':=.cells #[.int .i64 0,.string {data:=#[]},.int .i64 0,.int .i64 0,.slice none 0 0,.int .i64 0,.slice none 0 0,.int .i64 0,.slice none 0 0] 28)) e4;have g5:=af (aH (w:=w) (o:=.cells #[.int .i64 k,.string nm,.int .i64 u,.int .i64 tk,.slice ta tn tq,.int .i64 fk,.slice fa fn fq,.int .i64 l,.slice (some ⟨b,off,none⟩) m q] 28) (o':=.cells #[.int .i64 0,.string {data:=#[]},.int .i64 0,.int .i64 0,.slice none 0 0,.int .i64 0,.slice none 0 0,.int .i64 0,.slice none 0 0] 28)) e5;have g6:=af (aH (w:=w) (o:=.cells #[.int .i64 k,.string nm,.int .i64 u,.int .i64 tk,.slice ta tn tq,.int .i64 fk,.slice fa fn fq,.int .i64 l,.slice (some ⟨b,off,none⟩) m q] 28) (o':=.cells #[.int .i64 0,.string {data:=#[]},.int .i64 0,.int .i64 0,.slice none 0 0,.int .i64 0,.slice none 0 0,.int .i64 0,.slice none 0 0] 28)) e6
 have g7:=af (aH (w:=w) (o:=.cells #[.int .i64 k,.string nm,.int .i64 u,.int .i64 tk,.slice ta tn tq,.int .i64 fk,.slice fa fn fq,.int .i64 l,.slice (some ⟨b,off,none⟩) m q] 28) (o':=.cells #[.int .i64 0,.string {data:=#[]},.int .i64 0,.int .i64 0,.slice none 0 0,.int .i64 0,.slice none 0 0,.int .i64 0,.slice none 0 0] 28)) e7;have g8:=af (aH (w:=w) (o:=.cells #[.int .i64 k,.string nm,.int .i64 u,.int .i64 tk,.slice ta tn tq,.int .i64 fk,.slice fa fn fq,.int .i64 l,.slice (some ⟨b,off,none⟩) m q] 28) (o':=.cells #[.int .i64 0,.string {data:=#[]},.int .i64 0,.int .i64 0,.slice none 0 0,.int .i64 0,.slice none 0 0,.int .i64 0,.slice none 0 0] 28)) e8;clear e0 e1 e2 e3 e4 e5 e6 e7 e8
 rcases hc with rfl | rfl
 ·skip
  go_enter Tryz.func34,Tryz.ntmps34
  go_wp2_with fail
  refine(HC.out _ aH).mono ?_;rintro e w1 ⟨v1,rfl,hv1,hb1⟩;obtain⟨k5,nm5,u5',tk5,ta5,tn5,tq5,fk5,fa5,fn5,fq5,l5,c5',m5,q5,rfl⟩:=hv1.shape;have z0:w1.cell? ⟨w.heap.size+1,0,none⟩=some (.int .i64 0):=af hb1 (av 0);have y0:w1.frozen? ⟨w.heap.size+1,0,none⟩=false:=az hb1 (av 0) (aI 0);have z1:w1.cell? ⟨w.heap.size+1,1,none⟩=some (.string {data:=#[]}):=af hb1 (av 1);have y1:w1.frozen? ⟨w.heap.size+1,1,none⟩=false:=az hb1 (av 1) (aI 1);have z2:w1.cell? ⟨w.heap.size+1,2,none⟩=some (.int .i64 0):=af hb1 (av 2);have y2:w1.frozen? ⟨w.heap.size+1,2,none⟩=false:=az hb1 (av 2) (aI 2);have z3:w1.cell? ⟨w.heap.size+1,3,none⟩=some (.int .i64 0):=af hb1 (av 3);have y3:w1.frozen? ⟨w.heap.size+1,3,none⟩=false:=az hb1 (av 3) (aI 3);have z4:w1.cell? ⟨w.heap.size+1,4,none⟩=some (.slice none 0 0):=af hb1 (av 4);have y4:w1.frozen? ⟨w.heap.size+1,4,none⟩=false:=az hb1 (av 4) (aI 4);have z5:w1.cell? ⟨w.heap.size+1,5,none⟩=some (.int .i64 0):=af hb1 (av 5);have y5:w1.frozen? ⟨w.heap.size+1,5,none⟩=false:=az hb1 (av 5) (aI 5);have z6:w1.cell? ⟨w.heap.size+1,6,none⟩=some (.slice none 0 0):=af hb1 (av 6);have y6:w1.frozen? ⟨w.heap.size+1,6,none⟩=false:=az hb1 (av 6) (aI 6);have z7:w1.cell? ⟨w.heap.size+1,7,none⟩=some (.int .i64 0):=af hb1 (av 7);have y7:w1.frozen? ⟨w.heap.size+1,7,none⟩=false:=az hb1 (av 7) (aI 7);have z8:w1.cell? ⟨w.heap.size+1,8,none⟩=some (.slice none 0 0):=af hb1 (av 8);have y8:w1.frozen? ⟨w.heap.size+1,8,none⟩=false:=az hb1 (av 8) (aI 8);have lz0:=World.block_lt_of_cell? _ _ z0;have HV5:=zq (show b7 (w.heap.size+1+1) w1 kid.bare _ from hv1.mono (by simp));have HB6:=zq (al aH hb1);clear hv1 hb1
  go_wp2_with fail
  refine bodyPost_ret (v:=.agg #[.int .i64 k5,.string nm5,.int .i64 u5',.int .i64 tk5,.slice ta5 tn5 tq5,.int .i64 fk5,.slice fa5 fn5 fq5,.int .i64 l5,.slice c5' m5 q5]) (by simp[results,Tryz.results34,go_sem,z0,z1,z2,z3,z4,z5,z6,z7,z8]) rfl ?_
  exact⟨_,rfl,b7.mono ((((((((((HV5.out).setCell (by show w.heap.size+1<w.heap.size+1+1;omega) _).setCell (by show w.heap.size+1<w.heap.size+1+1;omega) _).setCell (by show w.heap.size+1<w.heap.size+1+1;omega) _).setCell (by show w.heap.size+1<w.heap.size+1+1;omega) _).setCell (by show w.heap.size+1<w.heap.size+1+1;omega) _).setCell (by show w.heap.size+1<w.heap.size+1+1;omega) _).setCell (by show w.heap.size+1<w.heap.size+1+1;omega) _).setCell (by show w.heap.size+1<w.heap.size+1+1;omega) _).setCell (by show w.heap.size+1<w.heap.size+1+1;omega) _) (by omega),(((((((((HB6.out).setCell (by show w.heap.size≤w.heap.size+1;omega) _).setCell (by show w.heap.size≤w.heap.size+1;omega) _).setCell (by show w.heap.size≤w.heap.size+1;omega) _).setCell (by show w.heap.size≤w.heap.size+1;omega) _).setCell (by show w.heap.size≤w.heap.size+1;omega) _).setCell (by show w.heap.size≤w.heap.size+1;omega) _).setCell (by show w.heap.size≤w.heap.size+1;omega) _).setCell (by show w.heap.size≤w.heap.size+1;omega) _).setCell (by show w.heap.size≤w.heap.size+1;omega) _⟩
 ·skip
  go_enter Tryz.func34,Tryz.ntmps34
  go_wp2_with fail
  refine(HC.out _ aH).mono ?_;rintro e w1 ⟨v1,rfl,hv1,hb1⟩;obtain⟨k5,nm5,u5',tk5,ta5,tn5,tq5,fk5,fa5,fn5,fq5,l5,c5',m5,q5,rfl⟩:=hv1.shape;have z0:w1.cell? ⟨w.heap.size+1,0,none⟩=some (.int .i64 0):=af hb1 (av 0);have y0:w1.frozen? ⟨w.heap.size+1,0,none⟩=false:=az hb1 (av 0) (aI 0);have z1:w1.cell? ⟨w.heap.size+1,1,none⟩=some (.string {data:=#[]}):=af hb1 (av 1);have y1:w1.frozen? ⟨w.heap.size+1,1,none⟩=false:=az hb1 (av 1) (aI 1);have z2:w1.cell? ⟨w.heap.size+1,2,none⟩=some (.int .i64 0):=af hb1 (av 2);have y2:w1.frozen? ⟨w.heap.size+1,2,none⟩=false:=az hb1 (av 2) (aI 2);have z3:w1.cell? ⟨w.heap.size+1,3,none⟩=some (.int .i64 0):=af hb1 (av 3);have y3:w1.frozen? ⟨w.heap.size+1,3,none⟩=false:=az hb1 (av 3) (aI 3);have z4:w1.cell? ⟨w.heap.size+1,4,none⟩=some (.slice none 0 0):=af hb1 (av 4);have y4:w1.frozen? ⟨w.heap.size+1,4,none⟩=false:=az hb1 (av 4) (aI 4);have z5:w1.cell? ⟨w.heap.size+1,5,none⟩=some (.int .i64 0):=af hb1 (av 5);have y5:w1.frozen? ⟨w.heap.size+1,5,none⟩=false:=az hb1 (av 5) (aI 5);have z6:w1.cell? ⟨w.heap.size+1,6,none⟩=some (.slice none 0 0):=af hb1 (av 6);have y6:w1.frozen? ⟨w.heap.size+1,6,none⟩=false:=az hb1 (av 6) (aI 6);have z7:w1.cell? ⟨w.heap.size+1,7,none⟩=some (.int .i64 0):=af hb1 (av 7);have y7:w1.frozen? ⟨w.heap.size+1,7,none⟩=false:=az hb1 (av 7) (aI 7);have z8:w1.cell? ⟨w.heap.size+1,8,none⟩=some (.slice none 0 0):=af hb1 (av 8);have y8:w1.frozen? ⟨w.heap.size+1,8,none⟩=false:=az hb1 (av 8) (aI 8);have lz0:=World.block_lt_of_cell? _ _ z0;have HV5:=zq (show b7 (w.heap.size+1+1) w1 kid.bare _ from hv1.mono (by simp));have HB6:=zq (al aH hb1);clear hv1 hb1
  go_wp2_with fail
  refine bodyPost_ret (v:=.agg #[.int .i64 k5,.string nm5,.int .i64 u5',.int .i64 tk5,.slice ta5 tn5 tq5,.int .i64 fk5,.slice fa5 fn5 fq5,.int .i64 l5,.slice c5' m5 q5]) (by simp[results,Tryz.results34,go_sem,z0,z1,z2,z3,z4,z5,z6,z7,z8]) rfl ?_
  exact⟨_,rfl,b7.mono ((((((((((HV5.out).setCell (by show w.heap.size+1<w.heap.size+1+1;omega) _).setCell (by show w.heap.size+1<w.heap.size+1+1;omega) _).setCell (by show w.heap.size+1<w.heap.size+1+1;omega) _).setCell (by show w.heap.size+1<w.heap.size+1+1;omega) _).setCell (by show w.heap.size+1<w.heap.size+1+1;omega) _).setCell (by show w.heap.size+1<w.heap.size+1+1;omega) _).setCell (by show w.heap.size+1<w.heap.size+1+1;omega) _).setCell (by show w.heap.size+1<w.heap.size+1+1;omega) _).setCell (by show w.heap.size+1<w.heap.size+1+1;omega) _) (by omega),(((((((((HB6.out).setCell (by show w.heap.size≤w.heap.size+1;omega) _).setCell (by show w.heap.size≤w.heap.size+1;omega) _).setCell (by show w.heap.size≤w.heap.size+1;omega) _).setCell (by show w.heap.size≤w.heap.size+1;omega) _).setCell (by show w.heap.size≤w.heap.size+1;omega) _).setCell (by show w.heap.size≤w.heap.size+1;omega) _).setCell (by show w.heap.size≤w.heap.size+1;omega) _).setCell (by show w.heap.size≤w.heap.size+1;omega) _).setCell (by show w.heap.size≤w.heap.size+1;omega) _⟩
theorem li (nt:Int)(F:Nat→Prop)(t:Tm):eQ nt F t:=by
 have IH : ∀t'∈t.kids,eQ nt F t':=fun t' ht=>li nt F t'
 by_cases hc:t.kind=13∨t.kind=14
 ·exact bareSc nt F t hc IH
 ·by_cases h5:t.kind=5
  ·exact bareS5 nt F t h5 IH
  ·exact bareSk nt F t (by simp;omega) (by simp;omega) (by simpa using h5) IH
termination_by SizeOf.sizeOf t
decreasing_by exact Tm.kid_lt ht
end Go.Proofs.YtfahhonmiimmdaaGreat

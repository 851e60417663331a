/-
  spec.l3More: a context with another binding, its blocks named.
  A term without casts and types: what it is.
  A term with other types: what it is.
  The marks of terms: some number; only the term's own blocks turn.
  Closed terms, terms: drawn.
-/
import Derived.Test.YtnaoghknnenfoaaB10
import Derived.Test.YtnaoghknnenfoaaTmMap
import Derived.Test.YtnaoghknnenfoaaTyCopyB
import Derived.Test.YtnaoghknnenfoaaB5
import Derived.Test.YtnaoghknnenfoaaB11
import Derived.Test.YtnaoghknnenfoaaB16
import Derived.Test.YtnaoghknnenfoaaTmDraw
set_option linter.unusedSimpArgs false
set_option linter.unusedVariables false
set_option maxRecDepth 100000
namespace Go.Proofs.Ytnaoghknnenfoaa
open Go.RowKit
def RetCG (Q:Nat→Prop)(l:List Bd)(w:World)(e:Ending)(w':World):Prop:=∃(a:Addr) (m q:Nat),e = .returned (.slice (some a) m q)∧aL (fun x=>(Q x∧x<w.heap.size)∨w.heap.size≤x) w' l (.slice (some a) m q)∧Below w.heap.size w w'
set_option maxHeartbeats 4000000 in
theorem oM (Q:Nat→Prop)(l:List Bd)(ad:Addr)(n q:Nat)(nm:ByteArray)(ty:Ty)(tk:Int)(ta:Option Addr)(tn tq:Nat)(w:World)(hy:aL Q w l (.slice (some ad) n q))(hl:l.length≤1000000)(hl1:1≤l.length)(hnm:nm.size≤maxLen)(ht:ap Q w ty (.agg #[.int .i64 tk,.slice ta tn tq])) :
  Calls Try.prog 66 #[.slice (some ad) n q,.string nm,.agg #[.int .i64 tk,.slice ta tn tq]] w (RetCG Q (l ++ [⟨nm,ty⟩]) w):=by
 obtain⟨i0,hi,hz0,hz1,hz2⟩:=info_parts Try.infoBdC
 have Z0:=Lib.hid hz0
 have Z1:=Lib.hid hz1
 have Z2:=Lib.hid hz2
 have HI:=Lib.hid hi
 have hn:=hy.n_eq
 have HN:=Lib.hid hn.symm
 have hn1:0<n:=by omega
 have hn2:n≤1000000:=by omega
 have HY:=Lib.hid (hy.move (.weaken (G:=(fun x=>Q x∧x<w.heap.size)) fun b h hl=>⟨h,hl⟩))
 have HT:=Lib.hid (ht.move (.weaken (G:=(fun x=>Q x∧x<w.heap.size)) fun b h hl=>⟨h,hl⟩))
 clear hi hz0 hz1 hz2 hn hy ht
 go_enter Try.func66,Try.ntmps66
 go_wp2_with fail
 have fB:(w.alloc (.cells #[.int .i64 tk,.slice ta tn tq] 25)).heap[w.heap.size]?=some (.cells #[.int .i64 tk,.slice ta tn tq] 25 (0,0)):=aD rfl
 have fC:=Lib.hid (show Below w.heap.size w (w.alloc (.cells #[.int .i64 tk,.slice ta tn tq] 25)) from ah)
 refine wp_region_noPanic ?_
 refine wp_region_held_drew (S:=fun w'=>w'.cell? ⟨w.heap.size,0,none⟩=some (.int .i64 tk)∧w'.cell? ⟨w.heap.size,1,none⟩=some (.slice ta tn tq)) (by kernel_rfl) ?_ (fun hHeld0=>?_)
 ·exact⟨ay (ag fB (o:=0) rfl),ay (ag fB (o:=1) rfl)⟩
 obtain⟨U,hU⟩ : ∃X:World,X=World.drew (w.alloc (.cells #[.int .i64 tk,.slice ta tn tq] 25)):=⟨_,rfl⟩
 have fB':U.heap[w.heap.size]?=some (.cells #[.int .i64 tk,.slice ta tn tq] 25 (0,0)):=by rw [hU];exact fB
 have fC':=Lib.hid (show Below w.heap.size w U from by rw [hU];exact fC.out.drew)
 have zU:U.heap.size=w.heap.size+1:=by rw [hU];simp
 rw [←hU] at hHeld0 ⊢
 have zUa:w.heap.size+1≤U.heap.size:=by omega
 have zUb:U.heap.size≤w.heap.size+1:=by omega
 clear zU
 clear hU fB fC
 have fB:=fB'
 have fC:=fC'
 clear fB' fC'
 refine hwt 1 oM1 (.slice (some ad) n q) hHeld0 ?_ ?_
 ·intro w' hSw;dsimp only [oM1];go_simp
 try simp only [oM1,hwA]
 refine hwt 3 oM3 (.string nm) hHeld0 ?_ ?_
 ·intro w' hSw;dsimp only [oM3];go_simp
 try simp only [oM3,hwA]
 refine hwt 4 oM4 (.agg #[.int .i64 tk,.slice ta tn tq]) hHeld0 ?_ ?_
 ·intro w' hSw;dsimp only [oM4];go_simp
 try simp only [oM4,hwA]
 refine hwt 5 oM5 (.agg #[.string nm,.int .i64 tk,.slice ta tn tq]) hHeld0 ?_ ?_
 ·intro w' hSw;dsimp only [oM5];go_simp
 try simp only [oM5,hwA]
 refine wpAnyH_ready (rs:= [0,6]) (by kernel_rfl) (by simp) ?_
 refine(AllReadyH.cons (o:=oM0) rfl (fun K hK=>?_) (AllReadyH.cons (o:=oM6) rfl (fun K hK=>?_) AllReadyH.nil))
 ·skip
  dsimp only [oM0]
  go_simp
  (try go_wp2_with fail)
  have fE2:(U.alloc (.cells #[] 66)).heap[U.heap.size]?=some (.cells #[] 66 (0,0)):=aD rfl
  have fB2:=af fB (ah (o:=.cells #[] 66))
  have fC2:=Lib.hid (ai fC.out (ah (o:=.cells #[] 66)))
  have hzW2:(U.alloc (.cells #[] 66)).heap.size=U.heap.size+1:=by simp
  refine hK.out _ _ ⟨ag fB2 (o:=0) rfl,ag fB2 (o:=1) rfl⟩ (fun hHeld1=>?_)
  clear hK K hHeld0 fB fC
  try simp only [oM0,hwA]
  obtain⟨X1,hWW⟩ : ∃X:World,X=(U.alloc (.cells #[] 66)):=⟨_,rfl⟩
  rw [←hWW] at fB2 fC2 fE2 hzW2 hHeld1 ⊢
  clear hWW
  have fB:=fB2
  have fC:=fC2
  have fE:=fE2
  clear fB2 fC2 fE2
  have zX1a:U.heap.size+1≤X1.heap.size:=by omega
  have zX1b:X1.heap.size≤U.heap.size+1:=by omega
  clear hzW2
  refine wpAnyH_ready (rs:= [2,6]) (by kernel_rfl) (by simp) ?_
  refine(AllReadyH.cons (o:=oM2) rfl (fun K hK=>?_) (AllReadyH.cons (o:=oM6) rfl (fun K hK=>?_) AllReadyH.nil))
  ·skip
   obtain⟨xs0,ho0,hv0⟩:BdM U.heap.size X1 (.slice (some ⟨U.heap.size,0,none⟩) 0 0) []:=BdM.nil (Nat.le_refl _) fE rfl
   obtain rfl:xs0 = []:=hv0
   have hlg:w.heap.size≤U.heap.size:=by have:=fC.out.size;omega
   obtain⟨ad1',xs,ha1,Y1,Y2,Y3⟩ : ∃ad' xs,some ad=some ad'∧aX (fun b=>(Q b∧b<w.heap.size)∧(Value.slice (some ⟨U.heap.size,0,none⟩) 0 0).ownBlock≠some b) X1 l xs∧(∀j u,xs[j]?=some u→X1.cell? (ad'.add j)=some u)∧∀u∈xs,u.oneCell'=true:=by
    have h0:=(HY.out.below fC.out).move (.weaken (G:=fun b=>(Q b∧b<w.heap.size)∧(Value.slice (some ⟨U.heap.size,0,none⟩) 0 0).ownBlock≠some b) fun b hb _=>⟨hb,fun e=>by simp [Value.ownBlock] at e;have:=hb.2;omega⟩)
    exact h0.cellsAny
   obtain rfl:ad=ad1':=by simpa using ha1
   have hxl:xs.length=n*3:=by rw [Y1.len,HN.out]
   refine step_append_lies _ (by rfl) (.tmp 7) (.tmp 8) 63 (by rfl) U.heap.size 66 i0 _ 3 48 Try.underlying63 HI.out Z0.out Z1.out Z2.out rfl (by omega) (.slice (some ⟨U.heap.size,0,none⟩) 0 0) 0 [] (by rfl) ho0 ad n q xs (by rfl) hxl Y2 Y3 hn1 (by unfold maxLen;omega) (by omega) (by omega) _ rfl ?_
   intro gg cap w5 hown hgrow hat hlt2
   simp only [Nat.zero_add] at hown ⊢
   have MM2:=Lib.hid (show BdG (fun x=>Q x∧x<w.heap.size) U.heap.size w5 (.slice (some ⟨gg,0,none⟩) n cap) ([]++l) from BdG.push (F:=(fun x=>Q x∧x<w.heap.size)) (W:=X1) (v:=(.slice (some ⟨U.heap.size,0,none⟩) 0 0)) (bs:= []) (cs:=l) (xs:= []) (ys:=xs) rfl Y1 (by simpa [HN.out] using hown) hgrow (by rcases hat with h | h;exact .inl (h.symm▸rfl);exact .inr (by rw [h];rfl)))
   have hb45:Below U.heap.size X1 w5:=Below.grown (Below.refl _ _) hgrow (by omega) (fun k hk=>by simp [Value.ownBlock] at hk;omega)
   have fC2:=Lib.hid (fC.out.trans (hb45.mono hlg))
   have fB2:w5.heap[w.heap.size]?=some (.cells #[.int .i64 tk,.slice ta tn tq] 25 (0,0)):=(hb45.block _ (by omega)).trans fB
   have z5:X1.heap.size≤w5.heap.size:=hgrow.size
   refine hK.out _ _ ⟨ag fB2 (o:=0) rfl,ag fB2 (o:=1) rfl⟩ (fun hHeld2=>?_)
   clear hK K hHeld1 fB fC fE ho0 Y1 Y2 Y3 hown hgrow hat ha1 hxl hb45
   try simp only [oM2,hwA]
   have MM:=MM2
   have fC:=fC2
   have fB:=fB2
   clear MM2 fC2 fB2
   refine hwr 6 oM6 (fun K hK=>?_)
   ·skip
    dsimp only [oM6]
    go_simp
    (try go_wp2_with fail)
    have fN2:(w5.alloc (.cells #[.string nm,.int .i64 tk,.slice ta tn tq] 66)).heap[w5.heap.size]?=some (.cells #[.string nm,.int .i64 tk,.slice ta tn tq] 66 (0,0)):=aD rfl
    have MM2:=Lib.hid (MM.out.below (ah (o:=.cells #[.string nm,.int .i64 tk,.slice ta tn tq] 66)))
    have fB2:=af fB (ah (o:=.cells #[.string nm,.int .i64 tk,.slice ta tn tq] 66))
    have fC2:=Lib.hid (ai fC.out (ah (o:=.cells #[.string nm,.int .i64 tk,.slice ta tn tq] 66)))
    have hzW2:(w5.alloc (.cells #[.string nm,.int .i64 tk,.slice ta tn tq] 66)).heap.size=w5.heap.size+1:=by simp
    refine hK.out _ _ ⟨ag fB2 (o:=0) rfl,ag fB2 (o:=1) rfl⟩ (fun hHeld3=>?_)
    clear hK K hHeld2 fB fC MM
    try simp only [oM6,hwA]
    obtain⟨X3,hWW⟩ : ∃X:World,X=(w5.alloc (.cells #[.string nm,.int .i64 tk,.slice ta tn tq] 66)):=⟨_,rfl⟩
    rw [←hWW] at fB2 fC2 fN2 MM2 hzW2 hHeld3 ⊢
    clear hWW
    have fB:=fB2
    have fC:=fC2
    have fN:=fN2
    have MM:=MM2
    clear fB2 fC2 fN2 MM2
    have zX3a:w5.heap.size+1≤X3.heap.size:=by omega
    have zX3b:X3.heap.size≤w5.heap.size+1:=by omega
    clear hzW2
    refine hwr 7 oM7 (fun K hK=>?_)
    ·skip
     obtain⟨xs5,ho5,hv5⟩:=MM.out
     have hv1:aX (fun b=>(Q b∧b<w.heap.size)∧(Value.slice (some ⟨gg,0,none⟩) n cap).ownBlock≠some b) X3 [⟨nm,ty⟩] [.string nm,.int .i64 tk,.slice ta tn tq]:=bP hnm ((HT.out.below fC.out).move (.weaken fun b hb _=>⟨hb,fun e=>by have:=(ho5.lt b e).1;have:=hb.2;omega⟩))
     refine step_append_lies _ (by rfl) (.tmp 9) (.tmp 13) 63 (by rfl) U.heap.size 66 i0 _ 3 48 Try.underlying63 HI.out Z0.out Z1.out Z2.out rfl (by omega) (.slice (some ⟨gg,0,none⟩) n cap) n xs5 (by rfl) (by simpa [HN.out] using ho5) ⟨w5.heap.size,0,none⟩ 1 1 [.string nm,.int .i64 tk,.slice ta tn tq] (by rfl) (by rfl) (World.news_of_block (cs:=#[.string nm,.int .i64 tk,.slice ta tn tq]) (t:=66) (fr:=(0,0)) fN) (by simp [Value.oneCell']) (by omega) (by unfold maxLen;omega) (by omega) (by omega) _ rfl ?_
     intro g6 cap6 w6 hown hgrow hat hlt3
     have M6:BdG (fun x=>Q x∧x<w.heap.size) U.heap.size w6 (.slice (some ⟨g6,0,none⟩) (n+1) cap6) (([]++l) ++ [⟨nm,ty⟩]):=BdG.push (F:=(fun x=>Q x∧x<w.heap.size)) (W:=X3) (v:=(.slice (some ⟨gg,0,none⟩) n cap)) hv5 hv1 (by simpa [HN.out] using hown) hgrow (by rcases hat with h | h;exact .inl (h.symm▸rfl);exact .inr (by rw [h];rfl))
     have RF:=Lib.hid (show aL (fun x=>(Q x∧x<w.heap.size)∨w.heap.size≤x) w6 (l ++ [⟨nm,ty⟩]) (.slice (some ⟨g6,0,none⟩) (n+1) cap6) from M6.rep.move (.weaken fun b h _=>h.imp id fun q=>by have:=fC.out.size;omega))
     have hb56:Below U.heap.size X3 w6:=Below.grown (Below.refl _ _) hgrow (by omega) (fun k hk=>(ho5.lt k hk).1)
     have fC2:=Lib.hid (fC.out.trans (hb56.mono hlg))
     have fB2:w6.heap[w.heap.size]?=some (.cells #[.int .i64 tk,.slice ta tn tq] 25 (0,0)):=(hb56.block _ (by omega)).trans fB
     refine hK.out _ _ ⟨ag fB2 (o:=0) rfl,ag fB2 (o:=1) rfl⟩ (fun hHeld4=>?_)
     clear hK K hHeld3 fB fC fN ho5 hv5 hv1 hown hgrow hat M6 hb56 MM
     try simp only [oM7,hwA]
     have fC:=fC2
     have fB:=fB2
     clear fC2 fB2
     refine hwt 8 oM8 (.slice (some ⟨g6,0,none⟩) (n+1) cap6) hHeld4 ?_ ?_
     ·intro w' hSw;dsimp only [oM8];go_simp
     try simp only [oM8,hwA]
     refine wpAnyH_done (by kernel_rfl) ?_ _
     refine NoPanic.normal ?_
     clear hHeld4
     go_wp2_with fail
     go_ret
     exact⟨_,_,_,rfl,RF.out,fC.out⟩
  ·skip
   dsimp only [oM6]
   go_simp
   (try go_wp2_with fail)
   have fN2:(X1.alloc (.cells #[.string nm,.int .i64 tk,.slice ta tn tq] 66)).heap[X1.heap.size]?=some (.cells #[.string nm,.int .i64 tk,.slice ta tn tq] 66 (0,0)):=aD rfl
   have fE2:=af fE (ah (o:=.cells #[.string nm,.int .i64 tk,.slice ta tn tq] 66))
   have fB2:=af fB (ah (o:=.cells #[.string nm,.int .i64 tk,.slice ta tn tq] 66))
   have fC2:=Lib.hid (ai fC.out (ah (o:=.cells #[.string nm,.int .i64 tk,.slice ta tn tq] 66)))
   have hzW2:(X1.alloc (.cells #[.string nm,.int .i64 tk,.slice ta tn tq] 66)).heap.size=X1.heap.size+1:=by simp
   refine hK.out _ _ ⟨ag fB2 (o:=0) rfl,ag fB2 (o:=1) rfl⟩ (fun hHeld2=>?_)
   clear hK K hHeld1 fB fC fE
   try simp only [oM6,hwA]
   obtain⟨X2,hWW⟩ : ∃X:World,X=(X1.alloc (.cells #[.string nm,.int .i64 tk,.slice ta tn tq] 66)):=⟨_,rfl⟩
   rw [←hWW] at fB2 fC2 fE2 fN2 hzW2 hHeld2 ⊢
   clear hWW
   have fB:=fB2
   have fC:=fC2
   have fE:=fE2
   have fN:=fN2
   clear fB2 fC2 fE2 fN2
   have zX2a:X1.heap.size+1≤X2.heap.size:=by omega
   have zX2b:X2.heap.size≤X1.heap.size+1:=by omega
   clear hzW2
   refine hwr 2 oM2 (fun K hK=>?_)
   ·skip
    obtain⟨xs0,ho0,hv0⟩:BdM U.heap.size X2 (.slice (some ⟨U.heap.size,0,none⟩) 0 0) []:=BdM.nil (Nat.le_refl _) fE rfl
    obtain rfl:xs0 = []:=hv0
    have hlg:w.heap.size≤U.heap.size:=by have:=fC.out.size;omega
    obtain⟨ad1',xs,ha1,Y1,Y2,Y3⟩ : ∃ad' xs,some ad=some ad'∧aX (fun b=>(Q b∧b<w.heap.size)∧(Value.slice (some ⟨U.heap.size,0,none⟩) 0 0).ownBlock≠some b) X2 l xs∧(∀j u,xs[j]?=some u→X2.cell? (ad'.add j)=some u)∧∀u∈xs,u.oneCell'=true:=by
     have h0:=(HY.out.below fC.out).move (.weaken (G:=fun b=>(Q b∧b<w.heap.size)∧(Value.slice (some ⟨U.heap.size,0,none⟩) 0 0).ownBlock≠some b) fun b hb _=>⟨hb,fun e=>by simp [Value.ownBlock] at e;have:=hb.2;omega⟩)
     exact h0.cellsAny
    obtain rfl:ad=ad1':=by simpa using ha1
    have hxl:xs.length=n*3:=by rw [Y1.len,HN.out]
    refine step_append_lies _ (by rfl) (.tmp 7) (.tmp 8) 63 (by rfl) U.heap.size 66 i0 _ 3 48 Try.underlying63 HI.out Z0.out Z1.out Z2.out rfl (by omega) (.slice (some ⟨U.heap.size,0,none⟩) 0 0) 0 [] (by rfl) ho0 ad n q xs (by rfl) hxl Y2 Y3 hn1 (by unfold maxLen;omega) (by omega) (by omega) _ rfl ?_
    intro gg cap w5 hown hgrow hat hlt2
    simp only [Nat.zero_add] at hown ⊢
    have MM2:=Lib.hid (show BdG (fun x=>Q x∧x<w.heap.size) U.heap.size w5 (.slice (some ⟨gg,0,none⟩) n cap) ([]++l) from BdG.push (F:=(fun x=>Q x∧x<w.heap.size)) (W:=X2) (v:=(.slice (some ⟨U.heap.size,0,none⟩) 0 0)) (bs:= []) (cs:=l) (xs:= []) (ys:=xs) rfl Y1 (by simpa [HN.out] using hown) hgrow (by rcases hat with h | h;exact .inl (h.symm▸rfl);exact .inr (by rw [h];rfl)))
    have hb45:Below U.heap.size X2 w5:=Below.grown (Below.refl _ _) hgrow (by omega) (fun k hk=>by simp [Value.ownBlock] at hk;omega)
    have fC2:=Lib.hid (fC.out.trans (hb45.mono hlg))
    have fB2:w5.heap[w.heap.size]?=some (.cells #[.int .i64 tk,.slice ta tn tq] 25 (0,0)):=(hb45.block _ (by omega)).trans fB
    have fN2:w5.heap[X1.heap.size]?=some (.cells #[.string nm,.int .i64 tk,.slice ta tn tq] 66 (0,0)):=(hgrow.block _ (al fN) (by simp [Value.ownBlock];omega)).trans fN
    have z5:X2.heap.size≤w5.heap.size:=hgrow.size
    refine hK.out _ _ ⟨ag fB2 (o:=0) rfl,ag fB2 (o:=1) rfl⟩ (fun hHeld5=>?_)
    clear hK K hHeld2 fB fC fE fN ho0 Y1 Y2 Y3 hown hgrow hat ha1 hxl hb45
    try simp only [oM2,hwA]
    have MM:=MM2
    have fC:=fC2
    have fB:=fB2
    have fN:=fN2
    clear MM2 fC2 fB2 fN2
    refine hwr 7 oM7 (fun K hK=>?_)
    ·skip
     obtain⟨xs5,ho5,hv5⟩:=MM.out
     have hv1:aX (fun b=>(Q b∧b<w.heap.size)∧(Value.slice (some ⟨gg,0,none⟩) n cap).ownBlock≠some b) w5 [⟨nm,ty⟩] [.string nm,.int .i64 tk,.slice ta tn tq]:=bP hnm ((HT.out.below fC.out).move (.weaken fun b hb _=>⟨hb,fun e=>by have:=(ho5.lt b e).1;have:=hb.2;omega⟩))
     refine step_append_lies _ (by rfl) (.tmp 9) (.tmp 13) 63 (by rfl) U.heap.size 66 i0 _ 3 48 Try.underlying63 HI.out Z0.out Z1.out Z2.out rfl (by omega) (.slice (some ⟨gg,0,none⟩) n cap) n xs5 (by rfl) (by simpa [HN.out] using ho5) ⟨X1.heap.size,0,none⟩ 1 1 [.string nm,.int .i64 tk,.slice ta tn tq] (by rfl) (by rfl) (World.news_of_block (cs:=#[.string nm,.int .i64 tk,.slice ta tn tq]) (t:=66) (fr:=(0,0)) fN) (by simp [Value.oneCell']) (by omega) (by unfold maxLen;omega) (by omega) (by omega) _ rfl ?_
     intro g6 cap6 w6 hown hgrow hat hlt3
     have M6:BdG (fun x=>Q x∧x<w.heap.size) U.heap.size w6 (.slice (some ⟨g6,0,none⟩) (n+1) cap6) (([]++l) ++ [⟨nm,ty⟩]):=BdG.push (F:=(fun x=>Q x∧x<w.heap.size)) (W:=w5) (v:=(.slice (some ⟨gg,0,none⟩) n cap)) hv5 hv1 (by simpa [HN.out] using hown) hgrow (by rcases hat with h | h;exact .inl (h.symm▸rfl);exact .inr (by rw [h];rfl))
     have RF:=Lib.hid (show aL (fun x=>(Q x∧x<w.heap.size)∨w.heap.size≤x) w6 (l ++ [⟨nm,ty⟩]) (.slice (some ⟨g6,0,none⟩) (n+1) cap6) from M6.rep.move (.weaken fun b h _=>h.imp id fun q=>by have:=fC.out.size;omega))
     have hb56:Below U.heap.size w5 w6:=Below.grown (Below.refl _ _) hgrow (by omega) (fun k hk=>(ho5.lt k hk).1)
     have fC2:=Lib.hid (fC.out.trans (hb56.mono hlg))
     have fB2:w6.heap[w.heap.size]?=some (.cells #[.int .i64 tk,.slice ta tn tq] 25 (0,0)):=(hb56.block _ (by omega)).trans fB
     refine hK.out _ _ ⟨ag fB2 (o:=0) rfl,ag fB2 (o:=1) rfl⟩ (fun hHeld6=>?_)
     clear hK K hHeld5 fB fC fN ho5 hv5 hv1 hown hgrow hat M6 hb56 MM
     try simp only [oM7,hwA]
     have fC:=fC2
     have fB:=fB2
     clear fC2 fB2
     refine hwt 8 oM8 (.slice (some ⟨g6,0,none⟩) (n+1) cap6) hHeld6 ?_ ?_
     ·intro w' hSw;dsimp only [oM8];go_simp
     try simp only [oM8,hwA]
     refine wpAnyH_done (by kernel_rfl) ?_ _
     refine NoPanic.normal ?_
     clear hHeld6
     go_wp2_with fail
     go_ret
     exact⟨_,_,_,rfl,RF.out,fC.out⟩
 ·skip
  dsimp only [oM6]
  go_simp
  (try go_wp2_with fail)
  have fN2:(U.alloc (.cells #[.string nm,.int .i64 tk,.slice ta tn tq] 66)).heap[U.heap.size]?=some (.cells #[.string nm,.int .i64 tk,.slice ta tn tq] 66 (0,0)):=aD rfl
  have fB2:=af fB (ah (o:=.cells #[.string nm,.int .i64 tk,.slice ta tn tq] 66))
  have fC2:=Lib.hid (ai fC.out (ah (o:=.cells #[.string nm,.int .i64 tk,.slice ta tn tq] 66)))
  have hzW2:(U.alloc (.cells #[.string nm,.int .i64 tk,.slice ta tn tq] 66)).heap.size=U.heap.size+1:=by simp
  refine hK.out _ _ ⟨ag fB2 (o:=0) rfl,ag fB2 (o:=1) rfl⟩ (fun hHeld1=>?_)
  clear hK K hHeld0 fB fC
  try simp only [oM6,hwA]
  obtain⟨X1,hWW⟩ : ∃X:World,X=(U.alloc (.cells #[.string nm,.int .i64 tk,.slice ta tn tq] 66)):=⟨_,rfl⟩
  rw [←hWW] at fB2 fC2 fN2 hzW2 hHeld1 ⊢
  clear hWW
  have fB:=fB2
  have fC:=fC2
  have fN:=fN2
  clear fB2 fC2 fN2
  have zX1a:U.heap.size+1≤X1.heap.size:=by omega
  have zX1b:X1.heap.size≤U.heap.size+1:=by omega
  clear hzW2
  refine hwr 0 oM0 (fun K hK=>?_)
  ·skip
   dsimp only [oM0]
   go_simp
   (try go_wp2_with fail)
   have fE2:(X1.alloc (.cells #[] 66)).heap[X1.heap.size]?=some (.cells #[] 66 (0,0)):=aD rfl
   have fN2:=af fN (ah (o:=.cells #[] 66))
   have fB2:=af fB (ah (o:=.cells #[] 66))
   have fC2:=Lib.hid (ai fC.out (ah (o:=.cells #[] 66)))
   have hzW2:(X1.alloc (.cells #[] 66)).heap.size=X1.heap.size+1:=by simp
   refine hK.out _ _ ⟨ag fB2 (o:=0) rfl,ag fB2 (o:=1) rfl⟩ (fun hHeld7=>?_)
   clear hK K hHeld1 fB fC fN
   try simp only [oM0,hwA]
   obtain⟨X7,hWW⟩ : ∃X:World,X=(X1.alloc (.cells #[] 66)):=⟨_,rfl⟩
   rw [←hWW] at fB2 fC2 fE2 fN2 hzW2 hHeld7 ⊢
   clear hWW
   have fB:=fB2
   have fC:=fC2
   have fE:=fE2
   have fN:=fN2
   clear fB2 fC2 fE2 fN2
   have zX7a:X1.heap.size+1≤X7.heap.size:=by omega
   have zX7b:X7.heap.size≤X1.heap.size+1:=by omega
   clear hzW2
   refine hwr 2 oM2 (fun K hK=>?_)
   ·skip
    obtain⟨xs0,ho0,hv0⟩:BdM X1.heap.size X7 (.slice (some ⟨X1.heap.size,0,none⟩) 0 0) []:=BdM.nil (Nat.le_refl _) fE rfl
    obtain rfl:xs0 = []:=hv0
    have hlg:w.heap.size≤X1.heap.size:=by have:=fC.out.size;omega
    obtain⟨ad1',xs,ha1,Y1,Y2,Y3⟩ : ∃ad' xs,some ad=some ad'∧aX (fun b=>(Q b∧b<w.heap.size)∧(Value.slice (some ⟨X1.heap.size,0,none⟩) 0 0).ownBlock≠some b) X7 l xs∧(∀j u,xs[j]?=some u→X7.cell? (ad'.add j)=some u)∧∀u∈xs,u.oneCell'=true:=by
     have h0:=(HY.out.below fC.out).move (.weaken (G:=fun b=>(Q b∧b<w.heap.size)∧(Value.slice (some ⟨X1.heap.size,0,none⟩) 0 0).ownBlock≠some b) fun b hb _=>⟨hb,fun e=>by simp [Value.ownBlock] at e;have:=hb.2;omega⟩)
     exact h0.cellsAny
    obtain rfl:ad=ad1':=by simpa using ha1
    have hxl:xs.length=n*3:=by rw [Y1.len,HN.out]
    refine step_append_lies _ (by rfl) (.tmp 7) (.tmp 8) 63 (by rfl) X1.heap.size 66 i0 _ 3 48 Try.underlying63 HI.out Z0.out Z1.out Z2.out rfl (by omega) (.slice (some ⟨X1.heap.size,0,none⟩) 0 0) 0 [] (by rfl) ho0 ad n q xs (by rfl) hxl Y2 Y3 hn1 (by unfold maxLen;omega) (by omega) (by omega) _ rfl ?_
    intro gg cap w5 hown hgrow hat hlt2
    simp only [Nat.zero_add] at hown ⊢
    have MM2:=Lib.hid (show BdG (fun x=>Q x∧x<w.heap.size) X1.heap.size w5 (.slice (some ⟨gg,0,none⟩) n cap) ([]++l) from BdG.push (F:=(fun x=>Q x∧x<w.heap.size)) (W:=X7) (v:=(.slice (some ⟨X1.heap.size,0,none⟩) 0 0)) (bs:= []) (cs:=l) (xs:= []) (ys:=xs) rfl Y1 (by simpa [HN.out] using hown) hgrow (by rcases hat with h | h;exact .inl (h.symm▸rfl);exact .inr (by rw [h];rfl)))
    have hb45:Below X1.heap.size X7 w5:=Below.grown (Below.refl _ _) hgrow (by omega) (fun k hk=>by simp [Value.ownBlock] at hk;omega)
    have fC2:=Lib.hid (fC.out.trans (hb45.mono hlg))
    have fB2:w5.heap[w.heap.size]?=some (.cells #[.int .i64 tk,.slice ta tn tq] 25 (0,0)):=(hb45.block _ (by omega)).trans fB
    have fN2:w5.heap[U.heap.size]?=some (.cells #[.string nm,.int .i64 tk,.slice ta tn tq] 66 (0,0)):=(hgrow.block _ (al fN) (by simp [Value.ownBlock];omega)).trans fN
    have z5:X7.heap.size≤w5.heap.size:=hgrow.size
    refine hK.out _ _ ⟨ag fB2 (o:=0) rfl,ag fB2 (o:=1) rfl⟩ (fun hHeld8=>?_)
    clear hK K hHeld7 fB fC fE fN ho0 Y1 Y2 Y3 hown hgrow hat ha1 hxl hb45
    try simp only [oM2,hwA]
    have MM:=MM2
    have fC:=fC2
    have fB:=fB2
    have fN:=fN2
    clear MM2 fC2 fB2 fN2
    refine hwr 7 oM7 (fun K hK=>?_)
    ·skip
     obtain⟨xs5,ho5,hv5⟩:=MM.out
     have hv1:aX (fun b=>(Q b∧b<w.heap.size)∧(Value.slice (some ⟨gg,0,none⟩) n cap).ownBlock≠some b) w5 [⟨nm,ty⟩] [.string nm,.int .i64 tk,.slice ta tn tq]:=bP hnm ((HT.out.below fC.out).move (.weaken fun b hb _=>⟨hb,fun e=>by have:=(ho5.lt b e).1;have:=hb.2;omega⟩))
     refine step_append_lies _ (by rfl) (.tmp 9) (.tmp 13) 63 (by rfl) X1.heap.size 66 i0 _ 3 48 Try.underlying63 HI.out Z0.out Z1.out Z2.out rfl (by omega) (.slice (some ⟨gg,0,none⟩) n cap) n xs5 (by rfl) (by simpa [HN.out] using ho5) ⟨U.heap.size,0,none⟩ 1 1 [.string nm,.int .i64 tk,.slice ta tn tq] (by rfl) (by rfl) (World.news_of_block (cs:=#[.string nm,.int .i64 tk,.slice ta tn tq]) (t:=66) (fr:=(0,0)) fN) (by simp [Value.oneCell']) (by omega) (by unfold maxLen;omega) (by omega) (by omega) _ rfl ?_
     intro g6 cap6 w6 hown hgrow hat hlt3
     have M6:BdG (fun x=>Q x∧x<w.heap.size) X1.heap.size w6 (.slice (some ⟨g6,0,none⟩) (n+1) cap6) (([]++l) ++ [⟨nm,ty⟩]):=BdG.push (F:=(fun x=>Q x∧x<w.heap.size)) (W:=w5) (v:=(.slice (some ⟨gg,0,none⟩) n cap)) hv5 hv1 (by simpa [HN.out] using hown) hgrow (by rcases hat with h | h;exact .inl (h.symm▸rfl);exact .inr (by rw [h];rfl))
     have RF:=Lib.hid (show aL (fun x=>(Q x∧x<w.heap.size)∨w.heap.size≤x) w6 (l ++ [⟨nm,ty⟩]) (.slice (some ⟨g6,0,none⟩) (n+1) cap6) from M6.rep.move (.weaken fun b h _=>h.imp id fun q=>by have:=fC.out.size;omega))
     have hb56:Below X1.heap.size w5 w6:=Below.grown (Below.refl _ _) hgrow (by omega) (fun k hk=>(ho5.lt k hk).1)
     have fC2:=Lib.hid (fC.out.trans (hb56.mono hlg))
     have fB2:w6.heap[w.heap.size]?=some (.cells #[.int .i64 tk,.slice ta tn tq] 25 (0,0)):=(hb56.block _ (by omega)).trans fB
     refine hK.out _ _ ⟨ag fB2 (o:=0) rfl,ag fB2 (o:=1) rfl⟩ (fun hHeld9=>?_)
     clear hK K hHeld8 fB fC fN ho5 hv5 hv1 hown hgrow hat M6 hb56 MM
     try simp only [oM7,hwA]
     have fC:=fC2
     have fB:=fB2
     clear fC2 fB2
     refine hwt 8 oM8 (.slice (some ⟨g6,0,none⟩) (n+1) cap6) hHeld9 ?_ ?_
     ·intro w' hSw;dsimp only [oM8];go_simp
     try simp only [oM8,hwA]
     refine wpAnyH_done (by kernel_rfl) ?_ _
     refine NoPanic.normal ?_
     clear hHeld9
     go_wp2_with fail
     go_ret
     exact⟨_,_,_,rfl,RF.out,fC.out⟩
set_option maxHeartbeats 4000000 in
theorem jH (Q:Nat→Prop)(nm:ByteArray)(ty:Ty)(tk:Int)(ta:Option Addr)(tn tq:Nat)(w:World)(hnm:nm.size≤maxLen)(ht:ap Q w ty (.agg #[.int .i64 tk,.slice ta tn tq])) :
  Calls Try.prog 66 #[.slice none 0 0,.string nm,.agg #[.int .i64 tk,.slice ta tn tq]] w (RetCG Q ([] ++ [⟨nm,ty⟩]) w):=by
 obtain⟨i0,hi,hz0,hz1,hz2⟩:=info_parts Try.infoBdC
 have Z0:=Lib.hid hz0
 have Z1:=Lib.hid hz1
 have Z2:=Lib.hid hz2
 have HI:=Lib.hid hi
 have HN:=Lib.hid (show([]:List Bd).length=0 from rfl)
 have HT:=Lib.hid (ht.move (.weaken (G:=(fun x=>Q x∧x<w.heap.size)) fun b h hl=>⟨h,hl⟩))
 clear hi hz0 hz1 hz2 ht
 go_enter Try.func66,Try.ntmps66
 go_wp2_with fail
 have fB:(w.alloc (.cells #[.int .i64 tk,.slice ta tn tq] 25)).heap[w.heap.size]?=some (.cells #[.int .i64 tk,.slice ta tn tq] 25 (0,0)):=aD rfl
 have fC:=Lib.hid (show Below w.heap.size w (w.alloc (.cells #[.int .i64 tk,.slice ta tn tq] 25)) from ah)
 refine wp_region_noPanic ?_
 refine wp_region_held_drew (S:=fun w'=>w'.cell? ⟨w.heap.size,0,none⟩=some (.int .i64 tk)∧w'.cell? ⟨w.heap.size,1,none⟩=some (.slice ta tn tq)) (by kernel_rfl) ?_ (fun hHeld0=>?_)
 ·exact⟨ay (ag fB (o:=0) rfl),ay (ag fB (o:=1) rfl)⟩
 obtain⟨U,hU⟩ : ∃X:World,X=World.drew (w.alloc (.cells #[.int .i64 tk,.slice ta tn tq] 25)):=⟨_,rfl⟩
 have fB':U.heap[w.heap.size]?=some (.cells #[.int .i64 tk,.slice ta tn tq] 25 (0,0)):=by rw [hU];exact fB
 have fC':=Lib.hid (show Below w.heap.size w U from by rw [hU];exact fC.out.drew)
 have zU:U.heap.size=w.heap.size+1:=by rw [hU];simp
 rw [←hU] at hHeld0 ⊢
 have zUa:w.heap.size+1≤U.heap.size:=by omega
 have zUb:U.heap.size≤w.heap.size+1:=by omega
 clear zU
 clear hU fB fC
 have fB:=fB'
 have fC:=fC'
 clear fB' fC'
 refine hwt 1 oM1 (.slice none 0 0) hHeld0 ?_ ?_
 ·intro w' hSw;dsimp only [oM1];go_simp
 try simp only [oM1,hwA]
 refine hwt 3 oM3 (.string nm) hHeld0 ?_ ?_
 ·intro w' hSw;dsimp only [oM3];go_simp
 try simp only [oM3,hwA]
 refine hwt 4 oM4 (.agg #[.int .i64 tk,.slice ta tn tq]) hHeld0 ?_ ?_
 ·intro w' hSw;dsimp only [oM4];go_simp
 try simp only [oM4,hwA]
 refine hwt 5 oM5 (.agg #[.string nm,.int .i64 tk,.slice ta tn tq]) hHeld0 ?_ ?_
 ·intro w' hSw;dsimp only [oM5];go_simp
 try simp only [oM5,hwA]
 refine wpAnyH_ready (rs:= [0,6]) (by kernel_rfl) (by simp) ?_
 refine(AllReadyH.cons (o:=oM0) rfl (fun K hK=>?_) (AllReadyH.cons (o:=oM6) rfl (fun K hK=>?_) AllReadyH.nil))
 ·skip
  dsimp only [oM0]
  go_simp
  (try go_wp2_with fail)
  have fE2:(U.alloc (.cells #[] 66)).heap[U.heap.size]?=some (.cells #[] 66 (0,0)):=aD rfl
  have fB2:=af fB (ah (o:=.cells #[] 66))
  have fC2:=Lib.hid (ai fC.out (ah (o:=.cells #[] 66)))
  have hzW2:(U.alloc (.cells #[] 66)).heap.size=U.heap.size+1:=by simp
  refine hK.out _ _ ⟨ag fB2 (o:=0) rfl,ag fB2 (o:=1) rfl⟩ (fun hHeld10=>?_)
  clear hK K hHeld0 fB fC
  try simp only [oM0,hwA]
  obtain⟨X10,hWW⟩ : ∃X:World,X=(U.alloc (.cells #[] 66)):=⟨_,rfl⟩
  rw [←hWW] at fB2 fC2 fE2 hzW2 hHeld10 ⊢
  clear hWW
  have fB:=fB2
  have fC:=fC2
  have fE:=fE2
  clear fB2 fC2 fE2
  have zX10a:U.heap.size+1≤X10.heap.size:=by omega
  have zX10b:X10.heap.size≤U.heap.size+1:=by omega
  clear hzW2
  refine wpAnyH_ready (rs:= [2,6]) (by kernel_rfl) (by simp) ?_
  refine(AllReadyH.cons (o:=oM2) rfl (fun K hK=>?_) (AllReadyH.cons (o:=oM6) rfl (fun K hK=>?_) AllReadyH.nil))
  ·skip
   obtain⟨xs0,ho0,hv0⟩:BdM U.heap.size X10 (.slice (some ⟨U.heap.size,0,none⟩) 0 0) []:=BdM.nil (Nat.le_refl _) fE rfl
   obtain rfl:xs0 = []:=hv0
   have hlg:w.heap.size≤U.heap.size:=by have:=fC.out.size;omega
   refine bY () (by rfl) (.tmp 7) (.tmp 8) 63 (by rfl) U.heap.size 66 i0 3 Try.underlying63 HI.out (.slice (some ⟨U.heap.size,0,none⟩) 0 0) 0 [] (by rfl) ho0 (by rfl) ?_
   have MM2:=Lib.hid (show BdG (fun x=>Q x∧x<w.heap.size) U.heap.size X10 (.slice (some ⟨U.heap.size,0,none⟩) 0 0) [] from⟨[],ho0,rfl⟩)
   refine hK.out _ _ ⟨ag fB (o:=0) rfl,ag fB (o:=1) rfl⟩ (fun hHeld11=>?_)
   clear hK K hHeld10 fE ho0
   try simp only [oM2,hwA]
   have MM:=MM2
   clear MM2
   refine hwr 6 oM6 (fun K hK=>?_)
   ·skip
    dsimp only [oM6]
    go_simp
    (try go_wp2_with fail)
    have fN2:(X10.alloc (.cells #[.string nm,.int .i64 tk,.slice ta tn tq] 66)).heap[X10.heap.size]?=some (.cells #[.string nm,.int .i64 tk,.slice ta tn tq] 66 (0,0)):=aD rfl
    have MM2:=Lib.hid (MM.out.below (ah (o:=.cells #[.string nm,.int .i64 tk,.slice ta tn tq] 66)))
    have fB2:=af fB (ah (o:=.cells #[.string nm,.int .i64 tk,.slice ta tn tq] 66))
    have fC2:=Lib.hid (ai fC.out (ah (o:=.cells #[.string nm,.int .i64 tk,.slice ta tn tq] 66)))
    have hzW2:(X10.alloc (.cells #[.string nm,.int .i64 tk,.slice ta tn tq] 66)).heap.size=X10.heap.size+1:=by simp
    refine hK.out _ _ ⟨ag fB2 (o:=0) rfl,ag fB2 (o:=1) rfl⟩ (fun hHeld12=>?_)
    clear hK K hHeld11 fB fC MM
    try simp only [oM6,hwA]
    obtain⟨X12,hWW⟩ : ∃X:World,X=(X10.alloc (.cells #[.string nm,.int .i64 tk,.slice ta tn tq] 66)):=⟨_,rfl⟩
    rw [←hWW] at fB2 fC2 fN2 MM2 hzW2 hHeld12 ⊢
    clear hWW
    have fB:=fB2
    have fC:=fC2
    have fN:=fN2
    have MM:=MM2
    clear fB2 fC2 fN2 MM2
    have zX12a:X10.heap.size+1≤X12.heap.size:=by omega
    have zX12b:X12.heap.size≤X10.heap.size+1:=by omega
    clear hzW2
    refine hwr 7 oM7 (fun K hK=>?_)
    ·skip
     obtain⟨xs5,ho5,hv5⟩:=MM.out
     have hv1:aX (fun b=>(Q b∧b<w.heap.size)∧(Value.slice (some ⟨U.heap.size,0,none⟩) 0 0).ownBlock≠some b) X12 [⟨nm,ty⟩] [.string nm,.int .i64 tk,.slice ta tn tq]:=bP hnm ((HT.out.below fC.out).move (.weaken fun b hb _=>⟨hb,fun e=>by have:=(ho5.lt b e).1;have:=hb.2;omega⟩))
     refine step_append_lies _ (by rfl) (.tmp 9) (.tmp 13) 63 (by rfl) U.heap.size 66 i0 _ 3 48 Try.underlying63 HI.out Z0.out Z1.out Z2.out rfl (by omega) (.slice (some ⟨U.heap.size,0,none⟩) 0 0) 0 xs5 (by rfl) (by simpa [HN.out] using ho5) ⟨X10.heap.size,0,none⟩ 1 1 [.string nm,.int .i64 tk,.slice ta tn tq] (by rfl) (by rfl) (World.news_of_block (cs:=#[.string nm,.int .i64 tk,.slice ta tn tq]) (t:=66) (fr:=(0,0)) fN) (by simp [Value.oneCell']) (by omega) (by unfold maxLen;omega) (by omega) (by omega) _ rfl ?_
     intro g6 cap6 w6 hown hgrow hat hlt3
     have M6:BdG (fun x=>Q x∧x<w.heap.size) U.heap.size w6 (.slice (some ⟨g6,0,none⟩) (0+1) cap6) ([] ++ [⟨nm,ty⟩]):=BdG.push (F:=(fun x=>Q x∧x<w.heap.size)) (W:=X12) (v:=(.slice (some ⟨U.heap.size,0,none⟩) 0 0)) hv5 hv1 (by simpa [HN.out] using hown) hgrow (by rcases hat with h | h;exact .inl (h.symm▸rfl);exact .inr (by rw [h];rfl))
     have RF:=Lib.hid (show aL (fun x=>(Q x∧x<w.heap.size)∨w.heap.size≤x) w6 ([] ++ [⟨nm,ty⟩]) (.slice (some ⟨g6,0,none⟩) (0+1) cap6) from M6.rep.move (.weaken fun b h _=>h.imp id fun q=>by have:=fC.out.size;omega))
     have hb56:Below U.heap.size X12 w6:=Below.grown (Below.refl _ _) hgrow (by omega) (fun k hk=>(ho5.lt k hk).1)
     have fC2:=Lib.hid (fC.out.trans (hb56.mono hlg))
     have fB2:w6.heap[w.heap.size]?=some (.cells #[.int .i64 tk,.slice ta tn tq] 25 (0,0)):=(hb56.block _ (by omega)).trans fB
     refine hK.out _ _ ⟨ag fB2 (o:=0) rfl,ag fB2 (o:=1) rfl⟩ (fun hHeld13=>?_)
     clear hK K hHeld12 fB fC fN ho5 hv5 hv1 hown hgrow hat M6 hb56 MM
     try simp only [oM7,hwA]
     have fC:=fC2
     have fB:=fB2
     clear fC2 fB2
     refine hwt 8 oM8 (.slice (some ⟨g6,0,none⟩) (0+1) cap6) hHeld13 ?_ ?_
     ·intro w' hSw;dsimp only [oM8];go_simp
     try simp only [oM8,hwA]
     refine wpAnyH_done (by kernel_rfl) ?_ _
     refine NoPanic.normal ?_
     clear hHeld13
     go_wp2_with fail
     go_ret
     exact⟨_,_,_,rfl,RF.out,fC.out⟩
  ·skip
   dsimp only [oM6]
   go_simp
   (try go_wp2_with fail)
   have fN2:(X10.alloc (.cells #[.string nm,.int .i64 tk,.slice ta tn tq] 66)).heap[X10.heap.size]?=some (.cells #[.string nm,.int .i64 tk,.slice ta tn tq] 66 (0,0)):=aD rfl
   have fE2:=af fE (ah (o:=.cells #[.string nm,.int .i64 tk,.slice ta tn tq] 66))
   have fB2:=af fB (ah (o:=.cells #[.string nm,.int .i64 tk,.slice ta tn tq] 66))
   have fC2:=Lib.hid (ai fC.out (ah (o:=.cells #[.string nm,.int .i64 tk,.slice ta tn tq] 66)))
   have hzW2:(X10.alloc (.cells #[.string nm,.int .i64 tk,.slice ta tn tq] 66)).heap.size=X10.heap.size+1:=by simp
   refine hK.out _ _ ⟨ag fB2 (o:=0) rfl,ag fB2 (o:=1) rfl⟩ (fun hHeld11=>?_)
   clear hK K hHeld10 fB fC fE
   try simp only [oM6,hwA]
   obtain⟨X11,hWW⟩ : ∃X:World,X=(X10.alloc (.cells #[.string nm,.int .i64 tk,.slice ta tn tq] 66)):=⟨_,rfl⟩
   rw [←hWW] at fB2 fC2 fE2 fN2 hzW2 hHeld11 ⊢
   clear hWW
   have fB:=fB2
   have fC:=fC2
   have fE:=fE2
   have fN:=fN2
   clear fB2 fC2 fE2 fN2
   have zX11a:X10.heap.size+1≤X11.heap.size:=by omega
   have zX11b:X11.heap.size≤X10.heap.size+1:=by omega
   clear hzW2
   refine hwr 2 oM2 (fun K hK=>?_)
   ·skip
    obtain⟨xs0,ho0,hv0⟩:BdM U.heap.size X11 (.slice (some ⟨U.heap.size,0,none⟩) 0 0) []:=BdM.nil (Nat.le_refl _) fE rfl
    obtain rfl:xs0 = []:=hv0
    have hlg:w.heap.size≤U.heap.size:=by have:=fC.out.size;omega
    refine bY () (by rfl) (.tmp 7) (.tmp 8) 63 (by rfl) U.heap.size 66 i0 3 Try.underlying63 HI.out (.slice (some ⟨U.heap.size,0,none⟩) 0 0) 0 [] (by rfl) ho0 (by rfl) ?_
    have MM2:=Lib.hid (show BdG (fun x=>Q x∧x<w.heap.size) U.heap.size X11 (.slice (some ⟨U.heap.size,0,none⟩) 0 0) [] from⟨[],ho0,rfl⟩)
    refine hK.out _ _ ⟨ag fB (o:=0) rfl,ag fB (o:=1) rfl⟩ (fun hHeld14=>?_)
    clear hK K hHeld11 fE ho0
    try simp only [oM2,hwA]
    have MM:=MM2
    clear MM2
    refine hwr 7 oM7 (fun K hK=>?_)
    ·skip
     obtain⟨xs5,ho5,hv5⟩:=MM.out
     have hv1:aX (fun b=>(Q b∧b<w.heap.size)∧(Value.slice (some ⟨U.heap.size,0,none⟩) 0 0).ownBlock≠some b) X11 [⟨nm,ty⟩] [.string nm,.int .i64 tk,.slice ta tn tq]:=bP hnm ((HT.out.below fC.out).move (.weaken fun b hb _=>⟨hb,fun e=>by have:=(ho5.lt b e).1;have:=hb.2;omega⟩))
     refine step_append_lies _ (by rfl) (.tmp 9) (.tmp 13) 63 (by rfl) U.heap.size 66 i0 _ 3 48 Try.underlying63 HI.out Z0.out Z1.out Z2.out rfl (by omega) (.slice (some ⟨U.heap.size,0,none⟩) 0 0) 0 xs5 (by rfl) (by simpa [HN.out] using ho5) ⟨X10.heap.size,0,none⟩ 1 1 [.string nm,.int .i64 tk,.slice ta tn tq] (by rfl) (by rfl) (World.news_of_block (cs:=#[.string nm,.int .i64 tk,.slice ta tn tq]) (t:=66) (fr:=(0,0)) fN) (by simp [Value.oneCell']) (by omega) (by unfold maxLen;omega) (by omega) (by omega) _ rfl ?_
     intro g6 cap6 w6 hown hgrow hat hlt3
     have M6:BdG (fun x=>Q x∧x<w.heap.size) U.heap.size w6 (.slice (some ⟨g6,0,none⟩) (0+1) cap6) ([] ++ [⟨nm,ty⟩]):=BdG.push (F:=(fun x=>Q x∧x<w.heap.size)) (W:=X11) (v:=(.slice (some ⟨U.heap.size,0,none⟩) 0 0)) hv5 hv1 (by simpa [HN.out] using hown) hgrow (by rcases hat with h | h;exact .inl (h.symm▸rfl);exact .inr (by rw [h];rfl))
     have RF:=Lib.hid (show aL (fun x=>(Q x∧x<w.heap.size)∨w.heap.size≤x) w6 ([] ++ [⟨nm,ty⟩]) (.slice (some ⟨g6,0,none⟩) (0+1) cap6) from M6.rep.move (.weaken fun b h _=>h.imp id fun q=>by have:=fC.out.size;omega))
     have hb56:Below U.heap.size X11 w6:=Below.grown (Below.refl _ _) hgrow (by omega) (fun k hk=>(ho5.lt k hk).1)
     have fC2:=Lib.hid (fC.out.trans (hb56.mono hlg))
     have fB2:w6.heap[w.heap.size]?=some (.cells #[.int .i64 tk,.slice ta tn tq] 25 (0,0)):=(hb56.block _ (by omega)).trans fB
     refine hK.out _ _ ⟨ag fB2 (o:=0) rfl,ag fB2 (o:=1) rfl⟩ (fun hHeld15=>?_)
     clear hK K hHeld14 fB fC fN ho5 hv5 hv1 hown hgrow hat M6 hb56 MM
     try simp only [oM7,hwA]
     have fC:=fC2
     have fB:=fB2
     clear fC2 fB2
     refine hwt 8 oM8 (.slice (some ⟨g6,0,none⟩) (0+1) cap6) hHeld15 ?_ ?_
     ·intro w' hSw;dsimp only [oM8];go_simp
     try simp only [oM8,hwA]
     refine wpAnyH_done (by kernel_rfl) ?_ _
     refine NoPanic.normal ?_
     clear hHeld15
     go_wp2_with fail
     go_ret
     exact⟨_,_,_,rfl,RF.out,fC.out⟩
 ·skip
  dsimp only [oM6]
  go_simp
  (try go_wp2_with fail)
  have fN2:(U.alloc (.cells #[.string nm,.int .i64 tk,.slice ta tn tq] 66)).heap[U.heap.size]?=some (.cells #[.string nm,.int .i64 tk,.slice ta tn tq] 66 (0,0)):=aD rfl
  have fB2:=af fB (ah (o:=.cells #[.string nm,.int .i64 tk,.slice ta tn tq] 66))
  have fC2:=Lib.hid (ai fC.out (ah (o:=.cells #[.string nm,.int .i64 tk,.slice ta tn tq] 66)))
  have hzW2:(U.alloc (.cells #[.string nm,.int .i64 tk,.slice ta tn tq] 66)).heap.size=U.heap.size+1:=by simp
  refine hK.out _ _ ⟨ag fB2 (o:=0) rfl,ag fB2 (o:=1) rfl⟩ (fun hHeld10=>?_)
  clear hK K hHeld0 fB fC
  try simp only [oM6,hwA]
  obtain⟨X10,hWW⟩ : ∃X:World,X=(U.alloc (.cells #[.string nm,.int .i64 tk,.slice ta tn tq] 66)):=⟨_,rfl⟩
  rw [←hWW] at fB2 fC2 fN2 hzW2 hHeld10 ⊢
  clear hWW
  have fB:=fB2
  have fC:=fC2
  have fN:=fN2
  clear fB2 fC2 fN2
  have zX10a:U.heap.size+1≤X10.heap.size:=by omega
  have zX10b:X10.heap.size≤U.heap.size+1:=by omega
  clear hzW2
  refine hwr 0 oM0 (fun K hK=>?_)
  ·skip
   dsimp only [oM0]
   go_simp
   (try go_wp2_with fail)
   have fE2:(X10.alloc (.cells #[] 66)).heap[X10.heap.size]?=some (.cells #[] 66 (0,0)):=aD rfl
   have fN2:=af fN (ah (o:=.cells #[] 66))
   have fB2:=af fB (ah (o:=.cells #[] 66))
   have fC2:=Lib.hid (ai fC.out (ah (o:=.cells #[] 66)))
   have hzW2:(X10.alloc (.cells #[] 66)).heap.size=X10.heap.size+1:=by simp
   refine hK.out _ _ ⟨ag fB2 (o:=0) rfl,ag fB2 (o:=1) rfl⟩ (fun hHeld16=>?_)
   clear hK K hHeld10 fB fC fN
   try simp only [oM0,hwA]
   obtain⟨X16,hWW⟩ : ∃X:World,X=(X10.alloc (.cells #[] 66)):=⟨_,rfl⟩
   rw [←hWW] at fB2 fC2 fE2 fN2 hzW2 hHeld16 ⊢
   clear hWW
   have fB:=fB2
   have fC:=fC2
   have fE:=fE2
   have fN:=fN2
   clear fB2 fC2 fE2 fN2
   have zX16a:X10.heap.size+1≤X16.heap.size:=by omega
   have zX16b:X16.heap.size≤X10.heap.size+1:=by omega
   clear hzW2
   refine hwr 2 oM2 (fun K hK=>?_)
   ·skip
    obtain⟨xs0,ho0,hv0⟩:BdM X10.heap.size X16 (.slice (some ⟨X10.heap.size,0,none⟩) 0 0) []:=BdM.nil (Nat.le_refl _) fE rfl
    obtain rfl:xs0 = []:=hv0
    have hlg:w.heap.size≤X10.heap.size:=by have:=fC.out.size;omega
    refine bY () (by rfl) (.tmp 7) (.tmp 8) 63 (by rfl) X10.heap.size 66 i0 3 Try.underlying63 HI.out (.slice (some ⟨X10.heap.size,0,none⟩) 0 0) 0 [] (by rfl) ho0 (by rfl) ?_
    have MM2:=Lib.hid (show BdG (fun x=>Q x∧x<w.heap.size) X10.heap.size X16 (.slice (some ⟨X10.heap.size,0,none⟩) 0 0) [] from⟨[],ho0,rfl⟩)
    refine hK.out _ _ ⟨ag fB (o:=0) rfl,ag fB (o:=1) rfl⟩ (fun hHeld17=>?_)
    clear hK K hHeld16 fE ho0
    try simp only [oM2,hwA]
    have MM:=MM2
    clear MM2
    refine hwr 7 oM7 (fun K hK=>?_)
    ·skip
     obtain⟨xs5,ho5,hv5⟩:=MM.out
     have hv1:aX (fun b=>(Q b∧b<w.heap.size)∧(Value.slice (some ⟨X10.heap.size,0,none⟩) 0 0).ownBlock≠some b) X16 [⟨nm,ty⟩] [.string nm,.int .i64 tk,.slice ta tn tq]:=bP hnm ((HT.out.below fC.out).move (.weaken fun b hb _=>⟨hb,fun e=>by have:=(ho5.lt b e).1;have:=hb.2;omega⟩))
     refine step_append_lies _ (by rfl) (.tmp 9) (.tmp 13) 63 (by rfl) X10.heap.size 66 i0 _ 3 48 Try.underlying63 HI.out Z0.out Z1.out Z2.out rfl (by omega) (.slice (some ⟨X10.heap.size,0,none⟩) 0 0) 0 xs5 (by rfl) (by simpa [HN.out] using ho5) ⟨U.heap.size,0,none⟩ 1 1 [.string nm,.int .i64 tk,.slice ta tn tq] (by rfl) (by rfl) (World.news_of_block (cs:=#[.string nm,.int .i64 tk,.slice ta tn tq]) (t:=66) (fr:=(0,0)) fN) (by simp [Value.oneCell']) (by omega) (by unfold maxLen;omega) (by omega) (by omega) _ rfl ?_
     intro g6 cap6 w6 hown hgrow hat hlt3
     have M6:BdG (fun x=>Q x∧x<w.heap.size) X10.heap.size w6 (.slice (some ⟨g6,0,none⟩) (0+1) cap6) ([] ++ [⟨nm,ty⟩]):=BdG.push (F:=(fun x=>Q x∧x<w.heap.size)) (W:=X16) (v:=(.slice (some ⟨X10.heap.size,0,none⟩) 0 0)) hv5 hv1 (by simpa [HN.out] using hown) hgrow (by rcases hat with h | h;exact .inl (h.symm▸rfl);exact .inr (by rw [h];rfl))
     have RF:=Lib.hid (show aL (fun x=>(Q x∧x<w.heap.size)∨w.heap.size≤x) w6 ([] ++ [⟨nm,ty⟩]) (.slice (some ⟨g6,0,none⟩) (0+1) cap6) from M6.rep.move (.weaken fun b h _=>h.imp id fun q=>by have:=fC.out.size;omega))
     have hb56:Below X10.heap.size X16 w6:=Below.grown (Below.refl _ _) hgrow (by omega) (fun k hk=>(ho5.lt k hk).1)
     have fC2:=Lib.hid (fC.out.trans (hb56.mono hlg))
     have fB2:w6.heap[w.heap.size]?=some (.cells #[.int .i64 tk,.slice ta tn tq] 25 (0,0)):=(hb56.block _ (by omega)).trans fB
     refine hK.out _ _ ⟨ag fB2 (o:=0) rfl,ag fB2 (o:=1) rfl⟩ (fun hHeld18=>?_)
     clear hK K hHeld17 fB fC fN ho5 hv5 hv1 hown hgrow hat M6 hb56 MM
     try simp only [oM7,hwA]
     have fC:=fC2
     have fB:=fB2
     clear fC2 fB2
     refine hwt 8 oM8 (.slice (some ⟨g6,0,none⟩) (0+1) cap6) hHeld18 ?_ ?_
     ·intro w' hSw;dsimp only [oM8];go_simp
     try simp only [oM8,hwA]
     refine wpAnyH_done (by kernel_rfl) ?_ _
     refine NoPanic.normal ?_
     clear hHeld18
     go_wp2_with fail
     go_ret
     exact⟨_,_,_,rfl,RF.out,fC.out⟩
end Go.Proofs.Ytnaoghknnenfoaa
namespace Go.Proofs.Ytnaoghknnenfoaa
open Go.RowKit
def Ty.any1:Ty:=.mk 1 []
def Ty.no:Ty:=.mk 0 []
def Tm.zero:Tm:=.mk 0 { data:=#[] } 0 .no .no 0 []
def RetTmB (t:Tm)(b:Bool)(w:World)(e:Ending)(w':World):Prop:=∃v,e = .returned (.tuple #[v,.bool b])∧b3 w.heap.size w' t v∧Below w.heap.size w w'
end Go.Proofs.Ytnaoghknnenfoaa
namespace Go.Proofs.Ytnaoghknnenfoaa
open Go.RowKit
mutual
def Tm.rety:Tm→List Ty→Tm
 | .mk k s u t f l ts,L=>.mk k s u (if b7 k then L.headD .no else t) f l (Tm.retys ts (if b7 k then L.tail else L))
def Tm.retys:List Tm→List Ty→List Tm
 | [],_=> []
 | t :: ts,L=>t.rety L :: Tm.retys ts (L.drop t.tys.length)
end
theorem Tm.retys_take_succ : ∀(ts:List Tm) (L:List Ty) (j:Nat) (h:j<ts.length),Tm.retys (ts.take (j+1)) L=Tm.retys (ts.take j) L ++ [ts[j].rety (L.drop (Tm.tyss (ts.take j)).length)]
 | [],_,_,h=>absurd h (Nat.not_lt_zero _)
 | t :: ts,L,0,_=>by simp [Tm.retys,Tm.tyss]
 | t :: ts,L,j+1,h=>by
  have:=Tm.retys_take_succ ts (L.drop t.tys.length) j (by simpa using h)
  simp only [List.take_succ_cons,Tm.retys,List.getElem_cons_succ,this,Tm.tyss,List.length_append,List.drop_drop,List.cons_append]
def dD (F G:Nat→Prop)(L:List Ty)(t:Tm):Prop:=∀(at0:Nat) (y lv:Value) (w:World),az F w t y→aF G w L lv→t.cnt≤1048576→(∀x∈L,x.cnt≤1048576)→at0+t.tys.length≤L.length→L.length≤1048576 →
  Calls Try.prog 54 #[y,lv,.int .i64 (at0:Int)] w fun e w'=>∃v,e = .returned (.tuple #[v,.int .i64 ((at0+t.tys.length:Nat):Int)])∧b3 w.heap.size w' (t.rety (L.drop at0)) v∧Below w.heap.size w w'
end Go.Proofs.Ytnaoghknnenfoaa
namespace Go.Proofs.Ytnaoghknnenfoaa
open Go.RowKit
structure St (wr W:World) (b j:Nat) (ch:List Nat):Prop where
 chg:Chg (b :: ch) wr W
 far : ∀o,j*9+9≤o→W.cell? ⟨b,o,none⟩=wr.cell? ⟨b,o,none⟩
 fro : ∀o,W.frozen? ⟨b,o,none⟩=false
theorem St.refl {wr:World}{b j:Nat}(h : ∀o,wr.frozen? ⟨b,o,none⟩=false):St wr wr b j []:=⟨Chg.refl _ _,fun _ _=>rfl,h⟩
theorem St.set {wr W:World}{b j o:Nat}{ch:List Nat}{v:Value}(h:St wr W b j ch)(ho:o<j*9+9):St wr (W.setCell ⟨b,o,none⟩ v) b j ch:=
 ⟨h.chg.setCell (by simp) _,fun o' ho'=>(World.cell?_setCell_other W _ _ v (fun e=>by cases e;omega)).trans (h.far o' ho'),fun o'=>(aO _ _ _ _).trans (h.fro o')⟩
theorem St.call {wr W W':World}{b j:Nat}{ch g:List Nat}(h:St wr W b j ch)(hc:Chg g W W')(hb:b∉g)(hl:b<W.heap.size):St wr W' b j (ch++g):=
 ⟨(h.chg.mono (by simp;intro x hx;exact .inr (.inl hx))).trans (hc.mono (by simp;intro x hx;exact .inr (.inr hx))),
  fun o ho=>(World.cell?_of_block (a:=⟨b,o,none⟩) (hc.block b hl hb)).trans (h.far o ho),fun o=>(World.frozen?_of_block (a:=⟨b,o,none⟩) (hc.block b hl hb)).trans (h.fro o)⟩
theorem St.below {wr W W':World}{b j:Nat}{ch:List Nat}(h:St wr W b j ch)(hc:Below W.heap.size W W')(hl:b<W.heap.size):St wr W' b j ch:=by
 have:=h.call (Chg.of_below (fp:= []) hc) (by simp) hl
 simpa using this
theorem St.own {wr W:World}{b j:Nat}{ch:List Nat}{c:C}{y:Value}{f:List Nat}(h:St wr W b j ch)(ho:aG wr c y f)(hd : ∀x∈f,x≠b∧x∉ch):aG W c y f:=
 aG.move _ _ _ (fun x hx=>h.chg.block x (aG.lt _ _ _ ho x hx) (by have:=hd x hx;simp [this.1,this.2])) ho
end Go.Proofs.Ytnaoghknnenfoaa
namespace Go.Proofs.Ytnaoghknnenfoaa
open Go.RowKit
set_option maxHeartbeats 8000000 in
theorem mG (r p:Nat)(w:World)(h:aW w r p)(hp:p≤1000000000):Calls Try.prog 28 #[.pointer (some ⟨r,0,none⟩)] w (DTm r p 5121 5120 w):=by
 have hrl:=h.1
 go_enter Try.func28,Try.ntmps28
 go_wp2_with fail
 refine(cn (fun k=>2≤k∧k≤5) r (p) _ 5 5 _ (h.below aI) (by omega) (by omega) (by omega) (Nat.le_refl _) (by omega) (bQ [4,3,5,4,2] (by simp) _ (by decide))).mono ?_
 rintro e w2 ⟨kz,rfl,⟨z1,z2⟩,hrd2,hc2⟩
 have hw2:=hc2.size
 simp only [World.size_alloc] at hw2
 have hch2:=(Chg.of_below (aI (w:=w))).trans hc2
 have hR2:w2.heap[w.heap.size]?=some (.cells #[.int .i64 0,.string { data:=#[] },.int .i64 0,.int .i64 0,.slice none 0 0,.int .i64 0,.slice none 0 0,.int .i64 0,.slice none 0 0] 28 (0,0)):=aB (af (aD rfl) ah) hc2 (by omega)
 clear hc2
 obtain⟨d,rfl⟩:=Int.eq_ofNat_of_zero_le (show 0≤kz by omega)
 have hd4:4 ^ d≤4 ^ 5:=Nat.pow_le_pow_right (by omega) (by omega)
 have HD4:=Lib.hid (show 4 ^ d≤1024 by simpa using hd4)
 clear hd4
 go_wp2_with fail
 refine(iG d r (p+1) [] _ (by omega) (by omega) (by simp;omega) hrd2 (by have:=HD4.out;omega)).mono ?_
 rintro e w3 ⟨t,v,q,rfl,hcn,hv,hq,hrd3,hc3⟩
 obtain⟨kt,nm0,ut,tkt,tat,tnt,tqt,fkt,fat,fnt,fqt,lt,ct,mt,qt,rfl⟩:=hv.shape
 have hw3:=hc3.size
 have hch3:=hch2.trans hc3
 have hR3:=aB hR2 hc3 (by omega)
 clear hc3 hch2 hR2 hrd2
 have hval:=fun W (h:Below w3.heap.size w3 W)=>ce _ t _ W (hv.below h)
 generalize t.valid=vv at hval
 have HVAL:=Lib.hid hval
 have HCN:=Lib.hid (show t.cnt≤5120 by have:=HD4.out;omega)
 have HQ:=Lib.hid (show q≤p+5121 by have:=HD4.out;omega)
 clear hval hcn hq
 go_wp2_with fail
 refine(HVAL.out _ ah).mono ?_
 rintro e w4 ⟨rfl,hb4⟩
 have hw4:=hb4.size
 simp only [World.size_alloc] at hw4
 have hrd4:=(hrd3.below (ah (o:=(.cells #[.int .i64 kt,.string nm0,.int .i64 ut,.int .i64 tkt,.slice tat tnt tqt,.int .i64 fkt,.slice fat fnt fqt,.int .i64 lt,.slice ct mt qt] 28)))).below hb4
 have hv4:=(hv.below (ah (o:=(.cells #[.int .i64 kt,.string nm0,.int .i64 ut,.int .i64 tkt,.slice tat tnt tqt,.int .i64 fkt,.slice fat fnt fqt,.int .i64 lt,.slice ct mt qt] 28)))).below hb4
 have hch4:=(hch3.trans (Chg.of_below (ah (o:=(.cells #[.int .i64 kt,.string nm0,.int .i64 ut,.int .i64 tkt,.slice tat tnt tqt,.int .i64 fkt,.slice fat fnt fqt,.int .i64 lt,.slice ct mt qt] 28))))).trans (Chg.of_below hb4)
 have hR4:=af (af hR3 (ah (o:=(.cells #[.int .i64 kt,.string nm0,.int .i64 ut,.int .i64 tkt,.slice tat tnt tqt,.int .i64 fkt,.slice fat fnt fqt,.int .i64 lt,.slice ct mt qt] 28)))) hb4
 have hE4:w4.heap[w3.heap.size]?=some (.cells #[.int .i64 kt,.string nm0,.int .i64 ut,.int .i64 tkt,.slice tat tnt tqt,.int .i64 fkt,.slice fat fnt fqt,.int .i64 lt,.slice ct mt qt] 28 (0,0)):=af (aD rfl) hb4
 clear HVAL hrd3 hv hch3 hR3 hb4
 have x0:w4.cell? ⟨w.heap.size,0,none⟩=some (.int .i64 0):=ag hR4 rfl
 have f0:w4.frozen? ⟨w.heap.size,0,none⟩=false:=aC hR4 0
 have x1:w4.cell? ⟨w.heap.size,1,none⟩=some (.string { data:=#[] }):=ag hR4 rfl
 have f1:w4.frozen? ⟨w.heap.size,1,none⟩=false:=aC hR4 1
 have x2:w4.cell? ⟨w.heap.size,2,none⟩=some (.int .i64 0):=ag hR4 rfl
 have f2:w4.frozen? ⟨w.heap.size,2,none⟩=false:=aC hR4 2
 have x3:w4.cell? ⟨w.heap.size,3,none⟩=some (.int .i64 0):=ag hR4 rfl
 have f3:w4.frozen? ⟨w.heap.size,3,none⟩=false:=aC hR4 3
 have x4:w4.cell? ⟨w.heap.size,4,none⟩=some (.slice none 0 0):=ag hR4 rfl
 have f4:w4.frozen? ⟨w.heap.size,4,none⟩=false:=aC hR4 4
 have x5:w4.cell? ⟨w.heap.size,5,none⟩=some (.int .i64 0):=ag hR4 rfl
 have f5:w4.frozen? ⟨w.heap.size,5,none⟩=false:=aC hR4 5
 have x6:w4.cell? ⟨w.heap.size,6,none⟩=some (.slice none 0 0):=ag hR4 rfl
 have f6:w4.frozen? ⟨w.heap.size,6,none⟩=false:=aC hR4 6
 have x7:w4.cell? ⟨w.heap.size,7,none⟩=some (.int .i64 0):=ag hR4 rfl
 have f7:w4.frozen? ⟨w.heap.size,7,none⟩=false:=aC hR4 7
 have x8:w4.cell? ⟨w.heap.size,8,none⟩=some (.slice none 0 0):=ag hR4 rfl
 have f8:w4.frozen? ⟨w.heap.size,8,none⟩=false:=aC hR4 8
 have e0:w4.cell? ⟨w3.heap.size,0,none⟩=some (.int .i64 kt):=ag hE4 rfl
 have e1:w4.cell? ⟨w3.heap.size,1,none⟩=some (.string nm0):=ag hE4 rfl
 have e2:w4.cell? ⟨w3.heap.size,2,none⟩=some (.int .i64 ut):=ag hE4 rfl
 have e3:w4.cell? ⟨w3.heap.size,3,none⟩=some (.int .i64 tkt):=ag hE4 rfl
 have e4:w4.cell? ⟨w3.heap.size,4,none⟩=some (.slice tat tnt tqt):=ag hE4 rfl
 have e5:w4.cell? ⟨w3.heap.size,5,none⟩=some (.int .i64 fkt):=ag hE4 rfl
 have e6:w4.cell? ⟨w3.heap.size,6,none⟩=some (.slice fat fnt fqt):=ag hE4 rfl
 have e7:w4.cell? ⟨w3.heap.size,7,none⟩=some (.int .i64 lt):=ag hE4 rfl
 have e8:w4.cell? ⟨w3.heap.size,8,none⟩=some (.slice ct mt qt):=ag hE4 rfl
 have lx:=al hR4
 have lE:=al hE4
 cases vv
 ·go_wp2_with fail
  refine(cA 3 _).mono ?_
  rintro e w5 ⟨rfl,hb5⟩
  have hw5:=hb5.size
  have hrd5:=hrd4.below hb5
  have hch5:=hch4.trans (Chg.of_below hb5)
  have hR5:=af hR4 hb5
  clear x0 f0 e0 x1 f1 e1 x2 f2 e2 x3 f3 e3 x4 f4 e4 x5 f5 e5 x6 f6 e6 x7 f7 e7 x8 f8 e8
  have x0:w5.cell? ⟨w.heap.size,0,none⟩=some (.int .i64 0):=ag hR5 rfl
  have f0:w5.frozen? ⟨w.heap.size,0,none⟩=false:=aC hR5 0
  have x1:w5.cell? ⟨w.heap.size,1,none⟩=some (.string { data:=#[] }):=ag hR5 rfl
  have f1:w5.frozen? ⟨w.heap.size,1,none⟩=false:=aC hR5 1
  have x2:w5.cell? ⟨w.heap.size,2,none⟩=some (.int .i64 0):=ag hR5 rfl
  have f2:w5.frozen? ⟨w.heap.size,2,none⟩=false:=aC hR5 2
  have x3:w5.cell? ⟨w.heap.size,3,none⟩=some (.int .i64 0):=ag hR5 rfl
  have f3:w5.frozen? ⟨w.heap.size,3,none⟩=false:=aC hR5 3
  have x4:w5.cell? ⟨w.heap.size,4,none⟩=some (.slice none 0 0):=ag hR5 rfl
  have f4:w5.frozen? ⟨w.heap.size,4,none⟩=false:=aC hR5 4
  have x5:w5.cell? ⟨w.heap.size,5,none⟩=some (.int .i64 0):=ag hR5 rfl
  have f5:w5.frozen? ⟨w.heap.size,5,none⟩=false:=aC hR5 5
  have x6:w5.cell? ⟨w.heap.size,6,none⟩=some (.slice none 0 0):=ag hR5 rfl
  have f6:w5.frozen? ⟨w.heap.size,6,none⟩=false:=aC hR5 6
  have x7:w5.cell? ⟨w.heap.size,7,none⟩=some (.int .i64 0):=ag hR5 rfl
  have f7:w5.frozen? ⟨w.heap.size,7,none⟩=false:=aC hR5 7
  have x8:w5.cell? ⟨w.heap.size,8,none⟩=some (.slice none 0 0):=ag hR5 rfl
  have f8:w5.frozen? ⟨w.heap.size,8,none⟩=false:=aC hR5 8
  have HEND:=Lib.hid (DTm.stored (r:=r) (p:=p) (c:=5121) (m:=5120) (w:=w) (q:=q) (R:=w.heap.size) (B:=w.heap.size+1) (v0:=.int .i64 2) (v1:=.string { data:=#[] }) (v2:=.int .i64 3) (v3:=.int .i64 0) (v4:=.slice none 0 0) (v5:=.int .i64 0) (v6:=.slice none 0 0) (v7:=.int .i64 0) (v8:=.slice none 0 0) (az.leaf0 (nm:={ data:=#[] }) 2 3 (by unfold maxLen;decide)) (by simp [Tm.cnt,Tm.cnts,Ty.cnt,Ty.cnts,ByteArray.size]) (by omega) HQ.out hrd5 hch5 (Nat.le_refl _) (by omega) hrl)
  go_wp2_with fail
  refine bodyPost_ret (v:=.agg #[.int .i64 2,.string { data:=#[] },.int .i64 3,.int .i64 0,.slice none 0 0,.int .i64 0,.slice none 0 0,.int .i64 0,.slice none 0 0]) (by simp [results,Try.results28,go_sem,x0,x1,x2,x3,x4,x5,x6,x7,x8]) rfl ?_
  exact HEND.out
 ·have HEND:=Lib.hid (DTm.stored (r:=r) (p:=p) (c:=5121) (m:=5120) (w:=w) (q:=q) (R:=w.heap.size) (B:=w2.heap.size) (v0:=.int .i64 kt) (v1:=.string nm0) (v2:=.int .i64 ut) (v3:=.int .i64 tkt) (v4:=.slice tat tnt tqt) (v5:=.int .i64 fkt) (v6:=.slice fat fnt fqt) (v7:=.int .i64 lt) (v8:=.slice ct mt qt) hv4 HCN.out (by omega) HQ.out hrd4 hch4 (Nat.le_refl _) (by omega) hrl)
  go_wp2_with fail
  refine bodyPost_ret (v:=.agg #[.int .i64 kt,.string nm0,.int .i64 ut,.int .i64 tkt,.slice tat tnt tqt,.int .i64 fkt,.slice fat fnt fqt,.int .i64 lt,.slice ct mt qt]) (by simp [results,Try.results28,go_sem,x0,x1,x2,x3,x4,x5,x6,x7,x8]) rfl ?_
  exact HEND.out
end Go.Proofs.Ytnaoghknnenfoaa

/- Free names: plain facts. And what else its parts name. -/
import Derived.Test.YtfahhonmiimmdaaGreatB25
import Derived.Test.YtfahhonmiimmdaaGreatB17
import Derived.Test.YtfahhonmiimmdaaGreatB34
set_option linter.unusedSimpArgs false
set_option linter.unusedVariables false
set_option maxRecDepth 100000
set_option maxHeartbeats 16000000
namespace Go.Proofs.YtfahhonmiimmdaaGreat
open Go.RowKit
def bs (l:List UInt8):ByteArray:=⟨l.toArray⟩
theorem bs_size (l:List UInt8):(bs l).size=l.length:=by unfold bs;simp[ByteArray.size]
def fs (x:UInt8):List UInt8→List UInt8
 | []=> [x]
 | y :: l=>if y<x then y :: fs x l else if y=x then y :: l else x :: y :: l
theorem gN (x:UInt8) : ∀(l:List UInt8) (k:Nat) (hk:k≤l.length),(∀y∈l.take k,y<x)→(∀h:k<l.length,¬l[k]<x)→fs x l=if l[k]?=some x then l else l.take k++x :: l.drop k
 | [],k,hk,_,_=>by
  obtain rfl:k=0:=by simpa using hk
  rfl
 | y :: l,0,_,_,h2=>by
  have h3 : ¬y<x:=h2 (by simp);unfold fs;rw[if_neg h3]
  by_cases h4:y=x
  ·subst h4;rw[if_pos rfl,if_pos (by simp)]
  ·rw[if_neg h4,if_neg (by simpa using h4)];rfl
 | y :: l,k+1,hk,h1,h2=>by
  have h3:y<x:=h1 y (by simp);have ih:=gN x l k (by simpa using hk) (fun z hz=>h1 z (by rw[List.take_succ_cons];exact List.mem_cons_of_mem _ hz)) (fun h=>by have:=h2 (by simpa using h);simpa using this);unfold fs;rw[if_pos h3,ih];simp only[List.getElem?_cons_succ,List.take_succ_cons,List.drop_succ_cons]
  split<;>rfl
mutual
def Tm.fr:Tm→(UInt8→Bool)→UInt8→Bool
 | .mk k s _ _ _ _ ts,q,c=>(k==1 && !(q c)&&s.data.toList == [c])||Tm.frs ts (if k==5 then fun d=>q d||s.data.toList == [d] else q) c
def Tm.frs:List Tm→(UInt8→Bool)→UInt8→Bool
 | [],_,_=>false
 | t :: ts,q,c=>t.fr q c||Tm.frs ts q c
end
theorem iR (l:List UInt8):(bs l).toList=l:=by unfold bs;exact ByteArray.toList_mk l
theorem gM (l:List UInt8)(i j:Nat):(bs l).extract i j=bs ((l.take j).drop i):=by
 apply ByteArray.ext
 unfold bs;rw[ByteArray.data_extract]
 apply Array.ext'
 simp[List.extract_eq_take_drop,List.drop_take]
theorem nW (a b:List UInt8):bs a++bs b=bs (a++b):=by
 apply ByteArray.ext
 unfold bs;rw[ByteArray.data_append]
 apply Array.ext'
 simp
theorem bs_one (l:List UInt8)(j:Nat)(h:j<l.length):((bs l).extract j (j+1)).toList = [l[j]]:=by
 rw[gM,iR,List.take_succ_eq_append_getElem h,List.drop_append_of_le_length (by simp;omega)]
 simp[List.drop_take]
theorem og (a b:UInt8):Op.bytesLess [a] [b]=decide (a<b):=by
 simp[Op.bytesLess]
theorem uR (l:List UInt8)(x:UInt8)(w:World)(hl:l.length≤1000) :
  Calls Tryz.prog 114 #[.string (bs l),.string (bs [x])] w fun e w'=>e = .returned (.string (bs (fs x l)))∧Below w.heap.size w w':=by
 obtain⟨n,hn⟩ : ∃n,l.length=n:=⟨_,rfl⟩
 obtain⟨s,hs⟩ : ∃s,bs l=s:=⟨_,rfl⟩
 have hsz:s.size=n:=by rw[←hs,bs_size,hn]
 have hx1:(bs [x]).size=1:=rfl;obtain⟨r,hr⟩ : ∃r,bs (fs x l)=r:=⟨_,rfl⟩
 have hex : ∀j (h:j<l.length),((s.extract j (j+1)).toList==(bs [x]).toList)=(l[j]==x):=fun j h=>by
  rw[←hs,bs_one l j h,iR,Bool.eq_iff_iff]
  simp
 have hls : ∀j (h:j<l.length),Op.bytesLess (s.extract j (j+1)).toList (bs [x]).toList=decide (l[j]<x):=fun j h=>by
  rw[←hs,bs_one l j h,iR,og]
 have hsp : ∀j,j≤l.length→(∀y∈l.take j,y<x)→(∀h:j<l.length,¬l[j]<x)→¬l[j]?=some x→r=s.extract 0 j++bs [x]++s.extract j n:=fun j h1 h2 h3 h4=>by
  rw[←hr,gN x l j h1 h2 h3,if_neg h4,←hs,gM,gM,nW,nW,←hn,List.take_length]
  simp
 have hsp2 : ∀j,j≤l.length→(∀y∈l.take j,y<x)→(∀h:j<l.length,¬l[j]<x)→l[j]?=some x→r=s:=fun j h1 h2 h3 h4=>by
  rw[←hr,gN x l j h1 h2 h3,if_pos h4,hs]
 rw[hs,hr];have HN:=zq hn;have HX:=zq hex;have HL:=zq hls;have HS1:=zq hsp;have HS2:=zq hsp2;rw[hn] at hl;clear hn hs hr hex hls hsp hsp2
 go_enter Tryz.func114,Tryz.ntmps114
 go_wp2_with fail
 go_loopw [5] (fun i wr=>∃j:Nat,j≤n∧i = .int .i64 j∧Hid (∀y∈l.take j,y<x)∧Below w.heap.size w wr) (fun i _=>n-(intOf i).toNat)
 case atStart=>exact⟨0,by omega,rfl,by simp[Hid],Below.refl _ _⟩
 case round=>
  obtain⟨j,hj,rfl,hR,hbw⟩:=hrel;have hc1 : ∀a b:Nat,a≤n→b≤n→¬(9223372036854775807<a+1+b):=fun a b h1 h2=>by omega
  by_cases hlt:j<n
  ·have hjt:j<l.length:=by rw[HN.out];exact hlt
   have i1:=IntWalk.i64_in ((j:Int)+1) (by omega);have hx:=HX.out j hjt;have hls:=HL.out j hjt;obtain⟨z,hz⟩ : ∃z,l[j]=z:=⟨_,rfl⟩
   have htk:l.take (j+1)=l.take j ++ [z]:=by rw[List.take_succ_eq_append_getElem hjt,hz]
   have hg:l[j]?=some z:=by rw[List.getElem?_eq_getElem hjt,hz]
   have hng : ¬z<x→∀h:j<l.length,¬l[j]<x:=fun h1 h2=>by rw[hz];exact h1
   rw[hz] at hx hls;have HTK:=zq htk;have HG:=zq hg;have HNG:=zq hng;clear htk hz hg hng
   by_cases hzl:z<x
   ·rw[decide_eq_true hzl] at hls
    have HZ:=zq hzl;clear hzl
    go_wp2_with fail
    go_roundw
    case rel=>exact⟨j+1,by omega,by go_num,fun y hy=>by rw[HTK.out] at hy;rcases List.mem_append.1 hy with hy | hy;exact hR.out y hy;rw[List.mem_singleton] at hy;rw[hy];exact HZ.out,hbw⟩
    case measure=>simp[intOf];omega
   ·rw[decide_eq_false hzl] at hls
    rcases Bool.eq_false_or_eq_true (z==x) with hzx | hzx
    ·rw[hzx] at hx
     have hres:=HS2.out j (by have:=HN.out;omega) hR.out (HNG.out hzl) (by rw[HG.out,eq_of_beq hzx]);have HRES:=zq hres;clear hres hzx hzl
     go_wp2_with fail
     go_ret
     exact⟨nL HRES.out.symm,hbw⟩
    ·rw[hzx] at hx
     have hres:=HS1.out j (by have:=HN.out;omega) hR.out (HNG.out hzl) (by rw[HG.out];intro e;simp at e;subst e;simp at hzx);have HRES:=zq hres;clear hres hzx hzl
     go_wp2_with fail
     go_quiet (fail)
     go_wp2_with fail
     go_ret
     exact⟨nL HRES.out.symm,fI hbw _⟩
  ·have hjn:j=n:=by omega
   have hres:=HS1.out j (by have:=HN.out;omega) hR.out (fun h=>by have:=HN.out;omega) (by rw[List.getElem?_eq_none (by have:=HN.out;omega)];simp);have HRES:=zq hres;clear hres;subst hjn;have hse:s.extract j j=ByteArray.empty:=by apply ByteArray.ext;simp[ByteArray.data_extract]
   have HSE:=zq hse;clear hse;have hend:s.extract 0 j++bs [x]=r:=by rw[HRES.out,HSE.out];exact(ByteArray.append_empty).symm
   have HEND:=zq hend;clear hend
   go_wp2_with fail
   go_quiet (fail)
   go_wp2_with fail
   go_ret
   exact⟨nL HEND.out,fI hbw _⟩
def Ty.no:Ty:=.mk 0 []
def Tm.zero:Tm:=.mk 0 {data:=#[]} 0 .no .no 0 []
def jN (Q:Nat→Prop)(l:List Bd)(w:World)(e:Ending)(w':World):Prop:=∃(a:Addr) (m q:Nat),e = .returned (.slice (some a) m q)∧aE (fun x=>(Q x∧x<w.heap.size)∨w.heap.size≤x) w' l (.slice (some a) m q)∧Below w.heap.size w w'
theorem fX (Q:Nat→Prop)(l:List Bd)(ad:Addr)(n q:Nat)(nm:ByteArray)(ty:Ty)(tk:Int)(ta:Option Addr)(tn tq:Nat)(w:World)(hy:aE Q w l (.slice (some ad) n q))(hl:l.length≤1000000)(hl1:1≤l.length)(hnm:nm.size≤maxLen)(ht:ao Q w ty (.agg #[.int .i64 tk,.slice ta tn tq])) :
  Calls Tryz.prog 109 #[.slice (some ad) n q,.string nm,.agg #[.int .i64 tk,.slice ta tn tq]] w (jN Q (l ++ [⟨nm,ty⟩]) w):=by
 obtain⟨i0,hi,hz0,hz1,hz2⟩:=info_parts Tryz.infoBdC;have Z0:=zq hz0;have Z1:=zq hz1;have Z2:=zq hz2;have HI:=zq hi;have hn:=hy.n_eq;have HN:=zq hn.symm;have hn1:0<n:=by omega
 have hn2:n≤1000000:=by omega
 have HY:=zq (hy.move (.weaken (G:=(fun x=>Q x∧x<w.heap.size)) fun b h hl=>⟨h,hl⟩));have HT:=zq (ht.move (.weaken (G:=(fun x=>Q x∧x<w.heap.size)) fun b h hl=>⟨h,hl⟩));clear hi hz0 hz1 hz2 hn hy ht
 go_enter Tryz.func109,Tryz.ntmps109
 go_wp2_with fail
 have fB:(w.alloc (.cells #[.int .i64 tk,.slice ta tn tq] 25)).heap[w.heap.size]?=some (.cells #[.int .i64 tk,.slice ta tn tq] 25 (0,0)):=aB rfl;have fC:=zq (show Below w.heap.size w (w.alloc (.cells #[.int .i64 tk,.slice ta tn tq] 25)) from ai);refine wp_region_noPanic ?_;refine wp_region_held_drew (S:=fun w'=>w'.cell? ⟨w.heap.size,0,none⟩=some (.int .i64 tk)∧w'.cell? ⟨w.heap.size,1,none⟩=some (.slice ta tn tq)) (by kernel_rfl) ?_ (fun hH0=>?_)
 ·exact⟨av (ag fB (o:=0) rfl),av (ag fB (o:=1) rfl)⟩
 obtain⟨U,hU⟩ : ∃X:World,X=World.drew (w.alloc (.cells #[.int .i64 tk,.slice ta tn tq] 25)):=⟨_,rfl⟩
 have fB':U.heap[w.heap.size]?=some (.cells #[.int .i64 tk,.slice ta tn tq] 25 (0,0)):=by rw[hU];exact fB
 have fC':=zq (show Below w.heap.size w U from by rw[hU];exact fC.out.drew);have zU:U.heap.size=w.heap.size+1:=by rw[hU];simp
 rw[←hU] at hH0 ⊢;have zUa:w.heap.size+1≤U.heap.size:=by omega
 have zUb:U.heap.size≤w.heap.size+1:=by omega
 clear zU;clear hU fB fC;have fB:=fB';have fC:=fC';clear fB' fC';refine hwt 1 oM1 (.slice (some ad) n q) hH0 ?_ ?_
 ·intro w' hSw;dsimp only[oM1];go_simp
 try simp only[oM1,hwA]
 refine hwt 3 oM3 (.string nm) hH0 ?_ ?_
 ·intro w' hSw;dsimp only[oM3];go_simp
 try simp only[oM3,hwA]
 refine hwt 4 oM4 (.agg #[.int .i64 tk,.slice ta tn tq]) hH0 ?_ ?_
 ·intro w' hSw;dsimp only[oM4];go_simp
 try simp only[oM4,hwA]
 refine hwt 5 oM5 (.agg #[.string nm,.int .i64 tk,.slice ta tn tq]) hH0 ?_ ?_
 ·intro w' hSw;dsimp only[oM5];go_simp
 try simp only[oM5,hwA]
 refine wpAnyH_ready (rs:= [0,6]) (by kernel_rfl) (by simp) ?_;refine(AllReadyH.cons (o:=oM0) rfl (fun K hK=>?_) (AllReadyH.cons (o:=oM6) rfl (fun K hK=>?_) AllReadyH.nil))
 ·skip
  dsimp only[oM0]
  go_simp
  (try go_wp2_with fail);have fE2:(U.alloc (.cells #[] 99)).heap[U.heap.size]?=some (.cells #[] 99 (0,0)):=aB rfl;have fB2:=af fB (ai (o:=.cells #[] 99));have fC2:=zq (aj fC.out (ai (o:=.cells #[] 99)));have hzW2:(U.alloc (.cells #[] 99)).heap.size=U.heap.size+1:=by simp
  refine hK.out _ _ ⟨ag fB2 (o:=0) rfl,ag fB2 (o:=1) rfl⟩ (fun hH1=>?_);clear hK K hH0 fB fC
  try simp only[oM0,hwA]
  obtain⟨X1,hWW⟩ : ∃X:World,X=(U.alloc (.cells #[] 99)):=⟨_,rfl⟩
  rw[←hWW] at fB2 fC2 fE2 hzW2 hH1 ⊢;clear hWW;have fB:=fB2;have fC:=fC2;have fE:=fE2;clear fB2 fC2 fE2;have zX1a:U.heap.size+1≤X1.heap.size:=by omega
  have zX1b:X1.heap.size≤U.heap.size+1:=by omega
  clear hzW2;refine wpAnyH_ready (rs:= [2,6]) (by kernel_rfl) (by simp) ?_;refine(AllReadyH.cons (o:=oM2) rfl (fun K hK=>?_) (AllReadyH.cons (o:=oM6) rfl (fun K hK=>?_) AllReadyH.nil))
  ·skip
   obtain⟨xs0,ho0,hv0⟩:BdM U.heap.size X1 (.slice (some ⟨U.heap.size,0,none⟩) 0 0) []:=BdM.nil (Nat.le_refl _) fE rfl;obtain rfl:xs0 = []:=hv0;have hlg:w.heap.size≤U.heap.size:=by have:=fC.out.size;omega
   obtain⟨ad1',xs,ha1,Y1,Y2,Y3⟩ : ∃ad' xs,some ad=some ad'∧aW (fun b=>(Q b∧b<w.heap.size)∧(Value.slice (some ⟨U.heap.size,0,none⟩) 0 0).ownBlock≠some b) X1 l xs∧(∀j u,xs[j]?=some u→X1.cell? (ad'.add j)=some u)∧∀u∈xs,u.oneCell'=true:=by
    have h0:=(HY.out.below fC.out).move (.weaken (G:=fun b=>(Q b∧b<w.heap.size)∧(Value.slice (some ⟨U.heap.size,0,none⟩) 0 0).ownBlock≠some b) fun b hb _=>⟨hb,fun e=>by simp[Value.ownBlock] at e;have:=hb.2;omega⟩)
    exact h0.cellsAny
   obtain rfl:ad=ad1':=by simpa using ha1
   have hxl:xs.length=n*3:=by rw[Y1.len,HN.out]
   refine step_append_lies _ (by rfl) (.tmp 7) (.tmp 8) 96 (by rfl) U.heap.size 99 i0 _ 3 48 Tryz.underlying96 HI.out Z0.out Z1.out Z2.out rfl (by omega) (.slice (some ⟨U.heap.size,0,none⟩) 0 0) 0 [] (by rfl) ho0 ad n q xs (by rfl) hxl Y2 Y3 hn1 (by unfold maxLen;omega) (by omega) (by omega) _ rfl ?_;intro gg cap w5 hown hgrow hat hlt2;simp only[Nat.zero_add] at hown ⊢;have MM2:=zq (show BdG (fun x=>Q x∧x<w.heap.size) U.heap.size w5 (.slice (some ⟨gg,0,none⟩) n cap) ([]++l) from BdG.push (F:=(fun x=>Q x∧x<w.heap.size)) (W:=X1) (v:=(.slice (some ⟨U.heap.size,0,none⟩) 0 0)) (bs:= []) (cs:=l) (xs:= []) (ys:=xs) rfl Y1 (by simpa [HN.out] using hown) hgrow (by rcases hat with h | h;exact .inl (h.symm▸rfl);exact .inr (by rw[h];rfl)));have hb45:Below U.heap.size X1 w5:=Below.grown (Below.refl _ _) hgrow (by omega) (fun k hk=>by simp[Value.ownBlock] at hk;omega);have fC2:=zq (fC.out.trans (hb45.mono hlg));have fB2:w5.heap[w.heap.size]?=some (.cells #[.int .i64 tk,.slice ta tn tq] 25 (0,0)):=(hb45.block _ (by omega)).trans fB;have z5:X1.heap.size≤w5.heap.size:=hgrow.size;refine hK.out _ _ ⟨ag fB2 (o:=0) rfl,ag fB2 (o:=1) rfl⟩ (fun hH2=>?_);clear hK K hH1 fB fC fE ho0 Y1 Y2 Y3 hown hgrow hat ha1 hxl hb45
   try simp only[oM2,hwA]
   have MM:=MM2;have fC:=fC2;have fB:=fB2;clear MM2 fC2 fB2;refine hwr 6 oM6 (fun K hK=>?_)
   ·skip
    dsimp only[oM6]
    go_simp
    (try go_wp2_with fail);have fN2:(w5.alloc (.cells #[.string nm,.int .i64 tk,.slice ta tn tq] 99)).heap[w5.heap.size]?=some (.cells #[.string nm,.int .i64 tk,.slice ta tn tq] 99 (0,0)):=aB rfl;have MM2:=zq (MM.out.below (ai (o:=.cells #[.string nm,.int .i64 tk,.slice ta tn tq] 99)));have fB2:=af fB (ai (o:=.cells #[.string nm,.int .i64 tk,.slice ta tn tq] 99));have fC2:=zq (aj fC.out (ai (o:=.cells #[.string nm,.int .i64 tk,.slice ta tn tq] 99)));have hzW2:(w5.alloc (.cells #[.string nm,.int .i64 tk,.slice ta tn tq] 99)).heap.size=w5.heap.size+1:=by simp
    refine hK.out _ _ ⟨ag fB2 (o:=0) rfl,ag fB2 (o:=1) rfl⟩ (fun hH3=>?_);clear hK K hH2 fB fC MM
    try simp only[oM6,hwA]
    obtain⟨X3,hWW⟩ : ∃X:World,X=(w5.alloc (.cells #[.string nm,.int .i64 tk,.slice ta tn tq] 99)):=⟨_,rfl⟩
    rw[←hWW] at fB2 fC2 fN2 MM2 hzW2 hH3 ⊢;clear hWW;have fB:=fB2;have fC:=fC2;have fN:=fN2;have MM:=MM2;clear fB2 fC2 fN2 MM2;have zX3a:w5.heap.size+1≤X3.heap.size:=by omega
    have zX3b:X3.heap.size≤w5.heap.size+1:=by omega
    clear hzW2;refine hwr 7 oM7 (fun K hK=>?_)
    ·skip
     obtain⟨xs5,ho5,hv5⟩:=MM.out;have hv1:aW (fun b=>(Q b∧b<w.heap.size)∧(Value.slice (some ⟨gg,0,none⟩) n cap).ownBlock≠some b) X3 [⟨nm,ty⟩] [.string nm,.int .i64 tk,.slice ta tn tq]:=dO hnm ((HT.out.below fC.out).move (.weaken fun b hb _=>⟨hb,fun e=>by have:=(ho5.lt b e).1;have:=hb.2;omega⟩));refine step_append_lies _ (by rfl) (.tmp 9) (.tmp 13) 96 (by rfl) U.heap.size 99 i0 _ 3 48 Tryz.underlying96 HI.out Z0.out Z1.out Z2.out rfl (by omega) (.slice (some ⟨gg,0,none⟩) n cap) n xs5 (by rfl) (by simpa [HN.out] using ho5) ⟨w5.heap.size,0,none⟩ 1 1 [.string nm,.int .i64 tk,.slice ta tn tq] (by rfl) (by rfl) (World.news_of_block (cs:=#[.string nm,.int .i64 tk,.slice ta tn tq]) (t:=99) (fr:=(0,0)) fN) (by simp[Value.oneCell']) (by omega) (by unfold maxLen;omega) (by omega) (by omega) _ rfl ?_;intro g6 cap6 w6 hown hgrow hat hlt3;have M6:BdG (fun x=>Q x∧x<w.heap.size) U.heap.size w6 (.slice (some ⟨g6,0,none⟩) (n+1) cap6) (([]++l) ++ [⟨nm,ty⟩]):=BdG.push (F:=(fun x=>Q x∧x<w.heap.size)) (W:=X3) (v:=(.slice (some ⟨gg,0,none⟩) n cap)) hv5 hv1 (by simpa [HN.out] using hown) hgrow (by rcases hat with h | h;exact .inl (h.symm▸rfl);exact .inr (by rw[h];rfl));have RF:=zq (show aE (fun x=>(Q x∧x<w.heap.size)∨w.heap.size≤x) w6 (l ++ [⟨nm,ty⟩]) (.slice (some ⟨g6,0,none⟩) (n+1) cap6) from M6.rep.move (.weaken fun b h _=>h.imp id fun q=>by have:=fC.out.size;omega));have hb56:Below U.heap.size X3 w6:=Below.grown (Below.refl _ _) hgrow (by omega) (fun k hk=>(ho5.lt k hk).1);have fC2:=zq (fC.out.trans (hb56.mono hlg));have fB2:w6.heap[w.heap.size]?=some (.cells #[.int .i64 tk,.slice ta tn tq] 25 (0,0)):=(hb56.block _ (by omega)).trans fB;refine hK.out _ _ ⟨ag fB2 (o:=0) rfl,ag fB2 (o:=1) rfl⟩ (fun hH4=>?_);clear hK K hH3 fB fC fN ho5 hv5 hv1 hown hgrow hat M6 hb56 MM
     try simp only[oM7,hwA]
     have fC:=fC2;have fB:=fB2;clear fC2 fB2;refine hwt 8 oM8 (.slice (some ⟨g6,0,none⟩) (n+1) cap6) hH4 ?_ ?_
     ·intro w' hSw;dsimp only[oM8];go_simp
     try simp only[oM8,hwA]
     refine wpAnyH_done (by kernel_rfl) ?_ _;refine NoPanic.normal ?_;clear hH4
     go_wp2_with fail
     go_ret
     exact⟨_,_,_,rfl,RF.out,fC.out⟩
  ·skip
   dsimp only[oM6]
   go_simp
   (try go_wp2_with fail);have fN2:(X1.alloc (.cells #[.string nm,.int .i64 tk,.slice ta tn tq] 99)).heap[X1.heap.size]?=some (.cells #[.string nm,.int .i64 tk,.slice ta tn tq] 99 (0,0)):=aB rfl;have fE2:=af fE (ai (o:=.cells #[.string nm,.int .i64 tk,.slice ta tn tq] 99));have fB2:=af fB (ai (o:=.cells #[.string nm,.int .i64 tk,.slice ta tn tq] 99));have fC2:=zq (aj fC.out (ai (o:=.cells #[.string nm,.int .i64 tk,.slice ta tn tq] 99)));have hzW2:(X1.alloc (.cells #[.string nm,.int .i64 tk,.slice ta tn tq] 99)).heap.size=X1.heap.size+1:=by simp
   refine hK.out _ _ ⟨ag fB2 (o:=0) rfl,ag fB2 (o:=1) rfl⟩ (fun hH2=>?_);clear hK K hH1 fB fC fE
   try simp only[oM6,hwA]
   obtain⟨X2,hWW⟩ : ∃X:World,X=(X1.alloc (.cells #[.string nm,.int .i64 tk,.slice ta tn tq] 99)):=⟨_,rfl⟩
   rw[←hWW] at fB2 fC2 fE2 fN2 hzW2 hH2 ⊢;clear hWW;have fB:=fB2;have fC:=fC2;have fE:=fE2;have fN:=fN2;clear fB2 fC2 fE2 fN2;have zX2a:X1.heap.size+1≤X2.heap.size:=by omega
   have zX2b:X2.heap.size≤X1.heap.size+1:=by omega
   clear hzW2;refine hwr 2 oM2 (fun K hK=>?_)
   ·skip
    obtain⟨xs0,ho0,hv0⟩:BdM U.heap.size X2 (.slice (some ⟨U.heap.size,0,none⟩) 0 0) []:=BdM.nil (Nat.le_refl _) fE rfl;obtain rfl:xs0 = []:=hv0;have hlg:w.heap.size≤U.heap.size:=by have:=fC.out.size;omega
    obtain⟨ad1',xs,ha1,Y1,Y2,Y3⟩ : ∃ad' xs,some ad=some ad'∧aW (fun b=>(Q b∧b<w.heap.size)∧(Value.slice (some ⟨U.heap.size,0,none⟩) 0 0).ownBlock≠some b) X2 l xs∧(∀j u,xs[j]?=some u→X2.cell? (ad'.add j)=some u)∧∀u∈xs,u.oneCell'=true:=by
     have h0:=(HY.out.below fC.out).move (.weaken (G:=fun b=>(Q b∧b<w.heap.size)∧(Value.slice (some ⟨U.heap.size,0,none⟩) 0 0).ownBlock≠some b) fun b hb _=>⟨hb,fun e=>by simp[Value.ownBlock] at e;have:=hb.2;omega⟩)
     exact h0.cellsAny
    obtain rfl:ad=ad1':=by simpa using ha1
    have hxl:xs.length=n*3:=by rw[Y1.len,HN.out]
    refine step_append_lies _ (by rfl) (.tmp 7) (.tmp 8) 96 (by rfl) U.heap.size 99 i0 _ 3 48 Tryz.underlying96 HI.out Z0.out Z1.out Z2.out rfl (by omega) (.slice (some ⟨U.heap.size,0,none⟩) 0 0) 0 [] (by rfl) ho0 ad n q xs (by rfl) hxl Y2 Y3 hn1 (by unfold maxLen;omega) (by omega) (by omega) _ rfl ?_;intro gg cap w5 hown hgrow hat hlt2;simp only[Nat.zero_add] at hown ⊢;have MM2:=zq (show BdG (fun x=>Q x∧x<w.heap.size) U.heap.size w5 (.slice (some ⟨gg,0,none⟩) n cap) ([]++l) from BdG.push (F:=(fun x=>Q x∧x<w.heap.size)) (W:=X2) (v:=(.slice (some ⟨U.heap.size,0,none⟩) 0 0)) (bs:= []) (cs:=l) (xs:= []) (ys:=xs) rfl Y1 (by simpa [HN.out] using hown) hgrow (by rcases hat with h | h;exact .inl (h.symm▸rfl);exact .inr (by rw[h];rfl)));have hb45:Below U.heap.size X2 w5:=Below.grown (Below.refl _ _) hgrow (by omega) (fun k hk=>by simp[Value.ownBlock] at hk;omega);have fC2:=zq (fC.out.trans (hb45.mono hlg));have fB2:w5.heap[w.heap.size]?=some (.cells #[.int .i64 tk,.slice ta tn tq] 25 (0,0)):=(hb45.block _ (by omega)).trans fB;have fN2:w5.heap[X1.heap.size]?=some (.cells #[.string nm,.int .i64 tk,.slice ta tn tq] 99 (0,0)):=(hgrow.block _ (aC fN) (by simp[Value.ownBlock];omega)).trans fN;have z5:X2.heap.size≤w5.heap.size:=hgrow.size;refine hK.out _ _ ⟨ag fB2 (o:=0) rfl,ag fB2 (o:=1) rfl⟩ (fun hH5=>?_);clear hK K hH2 fB fC fE fN ho0 Y1 Y2 Y3 hown hgrow hat ha1 hxl hb45
    try simp only[oM2,hwA]
    have MM:=MM2;have fC:=fC2;have fB:=fB2;have fN:=fN2;clear MM2 fC2 fB2 fN2;refine hwr 7 oM7 (fun K hK=>?_)
    ·skip
     obtain⟨xs5,ho5,hv5⟩:=MM.out;have hv1:aW (fun b=>(Q b∧b<w.heap.size)∧(Value.slice (some ⟨gg,0,none⟩) n cap).ownBlock≠some b) w5 [⟨nm,ty⟩] [.string nm,.int .i64 tk,.slice ta tn tq]:=dO hnm ((HT.out.below fC.out).move (.weaken fun b hb _=>⟨hb,fun e=>by have:=(ho5.lt b e).1;have:=hb.2;omega⟩));refine step_append_lies _ (by rfl) (.tmp 9) (.tmp 13) 96 (by rfl) U.heap.size 99 i0 _ 3 48 Tryz.underlying96 HI.out Z0.out Z1.out Z2.out rfl (by omega) (.slice (some ⟨gg,0,none⟩) n cap) n xs5 (by rfl) (by simpa [HN.out] using ho5) ⟨X1.heap.size,0,none⟩ 1 1 [.string nm,.int .i64 tk,.slice ta tn tq] (by rfl) (by rfl) (World.news_of_block (cs:=#[.string nm,.int .i64 tk,.slice ta tn tq]) (t:=99) (fr:=(0,0)) fN) (by simp[Value.oneCell']) (by omega) (by unfold maxLen;omega) (by omega) (by omega) _ rfl ?_;intro g6 cap6 w6 hown hgrow hat hlt3;have M6:BdG (fun x=>Q x∧x<w.heap.size) U.heap.size w6 (.slice (some ⟨g6,0,none⟩) (n+1) cap6) (([]++l) ++ [⟨nm,ty⟩]):=BdG.push (F:=(fun x=>Q x∧x<w.heap.size)) (W:=w5) (v:=(.slice (some ⟨gg,0,none⟩) n cap)) hv5 hv1 (by simpa [HN.out] using hown) hgrow (by rcases hat with h | h;exact .inl (h.symm▸rfl);exact .inr (by rw[h];rfl));have RF:=zq (show aE (fun x=>(Q x∧x<w.heap.size)∨w.heap.size≤x) w6 (l ++ [⟨nm,ty⟩]) (.slice (some ⟨g6,0,none⟩) (n+1) cap6) from M6.rep.move (.weaken fun b h _=>h.imp id fun q=>by have:=fC.out.size;omega));have hb56:Below U.heap.size w5 w6:=Below.grown (Below.refl _ _) hgrow (by omega) (fun k hk=>(ho5.lt k hk).1);have fC2:=zq (fC.out.trans (hb56.mono hlg));have fB2:w6.heap[w.heap.size]?=some (.cells #[.int .i64 tk,.slice ta tn tq] 25 (0,0)):=(hb56.block _ (by omega)).trans fB;refine hK.out _ _ ⟨ag fB2 (o:=0) rfl,ag fB2 (o:=1) rfl⟩ (fun hH6=>?_);clear hK K hH5 fB fC fN ho5 hv5 hv1 hown hgrow hat M6 hb56 MM
     try simp only[oM7,hwA]
     have fC:=fC2;have fB:=fB2;clear fC2 fB2;refine hwt 8 oM8 (.slice (some ⟨g6,0,none⟩) (n+1) cap6) hH6 ?_ ?_
     ·intro w' hSw;dsimp only[oM8];go_simp
     try simp only[oM8,hwA]
     refine wpAnyH_done (by kernel_rfl) ?_ _;refine NoPanic.normal ?_;clear hH6
     go_wp2_with fail
     go_ret
     exact⟨_,_,_,rfl,RF.out,fC.out⟩
 ·skip
  dsimp only[oM6]
  go_simp
  (try go_wp2_with fail);have fN2:(U.alloc (.cells #[.string nm,.int .i64 tk,.slice ta tn tq] 99)).heap[U.heap.size]?=some (.cells #[.string nm,.int .i64 tk,.slice ta tn tq] 99 (0,0)):=aB rfl;have fB2:=af fB (ai (o:=.cells #[.string nm,.int .i64 tk,.slice ta tn tq] 99));have fC2:=zq (aj fC.out (ai (o:=.cells #[.string nm,.int .i64 tk,.slice ta tn tq] 99)));have hzW2:(U.alloc (.cells #[.string nm,.int .i64 tk,.slice ta tn tq] 99)).heap.size=U.heap.size+1:=by simp
  refine hK.out _ _ ⟨ag fB2 (o:=0) rfl,ag fB2 (o:=1) rfl⟩ (fun hH1=>?_);clear hK K hH0 fB fC
  try simp only[oM6,hwA]
  obtain⟨X1,hWW⟩ : ∃X:World,X=(U.alloc (.cells #[.string nm,.int .i64 tk,.slice ta tn tq] 99)):=⟨_,rfl⟩
  rw[←hWW] at fB2 fC2 fN2 hzW2 hH1 ⊢;clear hWW;have fB:=fB2;have fC:=fC2;have fN:=fN2;clear fB2 fC2 fN2;have zX1a:U.heap.size+1≤X1.heap.size:=by omega
  have zX1b:X1.heap.size≤U.heap.size+1:=by omega
  clear hzW2;refine hwr 0 oM0 (fun K hK=>?_)
  ·skip
   dsimp only[oM0]
   go_simp
   (try go_wp2_with fail);have fE2:(X1.alloc (.cells #[] 99)).heap[X1.heap.size]?=some (.cells #[] 99 (0,0)):=aB rfl;have fN2:=af fN (ai (o:=.cells #[] 99));have fB2:=af fB (ai (o:=.cells #[] 99));have fC2:=zq (aj fC.out (ai (o:=.cells #[] 99)));have hzW2:(X1.alloc (.cells #[] 99)).heap.size=X1.heap.size+1:=by simp
   refine hK.out _ _ ⟨ag fB2 (o:=0) rfl,ag fB2 (o:=1) rfl⟩ (fun hH7=>?_);clear hK K hH1 fB fC fN
   try simp only[oM0,hwA]
   obtain⟨X7,hWW⟩ : ∃X:World,X=(X1.alloc (.cells #[] 99)):=⟨_,rfl⟩
   rw[←hWW] at fB2 fC2 fE2 fN2 hzW2 hH7 ⊢;clear hWW;have fB:=fB2;have fC:=fC2;have fE:=fE2;have fN:=fN2;clear fB2 fC2 fE2 fN2;have zX7a:X1.heap.size+1≤X7.heap.size:=by omega
   have zX7b:X7.heap.size≤X1.heap.size+1:=by omega
   clear hzW2;refine hwr 2 oM2 (fun K hK=>?_)
   ·skip
    obtain⟨xs0,ho0,hv0⟩:BdM X1.heap.size X7 (.slice (some ⟨X1.heap.size,0,none⟩) 0 0) []:=BdM.nil (Nat.le_refl _) fE rfl;obtain rfl:xs0 = []:=hv0;have hlg:w.heap.size≤X1.heap.size:=by have:=fC.out.size;omega
    obtain⟨ad1',xs,ha1,Y1,Y2,Y3⟩ : ∃ad' xs,some ad=some ad'∧aW (fun b=>(Q b∧b<w.heap.size)∧(Value.slice (some ⟨X1.heap.size,0,none⟩) 0 0).ownBlock≠some b) X7 l xs∧(∀j u,xs[j]?=some u→X7.cell? (ad'.add j)=some u)∧∀u∈xs,u.oneCell'=true:=by
     have h0:=(HY.out.below fC.out).move (.weaken (G:=fun b=>(Q b∧b<w.heap.size)∧(Value.slice (some ⟨X1.heap.size,0,none⟩) 0 0).ownBlock≠some b) fun b hb _=>⟨hb,fun e=>by simp[Value.ownBlock] at e;have:=hb.2;omega⟩)
     exact h0.cellsAny
    obtain rfl:ad=ad1':=by simpa using ha1
    have hxl:xs.length=n*3:=by rw[Y1.len,HN.out]
    refine step_append_lies _ (by rfl) (.tmp 7) (.tmp 8) 96 (by rfl) X1.heap.size 99 i0 _ 3 48 Tryz.underlying96 HI.out Z0.out Z1.out Z2.out rfl (by omega) (.slice (some ⟨X1.heap.size,0,none⟩) 0 0) 0 [] (by rfl) ho0 ad n q xs (by rfl) hxl Y2 Y3 hn1 (by unfold maxLen;omega) (by omega) (by omega) _ rfl ?_;intro gg cap w5 hown hgrow hat hlt2;simp only[Nat.zero_add] at hown ⊢;have MM2:=zq (show BdG (fun x=>Q x∧x<w.heap.size) X1.heap.size w5 (.slice (some ⟨gg,0,none⟩) n cap) ([]++l) from BdG.push (F:=(fun x=>Q x∧x<w.heap.size)) (W:=X7) (v:=(.slice (some ⟨X1.heap.size,0,none⟩) 0 0)) (bs:= []) (cs:=l) (xs:= []) (ys:=xs) rfl Y1 (by simpa [HN.out] using hown) hgrow (by rcases hat with h | h;exact .inl (h.symm▸rfl);exact .inr (by rw[h];rfl)));have hb45:Below X1.heap.size X7 w5:=Below.grown (Below.refl _ _) hgrow (by omega) (fun k hk=>by simp[Value.ownBlock] at hk;omega);have fC2:=zq (fC.out.trans (hb45.mono hlg));have fB2:w5.heap[w.heap.size]?=some (.cells #[.int .i64 tk,.slice ta tn tq] 25 (0,0)):=(hb45.block _ (by omega)).trans fB;have fN2:w5.heap[U.heap.size]?=some (.cells #[.string nm,.int .i64 tk,.slice ta tn tq] 99 (0,0)):=(hgrow.block _ (aC fN) (by simp[Value.ownBlock];omega)).trans fN;have z5:X7.heap.size≤w5.heap.size:=hgrow.size;refine hK.out _ _ ⟨ag fB2 (o:=0) rfl,ag fB2 (o:=1) rfl⟩ (fun hH8=>?_);clear hK K hH7 fB fC fE fN ho0 Y1 Y2 Y3 hown hgrow hat ha1 hxl hb45
    try simp only[oM2,hwA]
    have MM:=MM2;have fC:=fC2;have fB:=fB2;have fN:=fN2;clear MM2 fC2 fB2 fN2;refine hwr 7 oM7 (fun K hK=>?_)
    ·skip
     obtain⟨xs5,ho5,hv5⟩:=MM.out;have hv1:aW (fun b=>(Q b∧b<w.heap.size)∧(Value.slice (some ⟨gg,0,none⟩) n cap).ownBlock≠some b) w5 [⟨nm,ty⟩] [.string nm,.int .i64 tk,.slice ta tn tq]:=dO hnm ((HT.out.below fC.out).move (.weaken fun b hb _=>⟨hb,fun e=>by have:=(ho5.lt b e).1;have:=hb.2;omega⟩));refine step_append_lies _ (by rfl) (.tmp 9) (.tmp 13) 96 (by rfl) X1.heap.size 99 i0 _ 3 48 Tryz.underlying96 HI.out Z0.out Z1.out Z2.out rfl (by omega) (.slice (some ⟨gg,0,none⟩) n cap) n xs5 (by rfl) (by simpa [HN.out] using ho5) ⟨U.heap.size,0,none⟩ 1 1 [.string nm,.int .i64 tk,.slice ta tn tq] (by rfl) (by rfl) (World.news_of_block (cs:=#[.string nm,.int .i64 tk,.slice ta tn tq]) (t:=99) (fr:=(0,0)) fN) (by simp[Value.oneCell']) (by omega) (by unfold maxLen;omega) (by omega) (by omega) _ rfl ?_;intro g6 cap6 w6 hown hgrow hat hlt3;have M6:BdG (fun x=>Q x∧x<w.heap.size) X1.heap.size w6 (.slice (some ⟨g6,0,none⟩) (n+1) cap6) (([]++l) ++ [⟨nm,ty⟩]):=BdG.push (F:=(fun x=>Q x∧x<w.heap.size)) (W:=w5) (v:=(.slice (some ⟨gg,0,none⟩) n cap)) hv5 hv1 (by simpa [HN.out] using hown) hgrow (by rcases hat with h | h;exact .inl (h.symm▸rfl);exact .inr (by rw[h];rfl));have RF:=zq (show aE (fun x=>(Q x∧x<w.heap.size)∨w.heap.size≤x) w6 (l ++ [⟨nm,ty⟩]) (.slice (some ⟨g6,0,none⟩) (n+1) cap6) from M6.rep.move (.weaken fun b h _=>h.imp id fun q=>by have:=fC.out.size;omega));have hb56:Below X1.heap.size w5 w6:=Below.grown (Below.refl _ _) hgrow (by omega) (fun k hk=>(ho5.lt k hk).1);have fC2:=zq (fC.out.trans (hb56.mono hlg));have fB2:w6.heap[w.heap.size]?=some (.cells #[.int .i64 tk,.slice ta tn tq] 25 (0,0)):=(hb56.block _ (by omega)).trans fB;refine hK.out _ _ ⟨ag fB2 (o:=0) rfl,ag fB2 (o:=1) rfl⟩ (fun hH9=>?_);clear hK K hH8 fB fC fN ho5 hv5 hv1 hown hgrow hat M6 hb56 MM
     try simp only[oM7,hwA]
     have fC:=fC2;have fB:=fB2;clear fC2 fB2;refine hwt 8 oM8 (.slice (some ⟨g6,0,none⟩) (n+1) cap6) hH9 ?_ ?_
     ·intro w' hSw;dsimp only[oM8];go_simp
     try simp only[oM8,hwA]
     refine wpAnyH_done (by kernel_rfl) ?_ _;refine NoPanic.normal ?_;clear hH9
     go_wp2_with fail
     go_ret
     exact⟨_,_,_,rfl,RF.out,fC.out⟩
theorem eO (Q:Nat→Prop)(nm:ByteArray)(ty:Ty)(tk:Int)(ta:Option Addr)(tn tq:Nat)(w:World)(hnm:nm.size≤maxLen)(ht:ao Q w ty (.agg #[.int .i64 tk,.slice ta tn tq])) :
  Calls Tryz.prog 109 #[.slice none 0 0,.string nm,.agg #[.int .i64 tk,.slice ta tn tq]] w (jN Q ([] ++ [⟨nm,ty⟩]) w):=by
 obtain⟨i0,hi,hz0,hz1,hz2⟩:=info_parts Tryz.infoBdC;have Z0:=zq hz0;have Z1:=zq hz1;have Z2:=zq hz2;have HI:=zq hi;have HN:=zq (show([]:List Bd).length=0 from rfl);have HT:=zq (ht.move (.weaken (G:=(fun x=>Q x∧x<w.heap.size)) fun b h hl=>⟨h,hl⟩));clear hi hz0 hz1 hz2 ht
 go_enter Tryz.func109,Tryz.ntmps109
 go_wp2_with fail
 have fB:(w.alloc (.cells #[.int .i64 tk,.slice ta tn tq] 25)).heap[w.heap.size]?=some (.cells #[.int .i64 tk,.slice ta tn tq] 25 (0,0)):=aB rfl;have fC:=zq (show Below w.heap.size w (w.alloc (.cells #[.int .i64 tk,.slice ta tn tq] 25)) from ai);refine wp_region_noPanic ?_;refine wp_region_held_drew (S:=fun w'=>w'.cell? ⟨w.heap.size,0,none⟩=some (.int .i64 tk)∧w'.cell? ⟨w.heap.size,1,none⟩=some (.slice ta tn tq)) (by kernel_rfl) ?_ (fun hH0=>?_)
 ·exact⟨av (ag fB (o:=0) rfl),av (ag fB (o:=1) rfl)⟩
 obtain⟨U,hU⟩ : ∃X:World,X=World.drew (w.alloc (.cells #[.int .i64 tk,.slice ta tn tq] 25)):=⟨_,rfl⟩
 have fB':U.heap[w.heap.size]?=some (.cells #[.int .i64 tk,.slice ta tn tq] 25 (0,0)):=by rw[hU];exact fB
 have fC':=zq (show Below w.heap.size w U from by rw[hU];exact fC.out.drew);have zU:U.heap.size=w.heap.size+1:=by rw[hU];simp
 rw[←hU] at hH0 ⊢;have zUa:w.heap.size+1≤U.heap.size:=by omega
 have zUb:U.heap.size≤w.heap.size+1:=by omega
 clear zU;clear hU fB fC;have fB:=fB';have fC:=fC';clear fB' fC';refine hwt 1 oM1 (.slice none 0 0) hH0 ?_ ?_
 ·intro w' hSw;dsimp only[oM1];go_simp
 try simp only[oM1,hwA]
 refine hwt 3 oM3 (.string nm) hH0 ?_ ?_
 ·intro w' hSw;dsimp only[oM3];go_simp
 try simp only[oM3,hwA]
 refine hwt 4 oM4 (.agg #[.int .i64 tk,.slice ta tn tq]) hH0 ?_ ?_
 ·intro w' hSw;dsimp only[oM4];go_simp
 try simp only[oM4,hwA]
 refine hwt 5 oM5 (.agg #[.string nm,.int .i64 tk,.slice ta tn tq]) hH0 ?_ ?_
 ·intro w' hSw;dsimp only[oM5];go_simp
 try simp only[oM5,hwA]
 refine wpAnyH_ready (rs:= [0,6]) (by kernel_rfl) (by simp) ?_;refine(AllReadyH.cons (o:=oM0) rfl (fun K hK=>?_) (AllReadyH.cons (o:=oM6) rfl (fun K hK=>?_) AllReadyH.nil))
 ·skip
  dsimp only[oM0]
  go_simp
  (try go_wp2_with fail);have fE2:(U.alloc (.cells #[] 99)).heap[U.heap.size]?=some (.cells #[] 99 (0,0)):=aB rfl;have fB2:=af fB (ai (o:=.cells #[] 99));have fC2:=zq (aj fC.out (ai (o:=.cells #[] 99)));have hzW2:(U.alloc (.cells #[] 99)).heap.size=U.heap.size+1:=by simp
  refine hK.out _ _ ⟨ag fB2 (o:=0) rfl,ag fB2 (o:=1) rfl⟩ (fun hH10=>?_);clear hK K hH0 fB fC
  try simp only[oM0,hwA]
  obtain⟨X10,hWW⟩ : ∃X:World,X=(U.alloc (.cells #[] 99)):=⟨_,rfl⟩
  rw[←hWW] at fB2 fC2 fE2 hzW2 hH10 ⊢;clear hWW;have fB:=fB2;have fC:=fC2;have fE:=fE2;clear fB2 fC2 fE2;have zX10a:U.heap.size+1≤X10.heap.size:=by omega
  have zX10b:X10.heap.size≤U.heap.size+1:=by omega
  clear hzW2;refine wpAnyH_ready (rs:= [2,6]) (by kernel_rfl) (by simp) ?_;refine(AllReadyH.cons (o:=oM2) rfl (fun K hK=>?_) (AllReadyH.cons (o:=oM6) rfl (fun K hK=>?_) AllReadyH.nil))
  ·skip
   obtain⟨xs0,ho0,hv0⟩:BdM U.heap.size X10 (.slice (some ⟨U.heap.size,0,none⟩) 0 0) []:=BdM.nil (Nat.le_refl _) fE rfl;obtain rfl:xs0 = []:=hv0;have hlg:w.heap.size≤U.heap.size:=by have:=fC.out.size;omega
   refine eg () (by rfl) (.tmp 7) (.tmp 8) 96 (by rfl) U.heap.size 99 i0 3 Tryz.underlying96 HI.out (.slice (some ⟨U.heap.size,0,none⟩) 0 0) 0 [] (by rfl) ho0 (by rfl) ?_;have MM2:=zq (show BdG (fun x=>Q x∧x<w.heap.size) U.heap.size X10 (.slice (some ⟨U.heap.size,0,none⟩) 0 0) [] from⟨[],ho0,rfl⟩);refine hK.out _ _ ⟨ag fB (o:=0) rfl,ag fB (o:=1) rfl⟩ (fun hH11=>?_);clear hK K hH10 fE ho0
   try simp only[oM2,hwA]
   have MM:=MM2;clear MM2;refine hwr 6 oM6 (fun K hK=>?_)
   ·skip
    dsimp only[oM6]
    go_simp
    (try go_wp2_with fail);have fN2:(X10.alloc (.cells #[.string nm,.int .i64 tk,.slice ta tn tq] 99)).heap[X10.heap.size]?=some (.cells #[.string nm,.int .i64 tk,.slice ta tn tq] 99 (0,0)):=aB rfl;have MM2:=zq (MM.out.below (ai (o:=.cells #[.string nm,.int .i64 tk,.slice ta tn tq] 99)));have fB2:=af fB (ai (o:=.cells #[.string nm,.int .i64 tk,.slice ta tn tq] 99));have fC2:=zq (aj fC.out (ai (o:=.cells #[.string nm,.int .i64 tk,.slice ta tn tq] 99)));have hzW2:(X10.alloc (.cells #[.string nm,.int .i64 tk,.slice ta tn tq] 99)).heap.size=X10.heap.size+1:=by simp
    refine hK.out _ _ ⟨ag fB2 (o:=0) rfl,ag fB2 (o:=1) rfl⟩ (fun hH12=>?_);clear hK K hH11 fB fC MM
    try simp only[oM6,hwA]
    obtain⟨X12,hWW⟩ : ∃X:World,X=(X10.alloc (.cells #[.string nm,.int .i64 tk,.slice ta tn tq] 99)):=⟨_,rfl⟩
    rw[←hWW] at fB2 fC2 fN2 MM2 hzW2 hH12 ⊢;clear hWW;have fB:=fB2;have fC:=fC2;have fN:=fN2;have MM:=MM2;clear fB2 fC2 fN2 MM2;have zX12a:X10.heap.size+1≤X12.heap.size:=by omega
    have zX12b:X12.heap.size≤X10.heap.size+1:=by omega
    clear hzW2;refine hwr 7 oM7 (fun K hK=>?_)
    ·skip
     obtain⟨xs5,ho5,hv5⟩:=MM.out;have hv1:aW (fun b=>(Q b∧b<w.heap.size)∧(Value.slice (some ⟨U.heap.size,0,none⟩) 0 0).ownBlock≠some b) X12 [⟨nm,ty⟩] [.string nm,.int .i64 tk,.slice ta tn tq]:=dO hnm ((HT.out.below fC.out).move (.weaken fun b hb _=>⟨hb,fun e=>by have:=(ho5.lt b e).1;have:=hb.2;omega⟩));refine step_append_lies _ (by rfl) (.tmp 9) (.tmp 13) 96 (by rfl) U.heap.size 99 i0 _ 3 48 Tryz.underlying96 HI.out Z0.out Z1.out Z2.out rfl (by omega) (.slice (some ⟨U.heap.size,0,none⟩) 0 0) 0 xs5 (by rfl) (by simpa [HN.out] using ho5) ⟨X10.heap.size,0,none⟩ 1 1 [.string nm,.int .i64 tk,.slice ta tn tq] (by rfl) (by rfl) (World.news_of_block (cs:=#[.string nm,.int .i64 tk,.slice ta tn tq]) (t:=99) (fr:=(0,0)) fN) (by simp[Value.oneCell']) (by omega) (by unfold maxLen;omega) (by omega) (by omega) _ rfl ?_;intro g6 cap6 w6 hown hgrow hat hlt3;have M6:BdG (fun x=>Q x∧x<w.heap.size) U.heap.size w6 (.slice (some ⟨g6,0,none⟩) (0+1) cap6) ([] ++ [⟨nm,ty⟩]):=BdG.push (F:=(fun x=>Q x∧x<w.heap.size)) (W:=X12) (v:=(.slice (some ⟨U.heap.size,0,none⟩) 0 0)) hv5 hv1 (by simpa [HN.out] using hown) hgrow (by rcases hat with h | h;exact .inl (h.symm▸rfl);exact .inr (by rw[h];rfl));have RF:=zq (show aE (fun x=>(Q x∧x<w.heap.size)∨w.heap.size≤x) w6 ([] ++ [⟨nm,ty⟩]) (.slice (some ⟨g6,0,none⟩) (0+1) cap6) from M6.rep.move (.weaken fun b h _=>h.imp id fun q=>by have:=fC.out.size;omega));have hb56:Below U.heap.size X12 w6:=Below.grown (Below.refl _ _) hgrow (by omega) (fun k hk=>(ho5.lt k hk).1);have fC2:=zq (fC.out.trans (hb56.mono hlg));have fB2:w6.heap[w.heap.size]?=some (.cells #[.int .i64 tk,.slice ta tn tq] 25 (0,0)):=(hb56.block _ (by omega)).trans fB;refine hK.out _ _ ⟨ag fB2 (o:=0) rfl,ag fB2 (o:=1) rfl⟩ (fun hH13=>?_);clear hK K hH12 fB fC fN ho5 hv5 hv1 hown hgrow hat M6 hb56 MM
     try simp only[oM7,hwA]
     have fC:=fC2;have fB:=fB2;clear fC2 fB2;refine hwt 8 oM8 (.slice (some ⟨g6,0,none⟩) (0+1) cap6) hH13 ?_ ?_
     ·intro w' hSw;dsimp only[oM8];go_simp
     try simp only[oM8,hwA]
     refine wpAnyH_done (by kernel_rfl) ?_ _;refine NoPanic.normal ?_;clear hH13
     go_wp2_with fail
     go_ret
     exact⟨_,_,_,rfl,RF.out,fC.out⟩
  ·skip
   dsimp only[oM6]
   go_simp
   (try go_wp2_with fail);have fN2:(X10.alloc (.cells #[.string nm,.int .i64 tk,.slice ta tn tq] 99)).heap[X10.heap.size]?=some (.cells #[.string nm,.int .i64 tk,.slice ta tn tq] 99 (0,0)):=aB rfl;have fE2:=af fE (ai (o:=.cells #[.string nm,.int .i64 tk,.slice ta tn tq] 99));have fB2:=af fB (ai (o:=.cells #[.string nm,.int .i64 tk,.slice ta tn tq] 99));have fC2:=zq (aj fC.out (ai (o:=.cells #[.string nm,.int .i64 tk,.slice ta tn tq] 99)));have hzW2:(X10.alloc (.cells #[.string nm,.int .i64 tk,.slice ta tn tq] 99)).heap.size=X10.heap.size+1:=by simp
   refine hK.out _ _ ⟨ag fB2 (o:=0) rfl,ag fB2 (o:=1) rfl⟩ (fun hH11=>?_);clear hK K hH10 fB fC fE
   try simp only[oM6,hwA]
   obtain⟨X11,hWW⟩ : ∃X:World,X=(X10.alloc (.cells #[.string nm,.int .i64 tk,.slice ta tn tq] 99)):=⟨_,rfl⟩
   rw[←hWW] at fB2 fC2 fE2 fN2 hzW2 hH11 ⊢;clear hWW;have fB:=fB2;have fC:=fC2;have fE:=fE2;have fN:=fN2;clear fB2 fC2 fE2 fN2;have zX11a:X10.heap.size+1≤X11.heap.size:=by omega
   have zX11b:X11.heap.size≤X10.heap.size+1:=by omega
   clear hzW2;refine hwr 2 oM2 (fun K hK=>?_)
   ·skip
    obtain⟨xs0,ho0,hv0⟩:BdM U.heap.size X11 (.slice (some ⟨U.heap.size,0,none⟩) 0 0) []:=BdM.nil (Nat.le_refl _) fE rfl;obtain rfl:xs0 = []:=hv0;have hlg:w.heap.size≤U.heap.size:=by have:=fC.out.size;omega
    refine eg () (by rfl) (.tmp 7) (.tmp 8) 96 (by rfl) U.heap.size 99 i0 3 Tryz.underlying96 HI.out (.slice (some ⟨U.heap.size,0,none⟩) 0 0) 0 [] (by rfl) ho0 (by rfl) ?_;have MM2:=zq (show BdG (fun x=>Q x∧x<w.heap.size) U.heap.size X11 (.slice (some ⟨U.heap.size,0,none⟩) 0 0) [] from⟨[],ho0,rfl⟩);refine hK.out _ _ ⟨ag fB (o:=0) rfl,ag fB (o:=1) rfl⟩ (fun hH14=>?_);clear hK K hH11 fE ho0
    try simp only[oM2,hwA]
    have MM:=MM2;clear MM2;refine hwr 7 oM7 (fun K hK=>?_)
    ·skip
     obtain⟨xs5,ho5,hv5⟩:=MM.out;have hv1:aW (fun b=>(Q b∧b<w.heap.size)∧(Value.slice (some ⟨U.heap.size,0,none⟩) 0 0).ownBlock≠some b) X11 [⟨nm,ty⟩] [.string nm,.int .i64 tk,.slice ta tn tq]:=dO hnm ((HT.out.below fC.out).move (.weaken fun b hb _=>⟨hb,fun e=>by have:=(ho5.lt b e).1;have:=hb.2;omega⟩));refine step_append_lies _ (by rfl) (.tmp 9) (.tmp 13) 96 (by rfl) U.heap.size 99 i0 _ 3 48 Tryz.underlying96 HI.out Z0.out Z1.out Z2.out rfl (by omega) (.slice (some ⟨U.heap.size,0,none⟩) 0 0) 0 xs5 (by rfl) (by simpa [HN.out] using ho5) ⟨X10.heap.size,0,none⟩ 1 1 [.string nm,.int .i64 tk,.slice ta tn tq] (by rfl) (by rfl) (World.news_of_block (cs:=#[.string nm,.int .i64 tk,.slice ta tn tq]) (t:=99) (fr:=(0,0)) fN) (by simp[Value.oneCell']) (by omega) (by unfold maxLen;omega) (by omega) (by omega) _ rfl ?_;intro g6 cap6 w6 hown hgrow hat hlt3;have M6:BdG (fun x=>Q x∧x<w.heap.size) U.heap.size w6 (.slice (some ⟨g6,0,none⟩) (0+1) cap6) ([] ++ [⟨nm,ty⟩]):=BdG.push (F:=(fun x=>Q x∧x<w.heap.size)) (W:=X11) (v:=(.slice (some ⟨U.heap.size,0,none⟩) 0 0)) hv5 hv1 (by simpa [HN.out] using hown) hgrow (by rcases hat with h | h;exact .inl (h.symm▸rfl);exact .inr (by rw[h];rfl));have RF:=zq (show aE (fun x=>(Q x∧x<w.heap.size)∨w.heap.size≤x) w6 ([] ++ [⟨nm,ty⟩]) (.slice (some ⟨g6,0,none⟩) (0+1) cap6) from M6.rep.move (.weaken fun b h _=>h.imp id fun q=>by have:=fC.out.size;omega));have hb56:Below U.heap.size X11 w6:=Below.grown (Below.refl _ _) hgrow (by omega) (fun k hk=>(ho5.lt k hk).1);have fC2:=zq (fC.out.trans (hb56.mono hlg));have fB2:w6.heap[w.heap.size]?=some (.cells #[.int .i64 tk,.slice ta tn tq] 25 (0,0)):=(hb56.block _ (by omega)).trans fB;refine hK.out _ _ ⟨ag fB2 (o:=0) rfl,ag fB2 (o:=1) rfl⟩ (fun hH15=>?_);clear hK K hH14 fB fC fN ho5 hv5 hv1 hown hgrow hat M6 hb56 MM
     try simp only[oM7,hwA]
     have fC:=fC2;have fB:=fB2;clear fC2 fB2;refine hwt 8 oM8 (.slice (some ⟨g6,0,none⟩) (0+1) cap6) hH15 ?_ ?_
     ·intro w' hSw;dsimp only[oM8];go_simp
     try simp only[oM8,hwA]
     refine wpAnyH_done (by kernel_rfl) ?_ _;refine NoPanic.normal ?_;clear hH15
     go_wp2_with fail
     go_ret
     exact⟨_,_,_,rfl,RF.out,fC.out⟩
 ·skip
  dsimp only[oM6]
  go_simp
  (try go_wp2_with fail);have fN2:(U.alloc (.cells #[.string nm,.int .i64 tk,.slice ta tn tq] 99)).heap[U.heap.size]?=some (.cells #[.string nm,.int .i64 tk,.slice ta tn tq] 99 (0,0)):=aB rfl;have fB2:=af fB (ai (o:=.cells #[.string nm,.int .i64 tk,.slice ta tn tq] 99));have fC2:=zq (aj fC.out (ai (o:=.cells #[.string nm,.int .i64 tk,.slice ta tn tq] 99)));have hzW2:(U.alloc (.cells #[.string nm,.int .i64 tk,.slice ta tn tq] 99)).heap.size=U.heap.size+1:=by simp
  refine hK.out _ _ ⟨ag fB2 (o:=0) rfl,ag fB2 (o:=1) rfl⟩ (fun hH10=>?_);clear hK K hH0 fB fC
  try simp only[oM6,hwA]
  obtain⟨X10,hWW⟩ : ∃X:World,X=(U.alloc (.cells #[.string nm,.int .i64 tk,.slice ta tn tq] 99)):=⟨_,rfl⟩
  rw[←hWW] at fB2 fC2 fN2 hzW2 hH10 ⊢;clear hWW;have fB:=fB2;have fC:=fC2;have fN:=fN2;clear fB2 fC2 fN2;have zX10a:U.heap.size+1≤X10.heap.size:=by omega
  have zX10b:X10.heap.size≤U.heap.size+1:=by omega
  clear hzW2;refine hwr 0 oM0 (fun K hK=>?_)
  ·skip
   dsimp only[oM0]
   go_simp
   (try go_wp2_with fail);have fE2:(X10.alloc (.cells #[] 99)).heap[X10.heap.size]?=some (.cells #[] 99 (0,0)):=aB rfl;have fN2:=af fN (ai (o:=.cells #[] 99));have fB2:=af fB (ai (o:=.cells #[] 99));have fC2:=zq (aj fC.out (ai (o:=.cells #[] 99)));have hzW2:(X10.alloc (.cells #[] 99)).heap.size=X10.heap.size+1:=by simp
   refine hK.out _ _ ⟨ag fB2 (o:=0) rfl,ag fB2 (o:=1) rfl⟩ (fun hH16=>?_);clear hK K hH10 fB fC fN
   try simp only[oM0,hwA]
   obtain⟨X16,hWW⟩ : ∃X:World,X=(X10.alloc (.cells #[] 99)):=⟨_,rfl⟩
   rw[←hWW] at fB2 fC2 fE2 fN2 hzW2 hH16 ⊢;clear hWW;have fB:=fB2;have fC:=fC2;have fE:=fE2;have fN:=fN2;clear fB2 fC2 fE2 fN2;have zX16a:X10.heap.size+1≤X16.heap.size:=by omega
   have zX16b:X16.heap.size≤X10.heap.size+1:=by omega
   clear hzW2;refine hwr 2 oM2 (fun K hK=>?_)
   ·skip
    obtain⟨xs0,ho0,hv0⟩:BdM X10.heap.size X16 (.slice (some ⟨X10.heap.size,0,none⟩) 0 0) []:=BdM.nil (Nat.le_refl _) fE rfl;obtain rfl:xs0 = []:=hv0;have hlg:w.heap.size≤X10.heap.size:=by have:=fC.out.size;omega
    refine eg () (by rfl) (.tmp 7) (.tmp 8) 96 (by rfl) X10.heap.size 99 i0 3 Tryz.underlying96 HI.out (.slice (some ⟨X10.heap.size,0,none⟩) 0 0) 0 [] (by rfl) ho0 (by rfl) ?_;have MM2:=zq (show BdG (fun x=>Q x∧x<w.heap.size) X10.heap.size X16 (.slice (some ⟨X10.heap.size,0,none⟩) 0 0) [] from⟨[],ho0,rfl⟩);refine hK.out _ _ ⟨ag fB (o:=0) rfl,ag fB (o:=1) rfl⟩ (fun hH17=>?_);clear hK K hH16 fE ho0
    try simp only[oM2,hwA]
    have MM:=MM2;clear MM2;refine hwr 7 oM7 (fun K hK=>?_)
    ·skip
     obtain⟨xs5,ho5,hv5⟩:=MM.out;have hv1:aW (fun b=>(Q b∧b<w.heap.size)∧(Value.slice (some ⟨X10.heap.size,0,none⟩) 0 0).ownBlock≠some b) X16 [⟨nm,ty⟩] [.string nm,.int .i64 tk,.slice ta tn tq]:=dO hnm ((HT.out.below fC.out).move (.weaken fun b hb _=>⟨hb,fun e=>by have:=(ho5.lt b e).1;have:=hb.2;omega⟩));refine step_append_lies _ (by rfl) (.tmp 9) (.tmp 13) 96 (by rfl) X10.heap.size 99 i0 _ 3 48 Tryz.underlying96 HI.out Z0.out Z1.out Z2.out rfl (by omega) (.slice (some ⟨X10.heap.size,0,none⟩) 0 0) 0 xs5 (by rfl) (by simpa [HN.out] using ho5) ⟨U.heap.size,0,none⟩ 1 1 [.string nm,.int .i64 tk,.slice ta tn tq] (by rfl) (by rfl) (World.news_of_block (cs:=#[.string nm,.int .i64 tk,.slice ta tn tq]) (t:=99) (fr:=(0,0)) fN) (by simp[Value.oneCell']) (by omega) (by unfold maxLen;omega) (by omega) (by omega) _ rfl ?_;intro g6 cap6 w6 hown hgrow hat hlt3;have M6:BdG (fun x=>Q x∧x<w.heap.size) X10.heap.size w6 (.slice (some ⟨g6,0,none⟩) (0+1) cap6) ([] ++ [⟨nm,ty⟩]):=BdG.push (F:=(fun x=>Q x∧x<w.heap.size)) (W:=X16) (v:=(.slice (some ⟨X10.heap.size,0,none⟩) 0 0)) hv5 hv1 (by simpa [HN.out] using hown) hgrow (by rcases hat with h | h;exact .inl (h.symm▸rfl);exact .inr (by rw[h];rfl));have RF:=zq (show aE (fun x=>(Q x∧x<w.heap.size)∨w.heap.size≤x) w6 ([] ++ [⟨nm,ty⟩]) (.slice (some ⟨g6,0,none⟩) (0+1) cap6) from M6.rep.move (.weaken fun b h _=>h.imp id fun q=>by have:=fC.out.size;omega));have hb56:Below X10.heap.size X16 w6:=Below.grown (Below.refl _ _) hgrow (by omega) (fun k hk=>(ho5.lt k hk).1);have fC2:=zq (fC.out.trans (hb56.mono hlg));have fB2:w6.heap[w.heap.size]?=some (.cells #[.int .i64 tk,.slice ta tn tq] 25 (0,0)):=(hb56.block _ (by omega)).trans fB;refine hK.out _ _ ⟨ag fB2 (o:=0) rfl,ag fB2 (o:=1) rfl⟩ (fun hH18=>?_);clear hK K hH17 fB fC fN ho5 hv5 hv1 hown hgrow hat M6 hb56 MM
     try simp only[oM7,hwA]
     have fC:=fC2;have fB:=fB2;clear fC2 fB2;refine hwt 8 oM8 (.slice (some ⟨g6,0,none⟩) (0+1) cap6) hH18 ?_ ?_
     ·intro w' hSw;dsimp only[oM8];go_simp
     try simp only[oM8,hwA]
     refine wpAnyH_done (by kernel_rfl) ?_ _;refine NoPanic.normal ?_;clear hH18
     go_wp2_with fail
     go_ret
     exact⟨_,_,_,rfl,RF.out,fC.out⟩
theorem jN.toC {Q:Nat→Prop}{l:List Bd}{w:World}{e:Ending}{w':World}(h:jN Q l w e w'):RetC l w e w':=by
 obtain⟨a,m,q,h1,h2,h3⟩:=h
 exact⟨a,m,q,h1,h2.move (.weaken fun _ _ _=>trivial),h3⟩
theorem u9 (F G:Nat→Prop)(l:List Bd)(ad:Addr)(n q:Nat)(nm:ByteArray)(ty:Ty)(tk:Int)(ta:Option Addr)(tn tq:Nat)(w:World)(hy:aE F w l (.slice (some ad) n q))(hl:l.length≤1000000)(hl1:1≤l.length)(hnm:nm.size≤maxLen)(ht:ao G w ty (.agg #[.int .i64 tk,.slice ta tn tq])) :
  Calls Tryz.prog 109 #[.slice (some ad) n q,.string nm,.agg #[.int .i64 tk,.slice ta tn tq]] w (RetC (l ++ [⟨nm,ty⟩]) w):=
 (fX (fun _=>True) l ad n q nm ty tk ta tn tq w (hy.move (.weaken fun _ _ _=>trivial)) hl hl1 hnm ht.any).mono fun _ _ h=>h.toC
theorem nR (F G:Nat→Prop)(nm:ByteArray)(ty:Ty)(tk:Int)(ta:Option Addr)(tn tq:Nat)(w:World)(hnm:nm.size≤maxLen)(ht:ao G w ty (.agg #[.int .i64 tk,.slice ta tn tq])) :
  Calls Tryz.prog 109 #[.slice none 0 0,.string nm,.agg #[.int .i64 tk,.slice ta tn tq]] w (RetC ([] ++ [⟨nm,ty⟩]) w):=
 (eO (fun _=>True) nm ty tk ta tn tq w hnm ht.any).mono fun _ _ h=>h.toC
end Go.Proofs.YtfahhonmiimmdaaGreat

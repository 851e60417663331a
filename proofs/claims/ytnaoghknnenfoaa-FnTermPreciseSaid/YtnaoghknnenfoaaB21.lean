/-
  spec.l3Type: the recursion.
  spec.TypeOf.
  spec.l3Typed.
-/
import Derived.Test.YtnaoghknnenfoaaB22
import Derived.Test.YtnaoghknnenfoaaB20
import Derived.Test.YtnaoghknnenfoaaB5
import Derived.Test.YtnaoghknnenfoaaB16
import Derived.Test.YtnaoghknnenfoaaB8
import Derived.Test.YtnaoghknnenfoaaB18
import Derived.Test.YtnaoghknnenfoaaB17
set_option linter.unusedSimpArgs false
set_option linter.unusedVariables false
set_option maxRecDepth 100000
namespace Go.Proofs.Ytnaoghknnenfoaa
open Go.RowKit
def L3t (t:Tm)(d:Int):Prop:=∀(l:List Bd) (c y:Value) (W:World) (F G:Nat→Prop),t.shape 14 d=true→(l.length:Int)+d≤1000→cI l→CtxV l c→aL F W l c→az G W t y→Calls Try.prog 69 #[c,y] W (bC ((t.typS l).map S.ty) W)
theorem jS (t:Tm)(d:Int)(IH : ∀t'∈t.kids,L3t t' (d-1)):L3t t d:=by
 intro l c y W F G hsh hld hc hcv hb he
 cases t with
 | mk k nm u ty src lb ts=>
  obtain⟨hd,hk13,hlen,hown,hkids⟩:=Tm.shape_parts hsh
  have hcnt : ∀b∈l,b.ty.cnt≤1048576:=fun b hb=>Ty.cnt_valid (hc b hb)
  obtain⟨k',nm',u',tk,ta,tn,tq,fk,fa,fn,fq,lb',ca,cm,cq,rfl⟩:=he.shape
  obtain⟨e1,e2,e3,-,-,-,-,e8,hcm,hnm,-,-,hty,hsrc,hks⟩:=he.parts
  simp only [Tm.kind,Tm.name,Tm.num,Tm.label,Tm.type] at e1 e2 e3 e8 hty
  subst e1 e2 e3 e8
  have hl0:(0:Int)≤aJ k':=by rw [hlen];omega
  by_cases h1:k'=1
  ·subst h1
   have hL:=mw F l c nm' u' lb' tk fk ta fa ca tn tq fn fq cm cq W hb hcnt
   rw [Tm.typS,if_pos rfl,jX hc]
   exact hL
  by_cases h2:k'=2
  ·subst h2
   rw [Tm.typS,if_neg (by omega),if_pos rfl]
   exact mp c nm' u' lb' tk fk ta fa ca tn tq fn fq cm cq W
  by_cases h3:k'=3
  ·subst h3
   rw [Tm.typS,if_neg (by omega),if_neg (by omega),if_pos (by omega)]
   exact lQ c nm' u' lb' tk fk ta fa ca tn tq fn fq cm cq W
  by_cases h4:k'=4
  ·subst h4
   rw [Tm.typS,if_neg (by omega),if_neg (by omega),if_pos (by omega)]
   exact mL c nm' u' lb' tk fk ta fa ca tn tq fn fq cm cq W
  by_cases h5:k'=5
  ·subst h5
   have hv:=jW hown (.inl rfl)
   obtain⟨t1,rfl⟩ : ∃t1,ts = [t1]:=List.length_eq_one_iff.1 (by simp [aJ] at hlen;omega)
   have hc2:=hc.snoc (nm:=nm') hv
   have hs1:t1.shape 14 (d-1)=true:=Tm.shapes_mem hkids (by simp)
   obtain⟨xa,xn,xq,rfl⟩:=hcv.shape
   have HM:Hid (∀W',Below W.heap.size W W'→Calls Try.prog 66 #[.slice xa xn xq,.string nm',.agg #[.int .i64 tk,.slice ta tn tq]] W' (RetC (l ++ [⟨nm',ty⟩]) W')):=Lib.hid fun W' hW=>by
    rcases hcv with ⟨rfl,hx⟩ | ⟨hl1,a,m,q,hx⟩
    ·rw [hx];exact kJ F G nm' ty tk ta tn tq W' hnm (hty.below hW)
    ·simp only [Value.slice.injEq] at hx
     obtain⟨rfl,rfl,rfl⟩:=hx
     exact pg F G l a xn xq nm' ty tk ta tn tq W' (hb.below hW) (by omega) hl1 hnm (hty.below hW)
   have IHL:Hid (∀(W':World) (c' y':Value),Below W.heap.size W W'→aL (fun _=>True) W' (l ++ [⟨nm',ty⟩]) c'→az G W' t1 y'→(∃a m q,c' = .slice (some a) m q)→Calls Try.prog 69 #[c',y'] W' (bC ((t1.typS (l ++ [⟨nm',ty⟩])).map S.ty) W')):=Lib.hid fun W' c' y' hW hb' he' hx=>
    IH t1 (by simp [Tm.kids]) _ c' y' W' _ G hs1 (by simp;omega) hc2 (.inr ⟨by simp,hx⟩) hb' he'
   cases hco:t1.typS (l ++ [⟨nm',ty⟩]) with
   | none=>exact jg G nm' u' lb' tk fk ty src t1 l xa ta fa ca xn xq tn tq fn fq cm cq W he hv HM IHL hco
   | some h1'=>exact jN G nm' u' lb' tk fk ty src t1 l xa ta fa ca xn xq tn tq fn fq cm cq W he hv HM IHL h1' (gK t1 _ _ hs1 hc2 _ hco) hco
  have hk:6≤k'∧k'≤13:=by
   unfold aJ at hl0
   split at hl0
   ·omega
   split at hl0
   ·omega
   split at hl0
   ·omega
   split at hl0
   ·omega
   ·omega
  have hsm:ts.length≤3:=by
   have:aJ k'≤3:=by unfold aJ;repeat' split<;>omega
   omega
  obtain⟨xa,xn,xq,rfl⟩:=hcv.shape
  exact oN G k' nm' u' lb' tk fk ty src ts l xa ta fa ca xn xq tn tq fn fq cm cq W he
   (fun t' ht' W' y' hW he'=>IH t' ht' l _ y' W' F G (Tm.shapes_mem hkids ht') (by omega) hc hcv (hb.below hW) he')
   (fun t' ht' h e=>gK t' _ l (Tm.shapes_mem hkids ht') hc h e) hk hlen (fun h13=>jW hown (.inr h13)) hsm
theorem iB : ∀(t:Tm) (d:Int),L3t t d
 | t,d=>jS t d fun t' ht'=>iB t' (d-1)
termination_by t=>SizeOf.sizeOf t
decreasing_by exact Tm.kid_lt ht'
end Go.Proofs.Ytnaoghknnenfoaa
namespace Go.Proofs.Ytnaoghknnenfoaa
open Go.RowKit
def dx (t:Tm):Option Ty:=if t.valid then (t.typS []).map S.ty else none
def RetSF (o:Option Ty)(w:World)(e:Ending)(w':World):Prop:=∃(k:Int) (a:Option Addr) (n q:Nat),e = .returned (.tuple #[.agg #[.int .i64 k,.slice a n q],.bool o.isSome])∧ap (fun x=>w.heap.size≤x) w' (o.getD (.mk 0 [])) (.agg #[.int .i64 k,.slice a n q])∧Below w.heap.size w w'
set_option maxHeartbeats 2000000 in
theorem pu (k:Int)(a:Option Addr)(n q:Nat)(w:World):Calls Try.prog 68 #[.agg #[.int .i64 k,.slice a n q],.bool false] w fun e w'=>e = .returned (.tuple #[.agg #[.int .i64 0,.slice none 0 0],.bool false])∧Below w.heap.size w w':=by
 go_enter Try.func68,Try.ntmps68
 go_wp2_with fail
 refine bodyPost_ret (v:=.tuple #[.agg #[.int .i64 0,.slice none 0 0],.bool false]) (by simp [results,Try.results68,go_sem]) rfl ?_
 exact⟨rfl,ai ah ah⟩
set_option maxHeartbeats 2000000 in
theorem pw (k:Int)(a:Option Addr)(n q:Nat)(w:World):Calls Try.prog 68 #[.agg #[.int .i64 k,.slice a n q],.bool true] w fun e w'=>e = .returned (.tuple #[.agg #[.int .i64 k,.slice a n q],.bool true])∧Below w.heap.size w w':=by
 go_enter Try.func68,Try.ntmps68
 go_wp2_with fail
 refine bodyPost_ret (v:=.tuple #[.agg #[.int .i64 k,.slice a n q],.bool true]) (by simp [results,Try.results68,go_sem]) rfl ?_
 exact⟨rfl,ai ah ah⟩
set_option maxHeartbeats 4000000 in
theorem ph (F:Nat→Prop)(t:Tm)(y:Value)(w:World)(hy:az F w t y):Calls Try.prog 51 #[.slice none 0 0,y] w (RetSF (dx t) w):=by
 have HV:=Lib.hid (fun W (h:Below w.heap.size w W)=>ce F t y W (hy.below h))
 have H4:=Lib.hid (fun(hv:t.valid=true) W (h:Below w.heap.size w W)=>iB t 12 [] (.slice none 0 0) y W (fun _=>True) F (by unfold Tm.valid at hv;simp at hv;exact hv.1) (by simp) (fun b hb=>by cases hb) (.inl ⟨rfl,rfl⟩) (by unfold aL aS;exact⟨none,0,rfl,Nat.le_refl _,by unfold maxLen;omega,.inl rfl⟩) (hy.below h))
 obtain⟨k,nm,u,tk,ta,tn,tq,fk,fa,fn,fq,lb,ca,cm,cq,rfl⟩:=hy.shape
 have fE:=af (aD (w:=w) (o:=.cells #[.int .i64 k,.string nm,.int .i64 u,.int .i64 tk,.slice ta tn tq,.int .i64 fk,.slice fa fn fq,.int .i64 lb,.slice ca cm cq] 28) rfl) (ah (o:=.cells #[.int .i64 0,.slice none 0 0] 25))
 have fR:=aD (w:=w.alloc (.cells #[.int .i64 k,.string nm,.int .i64 u,.int .i64 tk,.slice ta tn tq,.int .i64 fk,.slice fa fn fq,.int .i64 lb,.slice ca cm cq] 28)) (o:=.cells #[.int .i64 0,.slice none 0 0] 25) (b:=w.heap.size+1) (by simp)
 have HO:=Lib.hid (show dx t=if t.valid then (t.typS []).map S.ty else none from rfl)
 generalize dx t=O at HO ⊢
 generalize (t.typS []).map S.ty=O1 at HO H4
 generalize hcv:t.valid=cv at HO HV H4
 clear hcv hy
 cases cv with
 | false=>
  have HOO:=Lib.hid (show O=none from by rw [HO.out];rfl)
  clear HO
  go_enter Try.func51,Try.ntmps51
  have HCX:=Lib.hid (fun W=>fo (fun _=>True) [] (.slice none 0 0) W (by unfold aL aS;exact⟨none,0,rfl,Nat.le_refl _,by unfold maxLen;omega,.inl rfl⟩))
  go_wp2_with fail
  refine(HCX.out _).mono ?_
  rintro e w0 ⟨rfl,hb0⟩
  rw [show ctxB []=true from by decide]
  have fE0:=af fE hb0
  obtain⟨d0,d1,d2,d3,d4,d5,d6,d7,d8⟩:=blk9 fE0
  have ld:=al fE0
  have hz0:=hb0.size
  simp only [World.size_alloc] at hz0
  go_wp2_with fail
  refine(HV.out _ (ai (ai ah ah) hb0)).mono ?_
  rintro e w1 ⟨rfl,hb1'⟩
  have hb1:=ai hb0 hb1'
  clear d0 d1 d2 d3 d4 d5 d6 d7 d8 ld fE0 hb1' hb0 HCX
  replace fR:=af fR hb1
  have fC:=Lib.hid (ai (ai ah ah) hb1)
  clear hb1 fE
  obtain⟨r0,r1⟩:=blk2 fR
  have rf0:=aC fR 0
  have rf1:=aC fR 1
  go_wp2_with fail
  have hY:((w1.setCell ⟨w.heap.size+1,0,none⟩ (.int .i64 0)).setCell ⟨w.heap.size+1,1,none⟩ (.slice none 0 0)).heap[w.heap.size+1]?=some (.cells #[.int .i64 0,.slice none 0 0] 25 (0,0)):=aQ (aQ fR rfl) rfl
  obtain⟨rc0,rc1⟩:=blk2 hY
  refine bodyPost_ret (v:=.tuple #[.agg #[.int .i64 0,.slice none 0 0],.bool false]) (by simp [results,Try.results51,go_sem,rc0,rc1]) rfl ?_
  rw [HOO.out]
  exact⟨_,_,_,_,rfl,ap.zeroG,(fC.out.setCell (p:=⟨w.heap.size+1,0,none⟩) (by show w.heap.size≤w.heap.size+1;omega) _).setCell (p:=⟨w.heap.size+1,1,none⟩) (by show w.heap.size≤w.heap.size+1;omega) _⟩
 | true=>
  have HOO:=Lib.hid (show O=O1 from by rw [HO.out];rfl)
  clear HO
  go_enter Try.func51,Try.ntmps51
  have HCX:=Lib.hid (fun W=>fo (fun _=>True) [] (.slice none 0 0) W (by unfold aL aS;exact⟨none,0,rfl,Nat.le_refl _,by unfold maxLen;omega,.inl rfl⟩))
  go_wp2_with fail
  refine(HCX.out _).mono ?_
  rintro e w0 ⟨rfl,hb0⟩
  rw [show ctxB []=true from by decide]
  have fE0:=af fE hb0
  obtain⟨d0,d1,d2,d3,d4,d5,d6,d7,d8⟩:=blk9 fE0
  have ld:=al fE0
  have hz0:=hb0.size
  simp only [World.size_alloc] at hz0
  go_wp2_with fail
  refine(HV.out _ (ai (ai ah ah) hb0)).mono ?_
  rintro e w1 ⟨rfl,hb1'⟩
  have hb1:=ai hb0 hb1'
  clear d0 d1 d2 d3 d4 d5 d6 d7 d8 ld fE0 hb1' hb0 HCX
  replace fR:=af fR hb1
  replace fE:=af fE hb1
  have fC:=Lib.hid (ai (ai ah ah) hb1)
  have H5:=Lib.hid (H4.out (by simp) w1 fC.out)
  have hz1:=hb1.size
  simp only [World.size_alloc] at hz1
  clear hb1 H4
  obtain⟨d0,d1,d2,d3,d4,d5,d6,d7,d8⟩:=blk9 fE
  go_wp2_with fail
  refine H5.out.mono ?_
  rintro e w2 ⟨k2,a2,n2,q2,b2,t2,rfl,hb2,ht2,ho2,hst⟩
  replace fR:=af fR hst
  replace fC:=Lib.hid (ai fC.out hst)
  have HT:=Lib.hid ht2
  have HB:=Lib.hid hb2
  have HOT:=Lib.hid ho2
  have hz2:=hst.size
  clear ht2 ho2 hst d0 d1 d2 d3 d4 d5 d6 d7 d8
  have hne : ∀b,(False∨w1.heap.size≤b)→b≠w.heap.size+1:=fun b h=>by
   have h1:=h.elim False.elim id
   omega
  have HNE:=Lib.hid hne
  clear hne hb2
  cases b2 with
  | false=>
   have HN:=Lib.hid (show O=none from by rw [HOO.out];cases h:O1 with | none=>rfl | some x=>have:=HB.out;rw [h] at this;cases this)
   go_wp2_with fail
   refine(pu _ _ _ _ _).mono ?_
   rintro e w3 ⟨rfl,hb3⟩
   replace fR:=af fR hb3
   replace fC:=Lib.hid (ai fC.out hb3)
   clear hb3
   obtain⟨r0,r1⟩:=blk2 fR
   have rf0:=aC fR 0
   have rf1:=aC fR 1
   go_wp2_with fail
   have hY:((w3.setCell ⟨w.heap.size+1,0,none⟩ (.int .i64 0)).setCell ⟨w.heap.size+1,1,none⟩ (.slice none 0 0)).heap[w.heap.size+1]?=some (.cells #[.int .i64 0,.slice none 0 0] 25 (0,0)):=aQ (aQ fR rfl) rfl
   obtain⟨rc0,rc1⟩:=blk2 hY
   refine bodyPost_ret (v:=.tuple #[.agg #[.int .i64 0,.slice none 0 0],.bool false]) (by simp [results,Try.results51,go_sem,rc0,rc1]) rfl ?_
   rw [HN.out]
   exact⟨_,_,_,_,rfl,ap.zeroG,(fC.out.setCell (p:=⟨w.heap.size+1,0,none⟩) (by show w.heap.size≤w.heap.size+1;omega) _).setCell (p:=⟨w.heap.size+1,1,none⟩) (by show w.heap.size≤w.heap.size+1;omega) _⟩
  | true=>
   have HN:=Lib.hid (show O=some t2 from by rw [HOO.out];cases h:O1 with | none=>have:=HB.out;rw [h] at this;cases this | some x=>rw [HOT.out x h])
   go_wp2_with fail
   refine(pw _ _ _ _ _).mono ?_
   rintro e w3 ⟨rfl,hb3⟩
   replace fR:=af fR hb3
   replace fC:=Lib.hid (ai fC.out hb3)
   replace HT:=Lib.hid (HT.out.below hb3)
   clear hb3
   obtain⟨r0,r1⟩:=blk2 fR
   have rf0:=aC fR 0
   have rf1:=aC fR 1
   go_wp2_with fail
   have hY:((w3.setCell ⟨w.heap.size+1,0,none⟩ (.int .i64 k2)).setCell ⟨w.heap.size+1,1,none⟩ (.slice a2 n2 q2)).heap[w.heap.size+1]?=some (.cells #[.int .i64 k2,.slice a2 n2 q2] 25 (0,0)):=aQ (aQ fR rfl) rfl
   obtain⟨rc0,rc1⟩:=blk2 hY
   refine bodyPost_ret (v:=.tuple #[.agg #[.int .i64 k2,.slice a2 n2 q2],.bool true]) (by simp [results,Try.results51,go_sem,rc0,rc1]) rfl ?_
   rw [HN.out]
   exact⟨_,_,_,_,rfl,(ap.setN (ap.setN HT.out HNE.out) HNE.out).move (.weaken fun b h _=>by have h1:=h.elim False.elim id;omega),(fC.out.setCell (p:=⟨w.heap.size+1,0,none⟩) (by show w.heap.size≤w.heap.size+1;omega) _).setCell (p:=⟨w.heap.size+1,1,none⟩) (by show w.heap.size≤w.heap.size+1;omega) _⟩
set_option maxHeartbeats 2000000 in
theorem pl (F:Nat→Prop)(t:Tm)(y:Value)(w:World)(hy:az F w t y):Calls Try.prog 27 #[y] w (RetSF (dx t) w):=by
 have HV:=Lib.hid (fun W (h:Below w.heap.size w W)=>ph F t y W (hy.below h))
 obtain⟨k,nm,u,tk,ta,tn,tq,fk,fa,fn,fq,lb,ca,cm,cq,rfl⟩:=hy.shape
 have fR:=aD (w:=w.alloc (.cells #[.int .i64 k,.string nm,.int .i64 u,.int .i64 tk,.slice ta tn tq,.int .i64 fk,.slice fa fn fq,.int .i64 lb,.slice ca cm cq] 28)) (o:=.cells #[.int .i64 0,.slice none 0 0] 25) (b:=w.heap.size+1) (by simp)
 generalize dx t=O at HV ⊢
 clear hy
 go_enter Try.func27,Try.ntmps27
 go_wp2_with fail
 refine(HV.out _ (ai ah ah)).mono ?_
 rintro e w1 ⟨k2,a2,n2,q2,rfl,ht2,hb1⟩
 replace fR:=af fR hb1
 have fC:=Lib.hid (ai (ai ah ah) hb1)
 have HT:=Lib.hid ht2
 clear hb1 ht2
 obtain⟨r0,r1⟩:=blk2 fR
 have rf0:=aC fR 0
 have rf1:=aC fR 1
 go_wp2_with fail
 have hY:((w1.setCell ⟨w.heap.size+1,0,none⟩ (.int .i64 k2)).setCell ⟨w.heap.size+1,1,none⟩ (.slice a2 n2 q2)).heap[w.heap.size+1]?=some (.cells #[.int .i64 k2,.slice a2 n2 q2] 25 (0,0)):=aQ (aQ fR rfl) rfl
 obtain⟨rc0,rc1⟩:=blk2 hY
 refine bodyPost_ret (v:=.tuple #[.agg #[.int .i64 k2,.slice a2 n2 q2],.bool O.isSome]) (by simp [results,Try.results27,go_sem,rc0,rc1]) rfl ?_
 have hne : ∀b,(((w.alloc (.cells #[.int .i64 k,.string nm,.int .i64 u,.int .i64 tk,.slice ta tn tq,.int .i64 fk,.slice fa fn fq,.int .i64 lb,.slice ca cm cq] 28)).alloc (.cells #[.int .i64 0,.slice none 0 0] 25)).heap.size≤b)→b≠w.heap.size+1:=fun b h=>by
  simp at h;omega
 exact⟨_,_,_,_,rfl,(ap.setN (ap.setN HT.out hne) hne).move (.weaken fun b h _=>by have h1:_≤b:=h;simp at h1;omega),(fC.out.setCell (p:=⟨w.heap.size+1,0,none⟩) (by show w.heap.size≤w.heap.size+1;omega) _).setCell (p:=⟨w.heap.size+1,1,none⟩) (by show w.heap.size≤w.heap.size+1;omega) _⟩
theorem pH (t:Tm) : ∀s,dx t=some s→t.valid=true∧s.valid=true:=by
 intro s h
 unfold dx at h
 split at h
 ·rename_i hv
  refine⟨hv,?_⟩
  cases e:t.typS [] with
  | none=>rw [e] at h;cases h
  | some g=>
   rw [e] at h
   obtain rfl:=Option.some.inj h
   rw [S.valid]
   exact gK t 12 [] (by unfold Tm.valid at hv;simp at hv;exact hv.1) (fun b hb=>by cases hb) g e
 ·cases h
end Go.Proofs.Ytnaoghknnenfoaa
namespace Go.Proofs.Ytnaoghknnenfoaa
open Go.RowKit
set_option maxHeartbeats 8000000 in
theorem oO (r p:Nat)(w:World)(hrd0:aW w r p)(hp:p≤990000000):Calls Try.prog 11 #[.pointer (some ⟨r,0,none⟩)] w (DTm r p 5000000 5120 w):=by
 have hrl:=hrd0.1
 have HRD0:=Lib.hid hrd0
 clear hrd0
 go_enter Try.func11,Try.ntmps11
 go_wp2_with fail
 go_loopw [3] (fun s3 wr=>∃(j q:Nat),j≤4∧s3 = .int .i64 (j:Int)∧q≤p+j*1024100∧w.heap.size<wr.heap.size∧Hid (Chg [r] w wr)∧Hid (aW wr r (q))∧Hid (wr.heap[w.heap.size]?=some (.cells #[.int .i64 0,.string { data:=#[] },.int .i64 0,.int .i64 0,.slice none 0 0,.int .i64 0,.slice none 0 0,.int .i64 0,.slice none 0 0] 28 (0,0)))) (fun i _=>4-(intOf i).toNat)
 case atStart=>exact⟨0,p,by omega,rfl,by omega,by simp,Lib.hid (Chg.of_below ah),Lib.hid (HRD0.out.below ah),Lib.hid (aD rfl)⟩
 case round=>
  obtain⟨j,q,hj,rfl,hq,hsz,fC,rd,hfR⟩:=hrel
  have fR:=hfR.out
  clear hfR
  by_cases hlt:j<4
  ·have hdj:decide ((j:Int)<4)=true:=decide_eq_true (by omega)
   go_wp2_with fail
   refine(cn (fun x=>1≤x∧x≤3) r (q) _ 4 4 _ (rd.out.below ah) (by omega) (by omega) (by omega) (Nat.le_refl _) (by omega) (bQ [1,2,2,3] rfl _ (by decide))).mono ?_
   rintro e w1 ⟨n1,rfl,hn1,hrd,hb0⟩
   have hb:=Chg.trans (Chg.of_below (ah (w:=wr))) hb0
   clear hb0
   have zw1:=hb.size
   (try simp only [World.size_alloc] at zw1)
   replace fC:=Lib.hid (fC.out.trans hb);replace fR:=aB fR hb (by omega)
   replace rd:=Lib.hid hrd
   clear hrd
   clear hb
   obtain⟨d1,rfl⟩ : ∃d:Nat,n1=d:=⟨n1.toNat,by omega⟩
   go_wp2_with fail
   refine(fi d1 r _ _ (by omega) (by omega) rd.out (by omega)).mono ?_
   rintro e w2 ⟨s2,v,qs,rfl,hvs2,hv,hqs,hrd,hb⟩
   obtain⟨kb,ab,nb,qb,rfl⟩:=hv.shape
   have hB_':Hid (ap (fun b=>w1.heap.size≤b∧b<w2.heap.size) w2 s2.ty (.agg #[.int .i64 kb,.slice ab nb qb])):=Lib.hid (hv.move (.weaken fun b h1 h2=>⟨h1,h2⟩))
   clear hv
   have zw2:=hb.size
   (try simp only [World.size_alloc] at zw2)
   replace fC:=Lib.hid (fC.out.trans hb);replace fR:=aB fR hb (by omega)
   replace rd:=Lib.hid hrd
   clear hrd
   clear hb
   have hB_:=hB_'
   clear hB_'
   go_wp2_with fail
   refine(cn (fun x=>3≤x∧x≤5) r (qs) _ 4 4 _ (rd.out.below ah) (by omega) (by omega) (by omega) (Nat.le_refl _) (by omega) (bQ [4,3,5,4] rfl _ (by decide))).mono ?_
   rintro e w3 ⟨n2,rfl,hn2,hrd,hb0⟩
   have hb:=Chg.trans (Chg.of_below (ah (w:=w2))) hb0
   clear hb0
   have zw3:=hb.size
   (try simp only [World.size_alloc] at zw3)
   replace fC:=Lib.hid (fC.out.trans hb);replace fR:=aB fR hb (by omega);replace hB_:=Lib.hid (hB_.out.move (kpN hb (fun b hb=>by have h1:=hb.1;have h2:=hb.2;omega)))
   replace rd:=Lib.hid hrd
   clear hrd
   clear hb
   have HMK:=Lib.hid (iE r 29 n2 s2 [] (by have h1:=S.vd_dep hvs2;unfold mkM;omega) (by simp) hvs2 (fun b hb=>by cases hb) (fun b hb=>by cases hb) (by omega) (by omega))
   have HBD:mkB n2 s2≤1024000:=by rw [dt s2 (by omega)];exact mkU_top (by omega)
   go_wp2_with fail
   refine(HMK.out _ _ _ _ rd.out (by unfold aL aS;exact⟨none,0,rfl,Nat.le_refl _,by unfold maxLen;omega,.inl rfl⟩) (.inl ⟨rfl,rfl⟩) (hB_.out.move (.weaken fun b h _=>by have h1:=h.1;intro e;omega)) (by omega)).mono ?_
   rintro e w4 ⟨t2,v,q2,rfl,hcn2,hv,hq2,hrd,hb⟩
   obtain⟨kt2,nm2,ut2,tk2,ta2,tn2,tq2,fk2,fa2,fn2,fq2,lt2,ct2,mt2,qt2,rfl⟩:=hv.shape
   have HC2:=Lib.hid hcn2
   have h2_':Hid (az (fun b=>w3.heap.size≤b∧b<w4.heap.size) w4 t2 (.agg #[.int .i64 kt2,.string nm2,.int .i64 ut2,.int .i64 tk2,.slice ta2 tn2 tq2,.int .i64 fk2,.slice fa2 fn2 fq2,.int .i64 lt2,.slice ct2 mt2 qt2])):=Lib.hid (hv.move (.weaken fun b h1 h2=>⟨h1,h2⟩))
   clear hv hcn2
   have zw4:=hb.size
   (try simp only [World.size_alloc] at zw4)
   replace fC:=Lib.hid (fC.out.trans hb);replace fR:=aB fR hb (by omega);replace hB_:=Lib.hid (hB_.out.move (kpN hb (fun b hb=>by have h1:=hb.1;have h2:=hb.2;omega)))
   replace rd:=Lib.hid hrd
   clear hrd
   clear hb
   have h2_:=h2_'
   clear h2_'
   have hbv:=ah (w:=w4) (o:=.cells #[.int .i64 kt2,.string nm2,.int .i64 ut2,.int .i64 tk2,.slice ta2 tn2 tq2,.int .i64 fk2,.slice fa2 fn2 fq2,.int .i64 lt2,.slice ct2 mt2 qt2] 28)
   have fE:=aD (w:=w4) (o:=.cells #[.int .i64 kt2,.string nm2,.int .i64 ut2,.int .i64 tk2,.slice ta2 tn2 tq2,.int .i64 fk2,.slice fa2 fn2 fq2,.int .i64 lt2,.slice ct2 mt2 qt2] 28) (b:=w4.heap.size) rfl
   replace fC:=Lib.hid (fC.out.trans (Chg.of_below hbv));replace rd:=Lib.hid (rd.out.below hbv);replace fR:=af fR hbv;replace hB_:=Lib.hid (hB_.out.below hbv)
   replace h2_:=Lib.hid (h2_.out.below hbv)
   clear hbv
   obtain⟨ov,hov⟩ : ∃o,dx t2=o:=⟨_,rfl⟩
   have HOV:=Lib.hid hov
   have HTO:=Lib.hid (hov▸pl _ t2 _ _ h2_.out)
   clear hov
   obtain⟨y0,y1,y2,y3,y4,y5,y6,y7,y8⟩:=blk9 fE
   have lyE:=al fE
   go_wp2_with fail
   refine HTO.out.mono ?_
   rintro e w5 ⟨k5,a5,n5,q5,rfl,-,hb⟩
   clear HTO y0 y1 y2 y3 y4 y5 y6 y7 y8
   have zw5:=hb.size
   (try simp only [World.size_alloc] at zw5)
   replace fC:=Lib.hid (fC.out.trans (Chg.of_below hb));replace rd:=Lib.hid (rd.out.below hb);replace fR:=af fR hb;replace hB_:=Lib.hid (hB_.out.below hb)
   replace h2_:=Lib.hid (h2_.out.below hb);replace fE:=af fE hb
   clear hb
   have hbw:=ah (w:=w5) (o:=.cells #[.int .i64 k5,.slice a5 n5 q5] 25)
   cases ov with
   | none=>
    replace fC:=Lib.hid (fC.out.trans (Chg.of_below hbw));replace rd:=Lib.hid (rd.out.below hbw);replace fR:=af fR hbw;replace hB_:=Lib.hid (hB_.out.below hbw)
    replace h2_:=Lib.hid (h2_.out.below hbw);replace fE:=af fE hbw
    clear hbw
    go_wp2_with fail
    go_roundw
    case rel=>exact⟨j+1,q2,by omega,by go_num,by omega,by simp;omega,fC,rd,Lib.hid fR⟩
    case measure=>simp [intOf];omega
   | some sv=>
    replace fC:=Lib.hid (fC.out.trans (Chg.of_below hbw));replace rd:=Lib.hid (rd.out.below hbw);replace fR:=af fR hbw;replace hB_:=Lib.hid (hB_.out.below hbw)
    replace h2_:=Lib.hid (h2_.out.below hbw);replace fE:=af fE hbw
    clear hbw
    have y0:=ag fE (o:=0) rfl;have x0:=ag fR (o:=0) rfl;have f0:=aC fR 0
    have y1:=ag fE (o:=1) rfl;have x1:=ag fR (o:=1) rfl;have f1:=aC fR 1
    have y2:=ag fE (o:=2) rfl;have x2:=ag fR (o:=2) rfl;have f2:=aC fR 2
    have y3:=ag fE (o:=3) rfl;have x3:=ag fR (o:=3) rfl;have f3:=aC fR 3
    have y4:=ag fE (o:=4) rfl;have x4:=ag fR (o:=4) rfl;have f4:=aC fR 4
    have y5:=ag fE (o:=5) rfl;have x5:=ag fR (o:=5) rfl;have f5:=aC fR 5
    have y6:=ag fE (o:=6) rfl;have x6:=ag fR (o:=6) rfl;have f6:=aC fR 6
    have y7:=ag fE (o:=7) rfl;have x7:=ag fR (o:=7) rfl;have f7:=aC fR 7
    have y8:=ag fE (o:=8) rfl;have x8:=ag fR (o:=8) rfl;have f8:=aC fR 8
    have lyE5:=al fE
    have lxR:=al fR
    have hval:=(pH t2 sv HOV.out).1
    have hcc:=Tm.cnt_valid30 hval
    have hRR:az (w.heap.size+1 ≤ ·) _ t2 (.agg #[.int .i64 kt2,.string nm2,.int .i64 ut2,.int .i64 tk2,.slice ta2 tn2 tq2,.int .i64 fk2,.slice fa2 fn2 fq2,.int .i64 lt2,.slice ct2 mt2 qt2]):=h2_.out.move (.weaken fun b h _=>by have h1:=h.1;show w.heap.size+1≤b;omega)
    have HEND:=Lib.hid (DTm.stored (p:=p) (r:=r) (w:=w) (R:=w.heap.size) (B:=w.heap.size+1) (c:=5000000) (m:=5120) (v0:=.int .i64 kt2) (v1:=.string nm2) (v2:=.int .i64 ut2) (v3:=.int .i64 tk2) (v4:=.slice ta2 tn2 tq2) (v5:=.int .i64 fk2) (v6:=.slice fa2 fn2 fq2) (v7:=.int .i64 lt2) (v8:=.slice ct2 mt2 qt2) hRR (by omega) (by omega) (by omega) rd.out fC.out (by omega) (by omega) (by omega))
    clear hRR hcc hval
    go_wp2_with fail
    refine bodyPost_ret (v:=.agg #[.int .i64 kt2,.string nm2,.int .i64 ut2,.int .i64 tk2,.slice ta2 tn2 tq2,.int .i64 fk2,.slice fa2 fn2 fq2,.int .i64 lt2,.slice ct2 mt2 qt2]) (by simp [results,Try.results11,go_sem,x0,x1,x2,x3,x4,x5,x6,x7,x8]) rfl ?_
    exact HEND.out
  ·have hdj:decide ((j:Int)<4)=false:=decide_eq_false (by omega)
   go_wp2_with fail
   refine(mG r q _ rd.out (by omega)).mono ?_
   rintro e w9 ⟨t2,v,q2,rfl,hcn2,hv,hq2,hrd,hb⟩
   obtain⟨kt2,nm2,ut2,tk2,ta2,tn2,tq2,fk2,fa2,fn2,fq2,lt2,ct2,mt2,qt2,rfl⟩:=hv.shape
   have HC2:=Lib.hid hcn2
   have h2_':Hid (az (fun b=>wr.heap.size≤b∧b<w9.heap.size) w9 t2 (.agg #[.int .i64 kt2,.string nm2,.int .i64 ut2,.int .i64 tk2,.slice ta2 tn2 tq2,.int .i64 fk2,.slice fa2 fn2 fq2,.int .i64 lt2,.slice ct2 mt2 qt2])):=Lib.hid (hv.move (.weaken fun b h1 h2=>⟨h1,h2⟩))
   clear hv hcn2
   have zw9:=hb.size
   (try simp only [World.size_alloc] at zw9)
   replace fC:=Lib.hid (fC.out.trans hb);replace fR:=aB fR hb (by omega)
   replace rd:=Lib.hid hrd
   clear hrd
   clear hb
   have h2_:=h2_'
   clear h2_'
   obtain⟨x0,f0,x1,f1,x2,f2,x3,f3,x4,f4,x5,f5,x6,f6,x7,f7,x8,f8⟩:=blk9f fR
   have lxR:=al fR
   have hcc:=HC2.out
   have hRR:az (w.heap.size+1 ≤ ·) w9 t2 (.agg #[.int .i64 kt2,.string nm2,.int .i64 ut2,.int .i64 tk2,.slice ta2 tn2 tq2,.int .i64 fk2,.slice fa2 fn2 fq2,.int .i64 lt2,.slice ct2 mt2 qt2]):=h2_.out.move (.weaken fun b h _=>by have h1:=h.1;show w.heap.size+1≤b;omega)
   have HEND:=Lib.hid (DTm.stored (p:=p) (r:=r) (w:=w) (R:=w.heap.size) (B:=w.heap.size+1) (c:=5000000) (m:=5120) (v0:=.int .i64 kt2) (v1:=.string nm2) (v2:=.int .i64 ut2) (v3:=.int .i64 tk2) (v4:=.slice ta2 tn2 tq2) (v5:=.int .i64 fk2) (v6:=.slice fa2 fn2 fq2) (v7:=.int .i64 lt2) (v8:=.slice ct2 mt2 qt2) hRR (by omega) (by omega) (by omega) rd.out fC.out (by omega) (by omega) (by omega))
   clear hRR hcc
   go_wp2_with fail
   refine bodyPost_ret (v:=.agg #[.int .i64 kt2,.string nm2,.int .i64 ut2,.int .i64 tk2,.slice ta2 tn2 tq2,.int .i64 fk2,.slice fa2 fn2 fq2,.int .i64 lt2,.slice ct2 mt2 qt2]) (by simp [results,Try.results11,go_sem,x0,x1,x2,x3,x4,x5,x6,x7,x8]) rfl ?_
   exact HEND.out
end Go.Proofs.Ytnaoghknnenfoaa

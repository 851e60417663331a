/-
  A term each node of which is changed by a function value.
-/
import Derived.Test.YtnaoghknnenfoaaB16
import Derived.Test.YtnaoghknnenfoaaTyOwnT
set_option linter.unusedSimpArgs false
set_option linter.unusedVariables false
set_option maxRecDepth 100000
namespace Go.Proofs.Ytnaoghknnenfoaa
open Go.RowKit
mutual
def Tm.mapT (g:Tm→Tm):Tm→Tm
 | .mk k s u t f l ts=>g (.mk k s u t f l (Tm.mapTs g ts))
def Tm.mapTs (g:Tm→Tm):List Tm→List Tm
 | []=> []
 | t :: ts=>t.mapT g :: Tm.mapTs g ts
end
mutual
def Tm.mapOk (g:Tm→Tm)(P:Tm→Prop):Tm→Prop
 | .mk k s u t f l ts=>P (.mk k s u t f l (Tm.mapTs g ts))∧Tm.mapOks g P ts
def Tm.mapOks (g:Tm→Tm)(P:Tm→Prop):List Tm→Prop
 | []=>True
 | t :: ts=>t.mapOk g P∧Tm.mapOks g P ts
end
theorem Tm.mapTs_eq (g:Tm→Tm) : ∀ts:List Tm,Tm.mapTs g ts=ts.map (Tm.mapT g)
 | []=>by unfold Tm.mapTs;rfl
 | t :: ts=>by unfold Tm.mapTs;rw [Tm.mapTs_eq g ts];rfl
theorem Tm.mapTs_take_succ (g:Tm→Tm)(ts:List Tm)(j:Nat)(h:j<ts.length):Tm.mapTs g (ts.take (j+1))=Tm.mapTs g (ts.take j) ++ [ts[j].mapT g]:=by
 rw [Tm.mapTs_eq,Tm.mapTs_eq,List.take_succ_eq_append_getElem h,List.map_append];rfl
theorem Tm.mapOks_mem {g:Tm→Tm}{P:Tm→Prop} : ∀ {ts:List Tm} {t:Tm},Tm.mapOks g P ts→t∈ts→t.mapOk g P
 | [],_,_,h=>by cases h
 | u :: ts,t,h,hm=>by
  unfold Tm.mapOks at h
  rcases List.mem_cons.1 hm with rfl | hm
  ·exact h.1
  ·exact Tm.mapOks_mem h.2 hm
def MapC (ch:FuncId)(g:Tm→Tm)(P:Tm→Prop):Prop:=∀(B:Nat) (t:Tm) (y:Value) (w:World),b3 B w t y→P t→B≤w.heap.size→Calls Try.prog ch #[y] w fun e w'=>∃v,e = .returned v∧b3 B w' (g t) v∧Below w.heap.size w w'
theorem aH.tms {B n:Nat}{e:TypeId}{w:World}{v:Value}{ts:List Tm}(h:aH B e 9 w v n (Tm.rows ts)):cr B w ts v:=h.own
theorem b3.of {B:Nat}{w:World}{k u l tk fk:Int}{nm:ByteArray}{ty sr:Ty}{ts:List Tm}{s1 s2 s:Value}{f1 f2 f3:List Nat}(hn:nm.size≤maxLen)(hk1:tk=ty.kind)(hk2:fk=sr.kind)
  (o1:aG w (.sl (Ty.rows ty.kids)) s1 f1) (o2:aG w (.sl (Ty.rows sr.kids)) s2 f2) (o3:aG w (.sl (Tm.rows ts)) s f3) (hd:(f1++(f2++f3)).Nodup) (hx : ∀x∈f1++(f2++f3),B≤x) :
  b3 B w (.mk k nm u ty sr l ts) (.agg #[.int .i64 k,.string nm,.int .i64 u,.int .i64 tk,s1,.int .i64 fk,s2,.int .i64 l,s]):=by
 subst hk1 hk2
 exact⟨_,⟨s1,s2,s,f1,f2,f3,rfl,rfl,hn,o1,o2,o3⟩,hd,hx⟩
def MapT (ch:FuncId)(g:Tm→Tm)(P:Tm→Prop)(F:Nat→Prop)(t:Tm):Prop:=∀(y:Value) (w:World),az F w t y→t.cnt≤1048576→t.mapOk g P →
  Calls Try.prog 18 #[y,.func (.func ch) #[] #[]] w (RetTm (t.mapT g) w)
set_option maxHeartbeats 8000000 in
theorem ki (ch:FuncId)(hcf : ∀xs W,(callFunc ch xs).run Try.prog W = .ok (.enter ch xs) W)(g:Tm→Tm)(P:Tm→Prop)(hC:MapC ch g P)(F:Nat→Prop)(t:Tm)(IH0 : ∀t'∈t.kids,MapT ch g P F t'):MapT ch g P F t:=by
 intro y w hy hcnt hok
 have IH : ∀t'∈t.kids,t'.mapOk g P→∀(y:Value) (W:World),az F W t' y→Calls Try.prog 18 #[y,.func (.func ch) #[] #[]] W (RetTm (t'.mapT g) W):=
  fun t' ht ho y W h=>IH0 t' ht y W h (by have:=Tm.cnt_kid ht;omega) ho
 clear IH0
 obtain⟨k,nm,u,tk,ta,tn,tq,fk,fa,fn,fq,l,c,m,q,rfl⟩:=hy.shape
 obtain⟨r1,r2,r3,r4,r5,r6,r7,r8,r9,rn,rm,rq,hty,hsr,hks⟩:=hy.parts
 obtain⟨i0,hi,hz0,hz1,hz2⟩:=info_parts Try.infoTm
 cases t with | mk kk nn uu tt ff ll ts=>
 simp only [Tm.kind,Tm.name,Tm.num,Tm.type,Tm.src,Tm.label,Tm.kids] at *
 subst r1 r2 r3 r8
 unfold Tm.mapOk at hok
 unfold Tm.cnt at hcnt
 unfold Tm.mapT
 have hct:tt.cnt≤1048576∧ff.cnt≤1048576:=⟨by omega,by omega⟩
 have hcl:m≤1048576:=by omega
 have HCT:=Lib.hid hct
 have HOK:=Lib.hid hok
 have HN:=Lib.hid r9
 have HRN:=Lib.hid rn
 have HR4:=Lib.hid r4
 have HR6:=Lib.hid r6
 have IHH:=Lib.hid IH
 have Z0:=Lib.hid hz0
 have Z1:=Lib.hid hz1
 have Z2:=Lib.hid hz2
 have HI:=Lib.hid hi
 have HC:=Lib.hid hC
 unfold maxLen at rq
 clear hct hok IH hy r9 r4 r5 r6 r7 rn hz0 hz1 hz2 hi hC hcnt
 go_enter Try.func18,Try.ntmps18
 go_wp2_with fail
 have hsz:w.heap.size+2≤((w.alloc (.cells #[.int .i64 k,.string nm,.int .i64 u,.int .i64 tk,.slice ta tn tq,.int .i64 fk,.slice fa fn fq,.int .i64 l,.slice c m q] 28)).alloc (.cells #[.int .i64 0,.string { data:=#[] },.int .i64 0,.int .i64 0,.slice none 0 0,.int .i64 0,.slice none 0 0,.int .i64 0,.slice none 0 0] 28)).heap.size:=by simp
 have hB0:Below w.heap.size w ((w.alloc (.cells #[.int .i64 k,.string nm,.int .i64 u,.int .i64 tk,.slice ta tn tq,.int .i64 fk,.slice fa fn fq,.int .i64 l,.slice c m q] 28)).alloc (.cells #[.int .i64 0,.string { data:=#[] },.int .i64 0,.int .i64 0,.slice none 0 0,.int .i64 0,.slice none 0 0,.int .i64 0,.slice none 0 0] 28)):=aI
 have hcell:((w.alloc (.cells #[.int .i64 k,.string nm,.int .i64 u,.int .i64 tk,.slice ta tn tq,.int .i64 fk,.slice fa fn fq,.int .i64 l,.slice c m q] 28)).alloc (.cells #[.int .i64 0,.string { data:=#[] },.int .i64 0,.int .i64 0,.slice none 0 0,.int .i64 0,.slice none 0 0,.int .i64 0,.slice none 0 0] 28)).cell? ⟨w.heap.size,0,none⟩=some (.int .i64 k)∧((w.alloc (.cells #[.int .i64 k,.string nm,.int .i64 u,.int .i64 tk,.slice ta tn tq,.int .i64 fk,.slice fa fn fq,.int .i64 l,.slice c m q] 28)).alloc (.cells #[.int .i64 0,.string { data:=#[] },.int .i64 0,.int .i64 0,.slice none 0 0,.int .i64 0,.slice none 0 0,.int .i64 0,.slice none 0 0] 28)).cell? ⟨w.heap.size,1,none⟩=some (.string nm)∧((w.alloc (.cells #[.int .i64 k,.string nm,.int .i64 u,.int .i64 tk,.slice ta tn tq,.int .i64 fk,.slice fa fn fq,.int .i64 l,.slice c m q] 28)).alloc (.cells #[.int .i64 0,.string { data:=#[] },.int .i64 0,.int .i64 0,.slice none 0 0,.int .i64 0,.slice none 0 0,.int .i64 0,.slice none 0 0] 28)).cell? ⟨w.heap.size,2,none⟩=some (.int .i64 u)∧((w.alloc (.cells #[.int .i64 k,.string nm,.int .i64 u,.int .i64 tk,.slice ta tn tq,.int .i64 fk,.slice fa fn fq,.int .i64 l,.slice c m q] 28)).alloc (.cells #[.int .i64 0,.string { data:=#[] },.int .i64 0,.int .i64 0,.slice none 0 0,.int .i64 0,.slice none 0 0,.int .i64 0,.slice none 0 0] 28)).cell? ⟨w.heap.size,3,none⟩=some (.int .i64 tk)∧((w.alloc (.cells #[.int .i64 k,.string nm,.int .i64 u,.int .i64 tk,.slice ta tn tq,.int .i64 fk,.slice fa fn fq,.int .i64 l,.slice c m q] 28)).alloc (.cells #[.int .i64 0,.string { data:=#[] },.int .i64 0,.int .i64 0,.slice none 0 0,.int .i64 0,.slice none 0 0,.int .i64 0,.slice none 0 0] 28)).cell? ⟨w.heap.size,4,none⟩=some (.slice ta tn tq)∧((w.alloc (.cells #[.int .i64 k,.string nm,.int .i64 u,.int .i64 tk,.slice ta tn tq,.int .i64 fk,.slice fa fn fq,.int .i64 l,.slice c m q] 28)).alloc (.cells #[.int .i64 0,.string { data:=#[] },.int .i64 0,.int .i64 0,.slice none 0 0,.int .i64 0,.slice none 0 0,.int .i64 0,.slice none 0 0] 28)).cell? ⟨w.heap.size,5,none⟩=some (.int .i64 fk)∧((w.alloc (.cells #[.int .i64 k,.string nm,.int .i64 u,.int .i64 tk,.slice ta tn tq,.int .i64 fk,.slice fa fn fq,.int .i64 l,.slice c m q] 28)).alloc (.cells #[.int .i64 0,.string { data:=#[] },.int .i64 0,.int .i64 0,.slice none 0 0,.int .i64 0,.slice none 0 0,.int .i64 0,.slice none 0 0] 28)).cell? ⟨w.heap.size,6,none⟩=some (.slice fa fn fq)∧((w.alloc (.cells #[.int .i64 k,.string nm,.int .i64 u,.int .i64 tk,.slice ta tn tq,.int .i64 fk,.slice fa fn fq,.int .i64 l,.slice c m q] 28)).alloc (.cells #[.int .i64 0,.string { data:=#[] },.int .i64 0,.int .i64 0,.slice none 0 0,.int .i64 0,.slice none 0 0,.int .i64 0,.slice none 0 0] 28)).cell? ⟨w.heap.size,7,none⟩=some (.int .i64 l)∧((w.alloc (.cells #[.int .i64 k,.string nm,.int .i64 u,.int .i64 tk,.slice ta tn tq,.int .i64 fk,.slice fa fn fq,.int .i64 l,.slice c m q] 28)).alloc (.cells #[.int .i64 0,.string { data:=#[] },.int .i64 0,.int .i64 0,.slice none 0 0,.int .i64 0,.slice none 0 0,.int .i64 0,.slice none 0 0] 28)).cell? ⟨w.heap.size,8,none⟩=some (.slice c m q):=⟨a9 ah (ao 0),a9 ah (ao 1),a9 ah (ao 2),a9 ah (ao 3),a9 ah (ao 4),a9 ah (ao 5),a9 ah (ao 6),a9 ah (ao 7),a9 ah (ao 8)⟩
 have hzell:((w.alloc (.cells #[.int .i64 k,.string nm,.int .i64 u,.int .i64 tk,.slice ta tn tq,.int .i64 fk,.slice fa fn fq,.int .i64 l,.slice c m q] 28)).alloc (.cells #[.int .i64 0,.string { data:=#[] },.int .i64 0,.int .i64 0,.slice none 0 0,.int .i64 0,.slice none 0 0,.int .i64 0,.slice none 0 0] 28)).cell? ⟨w.heap.size+1,0,none⟩=some (.int .i64 0)∧((w.alloc (.cells #[.int .i64 k,.string nm,.int .i64 u,.int .i64 tk,.slice ta tn tq,.int .i64 fk,.slice fa fn fq,.int .i64 l,.slice c m q] 28)).alloc (.cells #[.int .i64 0,.string { data:=#[] },.int .i64 0,.int .i64 0,.slice none 0 0,.int .i64 0,.slice none 0 0,.int .i64 0,.slice none 0 0] 28)).cell? ⟨w.heap.size+1,1,none⟩=some (.string { data:=#[] })∧((w.alloc (.cells #[.int .i64 k,.string nm,.int .i64 u,.int .i64 tk,.slice ta tn tq,.int .i64 fk,.slice fa fn fq,.int .i64 l,.slice c m q] 28)).alloc (.cells #[.int .i64 0,.string { data:=#[] },.int .i64 0,.int .i64 0,.slice none 0 0,.int .i64 0,.slice none 0 0,.int .i64 0,.slice none 0 0] 28)).cell? ⟨w.heap.size+1,2,none⟩=some (.int .i64 0)∧((w.alloc (.cells #[.int .i64 k,.string nm,.int .i64 u,.int .i64 tk,.slice ta tn tq,.int .i64 fk,.slice fa fn fq,.int .i64 l,.slice c m q] 28)).alloc (.cells #[.int .i64 0,.string { data:=#[] },.int .i64 0,.int .i64 0,.slice none 0 0,.int .i64 0,.slice none 0 0,.int .i64 0,.slice none 0 0] 28)).cell? ⟨w.heap.size+1,3,none⟩=some (.int .i64 0)∧((w.alloc (.cells #[.int .i64 k,.string nm,.int .i64 u,.int .i64 tk,.slice ta tn tq,.int .i64 fk,.slice fa fn fq,.int .i64 l,.slice c m q] 28)).alloc (.cells #[.int .i64 0,.string { data:=#[] },.int .i64 0,.int .i64 0,.slice none 0 0,.int .i64 0,.slice none 0 0,.int .i64 0,.slice none 0 0] 28)).cell? ⟨w.heap.size+1,4,none⟩=some (.slice none 0 0)∧((w.alloc (.cells #[.int .i64 k,.string nm,.int .i64 u,.int .i64 tk,.slice ta tn tq,.int .i64 fk,.slice fa fn fq,.int .i64 l,.slice c m q] 28)).alloc (.cells #[.int .i64 0,.string { data:=#[] },.int .i64 0,.int .i64 0,.slice none 0 0,.int .i64 0,.slice none 0 0,.int .i64 0,.slice none 0 0] 28)).cell? ⟨w.heap.size+1,5,none⟩=some (.int .i64 0)∧((w.alloc (.cells #[.int .i64 k,.string nm,.int .i64 u,.int .i64 tk,.slice ta tn tq,.int .i64 fk,.slice fa fn fq,.int .i64 l,.slice c m q] 28)).alloc (.cells #[.int .i64 0,.string { data:=#[] },.int .i64 0,.int .i64 0,.slice none 0 0,.int .i64 0,.slice none 0 0,.int .i64 0,.slice none 0 0] 28)).cell? ⟨w.heap.size+1,6,none⟩=some (.slice none 0 0)∧((w.alloc (.cells #[.int .i64 k,.string nm,.int .i64 u,.int .i64 tk,.slice ta tn tq,.int .i64 fk,.slice fa fn fq,.int .i64 l,.slice c m q] 28)).alloc (.cells #[.int .i64 0,.string { data:=#[] },.int .i64 0,.int .i64 0,.slice none 0 0,.int .i64 0,.slice none 0 0,.int .i64 0,.slice none 0 0] 28)).cell? ⟨w.heap.size+1,7,none⟩=some (.int .i64 0)∧((w.alloc (.cells #[.int .i64 k,.string nm,.int .i64 u,.int .i64 tk,.slice ta tn tq,.int .i64 fk,.slice fa fn fq,.int .i64 l,.slice c m q] 28)).alloc (.cells #[.int .i64 0,.string { data:=#[] },.int .i64 0,.int .i64 0,.slice none 0 0,.int .i64 0,.slice none 0 0,.int .i64 0,.slice none 0 0] 28)).cell? ⟨w.heap.size+1,8,none⟩=some (.slice none 0 0):=⟨ax 0,ax 1,ax 2,ax 3,ax 4,ax 5,ax 6,ax 7,ax 8⟩
 have hfro : ∀o,((w.alloc (.cells #[.int .i64 k,.string nm,.int .i64 u,.int .i64 tk,.slice ta tn tq,.int .i64 fk,.slice fa fn fq,.int .i64 l,.slice c m q] 28)).alloc (.cells #[.int .i64 0,.string { data:=#[] },.int .i64 0,.int .i64 0,.slice none 0 0,.int .i64 0,.slice none 0 0,.int .i64 0,.slice none 0 0] 28)).frozen? ⟨w.heap.size,o,none⟩=false:=fun o=>bz ah (by simp) (aP o)
 have hfrz : ∀o,((w.alloc (.cells #[.int .i64 k,.string nm,.int .i64 u,.int .i64 tk,.slice ta tn tq,.int .i64 fk,.slice fa fn fq,.int .i64 l,.slice c m q] 28)).alloc (.cells #[.int .i64 0,.string { data:=#[] },.int .i64 0,.int .i64 0,.slice none 0 0,.int .i64 0,.slice none 0 0,.int .i64 0,.slice none 0 0] 28)).frozen? ⟨w.heap.size+1,o,none⟩=false:=fun o=>aK o
 generalize (w.alloc (.cells #[.int .i64 k,.string nm,.int .i64 u,.int .i64 tk,.slice ta tn tq,.int .i64 fk,.slice fa fn fq,.int .i64 l,.slice c m q] 28)).alloc (.cells #[.int .i64 0,.string { data:=#[] },.int .i64 0,.int .i64 0,.slice none 0 0,.int .i64 0,.slice none 0 0,.int .i64 0,.slice none 0 0] 28)=W0 at *
 have HB0:=Lib.hid hB0
 have HSZ:=Lib.hid hsz
 have HCELL:=Lib.hid hcell
 have HZELL:=Lib.hid hzell
 have HFRO:=Lib.hid hfro
 have HFRZ:=Lib.hid hfrz
 clear hB0 hcell hzell hfro hfrz
 go_loopw [11,5] (fun i p wr=>∃j:Nat,j≤m∧i = .int .i64 j∧aH W0.heap.size 28 9 wr p j (Tm.rows (Tm.mapTs g (ts.take j)))∧Below W0.heap.size W0 wr) (fun i _ _=>m-(intOf i).toNat)
 case atStart=>exact⟨0,by omega,rfl,by simpa [Tm.mapTs,Tm.rows] using aH.nil _ _ _ _,Below.refl _ _⟩
 case round=>
  obtain⟨j,hj,rfl,hacc,hbw⟩:=hrel
  have hbz0:=hbw.size
  by_cases hlt:j<m
  ·have hjt:j<ts.length:=by have:=HN.out;omega
   have hbw':=ai HB0.out hbw
   obtain⟨b,off,k0,nm0,u0,tk0,ta0,tn0,tq0,fk0,fa0,fn0,fq0,l0,a0,m0,q0,rfl,lb,e0,e1,e2,e3,e4,e5,e6,e7,e8,ht⟩:=hks.at hbw' hjt
   have HCALL:=Lib.hid (fun W (h:Below wr.heap.size wr W)=>IHH.out ts[j] (List.getElem_mem hjt) (Tm.mapOks_mem HOK.out.2 (List.getElem_mem hjt)) _ W (ht.below h))
   have hts:=Tm.mapTs_take_succ g ts j hjt
   generalize ts[j].mapT g=gt at HCALL hts
   have HTS:=Lib.hid hts
   obtain⟨cv,qv,rfl⟩:=hacc.shape
   obtain⟨xs,fps,ho,hl,hs,hd,hfp⟩:=hacc
   have HO:=Lib.hid ho
   have HS:=Lib.hid hs
   have HD:=Lib.hid hd
   have HFP:=Lib.hid hfp
   have HL:=Lib.hid hl
   clear ho hs hd hfp hl hts ht hbw'
   go_wp2_with fail
   refine(HCALL.out _ ah).mono ?_
   rintro e w1 ⟨v1,rfl,hv1,hb1⟩
   obtain⟨k1,nm1,u1,tk1,ta1,tn1,tq1,fk1,fa1,fn1,fq1,l1,c1,m1,q1,fp1,rfl,hs1,hd1,hx1⟩:=hv1.open
   have hbz1:=hb1.size
   simp at hbz1
   have ho':=bi HO.out (ai (ai ah hb1) ah) (w':=w1.alloc (.cells #[.int .i64 k1,.string nm1,.int .i64 u1,.int .i64 tk1,.slice ta1 tn1 tq1,.int .i64 fk1,.slice fa1 fn1 fq1,.int .i64 l1,.slice c1 m1 q1] 28))
   have HO':=Lib.hid ho'
   have HB1:=Lib.hid (show Below wr.heap.size wr w1 from ai ah hb1)
   have HS1:=Lib.hid hs1
   have HD1:=Lib.hid hd1
   have HX1:=Lib.hid hx1
   clear ho' hv1 hs1 hd1 hx1 hb1
   go_wp2_with (first | (at_builtin;refine wpList_append_lies _ rfl (.tmp 15) (.tmp 19) 26 rfl W0.heap.size 28 i0 _ 9 128 Try.underlying26 HI.out Z0.out Z1.out Z2.out rfl (by omega) (.slice cv j qv) j xs rfl HO'.out ⟨w1.heap.size,0,none⟩ 1 1 [.int .i64 k1,.string nm1,.int .i64 u1,.int .i64 tk1,.slice ta1 tn1 tq1,.int .i64 fk1,.slice fa1 fn1 fq1,.int .i64 l1,.slice c1 m1 q1] rfl rfl (World.news_of_block (cs:=#[.int .i64 k1,.string nm1,.int .i64 u1,.int .i64 tk1,.slice ta1 tn1 tq1,.int .i64 fk1,.slice fa1 fn1 fq1,.int .i64 l1,.slice c1 m1 q1]) (t:=28) (fr:=(0,0)) (heap_alloc_new w1 _)) (by simp [Value.oneCell']) (by omega) (by unfold maxLen;omega) (by omega) (by simp;omega) _ rfl ?_) | fail)
   intro gg cap2 w2 hown2 hgrow hat hlt2
   have hacc2:=aH.push (W0:=wr) HL.out HO.out HS.out HD.out HFP.out hbz0 (ai HB1.out ah) (Nat.le_refl _) (HS1.out.move _ _ _ fun b hb=>heap_alloc_old w1 _ (bg.lt _ _ _ HS1.out b hb)) HD1.out (fun x hx=>by have:=HX1.out x hx;simp at this;omega) hown2 hgrow (hat.elim .inl (fun h=>.inr (by first | (rw [h];done) | (rw [h];simp))))
   have HACC2:=Lib.hid hacc2
   have hbel:=ck hbw (ai HB1.out ah) HO.out (Nat.le_refl _) hgrow
   clear hacc2 hown2 hgrow hat
   go_wp2_with fail
   go_roundw
   case rel=>exact⟨j+1,by omega,by go_num,by rw [HTS.out,Tm.rows_eq,List.map_append,←Tm.rows_eq];exact HACC2.out,hbel⟩
   case measure=>simp [intOf];omega
  ·have hje:Tm.mapTs g (ts.take j)=Tm.mapTs g ts:=by rw [List.take_of_length_le (by have:=HN.out;omega)]
   rw [hje] at hacc
   obtain⟨cv,qv,rfl⟩:=hacc.shape
   have HACC:=Lib.hid hacc
   clear hacc hje
   have c3:=a9 hbw HCELL.out.2.2.2.1
   have c4:=a9 hbw HCELL.out.2.2.2.2.1
   have c5:=a9 hbw HCELL.out.2.2.2.2.2.1
   have c6:=a9 hbw HCELL.out.2.2.2.2.2.2.1
   have hbr:=ai HB0.out hbw
   have HBW:=Lib.hid hbw
   have HBR:=Lib.hid hbr
   have hszr:w.heap.size+2≤wr.heap.size:=by omega
   have HC1:=Lib.hid (fun W (h:Below wr.heap.size wr W)=>dF F tt _ W (hty.below (ai HBR.out h)) HCT.out.1)
   have HC2:=Lib.hid (fun W (h:Below wr.heap.size wr W)=>dF F ff _ W (hsr.below (ai HBR.out h)) HCT.out.2)
   clear hbw hbr hty hsr hks
   go_wp2_with fail
   go_region_law (first
     | (go_simp;go_at_call_of 38 (Value.agg #[Value.int IntKind.i64 tk,Value.slice ta tn tq]);refine(HC1.out _ bdr).mono ?_;rintro e w3 ⟨v1,rfl,⟨fp1,hv1,hd1,hx1⟩,hb1⟩;obtain⟨k1,c1',m1,q1,rfl,hk1,ho1⟩:=hv1.shape;have HK1:=Lib.hid hk1;have HO1:=Lib.hid ho1;have HD1:=Lib.hid hd1;have HX1:=Lib.hid hx1;clear hk1 hv1 ho1 hd1 hx1;have d5:=bX hb1 c5;have d6:=bX hb1 c6;have HBX:=Lib.hid (ai bdr hb1);have hz1:wr.heap.size≤w3.heap.size:=hb1.size)
     | (go_simp;go_at_call_of 38 (Value.agg #[Value.int IntKind.i64 fk,Value.slice fa fn fq]);refine(HC2.out _ (ai bdr hb1)).mono ?_;rintro e w4 ⟨v2,rfl,⟨fp2,hv2,hd2,hx2⟩,hb2⟩;obtain⟨k2,c2',m2,q2,rfl,hk2,ho2⟩:=hv2.shape;have HK2:=Lib.hid hk2;have HO2:=Lib.hid ho2;have HD2:=Lib.hid hd2;have HX2:=Lib.hid hx2;clear hk2 hv2 ho2 hd2 hx2;have HBY:=Lib.hid (ai HBX.out hb2);have hz2:=hb2.size;have e3:=a9 HBY.out (a9 HBW.out HCELL.out.2.2.2.1);have e4:=a9 HBY.out (a9 HBW.out HCELL.out.2.2.2.2.1);have e5:=a9 HBY.out (a9 HBW.out HCELL.out.2.2.2.2.2.1);have e6:=a9 HBY.out (a9 HBW.out HCELL.out.2.2.2.2.2.2.1);have e8:=a9 HBY.out (a9 HBW.out HCELL.out.2.2.2.2.2.2.2.2);have lw4:=World.block_lt_of_cell? _ _ e3;have h3:=aw HBY.out (a9 HBW.out HCELL.out.2.2.2.1) (aw HBW.out HCELL.out.2.2.2.1 (HFRO.out 3));have h4:=aw HBY.out (a9 HBW.out HCELL.out.2.2.2.2.1) (aw HBW.out HCELL.out.2.2.2.2.1 (HFRO.out 4));have h5:=aw HBY.out (a9 HBW.out HCELL.out.2.2.2.2.2.1) (aw HBW.out HCELL.out.2.2.2.2.2.1 (HFRO.out 5));have h6:=aw HBY.out (a9 HBW.out HCELL.out.2.2.2.2.2.2.1) (aw HBW.out HCELL.out.2.2.2.2.2.2.1 (HFRO.out 6));have h8:=aw HBY.out (a9 HBW.out HCELL.out.2.2.2.2.2.2.2.2) (aw HBW.out HCELL.out.2.2.2.2.2.2.2.2 (HFRO.out 8))))
   all_goals
    have e0:=a9 HBY.out (a9 HBW.out HCELL.out.1)
    have e1:=a9 HBY.out (a9 HBW.out HCELL.out.2.1)
    have e2:=a9 HBY.out (a9 HBW.out HCELL.out.2.2.1)
    have e7:=a9 HBY.out (a9 HBW.out HCELL.out.2.2.2.2.2.2.2.1)
    go_wp2_with fail
    have hne1 : ∀b,b≠w.heap.size→(((((w4.setCell ⟨w.heap.size,3,none⟩ (.int .i64 k1)).setCell ⟨w.heap.size,4,none⟩ (.slice c1' m1 q1)).setCell ⟨w.heap.size,5,none⟩ (.int .i64 k2)).setCell ⟨w.heap.size,6,none⟩ (.slice c2' m2 q2)).setCell ⟨w.heap.size,8,none⟩ (.slice cv j qv)).heap[b]?=w4.heap[b]?:=fun b hb=>(Below.heap_setCell _ ⟨w.heap.size,8,none⟩ _ b hb).trans ((Below.heap_setCell _ ⟨w.heap.size,6,none⟩ _ b hb).trans ((Below.heap_setCell _ ⟨w.heap.size,5,none⟩ _ b hb).trans ((Below.heap_setCell _ ⟨w.heap.size,4,none⟩ _ b hb).trans (Below.heap_setCell _ ⟨w.heap.size,3,none⟩ _ b hb))))
    obtain⟨fp3,ho3,hd3,hx3⟩:=HACC.out.tms
    have hl3 : ∀x∈fp3,x<wr.heap.size:=aG.lt _ _ _ ho3
    have hl1 : ∀x∈fp1,x<w3.heap.size:=aG.lt _ _ _ HO1.out
    have hl2 : ∀x∈fp2,x<w4.heap.size:=aG.lt _ _ _ HO2.out
    have hg1 : ∀x∈fp1,wr.heap.size≤x:=HX1.out
    have hg2 : ∀x∈fp2,w3.heap.size≤x:=HX2.out
    have hnew:b3 W0.heap.size (((((w4.setCell ⟨w.heap.size,3,none⟩ (.int .i64 k1)).setCell ⟨w.heap.size,4,none⟩ (.slice c1' m1 q1)).setCell ⟨w.heap.size,5,none⟩ (.int .i64 k2)).setCell ⟨w.heap.size,6,none⟩ (.slice c2' m2 q2)).setCell ⟨w.heap.size,8,none⟩ (.slice cv j qv)) (Tm.mk k nm u tt ff l (Tm.mapTs g ts)) _:=b3.of (l:=l) (u:=u) (k:=k) HRN.out HK1.out HK2.out
     (aG.move _ _ _ (fun b hb=>(hne1 b (by have:=hg1 b hb;omega)).trans (hb2.block b (hl1 b hb))) HO1.out)
     (aG.move _ _ _ (fun b hb=>hne1 b (by have:=hg2 b hb;omega)) HO2.out)
     (aG.move _ _ _ (fun b hb=>(hne1 b (by have:=hx3 b hb;omega)).trans (HBY.out.block b (hl3 b hb))) ho3)
     (List.nodup_append.2 ⟨HD1.out,List.nodup_append.2 ⟨HD2.out,hd3,fun x hx z hz e=>by have h1:=hg2 x hx;have h2:=hl3 z hz;omega⟩,fun x hx z hz e=>by
       have h1:=hg1 x hx
       have h2:=hl1 x hx
       rcases List.mem_append.1 hz with hz | hz
       · have h3:=hg2 z hz;omega
       · have h3:=hl3 z hz;omega⟩)
     (fun x hx=>by
       rcases List.mem_append.1 hx with hx | hx
       · have h1:=hg1 x hx;omega
       · rcases List.mem_append.1 hx with hx | hx
         · have h1:=hg2 x hx;omega
         · exact hx3 x hx)
    have hB5:Below w.heap.size w (((((w4.setCell ⟨w.heap.size,3,none⟩ (.int .i64 k1)).setCell ⟨w.heap.size,4,none⟩ (.slice c1' m1 q1)).setCell ⟨w.heap.size,5,none⟩ (.int .i64 k2)).setCell ⟨w.heap.size,6,none⟩ (.slice c2' m2 q2)).setCell ⟨w.heap.size,8,none⟩ (.slice cv j qv)):=(((((ai HBR.out HBY.out).setCell (by show w.heap.size≤w.heap.size;omega) _).setCell (by show w.heap.size≤w.heap.size;omega) _).setCell (by show w.heap.size≤w.heap.size;omega) _).setCell (by show w.heap.size≤w.heap.size;omega) _).setCell (by show w.heap.size≤w.heap.size;omega) _
    have HB5:=Lib.hid hB5
    have lz:w.heap.size+1≠w.heap.size:=by omega
    have y0:=(World.cell?_of_block (a:=⟨w.heap.size+1,0,none⟩) (hne1 _ lz)).trans (a9 HBY.out (a9 HBW.out HZELL.out.1))
    have x0:=(World.frozen?_of_block (a:=⟨w.heap.size+1,0,none⟩) (hne1 _ lz)).trans (aw HBY.out (a9 HBW.out HZELL.out.1) (aw HBW.out HZELL.out.1 (HFRZ.out 0)))
    have y1:=(World.cell?_of_block (a:=⟨w.heap.size+1,1,none⟩) (hne1 _ lz)).trans (a9 HBY.out (a9 HBW.out HZELL.out.2.1))
    have x1:=(World.frozen?_of_block (a:=⟨w.heap.size+1,1,none⟩) (hne1 _ lz)).trans (aw HBY.out (a9 HBW.out HZELL.out.2.1) (aw HBW.out HZELL.out.2.1 (HFRZ.out 1)))
    have y2:=(World.cell?_of_block (a:=⟨w.heap.size+1,2,none⟩) (hne1 _ lz)).trans (a9 HBY.out (a9 HBW.out HZELL.out.2.2.1))
    have x2:=(World.frozen?_of_block (a:=⟨w.heap.size+1,2,none⟩) (hne1 _ lz)).trans (aw HBY.out (a9 HBW.out HZELL.out.2.2.1) (aw HBW.out HZELL.out.2.2.1 (HFRZ.out 2)))
    have y3:=(World.cell?_of_block (a:=⟨w.heap.size+1,3,none⟩) (hne1 _ lz)).trans (a9 HBY.out (a9 HBW.out HZELL.out.2.2.2.1))
    have x3:=(World.frozen?_of_block (a:=⟨w.heap.size+1,3,none⟩) (hne1 _ lz)).trans (aw HBY.out (a9 HBW.out HZELL.out.2.2.2.1) (aw HBW.out HZELL.out.2.2.2.1 (HFRZ.out 3)))
    have y4:=(World.cell?_of_block (a:=⟨w.heap.size+1,4,none⟩) (hne1 _ lz)).trans (a9 HBY.out (a9 HBW.out HZELL.out.2.2.2.2.1))
    have x4:=(World.frozen?_of_block (a:=⟨w.heap.size+1,4,none⟩) (hne1 _ lz)).trans (aw HBY.out (a9 HBW.out HZELL.out.2.2.2.2.1) (aw HBW.out HZELL.out.2.2.2.2.1 (HFRZ.out 4)))
    have y5:=(World.cell?_of_block (a:=⟨w.heap.size+1,5,none⟩) (hne1 _ lz)).trans (a9 HBY.out (a9 HBW.out HZELL.out.2.2.2.2.2.1))
    have x5:=(World.frozen?_of_block (a:=⟨w.heap.size+1,5,none⟩) (hne1 _ lz)).trans (aw HBY.out (a9 HBW.out HZELL.out.2.2.2.2.2.1) (aw HBW.out HZELL.out.2.2.2.2.2.1 (HFRZ.out 5)))
    have y6:=(World.cell?_of_block (a:=⟨w.heap.size+1,6,none⟩) (hne1 _ lz)).trans (a9 HBY.out (a9 HBW.out HZELL.out.2.2.2.2.2.2.1))
    have x6:=(World.frozen?_of_block (a:=⟨w.heap.size+1,6,none⟩) (hne1 _ lz)).trans (aw HBY.out (a9 HBW.out HZELL.out.2.2.2.2.2.2.1) (aw HBW.out HZELL.out.2.2.2.2.2.2.1 (HFRZ.out 6)))
    have y7:=(World.cell?_of_block (a:=⟨w.heap.size+1,7,none⟩) (hne1 _ lz)).trans (a9 HBY.out (a9 HBW.out HZELL.out.2.2.2.2.2.2.2.1))
    have x7:=(World.frozen?_of_block (a:=⟨w.heap.size+1,7,none⟩) (hne1 _ lz)).trans (aw HBY.out (a9 HBW.out HZELL.out.2.2.2.2.2.2.2.1) (aw HBW.out HZELL.out.2.2.2.2.2.2.2.1 (HFRZ.out 7)))
    have y8:=(World.cell?_of_block (a:=⟨w.heap.size+1,8,none⟩) (hne1 _ lz)).trans (a9 HBY.out (a9 HBW.out HZELL.out.2.2.2.2.2.2.2.2))
    have x8:=(World.frozen?_of_block (a:=⟨w.heap.size+1,8,none⟩) (hne1 _ lz)).trans (aw HBY.out (a9 HBW.out HZELL.out.2.2.2.2.2.2.2.2) (aw HBW.out HZELL.out.2.2.2.2.2.2.2.2 (HFRZ.out 8)))
    have hz5:(((((w4.setCell ⟨w.heap.size,3,none⟩ (.int .i64 k1)).setCell ⟨w.heap.size,4,none⟩ (.slice c1' m1 q1)).setCell ⟨w.heap.size,5,none⟩ (.int .i64 k2)).setCell ⟨w.heap.size,6,none⟩ (.slice c2' m2 q2)).setCell ⟨w.heap.size,8,none⟩ (.slice cv j qv)).heap.size=w4.heap.size:=by simp [World.setCell]
    have HNEW:=Lib.hid hnew
    clear hne1 ho3 hd3 hx3 hl3 hl1 hl2 hg1 hg2 hnew hB5 e0 e1 e2 e7 e3 e4 e5 e6 e8 h3 h4 h5 h6 h8
    refine(HC.out W0.heap.size _ _ _ HNEW.out HOK.out.1 (by rw [hz5];omega)).mono ?_
    rintro e w5 ⟨v5,rfl,hv5,hb5⟩
    obtain⟨k5,nm5,u5',tk5,ta5,tn5,tq5,fk5,fa5,fn5,fq5,l5,c5',m5,q5,rfl⟩:=hv5.shape
    have HV5:=Lib.hid hv5
    have HB6:=Lib.hid (ai HB5.out hb5)
    have x0':=aw hb5 y0 x0
    have z0:=a9 hb5 y0
    have x1':=aw hb5 y1 x1
    have z1:=a9 hb5 y1
    have x2':=aw hb5 y2 x2
    have z2:=a9 hb5 y2
    have x3':=aw hb5 y3 x3
    have z3:=a9 hb5 y3
    have x4':=aw hb5 y4 x4
    have z4:=a9 hb5 y4
    have x5':=aw hb5 y5 x5
    have z5:=a9 hb5 y5
    have x6':=aw hb5 y6 x6
    have z6:=a9 hb5 y6
    have x7':=aw hb5 y7 x7
    have z7:=a9 hb5 y7
    have x8':=aw hb5 y8 x8
    have z8:=a9 hb5 y8
    clear x0 y0 x1 y1 x2 y2 x3 y3 x4 y4 x5 y5 x6 y6 x7 y7 x8 y8
    have lz5:=World.block_lt_of_cell? _ _ z0
    clear hv5 hb5 hz5
    go_wp2_with fail
    refine bodyPost_ret (v:=.agg #[.int .i64 k5,.string nm5,.int .i64 u5',.int .i64 tk5,.slice ta5 tn5 tq5,.int .i64 fk5,.slice fa5 fn5 fq5,.int .i64 l5,.slice c5' m5 q5]) (by simp [results,Try.results18,go_sem,z0,z1,z2,z3,z4,z5,z6,z7,z8]) rfl ?_
    exact⟨_,rfl,b3.mono ((((((((((HV5.out).setCell (by show w.heap.size+1<W0.heap.size;omega) _).setCell (by show w.heap.size+1<W0.heap.size;omega) _).setCell (by show w.heap.size+1<W0.heap.size;omega) _).setCell (by show w.heap.size+1<W0.heap.size;omega) _).setCell (by show w.heap.size+1<W0.heap.size;omega) _).setCell (by show w.heap.size+1<W0.heap.size;omega) _).setCell (by show w.heap.size+1<W0.heap.size;omega) _).setCell (by show w.heap.size+1<W0.heap.size;omega) _).setCell (by show w.heap.size+1<W0.heap.size;omega) _) (by omega),(((((((((HB6.out).setCell (by show w.heap.size≤w.heap.size+1;omega) _).setCell (by show w.heap.size≤w.heap.size+1;omega) _).setCell (by show w.heap.size≤w.heap.size+1;omega) _).setCell (by show w.heap.size≤w.heap.size+1;omega) _).setCell (by show w.heap.size≤w.heap.size+1;omega) _).setCell (by show w.heap.size≤w.heap.size+1;omega) _).setCell (by show w.heap.size≤w.heap.size+1;omega) _).setCell (by show w.heap.size≤w.heap.size+1;omega) _).setCell (by show w.heap.size≤w.heap.size+1;omega) _⟩
theorem j5 (ch:FuncId)(hcf : ∀xs W,(callFunc ch xs).run Try.prog W = .ok (.enter ch xs) W)(g:Tm→Tm)(P:Tm→Prop)(hC:MapC ch g P)(F:Nat→Prop)(t:Tm):MapT ch g P F t:=
 ki ch hcf g P hC F t (fun t' ht=>j5 ch hcf g P hC F t')
termination_by SizeOf.sizeOf t
decreasing_by exact Tm.kid_lt ht
end Go.Proofs.Ytnaoghknnenfoaa

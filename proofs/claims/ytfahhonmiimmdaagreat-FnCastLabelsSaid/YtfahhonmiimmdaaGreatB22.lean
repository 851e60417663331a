/- The text of a type, and its reading: plain Lean on lists of bytes. And what else its parts name. -/
import Derived.Test.YtfahhonmiimmdaaGreatB7
set_option linter.unusedSimpArgs false
set_option linter.unusedVariables false
set_option maxRecDepth 100000
set_option maxHeartbeats 16000000
namespace Go.Proofs.YtfahhonmiimmdaaGreat
open Go.RowKit
def S.text:S→List UInt8
 | .zero=> []
 | .any=> [63]
 | .int=> [73]
 | .bool=> [66]
 | .fn a b=>40 :: (a.text++62 :: (b.text ++ [41]))
 | .pr a b=>40 :: (a.text++42 :: (b.text ++ [41]))
theorem S.text_len : ∀s:S,s.text.length+3≤2 ^ (s.dep+1)
 | .zero=>by simp[S.text,S.dep]
 | .any=>by simp[S.text,S.dep]
 | .int=>by simp[S.text,S.dep]
 | .bool=>by simp[S.text,S.dep]
 | .fn a b=>by
  have h1:=S.text_len a;have h2:=S.text_len b;have e1:2 ^ (a.dep+1)≤2 ^ (max a.dep b.dep+1):=Nat.pow_le_pow_right (by omega) (by omega);have e2:2 ^ (b.dep+1)≤2 ^ (max a.dep b.dep+1):=Nat.pow_le_pow_right (by omega) (by omega);simp only[S.text,S.dep,List.length_cons,List.length_append,List.length_nil];rw[Nat.pow_succ 2 (max a.dep b.dep+1)]
  omega
 | .pr a b=>by
  have h1:=S.text_len a;have h2:=S.text_len b;have e1:2 ^ (a.dep+1)≤2 ^ (max a.dep b.dep+1):=Nat.pow_le_pow_right (by omega) (by omega);have e2:2 ^ (b.dep+1)≤2 ^ (max a.dep b.dep+1):=Nat.pow_le_pow_right (by omega) (by omega);simp only[S.text,S.dep,List.length_cons,List.length_append,List.length_nil];rw[Nat.pow_succ 2 (max a.dep b.dep+1)]
  omega
def RetOG (G:Nat→Prop)(o:Option Ty)(w:World)(e:Ending)(w':World):Prop:=∃(k:Int) (a:Option Addr) (n q:Nat) (b:Bool) (t:Ty),e = .returned (.tuple #[.agg #[.int .i64 k,.slice a n q],.bool b])∧b=o.isSome∧ao (fun x=>G x∨w.heap.size≤x) w' t (.agg #[.int .i64 k,.slice a n q])∧(∀s,o=some s→t=s)∧Below w.heap.size w w'
def cE (l:List Bd)(nm:ByteArray):Nat→Option Ty
 | 0=>none
 | i+1=>match l[i]? with
  | some b=>if b.name.toList==nm.toList then some b.ty else cE l nm i
  | none=>cE l nm i
theorem uM {l:List Bd}{nm:ByteArray}{i:Nat}(h:i<l.length)(e:(l[i].name.toList==nm.toList)=true):cE l nm (i+1)=some l[i].ty:=by
 simp only[cE,List.getElem?_eq_getElem h,e,if_true]
theorem uz {l:List Bd}{nm:ByteArray}{i:Nat}(h:i<l.length)(e:(l[i].name.toList==nm.toList)=false):cE l nm (i+1)=cE l nm i:=by
 simp only[cE,List.getElem?_eq_getElem h,e];rfl
theorem ao.any {F:Nat→Prop}{w:World}{t:Ty}{y:Value}(h:ao F w t y):ao (fun _=>True) w t y:=h.move (.weaken fun _ _ _=>trivial)
def bH (o:Option Ty)(w:World)(e:Ending)(w':World):Prop:=RetOG (fun _=>False) o w e w'
theorem ao.zeroG {H:Nat→Prop}{w:World}:ao H w (.mk 0 []) (.agg #[.int .i64 0,.slice none 0 0]):=by
 refine⟨_,rfl,?_⟩;unfold aA aH
 exact⟨none,0,rfl,Nat.le_refl _,by unfold maxLen;omega,.inl rfl⟩
theorem lT (F:Nat→Prop)(l:List Bd)(nm:ByteArray)(y:Value)(w:World)(hy:aE F w l y)(hc : ∀b∈l,b.ty.cnt≤1048576) :
  Calls Tryz.prog 82 #[y,.string nm] w (bH (cE l nm l.length) w):=by
 obtain⟨a,n,q,rfl⟩:=hy.shape;obtain⟨a',q',he,hq1,hq2,-⟩:=hy.open;simp only[Value.slice.injEq] at he;obtain⟨rfl,rfl,rfl⟩:=he;unfold maxLen at hq2;have HY:=zq hy;have HCN:=zq hc;clear hy hc;have hZ:(w.alloc (.cells #[.int .i64 0,.slice none 0 0] 25)).heap[w.heap.size]?=some (.cells #[.int .i64 0,.slice none 0 0] 25 (0,0)):=aB rfl;generalize hn:l.length=n at *;have HN:=zq hn;clear hn;have hwn:wrap64 ((n:Int)-1)=(n:Int)-1:=by unfold wrap64;omega
 go_enter Tryz.func82,Tryz.ntmps82
 go_wp2_with fail
 go_loopw [6] (fun i wr=>∃j:Nat,j≤n∧i = .int .i64 ((j:Int)-1)∧wr=w.alloc (.cells #[.int .i64 0,.slice none 0 0] 25)∧Hid (cE l nm n=cE l nm j)) (fun i _=>(intOf i+1).toNat)
 case atStart=>exact⟨n,Nat.le_refl _,rfl,rfl,zq rfl⟩
 case round=>
  obtain⟨j,hj,rfl,rfl,hrel⟩:=hrel;have z0:(w.alloc (.cells #[.int .i64 0,.slice none 0 0] 25)).cell? ⟨w.heap.size,0,none⟩=some (.int .i64 0):=ag hZ rfl;have z1:(w.alloc (.cells #[.int .i64 0,.slice none 0 0] 25)).cell? ⟨w.heap.size,1,none⟩=some (.slice none 0 0):=ag hZ rfl;have zf0:(w.alloc (.cells #[.int .i64 0,.slice none 0 0] 25)).frozen? ⟨w.heap.size,0,none⟩=false:=al hZ 0;have zf1:(w.alloc (.cells #[.int .i64 0,.slice none 0 0] 25)).frozen? ⟨w.heap.size,1,none⟩=false:=al hZ 1
  cases j with
  | zero=>
   have h0:decide (((0:Nat):Int)-1≥0)=false:=by simp
   go_wp2_with fail
   refine bodyPost_ret (v:=.tuple #[.agg #[.int .i64 0,.slice none 0 0],.bool false]) (by simp[results,Tryz.results82,go_sem]) rfl ?_
   exact⟨_,_,_,_,_,_,rfl,by rw[hrel.out];rfl,ao.zeroG,(by rw[hrel.out];intro s h;cases h),ai⟩
  | succ j=>
   have hjl:j<l.length:=by have:=HN.out;omega
   obtain⟨b,off,k0,a0,m0,q0,rfl,l0,e0,ez,e1,e2,ht⟩:=HY.out.at (Below.refl _ _) hjl;replace e0:=ah (ai (o:=.cells #[.int .i64 0,.slice none 0 0] 25)) e0;replace e1:=ah (ai (o:=.cells #[.int .i64 0,.slice none 0 0] 25)) e1;replace e2:=ah (ai (o:=.cells #[.int .i64 0,.slice none 0 0] 25)) e2;have HT:=zq ht;clear ht;have h0:decide (((j+1:Nat):Int)-1≥0)=true:=by simp
   have hji:((j+1:Nat):Int)-1=(j:Int):=by omega
   have hj0:(0:Int)≤(j:Int):=by omega
   have hj1:(j:Int)<(n:Int):=by omega
   have hwj:wrap64 ((j:Int)-1)=(j:Int)-1:=by unfold wrap64;omega
   rw[hji]
   rcases Bool.eq_false_or_eq_true (l[j].name.toList==nm.toList) with q1 | q1
   ·have HQ:=zq (uM hjl q1)
    go_wp2_with fail
    refine(be F _ _ _ (HT.out.below ai) (HCN.out _ (List.getElem_mem hjl))).mono ?_;rintro e w1 ⟨v,rfl,hv,hb1⟩;obtain⟨kc,ac,nc,qc,rfl⟩:=hv.shape;have HV:=zq hv;have HB:=zq (aj ai hb1);replace hZ:=af hZ hb1;have hz1:=hb1.size;simp only[World.size_alloc] at hz1;clear hv hb1 z0 z1 zf0 zf1 e0 e1 e2;obtain⟨z0,z1⟩:=blk2 hZ;have zf0:=al hZ 0;have zf1:=al hZ 1
    go_wp2_with fail
    have hY:((w1.setCell ⟨w.heap.size,0,none⟩ (.int .i64 kc)).setCell ⟨w.heap.size,1,none⟩ (.slice ac nc qc)).heap[w.heap.size]?=some (.cells #[.int .i64 kc,.slice ac nc qc] 25 (0,0)):=aI (aI hZ (rfl:(#[Value.int .i64 0,.slice none 0 0]:Array Value).setIfInBounds 0 (.int .i64 kc) = #[.int .i64 kc,.slice none 0 0])) rfl;obtain⟨rc0,rc1⟩:=blk2 hY;refine bodyPost_ret (v:=.tuple #[.agg #[.int .i64 kc,.slice ac nc qc],.bool true]) (by simp[results,Tryz.results82,go_sem,rc0,rc1]) rfl ?_
    exact⟨_,_,_,_,_,_,rfl,by rw[hrel.out,HQ.out];rfl,((HV.out.setCell (p:=⟨w.heap.size,0,none⟩) (by simp) _).setCell (p:=⟨w.heap.size,1,none⟩) (by simp) _).rep.move (.weaken fun b h _=>.inr (by have:(w.alloc (.cells #[.int .i64 0,.slice none 0 0] 25)).heap.size≤b:=h;simp at this;omega)),(by rw[hrel.out,HQ.out];intro s h;exact Option.some.inj h),(HB.out.setCell (p:=⟨w.heap.size,0,none⟩) (by show w.heap.size≤w.heap.size;omega) _).setCell (p:=⟨w.heap.size,1,none⟩) (by show w.heap.size≤w.heap.size;omega) _⟩
   ·have HQ:=zq (uz hjl q1)
    go_wp2_with fail
    go_roundw
    case rel=>exact⟨j,by omega,by first | trivial | rfl,by first | trivial | rfl,zq (hrel.out.trans HQ.out)⟩
    case measure=>simp[intOf]
theorem jJ (F G:Nat→Prop)(t:Ty) : ∀(u:Ty) (y z:Value) (w:World),ao F w t y→ao G w u z →
  Calls Tryz.prog 92 #[y,z] w fun e w'=>e = .returned (.bool (t.same u))∧Below w.heap.size w w':=by
 intro u y z w hy hz;have IH : ∀t'∈t.kids,∀u'∈u.kids,∀(W:World) (y z:Value),ao F W t' y→ao G W u' z→Calls Tryz.prog 92 #[y,z] W fun e W'=>e = .returned (.bool (t'.same u'))∧Below W.heap.size W W':=
  fun t' ht u' _ W y z a b=>jJ F G t' u' y z W a b
 obtain⟨a,cap,rfl,h2,h3,hy'⟩:=hy.open;obtain⟨c,cap',rfl,g2,g3,hz'⟩:=hz.open;obtain⟨_,_,e1,_,_,h4⟩:=hy'.open;obtain⟨_,_,e2,_,_,g4⟩:=hz'.open;simp only[Value.slice.injEq,true_and] at e1 e2;obtain⟨rfl,rfl⟩:=e1;obtain⟨rfl,rfl⟩:=e2;have H4:=zq h4;have G4:=zq g4;clear hy hz hy' hz' h4 g4;have IHH:=zq IH;clear IH
 cases t with | mk k ts=>cases u with | mk l us=>
 simp only[Ty.kind,Ty.kids] at *;unfold maxLen at h3 g3;unfold Ty.same;rw[←Ty.sames_all2]
 by_cases hk:k=l
 ·subst hk
  by_cases hl:ts.length=us.length
  ·obtain⟨n,hn⟩ : ∃n,ts.length=n:=⟨_,rfl⟩
   rw[hn] at hl h2;rw[←hl] at g2;have HN:=zq hn;have HL:=zq hl;rw[hn,←hl];clear hn hl
   go_enter Tryz.func92,Tryz.ntmps92
   go_wp2_with fail
   have hW : ∀w',Below w.heap.size w w'→True:=fun _ _=>trivial
   go_loopw [5] (fun i wr=>∃j:Nat,j≤n∧i = .int .i64 j∧Below w.heap.size w wr∧wr.cell? ⟨w.heap.size,1,none⟩=some (.slice a n cap)∧wr.cell? ⟨w.heap.size+1,1,none⟩=some (.slice c n cap')∧w.heap.size+1<wr.heap.size∧Hid (dA Ty.same ts us=dA Ty.same (ts.drop j) (us.drop j))) (fun i _=>n-(intOf i).toNat)
   case atStart=>exact⟨0,by omega,rfl,aT,by simp,by simp,by simp,rfl⟩
   case round=>
    obtain⟨j,hj,rfl,hbw,hc1,hc2,hsz,hR⟩:=hrel
    by_cases hlt:j<n
    ·obtain⟨b,off,k0,a0,m0,q0,rfl,c0,c1,ht⟩:=H4.out j (by rw[HN.out];exact hlt)
     obtain⟨b',off',k0',a0',m0',q0',rfl,c0',c1',hu⟩:=G4.out j (by rw[←HL.out];exact hlt);have e0:=(hbw.cell (p:=⟨b,off+j*2,none⟩) (World.block_lt_of_cell? w _ c0)).trans c0;have e1:=(hbw.cell (p:=⟨b,off+j*2+1,none⟩) (World.block_lt_of_cell? w _ c1)).trans c1;have e0':=(hbw.cell (p:=⟨b',off'+j*2,none⟩) (World.block_lt_of_cell? w _ c0')).trans c0';have e1':=(hbw.cell (p:=⟨b',off'+j*2+1,none⟩) (World.block_lt_of_cell? w _ c1')).trans c1';have l0:=World.block_lt_of_cell? wr _ e0;have l0':=World.block_lt_of_cell? wr _ e0';clear c0 c1 c0' c1';have hkt:j<ts.length:=by rw[HN.out];exact hlt
     have hku:j<us.length:=by rw[←HL.out];exact hlt
     have hcall:=IHH.out ts[j] (List.getElem_mem hkt) us[j] (List.getElem_mem hku);have hstep:=hR.out.trans (iQ Ty.same ts us j hkt hku);generalize ts[j].same us[j]=r at hcall hstep;have HC:=zq hcall;have HS:=zq hstep;clear hcall hstep hR
     cases r
     all_goals
      go_wp2_with fail
      go_region_held3 (fun w'=>w'.cell? ⟨w.heap.size,1,none⟩=some (.slice (some ⟨b,off,none⟩) n cap)∧w'.cell? ⟨w.heap.size+1,1,none⟩=some (.slice (some ⟨b',off',none⟩) n cap')∧w'.cell? ⟨b,off+j*2,none⟩=some (.int .i64 k0)∧w'.cell? ⟨b,off+j*2+1,none⟩=some (.slice a0 m0 q0)∧w'.cell? ⟨b',off'+j*2,none⟩=some (.int .i64 k0')∧w'.cell? ⟨b',off'+j*2+1,none⟩=some (.slice a0' m0' q0'))
       (first | go_keep | exact⟨cl hb1 hc1,cl hb1 hc2,cl hb1 e0,cl hb1 e1,cl hb1 e0',cl hb1 e1'⟩)
       (first | (go_at_call 92;refine(HC.out _ _ _ (ht.below hbw.drew) (hu.below hbw.drew)).mono ?_;rintro e w1 ⟨rfl,hb1⟩))
      go_wp2_with fail
     ·go_ret
      exact⟨au (by rw[HS.out];simp),oP hbw hb1⟩
     ·go_roundw
      case rel=>exact⟨j+1,by omega,by go_num,oP hbw hb1,cl hb1 hc1,cl hb1 hc2,Nat.lt_of_lt_of_le hsz hb1.size,by rw[Hid,HS.out];rfl⟩
      case measure=>simp[intOf];omega
    ·go_wp2_with fail
     go_ret
     exact⟨au (by rw[hR.out,kT _ _ _ _ (by rw[HN.out];omega) (by rw[←HL.out];omega)];simp),hbw⟩
  ·have HL:=zq hl
   go_enter Tryz.func92,Tryz.ntmps92
   go_wp2_with fail
   go_ret
   exact⟨au (by rw[kU Ty.same ts us HL.out];simp),aT⟩
 ·have hkl:(k==l)=false:=by simpa using hk
  have hkl':(k != l)=true:=by simpa using hk
  clear hk
  go_enter Tryz.func92,Tryz.ntmps92
  go_wp2_with fail
  go_ret
  exact⟨au (by simp[hkl]),aT⟩
termination_by SizeOf.sizeOf t
decreasing_by exact Ty.kid_lt ht
mutual
def Tm.same:Tm→Tm→Bool
 | .mk k s u t f l ts,.mk k' s' u' t' f' l' us=>k==k'&&s.toList==s'.toList&&u==u'&&t.same t'&&f.same f'&&l==l'&&Tm.sames ts us
def Tm.sames:List Tm→List Tm→Bool
 | [],[]=>true
 | t :: ts,u :: us=>t.same u&&Tm.sames ts us
 | _,_=>false
end
def tall2 (R:Tm→Tm→Bool):List Tm→List Tm→Bool
 | [],[]=>true
 | t :: ts,u :: us=>R t u&&tall2 R ts us
 | _,_=>false
theorem Tm.sames_all2 : ∀ts us:List Tm,tall2 Tm.same ts us=Tm.sames ts us
 | [],[]=>by unfold Tm.sames;rfl
 | [],_ :: _=>by unfold Tm.sames;rfl
 | _ :: _,[]=>by unfold Tm.sames;rfl
 | t :: ts,u :: us=>by unfold Tm.sames tall2;rw[Tm.sames_all2 ts us]
mutual
theorem Tm.same_refl : ∀t:Tm,t.same t=true
 | .mk k s u t f l ts=>by unfold Tm.same;rw[Tm.sames_refl ts,t.same_refl,f.same_refl];simp
theorem Tm.sames_refl : ∀ts:List Tm,Tm.sames ts ts=true
 | []=>by unfold Tm.sames;rfl
 | t :: ts=>by unfold Tm.sames;rw[Tm.same_refl t,Tm.sames_refl ts];rfl
end
def cn (F:Nat→Prop)(w:World)(l:List Int)(y:Value):Prop:=∃(a:Option Addr) (cap:Nat),y = .slice a l.length cap∧l.length≤cap∧cap≤maxLen ∧
 (l = []∨∃b off,a=some ⟨b,off,none⟩∧F b∧b<w.heap.size∧∀i (h:i<l.length),w.cell? ⟨b,off+i,none⟩=some (.int .i64 l[i]))
def bC (w:World)(l:List Int)(y:Value)(fp:List Nat):Prop:=∃(a:Option Addr) (cap:Nat),y = .slice a l.length cap∧l.length≤cap∧cap≤maxLen ∧
 ((l = []∧fp = [])∨∃b cs T,a=some ⟨b,0,none⟩∧fp = [b]∧w.heap[b]?=some (.cells cs T (0,0))∧∀i (h:i<l.length),w.cell? ⟨b,i,none⟩=some (.int .i64 l[i]))
theorem cn.move {F G:Nat→Prop}{w w':World}{l:List Int}{y:Value}(h:cn F w l y)(k:bl F G w w'):cn G w' l y:=by
 obtain⟨a,cap,h1,h2,h3,h4⟩:=h;refine⟨a,cap,h1,h2,h3,?_⟩
 rcases h4 with h4 | ⟨b,off,ha,hF,hl,hc⟩
 ·exact .inl h4
 ·exact .inr ⟨b,off,ha,k.sub b hF hl,Nat.lt_of_lt_of_le hl k.size,fun i hi=>(World.cell?_of_block (a:=⟨b,off+i,none⟩) (k.same b hF hl)).trans (hc i hi)⟩
theorem cn.below {F:Nat→Prop}{w w':World}{l:List Int}{y:Value}(h:cn F w l y)(k:Below w.heap.size w w'):cn F w' l y:=h.move (.below k)
theorem bC.lt {w:World}{l:List Int}{y:Value}{fp:List Nat}(h:bC w l y fp) : ∀b∈fp,b<w.heap.size:=by
 obtain⟨a,cap,-,-,-,⟨-,rfl⟩ | ⟨b,cs,T,-,rfl,hb,-⟩⟩:=h
 ·simp
 ·intro x hx;rw[List.mem_singleton] at hx;subst hx;exact(Array.getElem?_eq_some_iff.1 hb).1
theorem bC.ks {w:World}{l:List Int}{y:Value}{fp:List Nat}(h:bC w l y fp) : ∃a n q,y = .slice a n q:=by
 obtain⟨a,cap,rfl,-⟩:=h
 exact⟨a,_,cap,rfl⟩
theorem bC.moveO {w w':World}{l:List Int}{y:Value}{fp:List Nat}(h:bC w l y fp)(k : ∀b∈fp,w'.heap[b]?=w.heap[b]?):bC w' l y fp:=by
 obtain⟨a,cap,h1,h2,h3,h4⟩:=h;refine⟨a,cap,h1,h2,h3,?_⟩
 rcases h4 with h4 | ⟨b,cs,T,ha,rfl,hb,hc⟩
 ·exact .inl h4
 ·have e:=k b (by simp)
  exact .inr ⟨b,cs,T,ha,rfl,e.trans hb,fun i hi=>(World.cell?_of_block (a:=⟨b,i,none⟩) e).trans (hc i hi)⟩
theorem bC.below {w w':World}{l:List Int}{y:Value}{fp:List Nat}(h:bC w l y fp)(k:Below w.heap.size w w'):bC w' l y fp:=h.moveO fun b hb=>k.block b (h.lt b hb)
theorem bC.rep {w:World}{l:List Int}{y:Value}{fp:List Nat}(h:bC w l y fp):cn (· ∈ fp) w l y:=by
 have hlt:=h.lt;obtain⟨a,cap,h1,h2,h3,h4⟩:=h;refine⟨a,cap,h1,h2,h3,?_⟩
 rcases h4 with ⟨h4,-⟩ | ⟨b,cs,T,ha,rfl,hb,hc⟩
 ·exact .inl h4
 ·exact .inr ⟨b,0,ha,by simp,hlt b (by simp),fun i hi=>by rw[Nat.zero_add];exact hc i hi⟩
theorem bC.chg {fp fp':List Nat}{w w':World}{l:List Int}{y:Value}(h:Chg fp w w')(hn : ∀b∈fp',b∉fp)(r:bC w l y fp'):bC w' l y fp':=r.moveO fun b hb=>h.block b (r.lt b hb) (hn b hb)
theorem bC.of_row {w:World}{B n:Nat}{e:TypeId}{l:List Int}{v:Value}(h:w.ownsRow B e 1 v n (l.map (Value.int .i64))) : ∃fp,bC w l v fp∧fp.Nodup∧∀b∈fp,B≤b:=by
 obtain⟨hl,h⟩:=h;have hn:l.length=n:=by simpa using hl
 rcases h with ⟨rfl,rfl⟩ | ⟨g,cap,cur,rfl,hb,hg,hc1,hc2,hs,ht⟩
 ·have:l = []:=List.eq_nil_of_length_eq_zero hn
  subst this
  exact⟨[],⟨none,0,rfl,Nat.le_refl _,Nat.zero_le _,.inl ⟨rfl,rfl⟩⟩,List.nodup_nil,by simp⟩
 ·subst hn
  refine⟨[g],⟨_,cap,rfl,hc1,hc2,.inr ⟨g,cur,e,rfl,rfl,hg,fun i hi=>?_⟩⟩,by simp,by simpa using hb⟩;have h1:(cur.toList.take (l.length*1))[i]?=(l.map (Value.int .i64))[i]?:=by rw[ht]
  rw[List.getElem?_take_of_lt (by omega),Array.getElem?_toList] at h1
  simp[World.cell?,hg,h1,hi]
theorem bC.nilv {w:World}{a:Option Addr}{q:Nat}(hq:q≤maxLen):bC w [] (.slice a 0 q) []:=⟨a,q,rfl,Nat.zero_le _,hq,.inl ⟨rfl,rfl⟩⟩
def ud (l:List Int)(w:World)(e:Ending)(w':World):Prop:=∃v,e = .returned v∧(∃fp,bC w' l v fp∧fp.Nodup∧∀b∈fp,w.heap.size≤b)∧Below w.heap.size w w'
theorem cn.at {F:Nat→Prop}{w wr:World}{l:List Int}{a:Option Addr}{n cap:Nat}(h:cn F w l (.slice a n cap))(hb:Below w.heap.size w wr){i:Nat}(hi:i<l.length) :
  ∃b off,a=some ⟨b,off,none⟩∧b<wr.heap.size∧wr.cell? ⟨b,off+i,none⟩=some (.int .i64 l[i]):=by
 obtain⟨a',cap',he,-,-,h4⟩:=h;simp only[Value.slice.injEq] at he;obtain⟨rfl,-,-⟩:=he
 rcases h4 with rfl | ⟨b,off,ha,hF,hl,hc⟩
 ·simp at hi
 ·exact⟨b,off,ha,Nat.lt_of_lt_of_le hl hb.size,ah hb (hc i hi)⟩
end Go.Proofs.YtfahhonmiimmdaaGreat

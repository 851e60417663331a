/- Worlds that differ in few blocks. And what else its parts name. -/
import Derived.Test.YtfahhonmiimmdaaGreatB8
set_option linter.unusedSimpArgs false
set_option linter.unusedVariables false
set_option maxRecDepth 100000
set_option maxHeartbeats 16000000
namespace Go.Proofs.YtfahhonmiimmdaaGreat
open Go.RowKit
structure Chg (fp:List Nat) (w w':World):Prop where
 os:w'.os=w.os
 tape:w'.tape=w.tape
 output:w'.output=w.output
 size:w.heap.size≤w'.heap.size
 block : ∀k,k<w.heap.size→k∉fp→w'.heap[k]?=w.heap[k]?
theorem Chg.of_below {fp:List Nat}{w w':World}(h:Below w.heap.size w w'):Chg fp w w':=⟨h.os,h.tape,h.output,h.size,fun k hk _=>h.block k hk⟩
theorem Chg.refl (fp:List Nat)(w:World):Chg fp w w:=.of_below (Below.refl _ _)
theorem Chg.trans {fp:List Nat}{w w1 w2:World}(h:Chg fp w w1)(k:Chg fp w1 w2):Chg fp w w2:=
 ⟨k.os.trans h.os,k.tape.trans h.tape,k.output.trans h.output,Nat.le_trans h.size k.size,fun b hb hn=>(k.block b (Nat.lt_of_lt_of_le hb h.size) hn).trans (h.block b hb hn)⟩
theorem Chg.mono {fp fp':List Nat}{w w':World}(h:Chg fp w w')(hs : ∀x∈fp,x∈fp'):Chg fp' w w':=
 ⟨h.os,h.tape,h.output,h.size,fun b hb hn=>h.block b hb (fun hx=>hn (hs b hx))⟩
theorem Chg.setCell {fp:List Nat}{w w':World}(h:Chg fp w w'){p:Addr}(hp:p.block∈fp)(v:Value):Chg fp w (w'.setCell p v):=
 ⟨h.os,h.tape,h.output,by simpa [World.setCell] using h.size,fun b hb hn=>(Below.heap_setCell w' p v b (fun e=>hn (e▸hp))).trans (h.block b hb hn)⟩
theorem Chg.below {fp:List Nat}{w w':World}{B:Nat}(h:Chg fp w w')(hB : ∀x∈fp,B≤x)(hs:B≤w.heap.size):Below B w w':=
 ⟨h.os,h.tape,h.output,h.size,fun k hk=>h.block k (by omega) (fun hx=>by have:=hB k hx;omega)⟩
theorem Chg.cell {fp:List Nat}{w w':World}{a:Addr}{v:Value}(h:Chg fp w w')(hn:a.block∉fp)(hc:w.cell? a=some v):w'.cell? a=some v:=
 (World.cell?_of_block (h.block a.block (World.block_lt_of_cell? _ _ hc) hn)).trans hc
theorem Chg.keeps {fp:List Nat}{w w':World}{F:Nat→Prop}(h:Chg fp w w')(hn : ∀b,F b→b∉fp):bl F F w w':=
 ⟨h.size,fun _ h _=>h,fun b hF hl=>h.block b hl (hn b hF)⟩
theorem ao.chg {fp:List Nat}{w w':World}{F:Nat→Prop}{t:Ty}{y:Value}(h:Chg fp w w')(hn : ∀b,F b→b∉fp)(r:ao F w t y):ao F w' t y:=r.move (h.keeps hn)
theorem Chg.cellne {r:Nat}{w w':World}{a:Addr}{v:Value}(h:Chg [r] w w')(hn:a.block≠r)(hc:w.cell? a=some v):w'.cell? a=some v:=h.cell (by simpa using hn) hc
theorem Chg.frone {r b o:Nat}{w w':World}(h:Chg [r] w w')(hn:b≠r)(hl:b<w.heap.size):w'.frozen? ⟨b,o,none⟩=w.frozen? ⟨b,o,none⟩:=World.frozen?_of_block (a:=⟨b,o,none⟩) (h.block b hl (by simpa using hn))
theorem aK {r b o:Nat}{w w1:World}{v:Value}(h:Chg [r] w w1)(hn:b≠r)(hc:w.cell? ⟨b,o,none⟩=some v):w1.cell? ⟨b,o,none⟩=some v:=h.cellne hn hc
theorem aR {r b o:Nat}{w w1:World}{v:Value}(h:Chg [r] w w1)(hn:b≠r)(hc:w.cell? ⟨b,o,none⟩=some v)(hf:w.frozen? ⟨b,o,none⟩=false):w1.frozen? ⟨b,o,none⟩=false:=
 (h.frone hn (World.block_lt_of_cell? _ _ hc)).trans hf
theorem bchg {B r:Nat}{w w1 w2:World}(h:Below B w w1)(k:Chg [r] w1 w2)(hr:B≤r)(hw:B≤w.heap.size):Below B w w2:=
 ⟨k.os.trans h.os,k.tape.trans h.tape,k.output.trans h.output,Nat.le_trans h.size k.size,fun b hb=>(k.block b (Nat.lt_of_lt_of_le (Nat.lt_of_lt_of_le hb hw) h.size) (by simp;omega)).trans (h.block b hb)⟩
theorem Chg.trans' {r:Nat}{w w':World}(h:Chg [r] w w'){p:Addr}(hp:w.heap.size≤p.block)(v:Value):Chg [r] w (w'.setCell p v):=
 ⟨h.os,h.tape,h.output,by simpa [World.setCell] using h.size,fun b hb hn=>(Below.heap_setCell w' p v b (by omega)).trans (h.block b hb hn)⟩
theorem ao.chgA {r:Nat}{w w':World}{t:Ty}{y:Value}(h:ao (· ≠ r) w t y)(k:Chg [r] w w'):ao (· ≠ r) w' t y:=ao.chg k (fun b hb=>by simpa using hb) h
theorem aA.chgA {r:Nat}{w w':World}{t:List Ty}{y:Value}(h:aA (· ≠ r) w t y)(k:Chg [r] w w'):aA (· ≠ r) w' t y:=h.move (k.keeps (fun b hb=>by simpa using hb))
mutual
def Ty.marks:List Ty→Int→List Ty
 | [],_=> []
 | t :: ts,m=>t.marked m :: Ty.marks ts (m+1+t.cnt)
def Ty.marked:Ty→Int→Ty
 | .mk _ us,m=>.mk m (Ty.marks us (m+1))
end
theorem aG.split {w:World}{b:Nat} : ∀ {off:Nat} {r1 r2:List (List C)} {r:List C} {fp:List Nat},aG w b off (r1++r :: r2) fp →
  ∃f1 f f2,fp=f1++(f++f2)∧aG w b off r1 f1∧b3 w b (off+r1.flatten.length) r f∧aG w b (off+r1.flatten.length+r.length) r2 f2
 | off,[],r2,r,fp,h=>by
  simp only[List.nil_append] at h;unfold aG at h;obtain⟨f1,f2,rfl,h1,h2⟩:=h
  exact⟨[],f1,f2,rfl,by unfold aG;rfl,by simpa using h1,by simpa using h2⟩
 | off,x :: r1,r2,r,fp,h=>by
  simp only[List.cons_append] at h;unfold aG at h;obtain⟨g1,g2,rfl,h1,h2⟩:=h;obtain⟨f1,f,f2,rfl,k1,k2,k3⟩:=aG.split h2;refine⟨g1++f1,f,f2,by simp,?_,?_,?_⟩
  ·unfold aG;exact⟨g1,f1,rfl,h1,k1⟩
  ·rw[List.flatten_cons,List.length_append,←Nat.add_assoc];exact k2
  ·rw[List.flatten_cons,List.length_append,←Nat.add_assoc];exact k3
theorem aG.join {w:World}{b:Nat} : ∀ {off:Nat} {r1 r2:List (List C)} {r:List C} {f1 f f2:List Nat},aG w b off r1 f1→b3 w b (off+r1.flatten.length) r f→aG w b (off+r1.flatten.length+r.length) r2 f2 →
  aG w b off (r1++r :: r2) (f1++(f++f2))
 | off,[],r2,r,f1,f,f2,h,h1,h2=>by
  unfold aG at h;subst h;simp only[List.nil_append];unfold aG
  exact⟨f,f2,rfl,by simpa using h1,by simpa using h2⟩
 | off,x :: r1,r2,r,f1,f,f2,h,h1,h2=>by
  unfold aG at h;obtain⟨g1,g2,rfl,k1,k2⟩:=h;rw[List.flatten_cons,List.length_append,←Nat.add_assoc] at h1 h2;simp only[List.cons_append];unfold aG
  exact⟨g1,g2++(f++f2),by simp,k1,aG.join k2 h1 h2⟩
theorem Ty.rows_append (a b:List Ty):Ty.rows (a++b)=Ty.rows a++Ty.rows b:=by simp[Ty.rows_eq]
theorem Ty.rows_cons (t:Ty)(b:List Ty):Ty.rows (t :: b)=t.row :: Ty.rows b:=by conv=>lhs;unfold Ty.rows
def lm (w:World)(b:Nat)(ts:List Ty)(fps:List Nat):Prop:=(∃cs T,w.heap[b]?=some (.cells cs T (0,0)))∧aG w b 0 (Ty.rows ts) fps∧fps.Nodup∧b∉fps
theorem lm.row {w:World}{b:Nat}{ts1 ts2:List Ty}{t:Ty}{fps:List Nat}(h:lm w b (ts1++t :: ts2) fps) :
  ∃f1 f f2 s,fps=f1++(f++f2)∧aG w b 0 (Ty.rows ts1) f1∧aG w b (ts1.length*2+2) (Ty.rows ts2) f2∧w.cell? ⟨b,ts1.length*2,none⟩=some (.int .i64 t.kind)∧w.cell? ⟨b,ts1.length*2+1,none⟩=some s∧cp w t.kids s f:=by
 obtain⟨_,hr,_,_⟩:=h;rw[Ty.rows_append,Ty.rows_cons] at hr;obtain⟨f1,f,f2,rfl,h1,h2,h3⟩:=aG.split hr;rw[Ty.flatten_length,Nat.zero_add] at h2 h3;rw[Ty.row_length] at h3
 cases t with | mk k us=>
 unfold Ty.row b3 at h2;obtain⟨y,g1,g2,rfl,hy,k1,k2⟩:=h2;unfold aF at k1;obtain⟨rfl,rfl⟩:=k1;unfold b3 at k2;obtain⟨y',g3,g4,rfl,hy',k3,k4⟩:=k2;unfold b3 at k4;subst k4
 exact⟨f1,g3,f2,y',by simp,h1,h3,hy,hy',k3⟩
theorem lm.step {w w':World}{b:Nat}{ts1 ts2 us':List Ty}{t:Ty}{k:Int}{f1 f f2:List Nat}{s:Value}(h:lm w b (ts1++t :: ts2) (f1++(f++f2)))(h1:aG w b 0 (Ty.rows ts1) f1)(h2:aG w b (ts1.length*2+2) (Ty.rows ts2) f2)
  (hs0:w.cell? ⟨b,ts1.length*2,none⟩=some (.int .i64 t.kind)) (hs:w.cell? ⟨b,ts1.length*2+1,none⟩=some s) (hc:Chg f (w.setCell ⟨b,ts1.length*2,none⟩ (.int .i64 k)) w') (hk:cp w' us' s f):lm w' b (ts1++Ty.mk k us' :: ts2) (f1++(f++f2)):=by
 obtain⟨⟨cs,T,hb⟩,_,hd,hn⟩:=h;simp only[List.mem_append,not_or] at hn;have hbl:=(Array.getElem?_eq_some_iff.1 hb).1;have hsz:(w.setCell ⟨b,ts1.length*2,none⟩ (.int .i64 k)).heap.size=w.heap.size:=by simp[World.setCell]
 have hb1:w'.heap[b]?=some (.cells (cs.setIfInBounds (ts1.length*2) (.int .i64 k)) T (0,0)):=(hc.block b (by omega) hn.2.1).trans (cz hb);rw[List.nodup_append,List.nodup_append] at hd;obtain⟨d1,⟨d2,d3,d23⟩,d123⟩:=hd;have old : ∀x,x<w.heap.size→x≠b→x∉f→w'.heap[x]?=w.heap[x]?:=fun x hx hxb hxf=>
  (hc.block x (by omega) hxf).trans (Below.heap_setCell w ⟨b,_,none⟩ _ x hxb)
 have cell : ∀o,o≠ts1.length*2→w'.cell? ⟨b,o,none⟩=w.cell? ⟨b,o,none⟩:=fun o ho=>by
  simp only[World.cell?,hb1,hb]
  simp
  rw[Array.getElem?_setIfInBounds_ne (by omega)]
 have hl':ts1.length*2<cs.size:=by
  simp only[World.cell?,hb] at hs0
  simp at hs0
  exact(Array.getElem?_eq_some_iff.1 hs0).1
 refine⟨⟨_,T,hb1⟩,?_,?_,?_⟩
 ·rw[Ty.rows_append,Ty.rows_cons]
  refine aG.join ?_ ?_ ?_
  ·exact h1.move _ _ _ (fun x hx=>old x (h1.lt _ _ _ x hx) (fun e=>hn.1 (e▸hx)) (fun hf=>d123 x hx x (List.mem_append_left _ hf) rfl)) (fun o _ ho=>cell o (by rw[Ty.flatten_length] at ho;omega))
  ·rw[Ty.flatten_length,Nat.zero_add]
   unfold Ty.row b3;refine⟨_,[],f,by simp,?_,by unfold aF;exact⟨rfl,rfl⟩,?_⟩
   ·simp only[World.cell?,hb1]
    simp
    rw[Array.getElem?_setIfInBounds_self]
    simp;omega
   ·unfold b3
    exact⟨s,f,[],by simp,(cell _ (by omega)).trans hs,hk,by unfold b3;rfl⟩
  ·rw[Ty.flatten_length,Ty.row_length,Nat.zero_add]
   exact h2.move _ _ _ (fun x hx=>old x (h2.lt _ _ _ x hx) (fun e=>hn.2.2 (e▸hx)) (fun hf=>d23 x hf x hx rfl)) (fun o ho _=>cell o (by omega))
 ·rw[List.nodup_append,List.nodup_append];exact⟨d1,⟨d2,d3,d23⟩,d123⟩
 ·simp only[List.mem_append,not_or];exact hn
mutual
def Ty.cons:Ty→Ty→Bool
 | .mk k ts,.mk l us=>k==1||l==1||(k==l&&Ty.conss ts us)
def Ty.conss:List Ty→List Ty→Bool
 | [],[]=>true
 | t :: ts,u :: us=>t.cons u&&Ty.conss ts us
 | _,_=>false
end
theorem Ty.conss_all2 : ∀ts us:List Ty,dA Ty.cons ts us=Ty.conss ts us
 | [],[]=>by unfold Ty.conss;rfl
 | [],_ :: _=>by unfold Ty.conss;rfl
 | _ :: _,[]=>by unfold Ty.conss;rfl
 | t :: ts,u :: us=>by unfold Ty.conss dA;rw[Ty.conss_all2 ts us]
theorem fy (F G:Nat→Prop)(t:Ty) : ∀(u:Ty) (y z:Value) (w:World),ao F w t y→ao G w u z →
  Calls Tryz.prog 24 #[y,z] w fun e w'=>e = .returned (.bool (t.cons u))∧Below w.heap.size w w':=by
 intro u y z w hy hz;have IH : ∀t'∈t.kids,∀u'∈u.kids,∀(W:World) (y z:Value),ao F W t' y→ao G W u' z→Calls Tryz.prog 24 #[y,z] W fun e W'=>e = .returned (.bool (t'.cons u'))∧Below W.heap.size W W':=
  fun t' ht u' _ W y z a b=>fy F G t' u' y z W a b
 obtain⟨a,cap,rfl,h2,h3,h4⟩:=hy.open;obtain⟨c,cap',rfl,g2,g3,g4⟩:=hz.open;clear hy hz
 cases t with | mk k ts=>cases u with | mk l us=>
 simp only[Ty.kind,Ty.kids] at *;have HC:=fun W (h:Below w.heap.size w W)=>oW _ _ F G ts us _ _ W (h4.below h) (g4.below h) Tryz.call24 IH;generalize ts.length=n at *;generalize us.length=m at *;unfold Ty.cons
 by_cases hk1:k=1
 ·subst hk1
  clear HC IH
  go_enter Tryz.func24,Tryz.ntmps24
  go_wp2_with fail
  go_ret
  exact⟨au (by simp),aT⟩
 have g1:(k==1)=false:=by simpa using hk1
 by_cases hl1:l=1
 ·subst hl1
  clear HC IH
  go_enter Tryz.func24,Tryz.ntmps24
  go_wp2_with fail
  go_ret
  exact⟨au (by simp),aT⟩
 have g2:(l==1)=false:=by simpa using hl1
 by_cases hk:k=l
 ·subst hk
  rw[Ty.conss_all2] at HC;generalize Ty.conss ts us=r at *;have H:=zq HC;clear HC IH;clear hl1 hk1
  go_enter Tryz.func24,Tryz.ntmps24
  go_wp2_with fail
  refine(H.out _ aT).mono ?_;rintro e w1 ⟨rfl,hb1⟩
  go_wp2_with fail
  go_ret
  exact⟨au (by simp[g2]),aj aT hb1⟩
 ·have hkl:(k==l)=false:=by simpa using hk
  clear hk HC IH hl1 hk1
  go_enter Tryz.func24,Tryz.ntmps24
  go_wp2_with fail
  go_ret
  exact⟨au (by simp[hkl,g2,g1]),aT⟩
termination_by SizeOf.sizeOf t
decreasing_by exact Ty.kid_lt ht
theorem ef (F G:Nat→Prop)(t:Ty) : ∀(u:Ty) (d d':Int) (y z:Value) (w:World),ao F w t y→ao G w u z→t.shape d=true→u.shape d'=true →
  Calls Tryz.prog 58 #[y,z] w fun e w'=>e = .returned (.bool (t.cons u))∧Below w.heap.size w w':=by
 intro u d d' y z w hy hz sy sz;have IH : ∀t'∈t.kids,∀u'∈u.kids,∀(d d':Int) (W:World) (y z:Value),ao F W t' y→ao G W u' z→t'.shape d=true→u'.shape d'=true→Calls Tryz.prog 58 #[y,z] W fun e W'=>e = .returned (.bool (t'.cons u'))∧Below W.heap.size W W':=
  fun t' ht u' _ d d' W y z a b c e=>ef F G t' u' d d' y z W a b c e
 obtain⟨a,cap,rfl,h2,h3,hy'⟩:=hy.open;obtain⟨c,cap',rfl,g2',g3,hz'⟩:=hz.open;clear hy hz;have IHH:=zq IH;clear IH
 cases t with | mk k ts=>cases u with | mk l us=>
 simp only[Ty.kind,Ty.kids] at *;unfold maxLen at h3 g3;obtain⟨-,st,sst⟩:=Ty.shape_mk sy;obtain⟨-,su,ssu⟩:=Ty.shape_mk sz;have SST:=zq sst;have SSU:=zq ssu;clear sy sz sst ssu;unfold Ty.cons;rw[←Ty.conss_all2];obtain⟨n,hn⟩ : ∃n,ts.length=n:=⟨_,rfl⟩
 obtain⟨m,hm⟩ : ∃m,us.length=m:=⟨_,rfl⟩
 rw[hn] at h2 hy' st ⊢;rw[hm] at g2' hz' su ⊢;have HN:=zq hn;have HM:=zq hm;have ST:=zq st;have SU:=zq su;clear hn hm st su
 by_cases hk1:k=1
 ·subst hk1
  clear IHH
  go_enter Tryz.func58,Tryz.ntmps58
  go_wp2_with fail
  go_ret
  exact⟨au (by simp),aT⟩
 have g1:(k==1)=false:=by simpa using hk1
 by_cases hl1:l=1
 ·subst hl1
  clear IHH
  go_enter Tryz.func58,Tryz.ntmps58
  go_wp2_with fail
  go_ret
  exact⟨au (by simp),aT⟩
 have g2:(l==1)=false:=by simpa using hl1
 by_cases hk:k=l
 ·subst hk
  obtain rfl:n=m:=by have:=ST.out;have:=SU.out;omega
  clear hl1 hk1
  go_enter Tryz.func58,Tryz.ntmps58
  go_wp2_with fail
  go_loopw [5] (fun i wr=>∃j:Nat,j≤n∧i = .int .i64 j∧Below w.heap.size w wr∧wr.cell? ⟨w.heap.size,1,none⟩=some (.slice a n cap)∧wr.cell? ⟨w.heap.size+1,1,none⟩=some (.slice c n cap')∧w.heap.size+1<wr.heap.size∧Hid (dA Ty.cons ts us=dA Ty.cons (ts.drop j) (us.drop j))) (fun i _=>n-(intOf i).toNat)
  case atStart=>exact⟨0,by omega,rfl,aT,by simp,by simp,by simp,rfl⟩
  case round=>
   obtain⟨j,hj,rfl,hbw,hc1,hc2,hsz,hR⟩:=hrel
   by_cases hlt:j<n
   ·have hkt:j<ts.length:=by rw[HN.out];exact hlt
    have hku:j<us.length:=by rw[HM.out];exact hlt
    obtain⟨b,off,k0,a0,m0,q0,rfl,l0,e0,e1,ht⟩:=hy'.at hbw hkt;obtain⟨b',off',k0',a0',m0',q0',rfl,l0',e0',e1',hu⟩:=hz'.at hbw hku;have hcall:=fun W (h:Below wr.heap.size wr W)=>IHH.out ts[j] (List.getElem_mem hkt) us[j] (List.getElem_mem hku) _ _ W _ _ (ht.below h) (hu.below h) (Ty.shapes_mem SST.out (List.getElem_mem hkt)) (Ty.shapes_mem SSU.out (List.getElem_mem hku));have hstep:=hR.out.trans (iQ Ty.cons ts us j hkt hku);generalize ts[j].cons us[j]=r at hcall hstep;have HC:=zq hcall;have HS:=zq hstep;clear hcall hstep hR
    cases r
    all_goals
     go_wp2_with fail
     go_region_held3 (fun w'=>w'.cell? ⟨w.heap.size,1,none⟩=some (.slice (some ⟨b,off,none⟩) n cap)∧w'.cell? ⟨w.heap.size+1,1,none⟩=some (.slice (some ⟨b',off',none⟩) n cap')∧w'.cell? ⟨b,off+j*2,none⟩=some (.int .i64 k0)∧w'.cell? ⟨b,off+j*2+1,none⟩=some (.slice a0 m0 q0)∧w'.cell? ⟨b',off'+j*2,none⟩=some (.int .i64 k0')∧w'.cell? ⟨b',off'+j*2+1,none⟩=some (.slice a0' m0' q0'))
      (first | go_keep | exact⟨cl hb1 hc1,cl hb1 hc2,cl hb1 e0,cl hb1 e1,cl hb1 e0',cl hb1 e1'⟩)
      (first | (go_at_call 58;refine(HC.out _ bdr).mono ?_;rintro e w1 ⟨rfl,hb1⟩))
     go_wp2_with fail
    ·go_ret
     exact⟨au (by rw[HS.out];simpa using g2),oP hbw hb1⟩
    ·go_roundw
     case rel=>exact⟨j+1,by omega,by go_num,oP hbw hb1,cl hb1 hc1,cl hb1 hc2,Nat.lt_of_lt_of_le hsz hb1.size,by rw[Hid,HS.out];rfl⟩
     case measure=>simp[intOf];omega
   ·go_wp2_with fail
    go_ret
    exact⟨au (by rw[hR.out,kT _ _ _ _ (by rw[HN.out];omega) (by rw[HM.out];omega)];simp),hbw⟩
 ·have hkl:(k==l)=false:=by simpa using hk
  have hkl':(k != l)=true:=by simpa using hk
  clear hk hl1 hk1
  go_enter Tryz.func58,Tryz.ntmps58
  go_wp2_with fail
  go_ret
  exact⟨au (by simp[hkl,g2,g1]),aT⟩
termination_by SizeOf.sizeOf t
decreasing_by exact Ty.kid_lt ht
theorem ep (F G:Nat→Prop)(t u:Ty)(y z:Value)(w:World)(hy:ao F w t y)(hz:ao G w u z) :
  Calls Tryz.prog 10 #[y,z] w fun e w'=>e = .returned (.bool (t.valid&&u.valid&&t.cons u))∧Below w.heap.size w w':=by
 obtain⟨k,a,n,q,rfl⟩:=hy.shape;obtain⟨k',a',n',q',rfl⟩:=hz.shape;have HV:=fun W (h:Below w.heap.size w W)=>eS F t _ W (hy.below h);have HU:=fun W (h:Below w.heap.size w W)=>eS G u _ W (hz.below h);have HI:=fun(hv:t.valid=true) (hu:u.valid=true) W (h:Below w.heap.size w W)=>fy F G t u _ _ W (hy.below h) (hz.below h);clear hy hz
 cases hv:t.valid
 ·rw[hv] at HV
  have HH:=zq HV;clear HV HU HI hv
  go_enter Tryz.func10,Tryz.ntmps10
  go_wp2_with fail
  refine(HH.out _ aT).mono ?_;rintro e w1 ⟨rfl,hb1⟩
  go_wp2_with fail
  go_ret
  exact⟨au (by simp),aj aT hb1⟩
 ·rw[hv] at HV
  cases hu:u.valid
  ·rw[hu] at HU
   have HH:=zq HV;have HK:=zq HU;clear HV HU HI hv hu
   go_enter Tryz.func10,Tryz.ntmps10
   go_wp2_with fail
   refine(HH.out _ aT).mono ?_;rintro e w1 ⟨rfl,hb1⟩;obtain⟨hc,hf⟩:=oU hb1
   go_wp2_with fail
   refine(HK.out _ (aj aT hb1)).mono ?_;rintro e w2 ⟨rfl,hb2⟩
   go_wp2_with fail
   go_ret
   exact⟨au (by simp),aj (aj aT hb1) hb2⟩
  ·rw[hu] at HU
   have HI:=HI hv hu;generalize t.cons u=r at *;have HH:=zq HV;have HK:=zq HU;have HJ:=zq HI;clear HV HU HI hv hu
   go_enter Tryz.func10,Tryz.ntmps10
   go_wp2_with fail
   refine(HH.out _ aT).mono ?_;rintro e w1 ⟨rfl,hb1⟩;obtain⟨hc,hf⟩:=oU hb1
   go_wp2_with fail
   refine(HK.out _ (aj aT hb1)).mono ?_;rintro e w2 ⟨rfl,hb2⟩;clear hc hf;obtain⟨hc,hf⟩:=oU (aj hb1 hb2)
   go_wp2_with fail
   refine(HJ.out _ (aj (aj aT hb1) hb2)).mono ?_;rintro e w3 ⟨rfl,hb3⟩
   go_wp2_with fail
   go_ret
   exact⟨au (by simp),aj (aj (aj aT hb1) hb2) hb3⟩
structure Bd where
 name:ByteArray
 ty:Ty
def Bd.row (b:Bd):List C:= [.str b.name,.int b.ty.kind,.sl (Ty.rows b.ty.kids)]
def Bd.rows (l:List Bd):List (List C):=l.map Bd.row
theorem Bd.row_length (b:Bd):b.row.length=3:=rfl
theorem Bd.rows_length (l:List Bd):(Bd.rows l).length=l.length:=by simp[Bd.rows]
def aE (F:Nat→Prop)(w:World)(l:List Bd)(y:Value):Prop:=aH F w (.sl (Bd.rows l)) y
def lh (F:Nat→Prop)(w:World)(b:Bd)(y:Value):Prop:=∃k c m q,y = .agg #[.string b.name,.int .i64 k,.slice c m q]∧b.name.size≤maxLen∧ao F w b.ty (.agg #[.int .i64 k,.slice c m q])
theorem aE.move {F G:Nat→Prop}{w w':World}{l:List Bd}{y:Value}(h:aE F w l y)(k:bl F G w w'):aE G w' l y:=aH.move k _ _ h
theorem aE.below {F:Nat→Prop}{w w':World}{l:List Bd}{y:Value}(h:aE F w l y)(k:Below w.heap.size w w'):aE F w' l y:=h.move (.below k)
theorem lh.below {F:Nat→Prop}{w w':World}{b:Bd}{y:Value}(h:lh F w b y)(k:Below w.heap.size w w'):lh F w' b y:=
 let ⟨a,c,m,q,h1,h2,h3⟩:=h;⟨a,c,m,q,h1,h2,h3.below k⟩
theorem aE.open {F:Nat→Prop}{w:World}{l:List Bd}{y:Value}(h:aE F w l y) :
  ∃(a:Option Addr) (cap:Nat),y = .slice a l.length cap∧l.length≤cap∧cap≤maxLen ∧
   ∀i (h:i<l.length),∃b off k c m q,a=some ⟨b,off,none⟩∧w.cell? ⟨b,off+i*3,none⟩=some (.string l[i].name)∧l[i].name.size≤maxLen∧w.cell? ⟨b,off+i*3+1,none⟩=some (.int .i64 k)∧w.cell? ⟨b,off+i*3+2,none⟩=some (.slice c m q)∧ao F w l[i].ty (.agg #[.int .i64 k,.slice c m q]):=by
 obtain⟨a,cap,h1,h2,h3,h4⟩:=aH.rows h;rw[Bd.rows_length] at h1 h2;refine⟨a,cap,h1,h2,h3,fun i hi=>?_⟩
 rcases h4 with h4 | ⟨b,off,ha,hF,hl,hr⟩
 ·rw[←Bd.rows_length,h4] at hi;exact absurd hi (Nat.not_lt_zero _)
 ·have hc:=hr.get (m:=3) (fun r hr=>by obtain⟨t,_,rfl⟩:=List.mem_map.1 hr;rfl) i (by rw[Bd.rows_length];exact hi)
  have he:(Bd.rows l)[i]'(by rw[Bd.rows_length];exact hi)=l[i].row:=by simp[Bd.rows]
  rw[he] at hc;unfold Bd.row aM at hc;obtain⟨⟨y0,hy0,hc0⟩,hc⟩:=hc;unfold aM at hc;obtain⟨⟨y1,hy1,hc1⟩,hc⟩:=hc;unfold aM at hc;obtain⟨⟨y2,hy2,hc2⟩,_⟩:=hc;obtain⟨e0,z0⟩:=aH.str_eq hc0;rw[e0] at hy0;rw[aH.int_eq hc1] at hy1;obtain⟨c,q,rfl,_⟩:=aH.rows hc2
  exact⟨b,off,_,c,_,q,ha,hy0,z0,hy1,hy2,_,rfl,hc2⟩
theorem aE.shape {F:Nat→Prop}{w:World}{l:List Bd}{y:Value}(h:aE F w l y) : ∃a n q,y = .slice a n q:=by
 obtain⟨a,q,rfl,_⟩:=h.open
 exact⟨a,_,q,rfl⟩
theorem lh.shape {F:Nat→Prop}{w:World}{b:Bd}{y:Value}(h:lh F w b y) : ∃s k a n q,y = .agg #[.string s,.int .i64 k,.slice a n q]:=by
 obtain⟨k,c,m,q,rfl,_⟩:=h
 exact⟨_,k,c,m,q,rfl⟩
theorem aE.at {F:Nat→Prop}{w wr:World}{l:List Bd}{a:Option Addr}{n cap:Nat}(h:aE F w l (.slice a n cap))(hb:Below w.heap.size w wr){i:Nat}(hi:i<l.length) :
  ∃b off k c m q,a=some ⟨b,off,none⟩∧b<wr.heap.size∧wr.cell? ⟨b,off+i*3,none⟩=some (.string l[i].name)∧l[i].name.size≤maxLen∧wr.cell? ⟨b,off+i*3+1,none⟩=some (.int .i64 k)∧wr.cell? ⟨b,off+i*3+2,none⟩=some (.slice c m q)∧ao F wr l[i].ty (.agg #[.int .i64 k,.slice c m q]):=by
 obtain⟨a',cap',he,_,_,hg⟩:=h.open;simp only[Value.slice.injEq] at he;obtain⟨rfl,_,rfl⟩:=he;obtain⟨b,off,k,c,m,q,ha,h0,hz,h1,h2,ht⟩:=hg i hi;have e0:=ah hb h0
 exact⟨b,off,k,c,m,q,ha,World.block_lt_of_cell? wr _ e0,e0,hz,ah hb h1,ah hb h2,ht.below hb⟩
def Bd.cnt (b:Bd):Nat:=b.name.size+b.ty.cnt
def Bd.cs:List Bd→Nat
 | []=>0
 | b :: l=>b.cnt+Bd.cs l
def Bd.cnts (l:List Bd):Nat:=l.length+Bd.cs l
theorem Bd.cnt_mem : ∀ {l:List Bd} {b:Bd},b∈l→b.cnt≤Bd.cs l
 | u :: l,b,h=>by
  rcases List.mem_cons.1 h with rfl | h
  ·simp only[Bd.cs];omega
  ·have:=Bd.cnt_mem h;simp only[Bd.cs];omega
def jL (B:Nat)(w:World)(b:Bd)(y:Value):Prop:=∃k c m q fp,y = .agg #[.string b.name,.int .i64 k,.slice c m q]∧bf w b.row [.string b.name,.int .i64 k,.slice c m q] fp∧fp.Nodup∧∀x∈fp,B≤x
def fj (B:Nat)(w:World)(l:List Bd)(y:Value):Prop:=∃fp,aF w (.sl (Bd.rows l)) y fp∧fp.Nodup∧∀b∈fp,B≤b
theorem fj.rep {B:Nat}{w:World}{l:List Bd}{y:Value}(h:fj B w l y):aE (B ≤ ·) w l y:=
 let ⟨_,h1,_,h3⟩:=h;aF.rep _ _ _ (fun b hb=>h3 b hb) h1
theorem fj.below {B:Nat}{w w':World}{l:List Bd}{y:Value}(h:fj B w l y)(k:Below w.heap.size w w'):fj B w' l y:=
 let ⟨fp,h1,h2,h3⟩:=h;⟨fp,aF.move _ _ _ (fun b hb=>k.block b (aF.lt _ _ _ h1 b hb)) h1,h2,h3⟩
theorem fj.shape {B:Nat}{w:World}{l:List Bd}{y:Value}(h:fj B w l y) : ∃a n q,y = .slice a n q:=h.rep.shape
theorem bT.bd {w:World}{t:Ty}{k:Int}{m q:Nat}{a:Option Addr}{fp:List Nat}{s:ByteArray}(hs:s.size≤maxLen)(h:bf w t.row [.int .i64 k,.slice a m q] fp) :
  bf w (Bd.mk s t).row [.string s,.int .i64 k,.slice a m q] fp:=by
 cases t with | mk k' ts=>
 unfold Ty.row at h
 exact⟨_,_,[],fp,rfl,rfl,by unfold aF;exact⟨rfl,hs,rfl⟩,h⟩
theorem Bd.flatten_length (l:List Bd):(Bd.rows l).flatten.length=l.length*3:=by
 induction l with
 | nil=>rfl
 | cons t ts ih=>unfold Bd.rows at ih ⊢;rw[List.map_cons,List.flatten_cons,List.length_append,ih,t.row_length,List.length_cons];omega
theorem jL.setCell {B:Nat}{w:World}{b:Bd}{y:Value}(h:jL B w b y){p:Addr}(hp:p.block<B)(v:Value):jL B (w.setCell p v) b y:=by
 obtain⟨k,c,m,q,fp,rfl,h1,h2,h3⟩:=h
 exact⟨k,c,m,q,fp,rfl,h1.move _ _ _ (fun b hb=>Below.heap_setCell w p v b (by have:=h3 b hb;omega)),h2,h3⟩
theorem jL.mono {B B':Nat}{w:World}{b:Bd}{y:Value}(h:jL B w b y)(hB:B'≤B):jL B' w b y:=by
 obtain⟨k,c,m,q,fp,rfl,h1,h2,h3⟩:=h
 exact⟨k,c,m,q,fp,rfl,h1,h2,fun b hb=>Nat.le_trans hB (h3 b hb)⟩
def Bd.same (a b:Bd):Bool:=(a.name.toList==b.name.toList)&&a.ty.same b.ty
def Bd.ok (b:Bd):Bool:=aJ b.name&&b.ty.valid
def ctxB (l:List Bd):Bool:=decide (l.length≤12)&&l.all Bd.ok
theorem ao.leaf {w:World}(k:Int):ao (fun _=>True) w (Ty.mk k []) (.agg #[.int .i64 k,.slice none 0 0]):=by
 refine⟨_,rfl,?_⟩;unfold aA Ty.kids Ty.rows aH
 exact⟨none,0,rfl,Nat.le_refl _,by unfold maxLen;omega,.inl rfl⟩
theorem ao.parts {F:Nat→Prop}{w:World}{t:Ty}{k:Int}{c:Value}(h:ao F w t (.agg #[.int .i64 k,c])):t.kind=k∧aH F w (.sl (Ty.rows t.kids)) c:=by
 obtain⟨s,he,hs⟩:=h;simp only[Value.agg.injEq,Array.mk.injEq,List.cons.injEq,Value.int.injEq,true_and,and_true] at he;obtain⟨rfl,rfl⟩:=he
 exact⟨rfl,hs⟩
theorem ao.two_mk {F:Nat→Prop}{w:World}{b cap:Nat}{k:Int}{t u:Ty}{k1 k2:Int}{c1 c2:Value}(hF:F b)(hc:2≤cap)(hm:cap≤maxLen)
  (e0:w.cell? ⟨b,0,none⟩=some (.int .i64 k1)) (e1:w.cell? ⟨b,1,none⟩=some c1) (e2:w.cell? ⟨b,2,none⟩=some (.int .i64 k2)) (e3:w.cell? ⟨b,3,none⟩=some c2)
  (ht:ao F w t (.agg #[.int .i64 k1,c1])) (hu:ao F w u (.agg #[.int .i64 k2,c2])):ao F w (Ty.mk k [t,u]) (.agg #[.int .i64 k,.slice (some ⟨b,0,none⟩) 2 cap]):=by
 refine⟨_,rfl,?_⟩;obtain⟨p1,p2⟩:=ht.parts;obtain⟨p3,p4⟩:=hu.parts
 cases t with | mk k1' ts=>cases u with | mk k2' us=>
 simp only[Ty.kind,Ty.kids] at *;subst p1 p3;unfold aA aH;refine⟨_,cap,by simp[Ty.rows_length],by rw[Ty.rows_length];simpa using hc,hm,.inr ⟨b,0,rfl,hF,World.block_lt_of_cell? _ _ e0,?_⟩⟩;simp only[Ty.rows,Ty.row];unfold b9;refine⟨?_,?_⟩
 ·unfold aM
  refine⟨⟨_,e0,by unfold aH;rfl⟩,?_⟩;unfold aM
  exact⟨⟨_,e1,p2⟩,by unfold aM;trivial⟩
 ·unfold b9
  refine⟨?_,by unfold b9;trivial⟩;unfold aM;refine⟨⟨_,e2,by unfold aH;rfl⟩,?_⟩;unfold aM
  exact⟨⟨_,e3,p4⟩,by unfold aM;trivial⟩
end Go.Proofs.YtfahhonmiimmdaaGreat

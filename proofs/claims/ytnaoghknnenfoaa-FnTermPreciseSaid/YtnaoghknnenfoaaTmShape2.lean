/-
  The shape of a term, by the reference.
-/
import Derived.Test.YtnaoghknnenfoaaB5
set_option linter.unusedSimpArgs false
set_option linter.unusedVariables false
set_option maxRecDepth 100000
namespace Go.Proofs.Ytnaoghknnenfoaa
open Go.RowKit
theorem kI (k d:Int)(m:Nat)(ow rk:Bool)(h0:(decide (d<1))=true):(false:Bool)=(decide (1≤d) && !(k==14)&&((aJ k==(m:Int))&&ow)&&rk):=by
 first | (simp_all;done) | (simp_all;omega) | grind
theorem lf (k d:Int)(m:Nat)(ow rk:Bool)(h0:(decide (d<1))=false)(h1:((aJ k)==(m:Int))=true)(h2:(k==14)=true):(false:Bool)=(decide (1≤d) && !(k==14)&&((aJ k==(m:Int))&&ow)&&rk):=by
 first | (simp_all;done) | (simp_all;omega) | grind
theorem l8 (k d:Int)(m:Nat)(ow rk:Bool)(h0:(decide (d<1))=false)(h1:((aJ k)==(m:Int))=true)(h2:(k==14)=false)(h3:(ow)=true)(h4:rk=false):(false:Bool)=(decide (1≤d) && !(k==14)&&((aJ k==(m:Int))&&ow)&&rk):=by
 first | (simp_all;done) | (simp_all;omega) | grind
theorem kF (k d:Int)(m:Nat)(ow rk:Bool)(h0:(decide (d<1))=false)(h1:((aJ k)==(m:Int))=true)(h2:(k==14)=false)(h3:(ow)=true)(h4:rk=true):(true:Bool)=(decide (1≤d) && !(k==14)&&((aJ k==(m:Int))&&ow)&&rk):=by
 first | (simp_all;done) | (simp_all;omega) | grind
theorem kM (k d:Int)(m:Nat)(ow rk:Bool)(h0:(decide (d<1))=false)(h1:((aJ k)==(m:Int))=true)(h2:(k==14)=false)(h3:(ow)=false):(false:Bool)=(decide (1≤d) && !(k==14)&&((aJ k==(m:Int))&&ow)&&rk):=by
 first | (simp_all;done) | (simp_all;omega) | grind
theorem kC (k d:Int)(m:Nat)(ow rk:Bool)(h0:(decide (d<1))=false)(h1:((aJ k)==(m:Int))=false):(false:Bool)=(decide (1≤d) && !(k==14)&&((aJ k==(m:Int))&&ow)&&rk):=by
 first | (simp_all;done) | (simp_all;omega) | grind
set_option maxHeartbeats 8000000 in
theorem i5 (F:Nat→Prop)(t:Tm) : ∀(d:Int) (y:Value) (w:World),az F w t y→0≤d→d≤100 →
  Calls Try.prog 34 #[y,.int .i64 d] w fun e w'=>e = .returned (.bool (t.shape 14 d))∧Below w.heap.size w w':=by
 intro d y w hy hd0 hd5
 have IH : ∀t'∈t.kids,∀(d:Int) (y:Value) (W:World),az F W t' y→0≤d→d≤100→Calls Try.prog 34 #[y,.int .i64 d] W fun e W'=>e = .returned (.bool (t'.shape 14 d))∧Below W.heap.size W W':=
  fun t' ht d y W a b c=>i5 F t' d y W a b c
 have ho:=fun(hk:(t.kind==14)=false) W (h:Below w.heap.size w W)=>pE F t y W (hy.below h) hk
 obtain⟨k,nm,u,tk,ta,tn,tq,fk,fa,fn,fq,l,c,m,q,rfl⟩:=hy.shape
 obtain⟨r1,r2,r3,r4,r5,r6,r7,r8,r9,rn,rm,rq,hty,hsr,hks⟩:=hy.parts
 cases t with | mk kk nn uu tt ff ll ts=>
 simp only [Tm.kind,Tm.name,Tm.num,Tm.type,Tm.src,Tm.label,Tm.kids] at *
 subst r1 r2 r3 r8
 unfold Tm.shape
 generalize (Tm.mk k nm u tt ff l ts).ownB=ow at *
 obtain⟨rk,hrk⟩ : ∃r,r=Tm.shapes ts 14 (d-1):=⟨_,rfl⟩
 rw [←hrk,←r9]
 have HN:=Lib.hid r9
 have HRK:=Lib.hid hrk
 have HO:=Lib.hid ho
 have IHH:=Lib.hid IH
 unfold maxLen at rq
 clear hrk ho IH hy r9 r4 r5 r6 r7 rn hty hsr
 obtain⟨rr,hrr⟩ : ∃rr0:Bool,(decide (1≤d) && !(k==14)&&((aJ k==(m:Int))&&ow)&&rk)=rr0:=⟨_,rfl⟩
 rw [hrr]
 have HT:=Lib.hid hrr
 clear hrr
 go_enter Try.func34,Try.ntmps34
 rcases Bool.eq_false_or_eq_true (decide (d<1)) with q1 | q1
 ·skip
  go_wp2_with fail
  refine wp_region_noPanic ?_
  refine wp_region_held_drew (S:=fun w'=>True) (by kernel_rfl) ?_ (fun hHeld0=>?_)
  ·exact trivial
  refine wpAnyH_take (i:=0) (oi:={ dst:=some 6,op:=Op.move (Operand.tmp 1),type:=3,pos:= "l2_terms.go:44",after:=#[],guard:=none }) (v:=.int .i64 d) rfl (by kernel_rfl) (by kernel_rfl) (by kernel_rfl) (fun _ _ _ h=>h) (Or.inl ⟨by rfl,?_⟩) hHeld0 ?_
  ·intro w' hSw;(try dsimp only at hSw);go_simp
  (try simp only [Act.put,List.setIfInBounds_toArray,List.set_cons_zero,List.set_cons_succ])
  refine wpAnyH_take (i:=1) (oi:={ dst:=some 7,op:=Op.binOp BinOp.lss 3 (Operand.tmp 6) (Operand.const (Value.int IntKind.i64 1)) 3,type:=4,pos:= "l2_terms.go:44",after:=#[{ on:=0,ground:=Ground.data }],guard:=none }) (v:=.bool true) rfl (by kernel_rfl) (by kernel_rfl) (by kernel_rfl) (fun _ _ _ h=>h) (Or.inl ⟨by rfl,?_⟩) hHeld0 ?_
  ·intro w' hSw;(try dsimp only at hSw);go_simp
  (try simp only [Act.put,List.setIfInBounds_toArray,List.set_cons_zero,List.set_cons_succ])
  refine wpAnyH_take (i:=2) (oi:={ dst:=some 8,op:=Op.move (Operand.tmp 7),type:=4,pos:= "l2_terms.go:44",after:=#[{ on:=1,ground:=Ground.data }],guard:=none }) (v:=.bool true) rfl (by kernel_rfl) (by kernel_rfl) (by kernel_rfl) (fun _ _ _ h=>h) (Or.inl ⟨by rfl,?_⟩) hHeld0 ?_
  ·intro w' hSw;(try dsimp only at hSw);go_simp
  (try simp only [Act.put,List.setIfInBounds_toArray,List.set_cons_zero,List.set_cons_succ])
  refine wpAnyH_take (i:=3) (oi:={ dst:=some 9,op:=Op.fieldAddr 28 (Operand.tmp 2) 0,type:=0,pos:= "l2_terms.go:44",after:=#[{ on:=2,ground:=Ground.guard }],guard:=some (2,false) }) (v:=undef) rfl (by kernel_rfl) (by kernel_rfl) (by kernel_rfl) (fun _ _ _ h=>h) (Or.inr ⟨by rfl,rfl⟩) hHeld0 ?_
  (try simp only [Act.put,List.setIfInBounds_toArray,List.set_cons_zero,List.set_cons_succ])
  refine wpAnyH_take (i:=4) (oi:={ dst:=some 10,op:=Op.load 3 (Operand.tmp 9),type:=3,pos:= "l2_terms.go:44",after:=#[{ on:=3,ground:=Ground.data },{ on:=2,ground:=Ground.guard }],guard:=some (2,false) }) (v:=undef) rfl (by kernel_rfl) (by kernel_rfl) (by kernel_rfl) (fun _ _ _ h=>h) (Or.inr ⟨by rfl,rfl⟩) hHeld0 ?_
  (try simp only [Act.put,List.setIfInBounds_toArray,List.set_cons_zero,List.set_cons_succ])
  refine wpAnyH_take (i:=5) (oi:={ dst:=some 11,op:=Op.call { callee:=Callee.value (Operand.func 55),args:=#[Operand.tmp 10],argTypes:=#[3] },type:=3,pos:= "l2_terms.go:44",after:=#[{ on:=4,ground:=Ground.data },{ on:=2,ground:=Ground.chain },{ on:=2,ground:=Ground.guard }],guard:=some (2,false) }) (v:=undef) rfl (by kernel_rfl) (by kernel_rfl) (by kernel_rfl) (fun _ _ _ h=>h) (Or.inr ⟨by rfl,rfl⟩) hHeld0 ?_
  (try simp only [Act.put,List.setIfInBounds_toArray,List.set_cons_zero,List.set_cons_succ])
  refine wpAnyH_take (i:=6) (oi:={ dst:=some 12,op:=Op.fieldAddr 28 (Operand.tmp 2) 6,type:=0,pos:= "l2_terms.go:44",after:=#[{ on:=2,ground:=Ground.guard }],guard:=some (2,false) }) (v:=undef) rfl (by kernel_rfl) (by kernel_rfl) (by kernel_rfl) (fun _ _ _ h=>h) (Or.inr ⟨by rfl,rfl⟩) hHeld0 ?_
  (try simp only [Act.put,List.setIfInBounds_toArray,List.set_cons_zero,List.set_cons_succ])
  refine wpAnyH_take (i:=7) (oi:={ dst:=some 13,op:=Op.load 26 (Operand.tmp 12),type:=26,pos:= "l2_terms.go:44",after:=#[{ on:=6,ground:=Ground.data },{ on:=2,ground:=Ground.guard }],guard:=some (2,false) }) (v:=undef) rfl (by kernel_rfl) (by kernel_rfl) (by kernel_rfl) (fun _ _ _ h=>h) (Or.inr ⟨by rfl,rfl⟩) hHeld0 ?_
  (try simp only [Act.put,List.setIfInBounds_toArray,List.set_cons_zero,List.set_cons_succ])
  refine wpAnyH_take (i:=8) (oi:={ dst:=some 14,op:=Op.call { callee:=Callee.builtin Builtin.len,args:=#[Operand.tmp 13],argTypes:=#[26] },type:=3,pos:= "l2_terms.go:44",after:=#[{ on:=7,ground:=Ground.data },{ on:=2,ground:=Ground.guard }],guard:=some (2,false) }) (v:=undef) rfl (by kernel_rfl) (by kernel_rfl) (by kernel_rfl) (fun _ _ _ h=>h) (Or.inr ⟨by rfl,rfl⟩) hHeld0 ?_
  (try simp only [Act.put,List.setIfInBounds_toArray,List.set_cons_zero,List.set_cons_succ])
  refine wpAnyH_take (i:=9) (oi:={ dst:=some 15,op:=Op.binOp BinOp.neq 3 (Operand.tmp 11) (Operand.tmp 14) 3,type:=4,pos:= "l2_terms.go:44",after:=#[{ on:=5,ground:=Ground.data },{ on:=8,ground:=Ground.data },{ on:=2,ground:=Ground.guard }],guard:=some (2,false) }) (v:=undef) rfl (by kernel_rfl) (by kernel_rfl) (by kernel_rfl) (fun _ _ _ h=>h) (Or.inr ⟨by rfl,rfl⟩) hHeld0 ?_
  (try simp only [Act.put,List.setIfInBounds_toArray,List.set_cons_zero,List.set_cons_succ])
  refine wpAnyH_take (i:=10) (oi:={ dst:=some 16,op:=Op.pick (Operand.tmp 8) (Operand.const (Value.bool true)) (Operand.tmp 15),type:=4,pos:= "l2_terms.go:44",after:=#[{ on:=2,ground:=Ground.data },{ on:=9,ground:=Ground.data }],guard:=none }) (v:=.bool true) rfl (by kernel_rfl) (by kernel_rfl) (by kernel_rfl) (fun _ _ _ h=>h) (Or.inl ⟨by rfl,?_⟩) hHeld0 ?_
  ·intro w' hSw;(try dsimp only at hSw);go_simp
  (try simp only [Act.put,List.setIfInBounds_toArray,List.set_cons_zero,List.set_cons_succ])
  refine wpAnyH_take (i:=11) (oi:={ dst:=some 17,op:=Op.move (Operand.tmp 16),type:=4,pos:= "l2_terms.go:44",after:=#[{ on:=10,ground:=Ground.data },{ on:=5,ground:=Ground.chain }],guard:=none }) (v:=.bool true) rfl (by kernel_rfl) (by kernel_rfl) (by kernel_rfl) (fun _ _ _ h=>h) (Or.inl ⟨by rfl,?_⟩) hHeld0 ?_
  ·intro w' hSw;(try dsimp only at hSw);go_simp
  (try simp only [Act.put,List.setIfInBounds_toArray,List.set_cons_zero,List.set_cons_succ])
  refine wpAnyH_take (i:=12) (oi:={ dst:=some 18,op:=Op.fieldAddr 28 (Operand.tmp 2) 0,type:=0,pos:= "l2_terms.go:44",after:=#[{ on:=11,ground:=Ground.guard }],guard:=some (11,false) }) (v:=undef) rfl (by kernel_rfl) (by kernel_rfl) (by kernel_rfl) (fun _ _ _ h=>h) (Or.inr ⟨by rfl,rfl⟩) hHeld0 ?_
  (try simp only [Act.put,List.setIfInBounds_toArray,List.set_cons_zero,List.set_cons_succ])
  refine wpAnyH_take (i:=13) (oi:={ dst:=some 19,op:=Op.load 3 (Operand.tmp 18),type:=3,pos:= "l2_terms.go:44",after:=#[{ on:=12,ground:=Ground.data },{ on:=11,ground:=Ground.guard }],guard:=some (11,false) }) (v:=undef) rfl (by kernel_rfl) (by kernel_rfl) (by kernel_rfl) (fun _ _ _ h=>h) (Or.inr ⟨by rfl,rfl⟩) hHeld0 ?_
  (try simp only [Act.put,List.setIfInBounds_toArray,List.set_cons_zero,List.set_cons_succ])
  refine wpAnyH_take (i:=14) (oi:={ dst:=some 20,op:=Op.binOp BinOp.eql 3 (Operand.tmp 19) (Operand.const (Value.int IntKind.i64 14)) 3,type:=4,pos:= "l2_terms.go:44",after:=#[{ on:=13,ground:=Ground.data },{ on:=11,ground:=Ground.guard }],guard:=some (11,false) }) (v:=undef) rfl (by kernel_rfl) (by kernel_rfl) (by kernel_rfl) (fun _ _ _ h=>h) (Or.inr ⟨by rfl,rfl⟩) hHeld0 ?_
  (try simp only [Act.put,List.setIfInBounds_toArray,List.set_cons_zero,List.set_cons_succ])
  refine wpAnyH_take (i:=15) (oi:={ dst:=some 21,op:=Op.pick (Operand.tmp 17) (Operand.const (Value.bool true)) (Operand.tmp 20),type:=4,pos:= "l2_terms.go:44",after:=#[{ on:=11,ground:=Ground.data },{ on:=14,ground:=Ground.data }],guard:=none }) (v:=.bool true) rfl (by kernel_rfl) (by kernel_rfl) (by kernel_rfl) (fun _ _ _ h=>h) (Or.inl ⟨by rfl,?_⟩) hHeld0 ?_
  ·intro w' hSw;(try dsimp only at hSw);go_simp
  (try simp only [Act.put,List.setIfInBounds_toArray,List.set_cons_zero,List.set_cons_succ])
  refine wpAnyH_take (i:=16) (oi:={ dst:=some 22,op:=Op.move (Operand.tmp 21),type:=4,pos:= "l2_terms.go:44",after:=#[{ on:=15,ground:=Ground.data },{ on:=11,ground:=Ground.chain }],guard:=none }) (v:=.bool true) rfl (by kernel_rfl) (by kernel_rfl) (by kernel_rfl) (fun _ _ _ h=>h) (Or.inl ⟨by rfl,?_⟩) hHeld0 ?_
  ·intro w' hSw;(try dsimp only at hSw);go_simp
  (try simp only [Act.put,List.setIfInBounds_toArray,List.set_cons_zero,List.set_cons_succ])
  refine wpAnyH_take (i:=17) (oi:={ dst:=some 23,op:=Op.load 28 (Operand.tmp 2),type:=28,pos:= "l2_terms.go:44",after:=#[{ on:=16,ground:=Ground.guard }],guard:=some (16,false) }) (v:=undef) rfl (by kernel_rfl) (by kernel_rfl) (by kernel_rfl) (fun _ _ _ h=>h) (Or.inr ⟨by rfl,rfl⟩) hHeld0 ?_
  (try simp only [Act.put,List.setIfInBounds_toArray,List.set_cons_zero,List.set_cons_succ])
  refine wpAnyH_take (i:=18) (oi:={ dst:=some 24,op:=Op.call { callee:=Callee.value (Operand.func 56),args:=#[Operand.tmp 23],argTypes:=#[28] },type:=4,pos:= "l2_terms.go:44",after:=#[{ on:=17,ground:=Ground.data },{ on:=16,ground:=Ground.chain },{ on:=16,ground:=Ground.guard }],guard:=some (16,false) }) (v:=undef) rfl (by kernel_rfl) (by kernel_rfl) (by kernel_rfl) (fun _ _ _ h=>h) (Or.inr ⟨by rfl,rfl⟩) hHeld0 ?_
  (try simp only [Act.put,List.setIfInBounds_toArray,List.set_cons_zero,List.set_cons_succ])
  refine wpAnyH_take (i:=19) (oi:={ dst:=some 25,op:=Op.unOp UnOp.not 4 (Operand.tmp 24),type:=4,pos:= "l2_terms.go:44",after:=#[{ on:=18,ground:=Ground.data },{ on:=16,ground:=Ground.guard }],guard:=some (16,false) }) (v:=undef) rfl (by kernel_rfl) (by kernel_rfl) (by kernel_rfl) (fun _ _ _ h=>h) (Or.inr ⟨by rfl,rfl⟩) hHeld0 ?_
  (try simp only [Act.put,List.setIfInBounds_toArray,List.set_cons_zero,List.set_cons_succ])
  refine wpAnyH_take (i:=20) (oi:={ dst:=some 26,op:=Op.pick (Operand.tmp 22) (Operand.const (Value.bool true)) (Operand.tmp 25),type:=4,pos:= "l2_terms.go:44",after:=#[{ on:=16,ground:=Ground.data },{ on:=19,ground:=Ground.data }],guard:=none }) (v:=.bool true) rfl (by kernel_rfl) (by kernel_rfl) (by kernel_rfl) (fun _ _ _ h=>h) (Or.inl ⟨by rfl,?_⟩) hHeld0 ?_
  ·intro w' hSw;(try dsimp only at hSw);go_simp
  (try simp only [Act.put,List.setIfInBounds_toArray,List.set_cons_zero,List.set_cons_succ])
  refine wpAnyH_done (by kernel_rfl) ?_ _
  refine NoPanic.normal ?_
  clear hHeld0
  go_wp2_with fail
  refine bodyPost_ret (v:=.bool (false)) (by simp [results,Try.results34,go_sem,bne]) rfl ?_
  exact⟨au ((kI k d m ow rk q1).trans HT.out),ah.drew⟩
 ·skip
  rcases Bool.eq_false_or_eq_true ((aJ k)==(m:Int)) with q2 | q2
  ·skip
   have nq2:((aJ k) != (m:Int))=false:=by simp only [bne,q2];rfl
   rcases Bool.eq_false_or_eq_true (k==14) with q3 | q3
   ·skip
    have nq3:(k != 14)=false:=by simp only [bne,q3];rfl
    go_wp2_with fail
    have s0_:(World.alloc w (Obj.cells #[.int .i64 k,.string nm,.int .i64 u,.int .i64 tk,.slice ta tn tq,.int .i64 fk,.slice fa fn fq,.int .i64 l,.slice c m q] 28)).cell? ⟨w.heap.size,0,none⟩=some (.int .i64 k):=aj (by simp) 0
    have s1_:(World.alloc w (Obj.cells #[.int .i64 k,.string nm,.int .i64 u,.int .i64 tk,.slice ta tn tq,.int .i64 fk,.slice fa fn fq,.int .i64 l,.slice c m q] 28)).cell? ⟨w.heap.size,8,none⟩=some (.slice c m q):=aj (by simp) 8
    refine wp_region_noPanic ?_
    refine wp_region_held_drew (S:=fun w'=>w'.cell? ⟨w.heap.size,0,none⟩=some (.int .i64 k)∧w'.cell? ⟨w.heap.size,8,none⟩=some (.slice c m q)) (by kernel_rfl) ?_ (fun hHeld0=>?_)
    ·exact⟨ay (s0_),ay (s1_)⟩
    refine wpAnyH_take (i:=0) (oi:={ dst:=some 6,op:=Op.move (Operand.tmp 1),type:=3,pos:= "l2_terms.go:44",after:=#[],guard:=none }) (v:=.int .i64 d) rfl (by kernel_rfl) (by kernel_rfl) (by kernel_rfl) (fun _ _ _ h=>h) (Or.inl ⟨by rfl,?_⟩) hHeld0 ?_
    ·intro w' hSw;(try dsimp only at hSw);go_simp
    (try simp only [Act.put,List.setIfInBounds_toArray,List.set_cons_zero,List.set_cons_succ])
    refine wpAnyH_take (i:=1) (oi:={ dst:=some 7,op:=Op.binOp BinOp.lss 3 (Operand.tmp 6) (Operand.const (Value.int IntKind.i64 1)) 3,type:=4,pos:= "l2_terms.go:44",after:=#[{ on:=0,ground:=Ground.data }],guard:=none }) (v:=.bool false) rfl (by kernel_rfl) (by kernel_rfl) (by kernel_rfl) (fun _ _ _ h=>h) (Or.inl ⟨by rfl,?_⟩) hHeld0 ?_
    ·intro w' hSw;(try dsimp only at hSw);go_simp
    (try simp only [Act.put,List.setIfInBounds_toArray,List.set_cons_zero,List.set_cons_succ])
    refine wpAnyH_take (i:=2) (oi:={ dst:=some 8,op:=Op.move (Operand.tmp 7),type:=4,pos:= "l2_terms.go:44",after:=#[{ on:=1,ground:=Ground.data }],guard:=none }) (v:=.bool false) rfl (by kernel_rfl) (by kernel_rfl) (by kernel_rfl) (fun _ _ _ h=>h) (Or.inl ⟨by rfl,?_⟩) hHeld0 ?_
    ·intro w' hSw;(try dsimp only at hSw);go_simp
    (try simp only [Act.put,List.setIfInBounds_toArray,List.set_cons_zero,List.set_cons_succ])
    refine wpAnyH_take (i:=3) (oi:={ dst:=some 9,op:=Op.fieldAddr 28 (Operand.tmp 2) 0,type:=0,pos:= "l2_terms.go:44",after:=#[{ on:=2,ground:=Ground.guard }],guard:=some (2,false) }) (v:=.pointer (some ⟨w.heap.size,0,none⟩)) rfl (by kernel_rfl) (by kernel_rfl) (by kernel_rfl) (fun _ _ _ h=>h) (Or.inl ⟨by rfl,?_⟩) hHeld0 ?_
    ·intro w' hSw;(try dsimp only at hSw);go_simp
    (try simp only [Act.put,List.setIfInBounds_toArray,List.set_cons_zero,List.set_cons_succ])
    refine wpAnyH_take (i:=4) (oi:={ dst:=some 10,op:=Op.load 3 (Operand.tmp 9),type:=3,pos:= "l2_terms.go:44",after:=#[{ on:=3,ground:=Ground.data },{ on:=2,ground:=Ground.guard }],guard:=some (2,false) }) (v:=.int .i64 k) rfl (by kernel_rfl) (by kernel_rfl) (by kernel_rfl) (fun _ _ _ h=>h) (Or.inl ⟨by rfl,?_⟩) hHeld0 ?_
    ·intro w' hSw;(try dsimp only at hSw);go_simp
    (try simp only [Act.put,List.setIfInBounds_toArray,List.set_cons_zero,List.set_cons_succ])
    refine wpAnyH_take (i:=6) (oi:={ dst:=some 12,op:=Op.fieldAddr 28 (Operand.tmp 2) 6,type:=0,pos:= "l2_terms.go:44",after:=#[{ on:=2,ground:=Ground.guard }],guard:=some (2,false) }) (v:=.pointer (some ⟨w.heap.size,8,none⟩)) rfl (by kernel_rfl) (by kernel_rfl) (by kernel_rfl) (fun _ _ _ h=>h) (Or.inl ⟨by rfl,?_⟩) hHeld0 ?_
    ·intro w' hSw;(try dsimp only at hSw);go_simp
    (try simp only [Act.put,List.setIfInBounds_toArray,List.set_cons_zero,List.set_cons_succ])
    refine wpAnyH_take (i:=7) (oi:={ dst:=some 13,op:=Op.load 26 (Operand.tmp 12),type:=26,pos:= "l2_terms.go:44",after:=#[{ on:=6,ground:=Ground.data },{ on:=2,ground:=Ground.guard }],guard:=some (2,false) }) (v:=.slice c m q) rfl (by kernel_rfl) (by kernel_rfl) (by kernel_rfl) (fun _ _ _ h=>h) (Or.inl ⟨by rfl,?_⟩) hHeld0 ?_
    ·intro w' hSw;(try dsimp only at hSw);go_simp
    (try simp only [Act.put,List.setIfInBounds_toArray,List.set_cons_zero,List.set_cons_succ])
    refine wpAnyH_take (i:=8) (oi:={ dst:=some 14,op:=Op.call { callee:=Callee.builtin Builtin.len,args:=#[Operand.tmp 13],argTypes:=#[26] },type:=3,pos:= "l2_terms.go:44",after:=#[{ on:=7,ground:=Ground.data },{ on:=2,ground:=Ground.guard }],guard:=some (2,false) }) (v:=.int .i64 (m:Int)) rfl (by kernel_rfl) (by kernel_rfl) (by kernel_rfl) (fun _ _ _ h=>h) (Or.inl ⟨by rfl,?_⟩) hHeld0 ?_
    ·intro w' hSw;(try dsimp only at hSw);go_simp
    (try simp only [Act.put,List.setIfInBounds_toArray,List.set_cons_zero,List.set_cons_succ])
    refine wpAnyH_ready (rs:= [5]) (by kernel_rfl) (by simp) ?_
    refine AllReadyH.cons (o:={ dst:=some 11,op:=Op.call { callee:=Callee.value (Operand.func 55),args:=#[Operand.tmp 10],argTypes:=#[3] },type:=3,pos:= "l2_terms.go:44",after:=#[{ on:=4,ground:=Ground.data },{ on:=2,ground:=Ground.chain },{ on:=2,ground:=Ground.guard }],guard:=some (2,false) }) rfl (fun K hK=>?_) AllReadyH.nil
    go_simp
    go_at_call 55
    (with_reducible refine(dk k _).mono ?_)
    rintro e w1 ⟨rfl,hb1⟩
    go_wp2_with fail
    refine hK.out _ _ ?_ (fun hHeld1=>?_)
    ·exact⟨a9 hb1 (ay (s0_)),a9 hb1 (ay (s1_))⟩
    clear hK K hHeld0
    (try simp only [Act.put,List.setIfInBounds_toArray,List.set_cons_zero,List.set_cons_succ])
    refine wpAnyH_take (i:=9) (oi:={ dst:=some 15,op:=Op.binOp BinOp.neq 3 (Operand.tmp 11) (Operand.tmp 14) 3,type:=4,pos:= "l2_terms.go:44",after:=#[{ on:=5,ground:=Ground.data },{ on:=8,ground:=Ground.data },{ on:=2,ground:=Ground.guard }],guard:=some (2,false) }) (v:=.bool false) rfl (by kernel_rfl) (by kernel_rfl) (by kernel_rfl) (fun _ _ _ h=>h) (Or.inl ⟨by rfl,?_⟩) hHeld1 ?_
    ·intro w' hSw;(try dsimp only at hSw);go_simp
    (try simp only [Act.put,List.setIfInBounds_toArray,List.set_cons_zero,List.set_cons_succ])
    refine wpAnyH_take (i:=10) (oi:={ dst:=some 16,op:=Op.pick (Operand.tmp 8) (Operand.const (Value.bool true)) (Operand.tmp 15),type:=4,pos:= "l2_terms.go:44",after:=#[{ on:=2,ground:=Ground.data },{ on:=9,ground:=Ground.data }],guard:=none }) (v:=.bool false) rfl (by kernel_rfl) (by kernel_rfl) (by kernel_rfl) (fun _ _ _ h=>h) (Or.inl ⟨by rfl,?_⟩) hHeld1 ?_
    ·intro w' hSw;(try dsimp only at hSw);go_simp
    (try simp only [Act.put,List.setIfInBounds_toArray,List.set_cons_zero,List.set_cons_succ])
    refine wpAnyH_take (i:=11) (oi:={ dst:=some 17,op:=Op.move (Operand.tmp 16),type:=4,pos:= "l2_terms.go:44",after:=#[{ on:=10,ground:=Ground.data },{ on:=5,ground:=Ground.chain }],guard:=none }) (v:=.bool false) rfl (by kernel_rfl) (by kernel_rfl) (by kernel_rfl) (fun _ _ _ h=>h) (Or.inl ⟨by rfl,?_⟩) hHeld1 ?_
    ·intro w' hSw;(try dsimp only at hSw);go_simp
    (try simp only [Act.put,List.setIfInBounds_toArray,List.set_cons_zero,List.set_cons_succ])
    refine wpAnyH_take (i:=12) (oi:={ dst:=some 18,op:=Op.fieldAddr 28 (Operand.tmp 2) 0,type:=0,pos:= "l2_terms.go:44",after:=#[{ on:=11,ground:=Ground.guard }],guard:=some (11,false) }) (v:=.pointer (some ⟨w.heap.size,0,none⟩)) rfl (by kernel_rfl) (by kernel_rfl) (by kernel_rfl) (fun _ _ _ h=>h) (Or.inl ⟨by rfl,?_⟩) hHeld1 ?_
    ·intro w' hSw;(try dsimp only at hSw);go_simp
    (try simp only [Act.put,List.setIfInBounds_toArray,List.set_cons_zero,List.set_cons_succ])
    refine wpAnyH_take (i:=13) (oi:={ dst:=some 19,op:=Op.load 3 (Operand.tmp 18),type:=3,pos:= "l2_terms.go:44",after:=#[{ on:=12,ground:=Ground.data },{ on:=11,ground:=Ground.guard }],guard:=some (11,false) }) (v:=.int .i64 k) rfl (by kernel_rfl) (by kernel_rfl) (by kernel_rfl) (fun _ _ _ h=>h) (Or.inl ⟨by rfl,?_⟩) hHeld1 ?_
    ·intro w' hSw;(try dsimp only at hSw);go_simp
    (try simp only [Act.put,List.setIfInBounds_toArray,List.set_cons_zero,List.set_cons_succ])
    refine wpAnyH_take (i:=14) (oi:={ dst:=some 20,op:=Op.binOp BinOp.eql 3 (Operand.tmp 19) (Operand.const (Value.int IntKind.i64 14)) 3,type:=4,pos:= "l2_terms.go:44",after:=#[{ on:=13,ground:=Ground.data },{ on:=11,ground:=Ground.guard }],guard:=some (11,false) }) (v:=.bool true) rfl (by kernel_rfl) (by kernel_rfl) (by kernel_rfl) (fun _ _ _ h=>h) (Or.inl ⟨by rfl,?_⟩) hHeld1 ?_
    ·intro w' hSw;(try dsimp only at hSw);go_simp
    (try simp only [Act.put,List.setIfInBounds_toArray,List.set_cons_zero,List.set_cons_succ])
    refine wpAnyH_take (i:=15) (oi:={ dst:=some 21,op:=Op.pick (Operand.tmp 17) (Operand.const (Value.bool true)) (Operand.tmp 20),type:=4,pos:= "l2_terms.go:44",after:=#[{ on:=11,ground:=Ground.data },{ on:=14,ground:=Ground.data }],guard:=none }) (v:=.bool true) rfl (by kernel_rfl) (by kernel_rfl) (by kernel_rfl) (fun _ _ _ h=>h) (Or.inl ⟨by rfl,?_⟩) hHeld1 ?_
    ·intro w' hSw;(try dsimp only at hSw);go_simp
    (try simp only [Act.put,List.setIfInBounds_toArray,List.set_cons_zero,List.set_cons_succ])
    refine wpAnyH_take (i:=16) (oi:={ dst:=some 22,op:=Op.move (Operand.tmp 21),type:=4,pos:= "l2_terms.go:44",after:=#[{ on:=15,ground:=Ground.data },{ on:=11,ground:=Ground.chain }],guard:=none }) (v:=.bool true) rfl (by kernel_rfl) (by kernel_rfl) (by kernel_rfl) (fun _ _ _ h=>h) (Or.inl ⟨by rfl,?_⟩) hHeld1 ?_
    ·intro w' hSw;(try dsimp only at hSw);go_simp
    (try simp only [Act.put,List.setIfInBounds_toArray,List.set_cons_zero,List.set_cons_succ])
    refine wpAnyH_take (i:=17) (oi:={ dst:=some 23,op:=Op.load 28 (Operand.tmp 2),type:=28,pos:= "l2_terms.go:44",after:=#[{ on:=16,ground:=Ground.guard }],guard:=some (16,false) }) (v:=undef) rfl (by kernel_rfl) (by kernel_rfl) (by kernel_rfl) (fun _ _ _ h=>h) (Or.inr ⟨by rfl,rfl⟩) hHeld1 ?_
    (try simp only [Act.put,List.setIfInBounds_toArray,List.set_cons_zero,List.set_cons_succ])
    refine wpAnyH_take (i:=18) (oi:={ dst:=some 24,op:=Op.call { callee:=Callee.value (Operand.func 56),args:=#[Operand.tmp 23],argTypes:=#[28] },type:=4,pos:= "l2_terms.go:44",after:=#[{ on:=17,ground:=Ground.data },{ on:=16,ground:=Ground.chain },{ on:=16,ground:=Ground.guard }],guard:=some (16,false) }) (v:=undef) rfl (by kernel_rfl) (by kernel_rfl) (by kernel_rfl) (fun _ _ _ h=>h) (Or.inr ⟨by rfl,rfl⟩) hHeld1 ?_
    (try simp only [Act.put,List.setIfInBounds_toArray,List.set_cons_zero,List.set_cons_succ])
    refine wpAnyH_take (i:=19) (oi:={ dst:=some 25,op:=Op.unOp UnOp.not 4 (Operand.tmp 24),type:=4,pos:= "l2_terms.go:44",after:=#[{ on:=18,ground:=Ground.data },{ on:=16,ground:=Ground.guard }],guard:=some (16,false) }) (v:=undef) rfl (by kernel_rfl) (by kernel_rfl) (by kernel_rfl) (fun _ _ _ h=>h) (Or.inr ⟨by rfl,rfl⟩) hHeld1 ?_
    (try simp only [Act.put,List.setIfInBounds_toArray,List.set_cons_zero,List.set_cons_succ])
    refine wpAnyH_take (i:=20) (oi:={ dst:=some 26,op:=Op.pick (Operand.tmp 22) (Operand.const (Value.bool true)) (Operand.tmp 25),type:=4,pos:= "l2_terms.go:44",after:=#[{ on:=16,ground:=Ground.data },{ on:=19,ground:=Ground.data }],guard:=none }) (v:=.bool true) rfl (by kernel_rfl) (by kernel_rfl) (by kernel_rfl) (fun _ _ _ h=>h) (Or.inl ⟨by rfl,?_⟩) hHeld1 ?_
    ·intro w' hSw;(try dsimp only at hSw);go_simp
    (try simp only [Act.put,List.setIfInBounds_toArray,List.set_cons_zero,List.set_cons_succ])
    refine wpAnyH_done (by kernel_rfl) ?_ _
    refine NoPanic.normal ?_
    clear hHeld1 s0_ s1_
    have hB:=(ai ah.drew hb1)
    have zw1:=hB.size
    go_wp2_with fail
    refine bodyPost_ret (v:=.bool (false)) (by simp [results,Try.results34,go_sem,bne]) rfl ?_
    exact⟨au ((lf k d m ow rk q1 q2 q3).trans HT.out),hB⟩
   ·skip
    have nq3:(k != 14)=true:=by simp only [bne,q3];rfl
    go_wp2_with fail
    have s0_:(World.alloc w (Obj.cells #[.int .i64 k,.string nm,.int .i64 u,.int .i64 tk,.slice ta tn tq,.int .i64 fk,.slice fa fn fq,.int .i64 l,.slice c m q] 28)).cell? ⟨w.heap.size,0,none⟩=some (.int .i64 k):=aj (by simp) 0
    have s1_:(World.alloc w (Obj.cells #[.int .i64 k,.string nm,.int .i64 u,.int .i64 tk,.slice ta tn tq,.int .i64 fk,.slice fa fn fq,.int .i64 l,.slice c m q] 28)).cell? ⟨w.heap.size,8,none⟩=some (.slice c m q):=aj (by simp) 8
    have s2_:(World.alloc w (Obj.cells #[.int .i64 k,.string nm,.int .i64 u,.int .i64 tk,.slice ta tn tq,.int .i64 fk,.slice fa fn fq,.int .i64 l,.slice c m q] 28)).cell? ⟨w.heap.size,1,none⟩=some (.string nm):=aj (by simp) 1
    have s3_:(World.alloc w (Obj.cells #[.int .i64 k,.string nm,.int .i64 u,.int .i64 tk,.slice ta tn tq,.int .i64 fk,.slice fa fn fq,.int .i64 l,.slice c m q] 28)).cell? ⟨w.heap.size,2,none⟩=some (.int .i64 u):=aj (by simp) 2
    have s4_:(World.alloc w (Obj.cells #[.int .i64 k,.string nm,.int .i64 u,.int .i64 tk,.slice ta tn tq,.int .i64 fk,.slice fa fn fq,.int .i64 l,.slice c m q] 28)).cell? ⟨w.heap.size,3,none⟩=some (.int .i64 tk):=aj (by simp) 3
    have s5_:(World.alloc w (Obj.cells #[.int .i64 k,.string nm,.int .i64 u,.int .i64 tk,.slice ta tn tq,.int .i64 fk,.slice fa fn fq,.int .i64 l,.slice c m q] 28)).cell? ⟨w.heap.size,4,none⟩=some (.slice ta tn tq):=aj (by simp) 4
    have s6_:(World.alloc w (Obj.cells #[.int .i64 k,.string nm,.int .i64 u,.int .i64 tk,.slice ta tn tq,.int .i64 fk,.slice fa fn fq,.int .i64 l,.slice c m q] 28)).cell? ⟨w.heap.size,5,none⟩=some (.int .i64 fk):=aj (by simp) 5
    have s7_:(World.alloc w (Obj.cells #[.int .i64 k,.string nm,.int .i64 u,.int .i64 tk,.slice ta tn tq,.int .i64 fk,.slice fa fn fq,.int .i64 l,.slice c m q] 28)).cell? ⟨w.heap.size,6,none⟩=some (.slice fa fn fq):=aj (by simp) 6
    have s8_:(World.alloc w (Obj.cells #[.int .i64 k,.string nm,.int .i64 u,.int .i64 tk,.slice ta tn tq,.int .i64 fk,.slice fa fn fq,.int .i64 l,.slice c m q] 28)).cell? ⟨w.heap.size,7,none⟩=some (.int .i64 l):=aj (by simp) 7
    have hS0:=Lib.hid (show(World.drew (World.alloc w (Obj.cells #[.int .i64 k,.string nm,.int .i64 u,.int .i64 tk,.slice ta tn tq,.int .i64 fk,.slice fa fn fq,.int .i64 l,.slice c m q] 28))).cell? ⟨w.heap.size,0,none⟩=some (.int .i64 k)∧(World.drew (World.alloc w (Obj.cells #[.int .i64 k,.string nm,.int .i64 u,.int .i64 tk,.slice ta tn tq,.int .i64 fk,.slice fa fn fq,.int .i64 l,.slice c m q] 28))).cell? ⟨w.heap.size,8,none⟩=some (.slice c m q)∧(World.drew (World.alloc w (Obj.cells #[.int .i64 k,.string nm,.int .i64 u,.int .i64 tk,.slice ta tn tq,.int .i64 fk,.slice fa fn fq,.int .i64 l,.slice c m q] 28))).cell? ⟨w.heap.size,1,none⟩=some (.string nm)∧(World.drew (World.alloc w (Obj.cells #[.int .i64 k,.string nm,.int .i64 u,.int .i64 tk,.slice ta tn tq,.int .i64 fk,.slice fa fn fq,.int .i64 l,.slice c m q] 28))).cell? ⟨w.heap.size,2,none⟩=some (.int .i64 u)∧(World.drew (World.alloc w (Obj.cells #[.int .i64 k,.string nm,.int .i64 u,.int .i64 tk,.slice ta tn tq,.int .i64 fk,.slice fa fn fq,.int .i64 l,.slice c m q] 28))).cell? ⟨w.heap.size,3,none⟩=some (.int .i64 tk)∧(World.drew (World.alloc w (Obj.cells #[.int .i64 k,.string nm,.int .i64 u,.int .i64 tk,.slice ta tn tq,.int .i64 fk,.slice fa fn fq,.int .i64 l,.slice c m q] 28))).cell? ⟨w.heap.size,4,none⟩=some (.slice ta tn tq)∧(World.drew (World.alloc w (Obj.cells #[.int .i64 k,.string nm,.int .i64 u,.int .i64 tk,.slice ta tn tq,.int .i64 fk,.slice fa fn fq,.int .i64 l,.slice c m q] 28))).cell? ⟨w.heap.size,5,none⟩=some (.int .i64 fk)∧(World.drew (World.alloc w (Obj.cells #[.int .i64 k,.string nm,.int .i64 u,.int .i64 tk,.slice ta tn tq,.int .i64 fk,.slice fa fn fq,.int .i64 l,.slice c m q] 28))).cell? ⟨w.heap.size,6,none⟩=some (.slice fa fn fq)∧(World.drew (World.alloc w (Obj.cells #[.int .i64 k,.string nm,.int .i64 u,.int .i64 tk,.slice ta tn tq,.int .i64 fk,.slice fa fn fq,.int .i64 l,.slice c m q] 28))).cell? ⟨w.heap.size,7,none⟩=some (.int .i64 l) from⟨ay (s0_),ay (s1_),ay (s2_),ay (s3_),ay (s4_),ay (s5_),ay (s6_),ay (s7_),ay (s8_)⟩)
    have hSb:=Lib.hid (show ∀X Y:World,Below X.heap.size X Y→(X.cell? ⟨w.heap.size,0,none⟩=some (.int .i64 k)∧X.cell? ⟨w.heap.size,8,none⟩=some (.slice c m q)∧X.cell? ⟨w.heap.size,1,none⟩=some (.string nm)∧X.cell? ⟨w.heap.size,2,none⟩=some (.int .i64 u)∧X.cell? ⟨w.heap.size,3,none⟩=some (.int .i64 tk)∧X.cell? ⟨w.heap.size,4,none⟩=some (.slice ta tn tq)∧X.cell? ⟨w.heap.size,5,none⟩=some (.int .i64 fk)∧X.cell? ⟨w.heap.size,6,none⟩=some (.slice fa fn fq)∧X.cell? ⟨w.heap.size,7,none⟩=some (.int .i64 l))→(Y.cell? ⟨w.heap.size,0,none⟩=some (.int .i64 k)∧Y.cell? ⟨w.heap.size,8,none⟩=some (.slice c m q)∧Y.cell? ⟨w.heap.size,1,none⟩=some (.string nm)∧Y.cell? ⟨w.heap.size,2,none⟩=some (.int .i64 u)∧Y.cell? ⟨w.heap.size,3,none⟩=some (.int .i64 tk)∧Y.cell? ⟨w.heap.size,4,none⟩=some (.slice ta tn tq)∧Y.cell? ⟨w.heap.size,5,none⟩=some (.int .i64 fk)∧Y.cell? ⟨w.heap.size,6,none⟩=some (.slice fa fn fq)∧Y.cell? ⟨w.heap.size,7,none⟩=some (.int .i64 l)) from fun X Y h s=>⟨a9 h s.1,a9 h s.2.1,a9 h s.2.2.1,a9 h s.2.2.2.1,a9 h s.2.2.2.2.1,a9 h s.2.2.2.2.2.1,a9 h s.2.2.2.2.2.2.1,a9 h s.2.2.2.2.2.2.2.1,a9 h s.2.2.2.2.2.2.2.2⟩)
    go_region_held3 (fun w'=>w'.cell? ⟨w.heap.size,0,none⟩=some (.int .i64 k)∧w'.cell? ⟨w.heap.size,8,none⟩=some (.slice c m q)∧w'.cell? ⟨w.heap.size,1,none⟩=some (.string nm)∧w'.cell? ⟨w.heap.size,2,none⟩=some (.int .i64 u)∧w'.cell? ⟨w.heap.size,3,none⟩=some (.int .i64 tk)∧w'.cell? ⟨w.heap.size,4,none⟩=some (.slice ta tn tq)∧w'.cell? ⟨w.heap.size,5,none⟩=some (.int .i64 fk)∧w'.cell? ⟨w.heap.size,6,none⟩=some (.slice fa fn fq)∧w'.cell? ⟨w.heap.size,7,none⟩=some (.int .i64 l))
     (repeat (first | with_reducible refine hSb.out _ _ hb3 ?_ | with_reducible refine hSb.out _ _ hb2 ?_ | with_reducible exact hS0.out))
     (first | (go_at_call 55;((with_reducible refine(dk k _).mono ?_);rintro e w2 ⟨rfl,hb2⟩)) | (go_at_call 56;((with_reducible refine(HO.out q3 _ (ai ah.drew hb2)).mono ?_);rintro e w3 ⟨rfl,hb3⟩)))
    clear s0_ s1_ s2_ s3_ s4_ s5_ s6_ s7_ s8_
    have hB:=(ai (ai ah.drew hb2) hb3)
    have zw3:=hB.size
    have c0_8:w3.cell? ⟨w.heap.size,8,none⟩=some (.slice c m q):=a9 hb3 (a9 hb2 (ay (aj (by simp) 8)))
    have d0_w3:=World.block_lt_of_cell? _ _ c0_8
    rcases Bool.eq_false_or_eq_true (ow) with q4 | q4
    ·(try rw [q4])
     have Hq4:=Lib.hid q4
     clear q4
     go_wp2_with fail
     go_loopw [5] (fun i wr=>∃j:Nat,j≤m∧i = .int .i64 j∧Below w.heap.size w wr∧wr.cell? ⟨w.heap.size,8,none⟩=some (.slice c m q)∧Hid (rk=Tm.shapes (ts.drop j) 14 (d-1))) (fun i _=>m-(intOf i).toNat)
     case atStart=>exact⟨0,by omega,rfl,hB,c0_8,HRK.out⟩
     case round=>
      obtain⟨j,hj,rfl,hB,x0,hR0⟩:=hrel
      have lx1:=World.block_lt_of_cell? _ _ x0
      by_cases hlt:j<m
      ·have hjt:j<ts.length:=by have:=HN.out;omega
       obtain⟨b,off,k0,nm0,u0,tk0,ta0,tn0,tq0,fk0,fa0,fn0,fq0,l0,a0,m0,q0,rfl,lb,e0,e1,e2,e3,e4,e5,e6,e7,e8,ht⟩:=hks.at hB hjt
       have hcall:=IHH.out ts[j] (List.getElem_mem hjt) (d-1)
       have hstep:=hR0.out.trans (Tm.shapes_drop ts 14 (d-1) j hjt)
       generalize ts[j].shape 14 (d-1)=r at hcall hstep
       have HC:=Lib.hid hcall
       have HS:=Lib.hid hstep
       clear hcall hstep hR0
       have hwr:=IntWalk.i64_in (d-1) (by omega)
       go_wp2_with fail
       refine(HC.out _ _ ht (by have h:=q1;simp only [decide_eq_false_iff_not] at h;omega) (by have h:=q1;simp only [decide_eq_false_iff_not] at h;omega)).mono ?_
       rintro e w4 ⟨rfl,hb4⟩
       replace hB:=(ai hB hb4)
       have zw4:=hB.size
       replace x0:w4.cell? ⟨w.heap.size,8,none⟩=some (.slice (some ⟨b,off,none⟩) m q):=a9 hb4 (x0)
       have d0_w4:=World.block_lt_of_cell? _ _ x0
       rcases Bool.eq_false_or_eq_true (r) with q5 | q5
       ·(try rw [q5])
        have Hq5:=Lib.hid q5
        clear q5
        have hwr:=IntWalk.i64_in ((j:Int)+1) (by omega)
        go_wp2_with fail
        go_roundw
        case rel=>exact⟨j+1,by omega,by go_num,hB,x0,(by rw [Hid,HS.out,Hq5.out];rfl)⟩
        case measure=>simp [intOf];omega
       ·(try rw [q5])
        have Hq5:=Lib.hid q5
        clear q5
        go_wp2_with fail
        refine bodyPost_ret (v:=.bool (false)) (by simp [results,Try.results34,go_sem,bne]) rfl ?_
        exact⟨au ((l8 k d m ow rk q1 q2 q3 Hq4.out (by rw [HS.out,Hq5.out];rfl)).trans HT.out),hB⟩
      ·skip
       have HRK:Hid (rk=true):=Lib.hid (by rw [hR0.out,List.drop_eq_nil_of_le (by have:=HN.out;omega)];unfold Tm.shapes;rfl)
       go_wp2_with fail
       refine bodyPost_ret (v:=.bool (true)) (by simp [results,Try.results34,go_sem,bne]) rfl ?_
       exact⟨au ((kF k d m ow rk q1 q2 q3 Hq4.out HRK.out).trans HT.out),hB⟩
    ·(try rw [q4])
     have Hq4:=Lib.hid q4
     clear q4
     go_wp2_with fail
     refine bodyPost_ret (v:=.bool (false)) (by simp [results,Try.results34,go_sem,bne]) rfl ?_
     exact⟨au ((kM k d m ow rk q1 q2 q3 Hq4.out).trans HT.out),hB⟩
  ·skip
   have nq2:((aJ k) != (m:Int))=true:=by simp only [bne,q2];rfl
   go_wp2_with fail
   have s0_:(World.alloc w (Obj.cells #[.int .i64 k,.string nm,.int .i64 u,.int .i64 tk,.slice ta tn tq,.int .i64 fk,.slice fa fn fq,.int .i64 l,.slice c m q] 28)).cell? ⟨w.heap.size,0,none⟩=some (.int .i64 k):=aj (by simp) 0
   have s1_:(World.alloc w (Obj.cells #[.int .i64 k,.string nm,.int .i64 u,.int .i64 tk,.slice ta tn tq,.int .i64 fk,.slice fa fn fq,.int .i64 l,.slice c m q] 28)).cell? ⟨w.heap.size,8,none⟩=some (.slice c m q):=aj (by simp) 8
   refine wp_region_noPanic ?_
   refine wp_region_held_drew (S:=fun w'=>w'.cell? ⟨w.heap.size,0,none⟩=some (.int .i64 k)∧w'.cell? ⟨w.heap.size,8,none⟩=some (.slice c m q)) (by kernel_rfl) ?_ (fun hHeld0=>?_)
   ·exact⟨ay (s0_),ay (s1_)⟩
   refine wpAnyH_take (i:=0) (oi:={ dst:=some 6,op:=Op.move (Operand.tmp 1),type:=3,pos:= "l2_terms.go:44",after:=#[],guard:=none }) (v:=.int .i64 d) rfl (by kernel_rfl) (by kernel_rfl) (by kernel_rfl) (fun _ _ _ h=>h) (Or.inl ⟨by rfl,?_⟩) hHeld0 ?_
   ·intro w' hSw;(try dsimp only at hSw);go_simp
   (try simp only [Act.put,List.setIfInBounds_toArray,List.set_cons_zero,List.set_cons_succ])
   refine wpAnyH_take (i:=1) (oi:={ dst:=some 7,op:=Op.binOp BinOp.lss 3 (Operand.tmp 6) (Operand.const (Value.int IntKind.i64 1)) 3,type:=4,pos:= "l2_terms.go:44",after:=#[{ on:=0,ground:=Ground.data }],guard:=none }) (v:=.bool false) rfl (by kernel_rfl) (by kernel_rfl) (by kernel_rfl) (fun _ _ _ h=>h) (Or.inl ⟨by rfl,?_⟩) hHeld0 ?_
   ·intro w' hSw;(try dsimp only at hSw);go_simp
   (try simp only [Act.put,List.setIfInBounds_toArray,List.set_cons_zero,List.set_cons_succ])
   refine wpAnyH_take (i:=2) (oi:={ dst:=some 8,op:=Op.move (Operand.tmp 7),type:=4,pos:= "l2_terms.go:44",after:=#[{ on:=1,ground:=Ground.data }],guard:=none }) (v:=.bool false) rfl (by kernel_rfl) (by kernel_rfl) (by kernel_rfl) (fun _ _ _ h=>h) (Or.inl ⟨by rfl,?_⟩) hHeld0 ?_
   ·intro w' hSw;(try dsimp only at hSw);go_simp
   (try simp only [Act.put,List.setIfInBounds_toArray,List.set_cons_zero,List.set_cons_succ])
   refine wpAnyH_take (i:=3) (oi:={ dst:=some 9,op:=Op.fieldAddr 28 (Operand.tmp 2) 0,type:=0,pos:= "l2_terms.go:44",after:=#[{ on:=2,ground:=Ground.guard }],guard:=some (2,false) }) (v:=.pointer (some ⟨w.heap.size,0,none⟩)) rfl (by kernel_rfl) (by kernel_rfl) (by kernel_rfl) (fun _ _ _ h=>h) (Or.inl ⟨by rfl,?_⟩) hHeld0 ?_
   ·intro w' hSw;(try dsimp only at hSw);go_simp
   (try simp only [Act.put,List.setIfInBounds_toArray,List.set_cons_zero,List.set_cons_succ])
   refine wpAnyH_take (i:=4) (oi:={ dst:=some 10,op:=Op.load 3 (Operand.tmp 9),type:=3,pos:= "l2_terms.go:44",after:=#[{ on:=3,ground:=Ground.data },{ on:=2,ground:=Ground.guard }],guard:=some (2,false) }) (v:=.int .i64 k) rfl (by kernel_rfl) (by kernel_rfl) (by kernel_rfl) (fun _ _ _ h=>h) (Or.inl ⟨by rfl,?_⟩) hHeld0 ?_
   ·intro w' hSw;(try dsimp only at hSw);go_simp
   (try simp only [Act.put,List.setIfInBounds_toArray,List.set_cons_zero,List.set_cons_succ])
   refine wpAnyH_take (i:=6) (oi:={ dst:=some 12,op:=Op.fieldAddr 28 (Operand.tmp 2) 6,type:=0,pos:= "l2_terms.go:44",after:=#[{ on:=2,ground:=Ground.guard }],guard:=some (2,false) }) (v:=.pointer (some ⟨w.heap.size,8,none⟩)) rfl (by kernel_rfl) (by kernel_rfl) (by kernel_rfl) (fun _ _ _ h=>h) (Or.inl ⟨by rfl,?_⟩) hHeld0 ?_
   ·intro w' hSw;(try dsimp only at hSw);go_simp
   (try simp only [Act.put,List.setIfInBounds_toArray,List.set_cons_zero,List.set_cons_succ])
   refine wpAnyH_take (i:=7) (oi:={ dst:=some 13,op:=Op.load 26 (Operand.tmp 12),type:=26,pos:= "l2_terms.go:44",after:=#[{ on:=6,ground:=Ground.data },{ on:=2,ground:=Ground.guard }],guard:=some (2,false) }) (v:=.slice c m q) rfl (by kernel_rfl) (by kernel_rfl) (by kernel_rfl) (fun _ _ _ h=>h) (Or.inl ⟨by rfl,?_⟩) hHeld0 ?_
   ·intro w' hSw;(try dsimp only at hSw);go_simp
   (try simp only [Act.put,List.setIfInBounds_toArray,List.set_cons_zero,List.set_cons_succ])
   refine wpAnyH_take (i:=8) (oi:={ dst:=some 14,op:=Op.call { callee:=Callee.builtin Builtin.len,args:=#[Operand.tmp 13],argTypes:=#[26] },type:=3,pos:= "l2_terms.go:44",after:=#[{ on:=7,ground:=Ground.data },{ on:=2,ground:=Ground.guard }],guard:=some (2,false) }) (v:=.int .i64 (m:Int)) rfl (by kernel_rfl) (by kernel_rfl) (by kernel_rfl) (fun _ _ _ h=>h) (Or.inl ⟨by rfl,?_⟩) hHeld0 ?_
   ·intro w' hSw;(try dsimp only at hSw);go_simp
   (try simp only [Act.put,List.setIfInBounds_toArray,List.set_cons_zero,List.set_cons_succ])
   refine wpAnyH_ready (rs:= [5]) (by kernel_rfl) (by simp) ?_
   refine AllReadyH.cons (o:={ dst:=some 11,op:=Op.call { callee:=Callee.value (Operand.func 55),args:=#[Operand.tmp 10],argTypes:=#[3] },type:=3,pos:= "l2_terms.go:44",after:=#[{ on:=4,ground:=Ground.data },{ on:=2,ground:=Ground.chain },{ on:=2,ground:=Ground.guard }],guard:=some (2,false) }) rfl (fun K hK=>?_) AllReadyH.nil
   go_simp
   go_at_call 55
   (with_reducible refine(dk k _).mono ?_)
   rintro e w5 ⟨rfl,hb5⟩
   go_wp2_with fail
   refine hK.out _ _ ?_ (fun hHeld1=>?_)
   ·exact⟨a9 hb5 (ay (s0_)),a9 hb5 (ay (s1_))⟩
   clear hK K hHeld0
   (try simp only [Act.put,List.setIfInBounds_toArray,List.set_cons_zero,List.set_cons_succ])
   refine wpAnyH_take (i:=9) (oi:={ dst:=some 15,op:=Op.binOp BinOp.neq 3 (Operand.tmp 11) (Operand.tmp 14) 3,type:=4,pos:= "l2_terms.go:44",after:=#[{ on:=5,ground:=Ground.data },{ on:=8,ground:=Ground.data },{ on:=2,ground:=Ground.guard }],guard:=some (2,false) }) (v:=.bool true) rfl (by kernel_rfl) (by kernel_rfl) (by kernel_rfl) (fun _ _ _ h=>h) (Or.inl ⟨by rfl,?_⟩) hHeld1 ?_
   ·intro w' hSw;(try dsimp only at hSw);go_simp
   (try simp only [Act.put,List.setIfInBounds_toArray,List.set_cons_zero,List.set_cons_succ])
   refine wpAnyH_take (i:=10) (oi:={ dst:=some 16,op:=Op.pick (Operand.tmp 8) (Operand.const (Value.bool true)) (Operand.tmp 15),type:=4,pos:= "l2_terms.go:44",after:=#[{ on:=2,ground:=Ground.data },{ on:=9,ground:=Ground.data }],guard:=none }) (v:=.bool true) rfl (by kernel_rfl) (by kernel_rfl) (by kernel_rfl) (fun _ _ _ h=>h) (Or.inl ⟨by rfl,?_⟩) hHeld1 ?_
   ·intro w' hSw;(try dsimp only at hSw);go_simp
   (try simp only [Act.put,List.setIfInBounds_toArray,List.set_cons_zero,List.set_cons_succ])
   refine wpAnyH_take (i:=11) (oi:={ dst:=some 17,op:=Op.move (Operand.tmp 16),type:=4,pos:= "l2_terms.go:44",after:=#[{ on:=10,ground:=Ground.data },{ on:=5,ground:=Ground.chain }],guard:=none }) (v:=.bool true) rfl (by kernel_rfl) (by kernel_rfl) (by kernel_rfl) (fun _ _ _ h=>h) (Or.inl ⟨by rfl,?_⟩) hHeld1 ?_
   ·intro w' hSw;(try dsimp only at hSw);go_simp
   (try simp only [Act.put,List.setIfInBounds_toArray,List.set_cons_zero,List.set_cons_succ])
   refine wpAnyH_take (i:=12) (oi:={ dst:=some 18,op:=Op.fieldAddr 28 (Operand.tmp 2) 0,type:=0,pos:= "l2_terms.go:44",after:=#[{ on:=11,ground:=Ground.guard }],guard:=some (11,false) }) (v:=undef) rfl (by kernel_rfl) (by kernel_rfl) (by kernel_rfl) (fun _ _ _ h=>h) (Or.inr ⟨by rfl,rfl⟩) hHeld1 ?_
   (try simp only [Act.put,List.setIfInBounds_toArray,List.set_cons_zero,List.set_cons_succ])
   refine wpAnyH_take (i:=13) (oi:={ dst:=some 19,op:=Op.load 3 (Operand.tmp 18),type:=3,pos:= "l2_terms.go:44",after:=#[{ on:=12,ground:=Ground.data },{ on:=11,ground:=Ground.guard }],guard:=some (11,false) }) (v:=undef) rfl (by kernel_rfl) (by kernel_rfl) (by kernel_rfl) (fun _ _ _ h=>h) (Or.inr ⟨by rfl,rfl⟩) hHeld1 ?_
   (try simp only [Act.put,List.setIfInBounds_toArray,List.set_cons_zero,List.set_cons_succ])
   refine wpAnyH_take (i:=14) (oi:={ dst:=some 20,op:=Op.binOp BinOp.eql 3 (Operand.tmp 19) (Operand.const (Value.int IntKind.i64 14)) 3,type:=4,pos:= "l2_terms.go:44",after:=#[{ on:=13,ground:=Ground.data },{ on:=11,ground:=Ground.guard }],guard:=some (11,false) }) (v:=undef) rfl (by kernel_rfl) (by kernel_rfl) (by kernel_rfl) (fun _ _ _ h=>h) (Or.inr ⟨by rfl,rfl⟩) hHeld1 ?_
   (try simp only [Act.put,List.setIfInBounds_toArray,List.set_cons_zero,List.set_cons_succ])
   refine wpAnyH_take (i:=15) (oi:={ dst:=some 21,op:=Op.pick (Operand.tmp 17) (Operand.const (Value.bool true)) (Operand.tmp 20),type:=4,pos:= "l2_terms.go:44",after:=#[{ on:=11,ground:=Ground.data },{ on:=14,ground:=Ground.data }],guard:=none }) (v:=.bool true) rfl (by kernel_rfl) (by kernel_rfl) (by kernel_rfl) (fun _ _ _ h=>h) (Or.inl ⟨by rfl,?_⟩) hHeld1 ?_
   ·intro w' hSw;(try dsimp only at hSw);go_simp
   (try simp only [Act.put,List.setIfInBounds_toArray,List.set_cons_zero,List.set_cons_succ])
   refine wpAnyH_take (i:=16) (oi:={ dst:=some 22,op:=Op.move (Operand.tmp 21),type:=4,pos:= "l2_terms.go:44",after:=#[{ on:=15,ground:=Ground.data },{ on:=11,ground:=Ground.chain }],guard:=none }) (v:=.bool true) rfl (by kernel_rfl) (by kernel_rfl) (by kernel_rfl) (fun _ _ _ h=>h) (Or.inl ⟨by rfl,?_⟩) hHeld1 ?_
   ·intro w' hSw;(try dsimp only at hSw);go_simp
   (try simp only [Act.put,List.setIfInBounds_toArray,List.set_cons_zero,List.set_cons_succ])
   refine wpAnyH_take (i:=17) (oi:={ dst:=some 23,op:=Op.load 28 (Operand.tmp 2),type:=28,pos:= "l2_terms.go:44",after:=#[{ on:=16,ground:=Ground.guard }],guard:=some (16,false) }) (v:=undef) rfl (by kernel_rfl) (by kernel_rfl) (by kernel_rfl) (fun _ _ _ h=>h) (Or.inr ⟨by rfl,rfl⟩) hHeld1 ?_
   (try simp only [Act.put,List.setIfInBounds_toArray,List.set_cons_zero,List.set_cons_succ])
   refine wpAnyH_take (i:=18) (oi:={ dst:=some 24,op:=Op.call { callee:=Callee.value (Operand.func 56),args:=#[Operand.tmp 23],argTypes:=#[28] },type:=4,pos:= "l2_terms.go:44",after:=#[{ on:=17,ground:=Ground.data },{ on:=16,ground:=Ground.chain },{ on:=16,ground:=Ground.guard }],guard:=some (16,false) }) (v:=undef) rfl (by kernel_rfl) (by kernel_rfl) (by kernel_rfl) (fun _ _ _ h=>h) (Or.inr ⟨by rfl,rfl⟩) hHeld1 ?_
   (try simp only [Act.put,List.setIfInBounds_toArray,List.set_cons_zero,List.set_cons_succ])
   refine wpAnyH_take (i:=19) (oi:={ dst:=some 25,op:=Op.unOp UnOp.not 4 (Operand.tmp 24),type:=4,pos:= "l2_terms.go:44",after:=#[{ on:=18,ground:=Ground.data },{ on:=16,ground:=Ground.guard }],guard:=some (16,false) }) (v:=undef) rfl (by kernel_rfl) (by kernel_rfl) (by kernel_rfl) (fun _ _ _ h=>h) (Or.inr ⟨by rfl,rfl⟩) hHeld1 ?_
   (try simp only [Act.put,List.setIfInBounds_toArray,List.set_cons_zero,List.set_cons_succ])
   refine wpAnyH_take (i:=20) (oi:={ dst:=some 26,op:=Op.pick (Operand.tmp 22) (Operand.const (Value.bool true)) (Operand.tmp 25),type:=4,pos:= "l2_terms.go:44",after:=#[{ on:=16,ground:=Ground.data },{ on:=19,ground:=Ground.data }],guard:=none }) (v:=.bool true) rfl (by kernel_rfl) (by kernel_rfl) (by kernel_rfl) (fun _ _ _ h=>h) (Or.inl ⟨by rfl,?_⟩) hHeld1 ?_
   ·intro w' hSw;(try dsimp only at hSw);go_simp
   (try simp only [Act.put,List.setIfInBounds_toArray,List.set_cons_zero,List.set_cons_succ])
   refine wpAnyH_done (by kernel_rfl) ?_ _
   refine NoPanic.normal ?_
   clear hHeld1 s0_ s1_
   have hB:=(ai ah.drew hb5)
   have zw5:=hB.size
   go_wp2_with fail
   refine bodyPost_ret (v:=.bool (false)) (by simp [results,Try.results34,go_sem,bne]) rfl ?_
   exact⟨au ((kC k d m ow rk q1 q2).trans HT.out),hB⟩
termination_by SizeOf.sizeOf t
decreasing_by exact Tm.kid_lt ht
end Go.Proofs.Ytnaoghknnenfoaa

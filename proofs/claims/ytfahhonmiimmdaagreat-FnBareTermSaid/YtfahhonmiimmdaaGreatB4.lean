/- Shapes of types: plain facts. And what else its parts name. -/
import Derived.Test.YtfahhonmiimmdaaGreatTyValid
import Derived.Test.YtfahhonmiimmdaaGreatB1
set_option linter.unusedSimpArgs false
set_option linter.unusedVariables false
set_option maxRecDepth 100000
set_option maxHeartbeats 16000000
namespace Go.Proofs.YtfahhonmiimmdaaGreat
open Go.RowKit
theorem Ty.shapes_mem : ∀ {ts:List Ty} {d:Int} {t:Ty},Ty.shapes ts d=true→t∈ts→t.shape d=true
 | u :: ts,d,t,h,ht=>by
  unfold Ty.shapes at h;simp only[Bool.and_eq_true] at h
  rcases List.mem_cons.1 ht with rfl | ht
  ·exact h.1
  ·exact Ty.shapes_mem h.2 ht
theorem ko (k:Int):bD k≤2:=by unfold bD;split;omega;split<;>omega
mutual
theorem Ty.cnt_shape : ∀(t:Ty) (n:Nat),t.shape n=true→t.cnt+2≤2 ^ n
 | .mk k ts,n,h=>by
  obtain⟨h1,h2,h3⟩:=Ty.shape_mk h;obtain⟨m,rfl⟩ : ∃m,n=m+1:=⟨n-1,by omega⟩
  rw[show((m+1:Nat):Int)-1=(m:Int) from by omega] at h3;have h4:=Ty.cnts_shape ts m h3;have h5:=ko k;unfold Ty.cnt;have:2 ^ (m+1)=2*2 ^ m:=by rw[Nat.pow_succ];omega
  have h6:ts.length=0∨ts.length=1∨ts.length=2:=by omega
  have h7:1≤2 ^ m:=Nat.one_le_two_pow
  rcases h6 with h6 | h6 | h6<;>rw[h6] at h4 ⊢ <;> omega
theorem Ty.cnts_shape : ∀(ts:List Ty) (n:Nat),Ty.shapes ts n=true→Ty.cnts ts+2*ts.length≤ts.length*2 ^ n
 | [],_,_=>by simp[Ty.cnts]
 | t :: ts,n,h=>by
  unfold Ty.shapes at h;simp only[Bool.and_eq_true] at h;have h1:=Ty.cnt_shape t n h.1;have h2:=Ty.cnts_shape ts n h.2;simp only[Ty.cnts,List.length_cons,Nat.add_mul]
  omega
end
theorem Ty.cnt_valid {t:Ty}(h:t.valid=true):t.cnt≤1048576:=by
 have:=Ty.cnt_shape t 4 h
 omega
theorem bj.nil (B:Nat)(w:World):bj B w [] (.slice none 0 0):=⟨[],aJ.sl_nil (by unfold maxLen;omega),List.nodup_nil,by simp⟩
theorem tT (k:Int)(w:World):Calls Tryz.prog 62 #[.int .i64 k] w (eg (.mk k []) w):=by
 go_enter Tryz.func62,Tryz.ntmps62
 go_wp2_with fail
 refine bodyPost_ret (v:=.agg #[.int .i64 k,.slice none 0 0]) (by simp[results,Tryz.results62,go_sem]) rfl ?_
 exact⟨_,rfl,bo.mono (bj.ty (bj.nil _ _)) (Nat.le_refl _),aj⟩
theorem cM (w:World):Calls Tryz.prog 50 #[] w (eg (.mk 1 []) w):=by
 go_enter Tryz.func50,Tryz.ntmps50
 go_wp2_with fail
 refine bodyPost_ret (v:=.agg #[.int .i64 1,.slice none 0 0]) (by simp[results,Tryz.results50,go_sem]) rfl ?_
 exact⟨_,rfl,bo.mono (bj.ty (bj.nil _ _)) (Nat.le_refl _),aj⟩
theorem bj.two {B:Nat}{w w':World}{t u:Ty}{k1 k2:Int}{s1 s2:Value}{T:TypeId}{f1 f2:List Nat}(h1:bl w t.row [.int .i64 k1,s1] f1)(h2:bl w u.row [.int .i64 k2,s2] f2)(hd:(f1++f2).Nodup)(hB : ∀b∈f1++f2,B≤b)(hBw:B≤w.heap.size)
  (hk:Below w.heap.size w w') (hh:w'.heap[w.heap.size]?=some (.cells #[.int .i64 k1,s1,.int .i64 k2,s2] T (0,0))):bj B w' [t,u] (.slice (some ⟨w.heap.size,0,none⟩) 2 2):=by
 have hr:bm w (Ty.rows [t,u]) [.int .i64 k1,s1,.int .i64 k2,s2] (f1++f2):=by
  unfold Ty.rows;refine⟨[_,_],[_,_],f1,f2,rfl,rfl,h1,?_⟩;unfold Ty.rows;refine⟨[_,_],[],f2,[],rfl,by simp,h2,?_⟩;unfold Ty.rows
  exact⟨rfl,rfl⟩
 have hlt:=bm.lt _ _ _ hr;have hr':=hr.move _ _ _ fun b hb=>hk.block b (hlt b hb);have ho:aK w' w.heap.size 0 (Ty.rows [t,u]) (f1++f2):=hr'.rows _ _ _ 0 (fun i hi=>by
   simp only[World.cell?,hh]
   simp)
 obtain⟨fp,k1,k2,k3⟩:=aJ.sl_mk (n:=2) (cap:=2) hh (by rw[Ty.rows_length];rfl) (Nat.le_refl _) (by unfold maxLen;omega) ho
 exact⟨fp,k1,k3 hd (fun h=>by have:=hlt _ h;omega),fun b hb=>by rcases k2 b hb with rfl | hb;exact hBw;exact hB b hb⟩
mutual
theorem Ty.same_refl : ∀t:Ty,t.same t=true
 | .mk k ts=>by unfold Ty.same;rw[Ty.sames_refl ts];simp
theorem Ty.sames_refl : ∀ts:List Ty,Ty.sames ts ts=true
 | []=>by unfold Ty.sames;rfl
 | t :: ts=>by unfold Ty.sames;rw[Ty.same_refl t,Ty.sames_refl ts];rfl
end
mutual
def Ty.any:Ty→Nat
 | .mk k ts=>if k=1 then 1 else Ty.anys ts
def Ty.anys:List Ty→Nat
 | []=>0
 | t :: ts=>t.any+Ty.anys ts
end
end Go.Proofs.YtfahhonmiimmdaaGreat

/- Results that lie in a cell; stores of whole structs. -/
import Derived.Test.YtljekdpgjaahjaaGreatDoorG55
import Derived.Laws.ResultCell
import Derived.Laws.Rows
import Derived.BigQuiet
namespace Go.Proofs.YtljekdpgjaahjaaGreatDoor
open Go.RowKit Num Txt Pf
set_option linter.unusedVariables false
theorem frz {w:World} {g:Nat} {l:Array Value} {t:TypeId} (h:w.heap[g]? = some (.cells l t)) (i:Nat):w.frozen? ⟨g,i,none⟩=false:=by unfold World.frozen?;simp [h]
section
variable {w:World} {g:Nat} {x0 x1 x2 x3 x4 x5 x6 x7 x8 x9 a b c d e f i j k l:Value} {t:TypeId}
theorem pset2 (h:w.heap[g]? = some (.cells #[x0,x1] t)):((w.setCell ⟨g,0,none⟩ a).setCell ⟨g,1,none⟩ b).heap[g]? = some (.cells #[a,b] t):=heap_put (heap_put h)
theorem pset4 (h:w.heap[g]? = some (.cells #[x0,x1,x2,x3] t)):((((w.setCell ⟨g,0,none⟩ a).setCell ⟨g,1,none⟩ b).setCell ⟨g,2,none⟩ c).setCell ⟨g,3,none⟩ d).heap[g]? = some (.cells #[a,b,c,d] t):=heap_put (heap_put (heap_put (heap_put h)))
theorem pset10 (h:w.heap[g]? = some (.cells #[x0,x1,x2,x3,x4,x5,x6,x7,x8,x9] t)):((((((((((w.setCell ⟨g,0,none⟩ a).setCell ⟨g,1,none⟩ b).setCell ⟨g,2,none⟩ c).setCell ⟨g,3,none⟩ d).setCell ⟨g,4,none⟩ e).setCell ⟨g,5,none⟩ f).setCell ⟨g,6,none⟩ i).setCell ⟨g,7,none⟩ j).setCell ⟨g,8,none⟩ k).setCell ⟨g,9,none⟩ l).heap[g]? = some (.cells #[a,b,c,d,e,f,i,j,k,l] t):=by
 have h0:(w.setCell ⟨g,0,none⟩ a).heap[g]? = some (.cells #[a,x1,x2,x3,x4,x5,x6,x7,x8,x9] t):=heap_put h
 have h1:((w.setCell ⟨g,0,none⟩ a).setCell ⟨g,1,none⟩ b).heap[g]? = some (.cells #[a,b,x2,x3,x4,x5,x6,x7,x8,x9] t):=heap_put h0
 clear h0
 generalize (w.setCell ⟨g,0,none⟩ a).setCell ⟨g,1,none⟩ b=w1 at *
 have h0:(w1.setCell ⟨g,2,none⟩ c).heap[g]? = some (.cells #[a,b,c,x3,x4,x5,x6,x7,x8,x9] t):=heap_put h1
 have h1:((w1.setCell ⟨g,2,none⟩ c).setCell ⟨g,3,none⟩ d).heap[g]? = some (.cells #[a,b,c,d,x4,x5,x6,x7,x8,x9] t):=heap_put h0
 clear h0
 generalize (w1.setCell ⟨g,2,none⟩ c).setCell ⟨g,3,none⟩ d=w2 at *
 have h0:(w2.setCell ⟨g,4,none⟩ e).heap[g]? = some (.cells #[a,b,c,d,e,x5,x6,x7,x8,x9] t):=heap_put h1
 have h1:((w2.setCell ⟨g,4,none⟩ e).setCell ⟨g,5,none⟩ f).heap[g]? = some (.cells #[a,b,c,d,e,f,x6,x7,x8,x9] t):=heap_put h0
 clear h0
 generalize (w2.setCell ⟨g,4,none⟩ e).setCell ⟨g,5,none⟩ f=w3 at *
 have h0:(w3.setCell ⟨g,6,none⟩ i).heap[g]? = some (.cells #[a,b,c,d,e,f,i,x7,x8,x9] t):=heap_put h1
 have h1:((w3.setCell ⟨g,6,none⟩ i).setCell ⟨g,7,none⟩ j).heap[g]? = some (.cells #[a,b,c,d,e,f,i,j,x8,x9] t):=heap_put h0
 clear h0
 generalize (w3.setCell ⟨g,6,none⟩ i).setCell ⟨g,7,none⟩ j=w4 at *
 have h0:(w4.setCell ⟨g,8,none⟩ k).heap[g]? = some (.cells #[a,b,c,d,e,f,i,j,k,x9] t):=heap_put h1
 exact heap_put h0
end
theorem results_cell_two {fn:Func} {p u v:Tmp} {ty:TypeId} (h:fn.results=#[.cell p ty,.tmp u,.tmp v]) (tmps:Array Value) (P:Program) (w:World) :
  (results fn tmps).run P w =
   ((asAddr (tmps.getD p undef)).run P w).andThen fun a w₁=>((loadVar ty a).run P w₁).andThen fun x w₂=>.ok (.tuple #[x,tmps.getD u undef,tmps.getD v undef]) w₂:=by
 simp only [results,h]
 simp [Sem.run_bind,Result.andThen]
section
variable {fn:Func} {p u v:Tmp} {ty:TypeId} {w:World} {g:Nat} {cs:Array Value} {x y:Value} {tmps:Array Value}
set_option maxRecDepth 100000 in
theorem res_row (h:fn.results=#[.cell p ty,.tmp u]) (hl:(loadVar ty ⟨g,0,none⟩).run Tryz.prog w=.ok (.agg cs) w) (hp:tmps.getD p undef=.pointer (some ⟨g,0,none⟩)) (hv:tmps.getD u undef=x) :
  (results fn tmps).run Tryz.prog w=.ok (.tuple #[.agg cs,x]) w:=by
 rw [results_cell_tmp h,hp,hv]
 show ((loadVar ty ⟨g,0,none⟩).run Tryz.prog w).andThen _=_
 rw [hl];rfl
set_option maxRecDepth 100000 in
theorem res_row2 (h:fn.results=#[.cell p ty,.tmp u,.tmp v]) (hl:(loadVar ty ⟨g,0,none⟩).run Tryz.prog w=.ok (.agg cs) w) (hp:tmps.getD p undef=.pointer (some ⟨g,0,none⟩)) (hv:tmps.getD u undef=x) (hy:tmps.getD v undef=y) :
  (results fn tmps).run Tryz.prog w=.ok (.tuple #[.agg cs,x,y]) w:=by
 rw [results_cell_two h,hp,hv,hy]
 show ((loadVar ty ⟨g,0,none⟩).run Tryz.prog w).andThen _=_
 rw [hl];rfl
end
section
variable {w:World} {g:Nat} {t:TypeId} {a b c d e f i j k l:Value}
set_option maxRecDepth 100000 in
theorem ld_vis (h:w.heap[g]? = some (.cells #[a,b] t)):(loadVar 133 ⟨g,0,none⟩).run Tryz.prog w=.ok (.agg #[a,b]) w:=by
 have hl:=run_loadVar_row (P:=Tryz.prog) w g t 133 #[a,b] _ _ h Tryz.underlying133 rfl (by kernel_rfl)
 exact hl
set_option maxRecDepth 100000 in
theorem ld_plan (h:w.heap[g]? = some (.cells #[a,b] t)):(loadVar 25 ⟨g,0,none⟩).run Tryz.prog w=.ok (.agg #[a,b]) w:=run_loadVar_row (P:=Tryz.prog) w g t 25 #[a,b] _ _ h Tryz.underlying25 rfl (by kernel_rfl)
set_option maxRecDepth 100000 in
theorem ld_rou (h:w.heap[g]? = some (.cells #[a,b,c,d] t)):(loadVar 50 ⟨g,0,none⟩).run Tryz.prog w=.ok (.agg #[a,b,c,d]) w:=run_loadVar_row (P:=Tryz.prog) w g t 50 #[a,b,c,d] _ _ h Tryz.underlying50 rfl (by kernel_rfl)
set_option maxRecDepth 100000 in
theorem ld_proof (h:w.heap[g]? = some (.cells #[a,b,c,d] t)):(loadVar 28 ⟨g,0,none⟩).run Tryz.prog w=.ok (.agg #[a,b,c,d]) w:=run_loadVar_row (P:=Tryz.prog) w g t 28 #[a,b,c,d] _ _ h Tryz.underlying28 rfl (by kernel_rfl)
set_option maxRecDepth 100000 in
theorem ld_node (h:w.heap[g]? = some (.cells #[a,b,c,d,e,f,i,j,k,l] t)):(loadVar 45 ⟨g,0,none⟩).run Tryz.prog w=.ok (.agg #[a,b,c,d,e,f,i,j,k,l]) w:=run_loadVar_row (P:=Tryz.prog) w g t 45 #[a,b,c,d,e,f,i,j,k,l] _ _ h Tryz.underlying45 rfl (by kernel_rfl)
end
attribute [local go_sem] B_size B_get B_toList B_mk B_extract B_append
def EqUp {α} (xs ys:List α) (k:Nat):Prop:=∀ i,i<k→xs[i]? = ys[i]?
theorem EqUp.zero {α} (xs ys:List α):EqUp xs ys 0:=fun i hi=>absurd hi (Nat.not_lt_zero _)
theorem EqUp.succ {α} {xs ys:List α} {k:Nat} (h:EqUp xs ys k) (hk:xs[k]? = ys[k]?):EqUp xs ys (k+1):=fun i hi=>by
 by_cases e:i=k
 ·rw [e];exact hk
 ·exact h i (by omega)
theorem EqUp.all {α} {xs ys:List α} {k:Nat} (h:EqUp xs ys k) (h1:xs.length≤k) (hl:xs.length=ys.length):xs=ys:=List.ext_getElem? fun i=>by
 by_cases e:i<k
 ·exact h i e
 ·rw [List.getElem?_eq_none (by omega),List.getElem?_eq_none (by omega)]
open Classical in
noncomputable def eqv {α:Type} (a b:α):Bool:=decide (a=b)
open Classical in
theorem eqv_true {α:Type} {a b:α} (h:a=b):eqv a b=true:=by unfold eqv;exact decide_eq_true h
open Classical in
theorem eqv_false {α:Type} {a b:α} (h:a≠b):eqv a b=false:=by unfold eqv;exact decide_eq_false h
open Classical in
theorem eqv_iff {α:Type} {a b:α}:eqv a b=true↔a=b:=by unfold eqv;exact decide_eq_true_iff
theorem neq_get {α:Type} {xs ys:List α} {k:Nat} (h:xs[k]? ≠ ys[k]?):xs≠ys:=fun e=>h (by rw [e])
theorem boolsP_length (l:List Bool):(boolsP l).length=l.length:=by simp [boolsP]
theorem boolsP_at (l:List Bool) (k:Nat) (h:k<l.length):(boolsP l)[k]? = some (.bool l[k]):=boolsP_get l k h
theorem ints_at2 (l:List Int) (k:Nat) (h:k<l.length):(ints l)[k]? = some (.int .i64 l[k]):=by unfold ints;rw [List.getElem?_map,List.getElem?_eq_getElem h];rfl
theorem strs_at (l:List Str) (k:Nat) (h:k<l.length):(strs l)[k]? = some (.string (B l[k])):=by unfold strs;rw [List.getElem?_map,List.getElem?_eq_getElem h];rfl
set_option maxHeartbeats 1000000 in
theorem eqBools_any (xs ys:List Bool) (A C:Option Addr) (ca cc:Nat) (w:World) (hx:Cells w A (boolsP xs)) (hy:Cells w C (boolsP ys)) (hla:xs.length≤ca∧ca≤maxLen) (hlc:ys.length≤cc∧cc≤maxLen) :
  Calls Tryz.prog 110 #[.slice A xs.length ca,.slice C ys.length cc] w fun e w'=>e=.returned (.bool (eqv xs ys))∧Below w.heap.size w w':=by
 unfold maxLen at hla hlc
 by_cases hl:xs.length=ys.length
 ·by_cases h0:xs.length=0
  ·have e1:xs=[]:=List.length_eq_zero_iff.1 h0
   have e2:ys=[]:=List.length_eq_zero_iff.1 (hl ▸ h0)
   subst e1 e2
   rw [eqv_true rfl]
   go_enter Tryz.func110,Tryz.ntmps110
   go_wp2_with fail
   go_loopw [13] (fun i wr=>i=.int .i64 0∧wr=w) (fun _ _=>0)
   case atStart=>exact ⟨rfl,by trivial⟩
   case round =>
    obtain ⟨rfl,rfl⟩:=hrel
    go_wp2_with fail
    go_ret
    exact ⟨rfl,Below.refl _ _⟩
  ·obtain ⟨b1,o1,rfl,hb1,hx1⟩:=hx (by rw [boolsP_length];omega)
   obtain ⟨b2,o2,rfl,hb2,hx2⟩:=hy (by rw [boolsP_length];omega)
   have e0:((xs.length:Int) != (ys.length:Int))=false:=by rw [hl];simp
   clear hx hy
   go_enter Tryz.func110,Tryz.ntmps110
   go_wp2_with fail
   go_loopw [5,13] (fun _ i wr=>∃ k:Nat,k≤xs.length∧i=.int .i64 k∧EqUp xs ys k∧Below w.heap.size w wr) (fun _ i _=>xs.length - (intOf i).toNat)
   case atStart=>exact ⟨0,by omega,rfl,EqUp.zero _ _,Below.refl _ _⟩
   case round =>
    obtain ⟨k,hk,rfl,heq,hbel⟩:=hrel
    have HEQ:=Lib.hid heq
    clear heq
    by_cases hlt:k<xs.length
    ·have hlt2:k<ys.length:=by omega
     have y1:wr.cell? ⟨b1,o1+k,none⟩=some (.bool (xs[k])):=(hbel.cell (p:=⟨b1,o1+k,none⟩) hb1).trans (hx1 k _ (boolsP_at xs k hlt))
     have y2:wr.cell? ⟨b2,o2+k,none⟩=some (.bool (ys[k])):=(hbel.cell (p:=⟨b2,o2+k,none⟩) hb2).trans (hx2 k _ (boolsP_at ys k hlt2))
     have HG:=Lib.hid (List.getElem?_eq_getElem hlt)
     have HG2:=Lib.hid (List.getElem?_eq_getElem hlt2)
     have hkl:(k:Int)<(xs.length:Int):=by omega
     have hkl2:(k:Int)<(ys.length:Int):=by omega
     by_cases hxy:xs[k]=ys[k]
     ·have HN:=Lib.hid (HEQ.out.succ (by rw [HG.out,HG2.out,hxy]))
      rw [hxy] at y1
      clear hxy HG HG2
      generalize ys[k]=u at *
      have e1:(u != u)=false:=by simp
      go_wp2_with fail
      go_quiet (fail)
      have hb0:=below_drewN hbel nq
      go_wp2_with fail
      all_goals first
       |(go_roundw
         case rel=>exact ⟨k+1,by omega,by go_num,HN.out,hb0⟩
         case measure=>simp [intOf];omega)
       |exact ⟨⟨k+1,by omega,by go_num,HN.out,hb0⟩,by simp [intOf];omega⟩
     ·have HR:=Lib.hid (eqv_false (neq_get (xs:=xs) (ys:=ys) (k:=k) (by rw [HG.out,HG2.out];exact fun e=>hxy (by injection e))))
      clear HG HG2
      generalize xs[k]=u at *
      generalize ys[k]=v at *
      have e1:(u != v)=true:=by simpa using hxy
      have e2:(u == v)=false:=by simpa using hxy
      have e3:(!(u == v))=true:=by simpa using hxy
      go_wp2_with fail
      go_quiet (fail)
      have hb0:=below_drewN hbel nq
      go_wp2_with fail
      go_ret
      rw [HR.out]
      exact ⟨rfl,hb0⟩
    ·have hkx:¬ (k:Int)<(xs.length:Int):=by omega
     have HR:=Lib.hid (eqv_true (HEQ.out.all (by omega) hl))
     go_wp2_with fail
     go_ret
     rw [HR.out]
     exact ⟨rfl,hbel⟩
 ·have e0:((xs.length:Int) != (ys.length:Int))=true:=by simp;omega
  rw [eqv_false fun e=>hl (by rw [e])]
  go_enter Tryz.func110,Tryz.ntmps110
  go_wp2_with fail
  go_ret
  exact ⟨rfl,Below.refl _ _⟩
set_option maxHeartbeats 1000000 in
theorem eqInts_any (xs ys:List Int) (A C:Option Addr) (ca cc:Nat) (w:World) (hx:Cells w A (ints xs)) (hy:Cells w C (ints ys)) (hla:xs.length≤ca∧ca≤maxLen) (hlc:ys.length≤cc∧cc≤maxLen) :
  Calls Tryz.prog 80 #[.slice A xs.length ca,.slice C ys.length cc] w fun e w'=>e=.returned (.bool (eqv xs ys))∧Below w.heap.size w w':=by
 unfold maxLen at hla hlc
 by_cases hl:xs.length=ys.length
 ·by_cases h0:xs.length=0
  ·have e1:xs=[]:=List.length_eq_zero_iff.1 h0
   have e2:ys=[]:=List.length_eq_zero_iff.1 (hl ▸ h0)
   subst e1 e2
   rw [eqv_true rfl]
   go_enter Tryz.func80,Tryz.ntmps80
   go_wp2_with fail
   go_loopw [13] (fun i wr=>i=.int .i64 0∧wr=w) (fun _ _=>0)
   case atStart=>exact ⟨rfl,by trivial⟩
   case round =>
    obtain ⟨rfl,rfl⟩:=hrel
    go_wp2_with fail
    go_ret
    exact ⟨rfl,Below.refl _ _⟩
  ·obtain ⟨b1,o1,rfl,hb1,hx1⟩:=hx (by rw [ints_length];omega)
   obtain ⟨b2,o2,rfl,hb2,hx2⟩:=hy (by rw [ints_length];omega)
   have e0:((xs.length:Int) != (ys.length:Int))=false:=by rw [hl];simp
   clear hx hy
   go_enter Tryz.func80,Tryz.ntmps80
   go_wp2_with fail
   go_loopw [5,13] (fun _ i wr=>∃ k:Nat,k≤xs.length∧i=.int .i64 k∧EqUp xs ys k∧Below w.heap.size w wr) (fun _ i _=>xs.length - (intOf i).toNat)
   case atStart=>exact ⟨0,by omega,rfl,EqUp.zero _ _,Below.refl _ _⟩
   case round =>
    obtain ⟨k,hk,rfl,heq,hbel⟩:=hrel
    have HEQ:=Lib.hid heq
    clear heq
    by_cases hlt:k<xs.length
    ·have hlt2:k<ys.length:=by omega
     have y1:wr.cell? ⟨b1,o1+k,none⟩=some (.int .i64 (xs[k])):=(hbel.cell (p:=⟨b1,o1+k,none⟩) hb1).trans (hx1 k _ (ints_at2 xs k hlt))
     have y2:wr.cell? ⟨b2,o2+k,none⟩=some (.int .i64 (ys[k])):=(hbel.cell (p:=⟨b2,o2+k,none⟩) hb2).trans (hx2 k _ (ints_at2 ys k hlt2))
     have HG:=Lib.hid (List.getElem?_eq_getElem hlt)
     have HG2:=Lib.hid (List.getElem?_eq_getElem hlt2)
     have hkl:(k:Int)<(xs.length:Int):=by omega
     have hkl2:(k:Int)<(ys.length:Int):=by omega
     by_cases hxy:xs[k]=ys[k]
     ·have HN:=Lib.hid (HEQ.out.succ (by rw [HG.out,HG2.out,hxy]))
      rw [hxy] at y1
      clear hxy HG HG2
      generalize ys[k]=u at *
      have e1:(u != u)=false:=by simp
      go_wp2_with fail
      go_quiet (fail)
      have hb0:=below_drewN hbel nq
      go_wp2_with fail
      all_goals first
       |(go_roundw
         case rel=>exact ⟨k+1,by omega,by go_num,HN.out,hb0⟩
         case measure=>simp [intOf];omega)
       |exact ⟨⟨k+1,by omega,by go_num,HN.out,hb0⟩,by simp [intOf];omega⟩
     ·have HR:=Lib.hid (eqv_false (neq_get (xs:=xs) (ys:=ys) (k:=k) (by rw [HG.out,HG2.out];exact fun e=>hxy (by injection e))))
      clear HG HG2
      generalize xs[k]=u at *
      generalize ys[k]=v at *
      have e1:(u != v)=true:=by simpa using hxy
      have e2:(u == v)=false:=by simpa using hxy
      have e3:(!(u == v))=true:=by simpa using hxy
      go_wp2_with fail
      go_quiet (fail)
      have hb0:=below_drewN hbel nq
      go_wp2_with fail
      go_ret
      rw [HR.out]
      exact ⟨rfl,hb0⟩
    ·have hkx:¬ (k:Int)<(xs.length:Int):=by omega
     have HR:=Lib.hid (eqv_true (HEQ.out.all (by omega) hl))
     go_wp2_with fail
     go_ret
     rw [HR.out]
     exact ⟨rfl,hbel⟩
 ·have e0:((xs.length:Int) != (ys.length:Int))=true:=by simp;omega
  rw [eqv_false fun e=>hl (by rw [e])]
  go_enter Tryz.func80,Tryz.ntmps80
  go_wp2_with fail
  go_ret
  exact ⟨rfl,Below.refl _ _⟩
set_option maxHeartbeats 1000000 in
theorem eqStrs_any (xs ys:List Str) (A C:Option Addr) (ca cc:Nat) (w:World) (hx:Cells w A (strs xs)) (hy:Cells w C (strs ys)) (hla:xs.length≤ca∧ca≤maxLen) (hlc:ys.length≤cc∧cc≤maxLen) :
  Calls Tryz.prog 82 #[.slice A xs.length ca,.slice C ys.length cc] w fun e w'=>e=.returned (.bool (eqv xs ys))∧Below w.heap.size w w':=by
 unfold maxLen at hla hlc
 by_cases hl:xs.length=ys.length
 ·by_cases h0:xs.length=0
  ·have e1:xs=[]:=List.length_eq_zero_iff.1 h0
   have e2:ys=[]:=List.length_eq_zero_iff.1 (hl ▸ h0)
   subst e1 e2
   rw [eqv_true rfl]
   go_enter Tryz.func82,Tryz.ntmps82
   go_wp2_with fail
   go_loopw [13] (fun i wr=>i=.int .i64 0∧wr=w) (fun _ _=>0)
   case atStart=>exact ⟨rfl,by trivial⟩
   case round =>
    obtain ⟨rfl,rfl⟩:=hrel
    go_wp2_with fail
    go_ret
    exact ⟨rfl,Below.refl _ _⟩
  ·obtain ⟨b1,o1,rfl,hb1,hx1⟩:=hx (by rw [strs_length];omega)
   obtain ⟨b2,o2,rfl,hb2,hx2⟩:=hy (by rw [strs_length];omega)
   have e0:((xs.length:Int) != (ys.length:Int))=false:=by rw [hl];simp
   clear hx hy
   go_enter Tryz.func82,Tryz.ntmps82
   go_wp2_with fail
   go_loopw [5,13] (fun _ i wr=>∃ k:Nat,k≤xs.length∧i=.int .i64 k∧EqUp xs ys k∧Below w.heap.size w wr) (fun _ i _=>xs.length - (intOf i).toNat)
   case atStart=>exact ⟨0,by omega,rfl,EqUp.zero _ _,Below.refl _ _⟩
   case round =>
    obtain ⟨k,hk,rfl,heq,hbel⟩:=hrel
    have HEQ:=Lib.hid heq
    clear heq
    by_cases hlt:k<xs.length
    ·have hlt2:k<ys.length:=by omega
     have y1:wr.cell? ⟨b1,o1+k,none⟩=some (.string (B xs[k])):=(hbel.cell (p:=⟨b1,o1+k,none⟩) hb1).trans (hx1 k _ (strs_at xs k hlt))
     have y2:wr.cell? ⟨b2,o2+k,none⟩=some (.string (B ys[k])):=(hbel.cell (p:=⟨b2,o2+k,none⟩) hb2).trans (hx2 k _ (strs_at ys k hlt2))
     have HG:=Lib.hid (List.getElem?_eq_getElem hlt)
     have HG2:=Lib.hid (List.getElem?_eq_getElem hlt2)
     have hkl:(k:Int)<(xs.length:Int):=by omega
     have hkl2:(k:Int)<(ys.length:Int):=by omega
     by_cases hxy:xs[k]=ys[k]
     ·have HN:=Lib.hid (HEQ.out.succ (by rw [HG.out,HG2.out,hxy]))
      rw [hxy] at y1
      clear hxy HG HG2
      generalize ys[k]=u at *
      have e1:(u != u)=false:=by simp
      go_wp2_with fail
      go_quiet (fail)
      have hb0:=below_drewN hbel nq
      go_wp2_with fail
      all_goals first
       |(go_roundw
         case rel=>exact ⟨k+1,by omega,by go_num,HN.out,hb0⟩
         case measure=>simp [intOf];omega)
       |exact ⟨⟨k+1,by omega,by go_num,HN.out,hb0⟩,by simp [intOf];omega⟩
     ·have HR:=Lib.hid (eqv_false (neq_get (xs:=xs) (ys:=ys) (k:=k) (by rw [HG.out,HG2.out];exact fun e=>hxy (by injection e))))
      clear HG HG2
      generalize xs[k]=u at *
      generalize ys[k]=v at *
      have e1:(u != v)=true:=by simpa using hxy
      have e2:(u == v)=false:=by simpa using hxy
      have e3:(!(u == v))=true:=by simpa using hxy
      go_wp2_with fail
      go_quiet (fail)
      have hb0:=below_drewN hbel nq
      go_wp2_with fail
      go_ret
      rw [HR.out]
      exact ⟨rfl,hb0⟩
    ·have hkx:¬ (k:Int)<(xs.length:Int):=by omega
     have HR:=Lib.hid (eqv_true (HEQ.out.all (by omega) hl))
     go_wp2_with fail
     go_ret
     rw [HR.out]
     exact ⟨rfl,hbel⟩
 ·have e0:((xs.length:Int) != (ys.length:Int))=true:=by simp;omega
  rw [eqv_false fun e=>hl (by rw [e])]
  go_enter Tryz.func82,Tryz.ntmps82
  go_wp2_with fail
  go_ret
  exact ⟨rfl,Below.refl _ _⟩
theorem elems {α:Type} {f:α→List Value} {k:Nat} (hf:∀ x,(f x).length=k) (hk:0<k) {w:World} {A:Option Addr} {l:List α} (h:Cells w A (l.flatMap f)) (h0:0<l.length) :
  ∃ b off,A=some ⟨b,off,none⟩∧b<w.heap.size∧∀ i (hi:i<l.length) j v,(f l[i])[j]? = some v→w.cell? ⟨b,off+i*k+j,none⟩=some v:=by
 obtain ⟨b,off,e,hb,hc⟩:=h (by rw [flat_length f hf];exact Nat.mul_pos h0 hk)
 refine ⟨b,off,e,hb,fun i hi j v hv=>?_⟩
 have hj:j<k:=by rw [← hf l[i]];exact (List.getElem?_eq_some_iff.1 hv).1
 rw [Nat.add_assoc]
 exact hc _ _ (by rw [flat_get f hf l i hi j hj];exact hv)
set_option maxHeartbeats 1000000 in
theorem eqVis_any (xs ys:List (Int × Bool)) (A C:Option Addr) (ca cc:Nat) (w:World) (hx:Cells w A (xs.flatMap visC)) (hy:Cells w C (ys.flatMap visC)) (hla:xs.length≤ca∧ca≤maxLen) (hlc:ys.length≤cc∧cc≤maxLen) :
  Calls Tryz.prog 111 #[.slice A xs.length ca,.slice C ys.length cc] w fun e w'=>e=.returned (.bool (eqv xs ys))∧Below w.heap.size w w':=by
 unfold maxLen at hla hlc
 by_cases hl:xs.length=ys.length
 ·by_cases h0:xs.length=0
  ·have e1:xs=[]:=List.length_eq_zero_iff.1 h0
   have e2:ys=[]:=List.length_eq_zero_iff.1 (hl ▸ h0)
   subst e1 e2
   rw [eqv_true rfl]
   go_enter Tryz.func111,Tryz.ntmps111
   go_wp2_with fail
   go_loopw [13] (fun i wr=>i=.int .i64 0∧wr=w) (fun _ _=>0)
   case atStart=>exact ⟨rfl,by trivial⟩
   case round =>
    obtain ⟨rfl,rfl⟩:=hrel
    go_wp2_with fail
    go_ret
    exact ⟨rfl,Below.refl _ _⟩
  ·obtain ⟨b1,o1,rfl,hb1,hx1⟩:=elems visC_len (by decide) hx (by omega)
   obtain ⟨b2,o2,rfl,hb2,hx2⟩:=elems visC_len (by decide) hy (by omega)
   have e0:((xs.length:Int) != (ys.length:Int))=false:=by rw [hl];simp
   clear hx hy
   go_enter Tryz.func111,Tryz.ntmps111
   go_wp2_with fail
   go_loopw [5,13] (fun _ i wr=>∃ k:Nat,k≤xs.length∧i=.int .i64 k∧EqUp xs ys k∧Below w.heap.size w wr) (fun _ i _=>xs.length - (intOf i).toNat)
   case atStart=>exact ⟨0,by omega,rfl,EqUp.zero _ _,Below.refl _ _⟩
   case round =>
    obtain ⟨k,hk,rfl,heq,hbel⟩:=hrel
    have HEQ:=Lib.hid heq
    clear heq
    by_cases hlt:k<xs.length
    ·have hlt2:k<ys.length:=by omega
     have x0:wr.cell? ⟨b1,o1+k*2,none⟩=some (.int .i64 xs[k].1):=(hbel.cell (p:=⟨b1,o1+k*2,none⟩) hb1).trans (hx1 k hlt 0 _ rfl)
     have x1:wr.cell? ⟨b1,o1+k*2+1,none⟩=some (.bool xs[k].2):=(hbel.cell (p:=⟨b1,o1+k*2+1,none⟩) hb1).trans (hx1 k hlt 1 _ rfl)
     have y0:wr.cell? ⟨b2,o2+k*2,none⟩=some (.int .i64 ys[k].1):=(hbel.cell (p:=⟨b2,o2+k*2,none⟩) hb2).trans (hx2 k hlt2 0 _ rfl)
     have y1:wr.cell? ⟨b2,o2+k*2+1,none⟩=some (.bool ys[k].2):=(hbel.cell (p:=⟨b2,o2+k*2+1,none⟩) hb2).trans (hx2 k hlt2 1 _ rfl)
     have HG:=Lib.hid (List.getElem?_eq_getElem hlt)
     have HG2:=Lib.hid (List.getElem?_eq_getElem hlt2)
     have hkl:(k:Int)<(xs.length:Int):=by omega
     have hkl2:(k:Int)<(ys.length:Int):=by omega
     by_cases hxy:xs[k]=ys[k]
     ·have HN:=Lib.hid (HEQ.out.succ (by rw [HG.out,HG2.out,hxy]))
      rw [hxy] at x0 x1
      clear hxy HG HG2
      generalize ys[k].1=u0 at *
      generalize ys[k].2=u1 at *
      go_wp2_with fail
      go_quiet (fail)
      have hb0:=below_drewN hbel nq
      go_wp2_with fail
      all_goals first
       |(go_roundw
         case rel=>exact ⟨k+1,by omega,by go_num,HN.out,hb0⟩
         case measure=>simp [intOf];omega)
       |exact ⟨⟨k+1,by omega,by go_num,HN.out,hb0⟩,by simp [intOf];omega⟩
     ·have HR:=Lib.hid (eqv_false (neq_get (xs:=xs) (ys:=ys) (k:=k) (by rw [HG.out,HG2.out];exact fun e=>hxy (by injection e))))
      clear HG HG2
      by_cases h0:xs[k].1=ys[k].1
      ·skip
       have n1:xs[k].2≠ys[k].2:=fun h1=>hxy (Prod.ext h0 (h1))
       have e1x:(xs[k].2 == ys[k].2)=false:=by rw [beq_eq_false_iff_ne];exact n1
       rw [h0] at x0
       clear hxy h0 n1
       generalize xs[k].2=u1 at *
       generalize ys[k].1=v0 at *
       generalize ys[k].2=v1 at *
       go_wp2_with fail
       go_quiet (fail)
       have hb0:=below_drewN hbel nq
       go_wp2_with fail
       go_ret
       rw [HR.out]
       exact ⟨rfl,hb0⟩
      ·have n0:xs[k].1≠ys[k].1:=h0
       have e0x:(xs[k].1 == ys[k].1)=false:=by rw [beq_eq_false_iff_ne];exact n0
       clear hxy  n0
       generalize xs[k].1=u0 at *
       generalize xs[k].2=u1 at *
       generalize ys[k].1=v0 at *
       generalize ys[k].2=v1 at *
       go_wp2_with fail
       go_quiet (fail)
       have hb0:=below_drewN hbel nq
       go_wp2_with fail
       go_ret
       rw [HR.out]
       exact ⟨rfl,hb0⟩
    ·have hkx:¬ (k:Int)<(xs.length:Int):=by omega
     have HR:=Lib.hid (eqv_true (HEQ.out.all (by omega) hl))
     go_wp2_with fail
     go_ret
     rw [HR.out]
     exact ⟨rfl,hbel⟩
 ·have e0:((xs.length:Int) != (ys.length:Int))=true:=by simp;omega
  rw [eqv_false fun e=>hl (by rw [e])]
  go_enter Tryz.func111,Tryz.ntmps111
  go_wp2_with fail
  go_ret
  exact ⟨rfl,Below.refl _ _⟩
set_option maxHeartbeats 1000000 in
theorem eqCuts_any (xs ys:List (Int × Int × Int)) (A C:Option Addr) (ca cc:Nat) (w:World) (hx:Cells w A (xs.flatMap cutC)) (hy:Cells w C (ys.flatMap cutC)) (hla:xs.length≤ca∧ca≤maxLen) (hlc:ys.length≤cc∧cc≤maxLen) :
  Calls Tryz.prog 81 #[.slice A xs.length ca,.slice C ys.length cc] w fun e w'=>e=.returned (.bool (eqv xs ys))∧Below w.heap.size w w':=by
 unfold maxLen at hla hlc
 by_cases hl:xs.length=ys.length
 ·by_cases h0:xs.length=0
  ·have e1:xs=[]:=List.length_eq_zero_iff.1 h0
   have e2:ys=[]:=List.length_eq_zero_iff.1 (hl ▸ h0)
   subst e1 e2
   rw [eqv_true rfl]
   go_enter Tryz.func81,Tryz.ntmps81
   go_wp2_with fail
   go_loopw [13] (fun i wr=>i=.int .i64 0∧wr=w) (fun _ _=>0)
   case atStart=>exact ⟨rfl,by trivial⟩
   case round =>
    obtain ⟨rfl,rfl⟩:=hrel
    go_wp2_with fail
    go_ret
    exact ⟨rfl,Below.refl _ _⟩
  ·obtain ⟨b1,o1,rfl,hb1,hx1⟩:=elems cutC_len (by decide) hx (by omega)
   obtain ⟨b2,o2,rfl,hb2,hx2⟩:=elems cutC_len (by decide) hy (by omega)
   have e0:((xs.length:Int) != (ys.length:Int))=false:=by rw [hl];simp
   clear hx hy
   go_enter Tryz.func81,Tryz.ntmps81
   go_wp2_with fail
   go_loopw [5,13] (fun _ i wr=>∃ k:Nat,k≤xs.length∧i=.int .i64 k∧EqUp xs ys k∧Below w.heap.size w wr) (fun _ i _=>xs.length - (intOf i).toNat)
   case atStart=>exact ⟨0,by omega,rfl,EqUp.zero _ _,Below.refl _ _⟩
   case round =>
    obtain ⟨k,hk,rfl,heq,hbel⟩:=hrel
    have HEQ:=Lib.hid heq
    clear heq
    by_cases hlt:k<xs.length
    ·have hlt2:k<ys.length:=by omega
     have x0:wr.cell? ⟨b1,o1+k*3,none⟩=some (.int .i64 xs[k].1):=(hbel.cell (p:=⟨b1,o1+k*3,none⟩) hb1).trans (hx1 k hlt 0 _ rfl)
     have x1:wr.cell? ⟨b1,o1+k*3+1,none⟩=some (.int .i64 xs[k].2.1):=(hbel.cell (p:=⟨b1,o1+k*3+1,none⟩) hb1).trans (hx1 k hlt 1 _ rfl)
     have x2:wr.cell? ⟨b1,o1+k*3+2,none⟩=some (.int .i64 xs[k].2.2):=(hbel.cell (p:=⟨b1,o1+k*3+2,none⟩) hb1).trans (hx1 k hlt 2 _ rfl)
     have y0:wr.cell? ⟨b2,o2+k*3,none⟩=some (.int .i64 ys[k].1):=(hbel.cell (p:=⟨b2,o2+k*3,none⟩) hb2).trans (hx2 k hlt2 0 _ rfl)
     have y1:wr.cell? ⟨b2,o2+k*3+1,none⟩=some (.int .i64 ys[k].2.1):=(hbel.cell (p:=⟨b2,o2+k*3+1,none⟩) hb2).trans (hx2 k hlt2 1 _ rfl)
     have y2:wr.cell? ⟨b2,o2+k*3+2,none⟩=some (.int .i64 ys[k].2.2):=(hbel.cell (p:=⟨b2,o2+k*3+2,none⟩) hb2).trans (hx2 k hlt2 2 _ rfl)
     have HG:=Lib.hid (List.getElem?_eq_getElem hlt)
     have HG2:=Lib.hid (List.getElem?_eq_getElem hlt2)
     have hkl:(k:Int)<(xs.length:Int):=by omega
     have hkl2:(k:Int)<(ys.length:Int):=by omega
     by_cases hxy:xs[k]=ys[k]
     ·have HN:=Lib.hid (HEQ.out.succ (by rw [HG.out,HG2.out,hxy]))
      rw [hxy] at x0 x1 x2
      clear hxy HG HG2
      generalize ys[k].1=u0 at *
      generalize ys[k].2.1=u1 at *
      generalize ys[k].2.2=u2 at *
      go_wp2_with fail
      go_quiet (fail)
      have hb0:=below_drewN hbel nq
      go_wp2_with fail
      all_goals first
       |(go_roundw
         case rel=>exact ⟨k+1,by omega,by go_num,HN.out,hb0⟩
         case measure=>simp [intOf];omega)
       |exact ⟨⟨k+1,by omega,by go_num,HN.out,hb0⟩,by simp [intOf];omega⟩
     ·have HR:=Lib.hid (eqv_false (neq_get (xs:=xs) (ys:=ys) (k:=k) (by rw [HG.out,HG2.out];exact fun e=>hxy (by injection e))))
      clear HG HG2
      by_cases h0:xs[k].1=ys[k].1
      ·skip
       by_cases h1:xs[k].2.1=ys[k].2.1
       ·skip
        have n2:xs[k].2.2≠ys[k].2.2:=fun h2=>hxy (Prod.ext h0 (Prod.ext h1 (h2)))
        have e2x:(xs[k].2.2 == ys[k].2.2)=false:=by rw [beq_eq_false_iff_ne];exact n2
        rw [h0] at x0
        rw [h1] at x1
        clear hxy h0 h1 n2
        generalize xs[k].2.2=u2 at *
        generalize ys[k].1=v0 at *
        generalize ys[k].2.1=v1 at *
        generalize ys[k].2.2=v2 at *
        go_wp2_with fail
        go_quiet (fail)
        have hb0:=below_drewN hbel nq
        go_wp2_with fail
        go_ret
        rw [HR.out]
        exact ⟨rfl,hb0⟩
       ·have n1:xs[k].2.1≠ys[k].2.1:=h1
        have e1x:(xs[k].2.1 == ys[k].2.1)=false:=by rw [beq_eq_false_iff_ne];exact n1
        rw [h0] at x0
        clear hxy h0 n1
        generalize xs[k].2.1=u1 at *
        generalize xs[k].2.2=u2 at *
        generalize ys[k].1=v0 at *
        generalize ys[k].2.1=v1 at *
        generalize ys[k].2.2=v2 at *
        go_wp2_with fail
        go_quiet (fail)
        have hb0:=below_drewN hbel nq
        go_wp2_with fail
        go_ret
        rw [HR.out]
        exact ⟨rfl,hb0⟩
      ·have n0:xs[k].1≠ys[k].1:=h0
       have e0x:(xs[k].1 == ys[k].1)=false:=by rw [beq_eq_false_iff_ne];exact n0
       clear hxy  n0
       generalize xs[k].1=u0 at *
       generalize xs[k].2.1=u1 at *
       generalize xs[k].2.2=u2 at *
       generalize ys[k].1=v0 at *
       generalize ys[k].2.1=v1 at *
       generalize ys[k].2.2=v2 at *
       go_wp2_with fail
       go_quiet (fail)
       have hb0:=below_drewN hbel nq
       go_wp2_with fail
       go_ret
       rw [HR.out]
       exact ⟨rfl,hb0⟩
    ·have hkx:¬ (k:Int)<(xs.length:Int):=by omega
     have HR:=Lib.hid (eqv_true (HEQ.out.all (by omega) hl))
     go_wp2_with fail
     go_ret
     rw [HR.out]
     exact ⟨rfl,hbel⟩
 ·have e0:((xs.length:Int) != (ys.length:Int))=true:=by simp;omega
  rw [eqv_false fun e=>hl (by rw [e])]
  go_enter Tryz.func81,Tryz.ntmps81
  go_wp2_with fail
  go_ret
  exact ⟨rfl,Below.refl _ _⟩
theorem obj_cell {w:World} {g:Nat} {l:Array Value} {t:TypeId} (h:w.heap[g]? = some (.cells l t)) (i:Nat):w.cell? ⟨g,i,none⟩=l[i]? := by
 unfold World.cell?;simp only [h];rfl
theorem obj_free {w:World} {g:Nat} {l:Array Value} {t:TypeId} (h:w.heap[g]? = some (.cells l t)) (i:Nat):w.frozen? ⟨g,i,none⟩=false:=by
 unfold World.frozen?;simp only [h];simp
theorem cells4 {w:World} {g:Nat} {a b c d:Value} {t:TypeId} (h:w.heap[g]? = some (.cells #[a,b,c,d] t)):w.cell? ⟨g,0,none⟩=some a∧w.cell? ⟨g,1,none⟩=some b∧w.cell? ⟨g,2,none⟩=some c∧w.cell? ⟨g,3,none⟩=some d :=
 ⟨(obj_cell h 0).trans rfl,(obj_cell h 1).trans rfl,(obj_cell h 2).trans rfl,(obj_cell h 3).trans rfl⟩
theorem cells2 {w:World} {g:Nat} {a b:Value} {t:TypeId} (h:w.heap[g]? = some (.cells #[a,b] t)):w.cell? ⟨g,0,none⟩=some a∧w.cell? ⟨g,1,none⟩=some b :=
 ⟨(obj_cell h 0).trans rfl,(obj_cell h 1).trans rfl⟩
theorem two_new (w:World) (o p:Obj):Below w.heap.size w ((w.alloc o).alloc p)∧((w.alloc o).alloc p).heap[w.heap.size]? = some o∧((w.alloc o).alloc p).heap[w.heap.size+1]? = some p:=by
 obtain ⟨b1,n1⟩:=new_at w o
 obtain ⟨b2,n2⟩:=new_at (w.alloc o) p
 refine ⟨below_lift b1 b2,row_keep n1 b2,?_⟩
 rw [World.size_alloc] at n2
 exact n2
theorem rou_ext {a b:RouV} (h1:a.kind=b.kind) (h2:a.start=b.start) (h3:a.rests=b.rests) (h4:a.vis=b.vis):a=b:=by
 cases a;cases b;simp only at h1 h2 h3 h4;subst h1 h2 h3 h4;rfl
abbrev rouB (m:RouM):Obj:=.cells #[.int .i64 m.r.kind,.int .i64 m.r.start,.slice m.A m.r.rests.length m.ca,.slice m.C m.r.vis.length m.cc] 50
set_option maxHeartbeats 2000000 in
theorem psame_any (m1 m2:RouM) (w:World) (h1:RouAt w m1) (h2:RouAt w m2) :
  Calls Tryz.prog 79 #[rouA m1,rouA m2] w fun e w'=>e=.returned (.bool (eqv m1.r m2.r))∧Below w.heap.size w w':=by
 obtain ⟨bw,o1,o2⟩:=two_new w (rouB m1) (rouB m2)
 have HE1:=Lib.hid (fun w' (h:Below w.heap.size w w')=>eqBools_any m1.r.rests m2.r.rests m1.A m2.A m1.ca m2.ca w' (h1.rests.below h) (h2.rests.below h) h1.rl h2.rl)
 have HE2:=Lib.hid (fun w' (h:Below w.heap.size w w')=>eqVis_any m1.r.vis m2.r.vis m1.C m2.C m1.cc m2.cc w' (h1.vis.below h) (h2.vis.below h) h1.vl h2.vl)
 have HN1:=Lib.hid (fun (h:m1.r.kind≠m2.r.kind)=>eqv_false (a:=m1.r) (b:=m2.r) (fun e=>h (by rw [e])))
 have HN2:=Lib.hid (fun (h:m1.r.start≠m2.r.start)=>eqv_false (a:=m1.r) (b:=m2.r) (fun e=>h (by rw [e])))
 have HN3:=Lib.hid (fun (h:m1.r.rests≠m2.r.rests)=>eqv_false (a:=m1.r) (b:=m2.r) (fun e=>h (by rw [e])))
 have HN4:=Lib.hid (fun (h:m1.r.vis≠m2.r.vis)=>eqv_false (a:=m1.r) (b:=m2.r) (fun e=>h (by rw [e])))
 have HB:=Lib.hid bw
 have HO1:=Lib.hid o1
 have HO2:=Lib.hid o2
 clear h1 h2 bw o1 o2
 have HEQ:=Lib.hid (show (eqv m1.r m2.r=true↔m1.r=m2.r)∧(m1.r=m2.r→eqv m1.r m2.r=true) from ⟨eqv_iff,eqv_true⟩)
 generalize eqv m1.r m2.r=res at *
 obtain ⟨A,ca,C,cc,⟨k,s,r,v⟩⟩:=m1
 obtain ⟨A2,ca2,C2,cc2,⟨k2,s2,r2,v2⟩⟩:=m2
 simp only at HE1 HE2 HN1 HN2 HN3 HN4 HEQ
 go_enter Tryz.func79,Tryz.ntmps79
 go_upto_region 1 with fail
 generalize ((w.alloc _).alloc _)=wB at *
 obtain ⟨a0,a1,a2,a3⟩:=cells4 HO1.out
 obtain ⟨b0,b1,b2,b3⟩:=cells4 HO2.out
 by_cases hk:k=k2
 ·subst hk
  by_cases hs:s=s2
  ·subst hs
   have HC1:=Lib.hid (HE1.out wB HB.out)
   go_wp2_with fail
   refine HC1.out.mono ?_
   rintro e w3 ⟨rfl,hb3⟩
   have hbw3:=below_lift HB.out hb3
   obtain ⟨a0,a1,a2,a3⟩:=cells4 (row_keep HO1.out hb3)
   obtain ⟨b0,b1,b2,b3⟩:=cells4 (row_keep HO2.out hb3)
   by_cases hr:r=r2
   ·subst hr
    rw [eqv_true (rfl:r=r)]
    have HC2:=Lib.hid (HE2.out w3 hbw3)
    go_wp2_with fail
    refine HC2.out.mono ?_
    rintro e w4 ⟨rfl,hb4⟩
    have hres:eqv v v2=res:=by
     by_cases hv:v=v2
     ·rw [eqv_true hv,HEQ.out.2 (rou_ext rfl rfl rfl hv)]
     ·rw [eqv_false hv,HN4.out hv]
    rw [hres]
    go_wp2_with fail
    go_ret
    exact ⟨rfl,below_lift hbw3 hb4⟩
   ·rw [eqv_false hr]
    have hx:=HN3.out hr
    subst hx
    go_wp2_with fail
    go_ret
    exact ⟨rfl,hbw3⟩
  ·have hx:=HN2.out hs
   subst hx
   have e1:(s == s2)=false:=by simpa using hs
   go_wp2_with fail
   go_ret
   exact ⟨rfl,HB.out⟩
 ·have hx:=HN1.out hk
  subst hx
  have e1:(k == k2)=false:=by simpa using hk
  go_wp2_with fail
  go_ret
  exact ⟨rfl,HB.out⟩
theorem map_get {α β} (f:α→β) {xs:List α} {k:Nat} (h:k<xs.length):(xs.map f)[k]? = some (f xs[k]):=by rw [List.getElem?_map,List.getElem?_eq_getElem h];rfl
set_option maxHeartbeats 4000000 in
theorem eqRous_any (xs ys:List RouM) (A C:Option Addr) (ca cc:Nat) (w:World) (hx:Cells w A (xs.flatMap RouM.cells)) (hy:Cells w C (ys.flatMap RouM.cells)) (hxe:∀ r ∈ xs,RouAt w r) (hye:∀ r ∈ ys,RouAt w r) (hla:xs.length≤ca∧ca≤maxLen) (hlc:ys.length≤cc∧cc≤maxLen) :
  Calls Tryz.prog 78 #[.slice A xs.length ca,.slice C ys.length cc,.func (Fn.func 79) #[] #[]] w fun e w'=>e=.returned (.bool (eqv (xs.map (·.r)) (ys.map (·.r))))∧Below w.heap.size w w':=by
 unfold maxLen at hla hlc
 by_cases hl:xs.length=ys.length
 ·by_cases h0:xs.length=0
  ·have e1:xs=[]:=List.length_eq_zero_iff.1 h0
   have e2:ys=[]:=List.length_eq_zero_iff.1 (hl ▸ h0)
   subst e1 e2
   rw [eqv_true rfl]
   go_enter Tryz.func78,Tryz.ntmps78
   go_wp2_with fail
   go_loopw [17] (fun i wr=>i=.int .i64 0∧wr=w) (fun _ _=>0)
   case atStart=>exact ⟨rfl,by trivial⟩
   case round =>
    obtain ⟨rfl,rfl⟩:=hrel
    go_wp2_with fail
    go_ret
    exact ⟨rfl,Below.refl _ _⟩
  ·obtain ⟨b1,o1,rfl,hb1,hx1⟩:=elems RouM.cells_len (by decide) hx (by omega)
   obtain ⟨b2,o2,rfl,hb2,hx2⟩:=elems RouM.cells_len (by decide) hy (by omega)
   have e0:((xs.length:Int) != (ys.length:Int))=false:=by rw [hl];simp
   have HX:=Lib.hid hxe
   have HY:=Lib.hid hye
   have HX1:=Lib.hid hx1
   have HX2:=Lib.hid hx2
   have HL:=Lib.hid hl
   clear hx hy hxe hye hx1 hx2 hl
   go_enter Tryz.func78,Tryz.ntmps78
   go_wp2_with fail
   go_loopw [6,7,8,9,17] (fun _ _ _ _ i wr=>∃ k:Nat,k≤xs.length∧i=.int .i64 k∧EqUp (xs.map (·.r)) (ys.map (·.r)) k∧Below w.heap.size w wr) (fun _ _ _ _ i _=>xs.length - (intOf i).toNat)
   case atStart=>exact ⟨0,by omega,rfl,EqUp.zero _ _,Below.refl _ _⟩
   case round =>
    obtain ⟨k,hk,rfl,heq,hbel⟩:=hrel
    have HEQ:=Lib.hid heq
    have HB:=Lib.hid hbel
    clear heq
    by_cases hlt:k<xs.length
    ·have hlt2:k<ys.length:=by have:=HL.out;omega
     have g1:=map_get (·.r) hlt
     have g2:=map_get (·.r) hlt2
     have rx:=HX.out _ (List.getElem_mem hlt)
     have ry:=HY.out _ (List.getElem_mem hlt2)
     have hx1:=HX1.out k hlt
     have hx2:=HX2.out k hlt2
     have HG1:=Lib.hid g1
     have HG2:=Lib.hid g2
     have HRX:=Lib.hid rx
     have HRY:=Lib.hid ry
     clear g1 g2 rx ry
     generalize xs[k]=m1 at *
     generalize ys[k]=m2 at *
     have x0:wr.cell? ⟨b1,o1+k*4,none⟩=some (.int .i64 m1.r.kind):=(hbel.cell (p:=⟨b1,o1+k*4,none⟩) hb1).trans (hx1 0 _ rfl)
     have x1:wr.cell? ⟨b1,o1+k*4+1,none⟩=some (.int .i64 m1.r.start):=(hbel.cell (p:=⟨b1,o1+k*4+1,none⟩) hb1).trans (hx1 1 _ rfl)
     have x2:wr.cell? ⟨b1,o1+k*4+2,none⟩=some (.slice m1.A m1.r.rests.length m1.ca):=(hbel.cell (p:=⟨b1,o1+k*4+2,none⟩) hb1).trans (hx1 2 _ rfl)
     have x3:wr.cell? ⟨b1,o1+k*4+3,none⟩=some (.slice m1.C m1.r.vis.length m1.cc):=(hbel.cell (p:=⟨b1,o1+k*4+3,none⟩) hb1).trans (hx1 3 _ rfl)
     have hkl:(k:Int)<(xs.length:Int):=by omega
     have hkl2:(k:Int)<(ys.length:Int):=by omega
     obtain ⟨n1,p1⟩:=new_at wr (rouB m1)
     have HB1:=Lib.hid (below_lift hbel n1)
     have HP1:=Lib.hid p1
     clear n1 p1 hx1
     go_upto_region 6 with fail
     generalize wr.alloc (rouB m1)=w2 at *
     have hb2w:=HB1.out
     have y0:w2.cell? ⟨b2,o2+k*4,none⟩=some (.int .i64 m2.r.kind):=(hb2w.cell (p:=⟨b2,o2+k*4,none⟩) hb2).trans (hx2 0 _ rfl)
     have y1:w2.cell? ⟨b2,o2+k*4+1,none⟩=some (.int .i64 m2.r.start):=(hb2w.cell (p:=⟨b2,o2+k*4+1,none⟩) hb2).trans (hx2 1 _ rfl)
     have y2:w2.cell? ⟨b2,o2+k*4+2,none⟩=some (.slice m2.A m2.r.rests.length m2.ca):=(hb2w.cell (p:=⟨b2,o2+k*4+2,none⟩) hb2).trans (hx2 2 _ rfl)
     have y3:w2.cell? ⟨b2,o2+k*4+3,none⟩=some (.slice m2.C m2.r.vis.length m2.cc):=(hb2w.cell (p:=⟨b2,o2+k*4+3,none⟩) hb2).trans (hx2 3 _ rfl)
     obtain ⟨n2,p2⟩:=new_at w2 (rouB m2)
     have HB2:=Lib.hid (below_lift hb2w n2)
     have HP2:=Lib.hid p2
     have HP1':=Lib.hid (row_keep HP1.out n2)
     clear n2 p2 hx2 x0 x1 x2 x3 hb2w HP1
     go_upto_region 7 with fail
     generalize w2.alloc (rouB m2)=w3 at *
     clear y0 y1 y2 y3
     obtain ⟨a0,a1,a2,a3⟩:=cells4 HP1'.out
     obtain ⟨c0,c1,c2,c3⟩:=cells4 HP2.out
     have HC:=Lib.hid (psame_any m1 m2 w3 (HRX.out.below HB2.out) (HRY.out.below HB2.out))
     go_wp2_with fail
     refine HC.out.mono ?_
     rintro e w4 ⟨rfl,hb4⟩
     have hb5:=below_lift HB2.out hb4
     by_cases hm:m1.r=m2.r
     ·rw [eqv_true hm]
      have HN:=Lib.hid (HEQ.out.succ (by rw [HG1.out,HG2.out,hm]))
      clear hm
      go_wp2_with fail
      go_roundw
      case rel=>exact ⟨k+1,by omega,by go_num,HN.out,hb5⟩
      case measure=>simp [intOf];omega
     ·rw [eqv_false hm]
      have HR:=Lib.hid (eqv_false (neq_get (xs:=xs.map (·.r)) (ys:=ys.map (·.r)) (k:=k) (by rw [HG1.out,HG2.out];exact fun e=>hm (by injection e))))
      clear hm
      go_wp2_with fail
      go_ret
      rw [HR.out]
      exact ⟨rfl,hb5⟩
    ·have hkx:¬ (k:Int)<(xs.length:Int):=by omega
     have HR:=Lib.hid (eqv_true (HEQ.out.all (by rw [List.length_map];omega) (by rw [List.length_map,List.length_map];exact HL.out)))
     go_wp2_with fail
     go_ret
     rw [HR.out]
     exact ⟨rfl,hbel⟩
 ·have e0:((xs.length:Int) != (ys.length:Int))=true:=by simp;omega
  rw [eqv_false fun e=>hl (by have:=congrArg List.length e;rwa [List.length_map,List.length_map] at this)]
  go_enter Tryz.func78,Tryz.ntmps78
  go_wp2_with fail
  go_ret
  exact ⟨rfl,Below.refl _ _⟩
abbrev planB (m:PlanM):Obj:=.cells #[.slice m.A m.rs.length m.ca,.slice m.C m.us.length m.cc] 25
set_option maxHeartbeats 2000000 in
theorem pSame_any (m1 m2:PlanM) (w:World) (h1:PlanAt w m1) (h2:PlanAt w m2) :
  Calls Tryz.prog 42 #[planA m1,planA m2] w fun e w'=>e=.returned (.bool (eqv m1.v m2.v))∧Below w.heap.size w w':=by
 obtain ⟨bw,o1,o2⟩:=two_new w (planB m1) (planB m2)
 have HE1:=Lib.hid (fun w' (h:Below w.heap.size w w')=>eqRous_any m1.rs m2.rs m1.A m2.A m1.ca m2.ca w' (h1.rous.below h) (h2.rous.below h) (fun r hr=>(h1.each r hr).below h) (fun r hr=>(h2.each r hr).below h) h1.rl h2.rl)
 have HE2:=Lib.hid (fun w' (h:Below w.heap.size w w')=>eqInts_any m1.us m2.us m1.C m2.C m1.cc m2.cc w' (h1.uns.below h) (h2.uns.below h) h1.ul h2.ul)
 have HEQ:=Lib.hid (show (eqv m1.v m2.v=(eqv (m1.rs.map (·.r)) (m2.rs.map (·.r)) && eqv m1.us m2.us)) from by
  by_cases ha:m1.rs.map (·.r)=m2.rs.map (·.r)
  ·by_cases hb:m1.us=m2.us
   ·rw [eqv_true ha,eqv_true hb,eqv_true (show m1.v=m2.v by unfold PlanM.v;rw [ha,hb])];rfl
   ·rw [eqv_false hb,Bool.and_false,eqv_false fun e=>hb (by have:=congrArg PlanV.uns e;exact this)]
  ·rw [eqv_false ha,Bool.false_and,eqv_false fun e=>ha (by have:=congrArg PlanV.rous e;exact this)])
 have HB:=Lib.hid bw
 have HO1:=Lib.hid o1
 have HO2:=Lib.hid o2
 clear h1 h2 bw o1 o2
 generalize eqv m1.v m2.v=res at *
 generalize eqv (m1.rs.map (·.r)) (m2.rs.map (·.r))=r1 at *
 generalize eqv m1.us m2.us=r2 at *
 go_enter Tryz.func42,Tryz.ntmps42
 go_upto_region 1 with fail
 generalize ((w.alloc _).alloc _)=wB at *
 obtain ⟨a0,a1⟩:=cells2 HO1.out
 obtain ⟨b0,b1⟩:=cells2 HO2.out
 have HC1:=Lib.hid (HE1.out wB HB.out)
 go_wp2_with fail
 refine HC1.out.mono ?_
 rintro e w3 ⟨rfl,hb3⟩
 have hbw3:=below_lift HB.out hb3
 obtain ⟨a0,a1⟩:=cells2 (row_keep HO1.out hb3)
 obtain ⟨b0,b1⟩:=cells2 (row_keep HO2.out hb3)
 cases r1
 ·have hx:=HEQ.out
  rw [Bool.false_and] at hx
  subst hx
  go_wp2_with fail
  go_ret
  exact ⟨rfl,hbw3⟩
 ·have hx:=HEQ.out
  rw [Bool.true_and] at hx
  subst hx
  have HC2:=Lib.hid (HE2.out w3 hbw3)
  go_wp2_with fail
  refine HC2.out.mono ?_
  rintro e w4 ⟨rfl,hb4⟩
  go_wp2_with fail
  go_ret
  exact ⟨rfl,below_lift hbw3 hb4⟩
abbrev nodeB (m:NodeM):Obj:=.cells #[.bool m.n.leaf,.int .i64 m.n.kind,.slice m.A m.n.cuts.length m.ca,.slice m.C m.n.dual.length m.cc,.int .i64 m.n.ck,.int .i64 m.n.ca,.int .i64 m.n.cb,.int .i64 m.n.cn,.int .i64 m.n.yes,.int .i64 m.n.no] 45
theorem cells10 {w:World} {g:Nat} {a b c d e f h i j k:Value} {t:TypeId} (o:w.heap[g]? = some (.cells #[a,b,c,d,e,f,h,i,j,k] t)) :
  w.cell? ⟨g,0,none⟩=some a∧w.cell? ⟨g,1,none⟩=some b∧w.cell? ⟨g,2,none⟩=some c∧w.cell? ⟨g,3,none⟩=some d∧w.cell? ⟨g,4,none⟩=some e∧w.cell? ⟨g,5,none⟩=some f∧w.cell? ⟨g,6,none⟩=some h∧w.cell? ⟨g,7,none⟩=some i∧w.cell? ⟨g,8,none⟩=some j∧w.cell? ⟨g,9,none⟩=some k :=
 ⟨(obj_cell o 0).trans rfl,(obj_cell o 1).trans rfl,(obj_cell o 2).trans rfl,(obj_cell o 3).trans rfl,(obj_cell o 4).trans rfl,(obj_cell o 5).trans rfl,(obj_cell o 6).trans rfl,(obj_cell o 7).trans rfl,(obj_cell o 8).trans rfl,(obj_cell o 9).trans rfl⟩
theorem node_ext {a b:NodeV} (h0:a.leaf=b.leaf) (h1:a.kind=b.kind) (h2:a.cuts=b.cuts) (h3:a.dual=b.dual) (h4:a.ck=b.ck) (h5:a.ca=b.ca) (h6:a.cb=b.cb) (h7:a.cn=b.cn) (h8:a.yes=b.yes) (h9:a.no=b.no):a=b:=by
 cases a;cases b;simp only at h0 h1 h2 h3 h4 h5 h6 h7 h8 h9;subst h0 h1 h2 h3 h4 h5 h6 h7 h8 h9;rfl
set_option maxHeartbeats 4000000 in
theorem psameNode_any (m1 m2:NodeM) (w:World) (h1:NodeAt w m1) (h2:NodeAt w m2) :
  Calls Tryz.prog 44 #[nodeA m1,nodeA m2] w fun e w'=>e=.returned (.bool (eqv m1.n m2.n))∧Below w.heap.size w w':=by
 obtain ⟨bw,o1,o2⟩:=two_new w (nodeB m1) (nodeB m2)
 have HE1:=Lib.hid (fun w' (h:Below w.heap.size w w')=>eqCuts_any m1.n.cuts m2.n.cuts m1.A m2.A m1.ca m2.ca w' (h1.cuts.below h) (h2.cuts.below h) h1.cl h2.cl)
 have HE2:=Lib.hid (fun w' (h:Below w.heap.size w w')=>eqStrs_any m1.n.dual m2.n.dual m1.C m2.C m1.cc m2.cc w' (h1.dual.below h) (h2.dual.below h) h1.dl h2.dl)
 have HN_leaf:=Lib.hid (fun (h:m1.n.leaf≠m2.n.leaf)=>eqv_false (a:=m1.n) (b:=m2.n) (fun e=>h (by rw [e])))
 have HN_kind:=Lib.hid (fun (h:m1.n.kind≠m2.n.kind)=>eqv_false (a:=m1.n) (b:=m2.n) (fun e=>h (by rw [e])))
 have HN_ck:=Lib.hid (fun (h:m1.n.ck≠m2.n.ck)=>eqv_false (a:=m1.n) (b:=m2.n) (fun e=>h (by rw [e])))
 have HN_ca:=Lib.hid (fun (h:m1.n.ca≠m2.n.ca)=>eqv_false (a:=m1.n) (b:=m2.n) (fun e=>h (by rw [e])))
 have HN_cb:=Lib.hid (fun (h:m1.n.cb≠m2.n.cb)=>eqv_false (a:=m1.n) (b:=m2.n) (fun e=>h (by rw [e])))
 have HN_cn:=Lib.hid (fun (h:m1.n.cn≠m2.n.cn)=>eqv_false (a:=m1.n) (b:=m2.n) (fun e=>h (by rw [e])))
 have HN_yes:=Lib.hid (fun (h:m1.n.yes≠m2.n.yes)=>eqv_false (a:=m1.n) (b:=m2.n) (fun e=>h (by rw [e])))
 have HN_no:=Lib.hid (fun (h:m1.n.no≠m2.n.no)=>eqv_false (a:=m1.n) (b:=m2.n) (fun e=>h (by rw [e])))
 have HN_cuts:=Lib.hid (fun (h:m1.n.cuts≠m2.n.cuts)=>eqv_false (a:=m1.n) (b:=m2.n) (fun e=>h (by rw [e])))
 have HN_dual:=Lib.hid (fun (h:m1.n.dual≠m2.n.dual)=>eqv_false (a:=m1.n) (b:=m2.n) (fun e=>h (by rw [e])))
 have HEQ:=Lib.hid (show m1.n=m2.n→eqv m1.n m2.n=true from eqv_true)
 have HB:=Lib.hid bw
 have HO1:=Lib.hid o1
 have HO2:=Lib.hid o2
 clear h1 h2 bw o1 o2
 generalize eqv m1.n m2.n=res at *
 obtain ⟨A,ca,C,cc,⟨leaf1,kind1,cuts1,dual1,ck1,ca1,cb1,cn1,yes1,no1⟩⟩:=m1
 obtain ⟨A2,ca2',C2,cc2,⟨leaf2,kind2,cuts2,dual2,ck2,ca2,cb2,cn2,yes2,no2⟩⟩:=m2
 simp only at HE1 HE2 HN_leaf HN_kind HN_ck HN_ca HN_cb HN_cn HN_yes HN_no HN_cuts HN_dual HEQ
 go_enter Tryz.func44,Tryz.ntmps44
 go_upto_region 1 with fail
 generalize ((w.alloc _).alloc _)=wB at *
 obtain ⟨a0,a1,a2,a3,a4,a5,a6,a7,a8,a9⟩:=cells10 HO1.out
 obtain ⟨b0,b1,b2,b3,b4,b5,b6,b7,b8,b9⟩:=cells10 HO2.out
 by_cases h:leaf1=leaf2
 ·subst h
  by_cases h:kind1=kind2
  ·subst h
   by_cases h:ck1=ck2
   ·subst h
    by_cases h:ca1=ca2
    ·subst h
     by_cases h:cb1=cb2
     ·subst h
      by_cases h:cn1=cn2
      ·subst h
       by_cases h:yes1=yes2
       ·subst h
        by_cases h:no1=no2
        ·subst h
         have HC1:=Lib.hid (HE1.out wB HB.out)
         go_wp2_with fail
         refine HC1.out.mono ?_
         rintro e w3 ⟨rfl,hb3⟩
         have hbw3:=below_lift HB.out hb3
         obtain ⟨a0,a1,a2,a3,a4,a5,a6,a7,a8,a9⟩:=cells10 (row_keep HO1.out hb3)
         obtain ⟨b0,b1,b2,b3,b4,b5,b6,b7,b8,b9⟩:=cells10 (row_keep HO2.out hb3)
         by_cases hr:cuts1=cuts2
         ·rw [eqv_true hr]
          have HC2:=Lib.hid (HE2.out w3 hbw3)
          go_wp2_with fail
          refine HC2.out.mono ?_
          rintro e w4 ⟨rfl,hb4⟩
          have hres:eqv dual1 dual2=res:=by
           by_cases hv:dual1=dual2
           ·rw [eqv_true hv,HEQ.out (node_ext rfl rfl hr hv rfl rfl rfl rfl rfl rfl)]
           ·rw [eqv_false hv,HN_dual.out hv]
          rw [hres]
          clear hr
          go_wp2_with fail
          go_ret
          exact ⟨rfl,below_lift hbw3 hb4⟩
         ·rw [eqv_false hr]
          have hx:=HN_cuts.out hr
          subst hx
          clear hr
          go_wp2_with fail
          go_ret
          exact ⟨rfl,hbw3⟩
        ·have hx:=HN_no.out h
         subst hx
         have e1:(no1 == no2)=false:=by rw [beq_eq_false_iff_ne];exact h
         clear h
         go_wp2_with fail
         go_ret
         exact ⟨rfl,HB.out⟩
       ·have hx:=HN_yes.out h
        subst hx
        have e1:(yes1 == yes2)=false:=by rw [beq_eq_false_iff_ne];exact h
        clear h
        go_wp2_with fail
        go_ret
        exact ⟨rfl,HB.out⟩
      ·have hx:=HN_cn.out h
       subst hx
       have e1:(cn1 == cn2)=false:=by rw [beq_eq_false_iff_ne];exact h
       clear h
       go_wp2_with fail
       go_ret
       exact ⟨rfl,HB.out⟩
     ·have hx:=HN_cb.out h
      subst hx
      have e1:(cb1 == cb2)=false:=by rw [beq_eq_false_iff_ne];exact h
      clear h
      go_wp2_with fail
      go_ret
      exact ⟨rfl,HB.out⟩
    ·have hx:=HN_ca.out h
     subst hx
     have e1:(ca1 == ca2)=false:=by rw [beq_eq_false_iff_ne];exact h
     clear h
     go_wp2_with fail
     go_ret
     exact ⟨rfl,HB.out⟩
   ·have hx:=HN_ck.out h
    subst hx
    have e1:(ck1 == ck2)=false:=by rw [beq_eq_false_iff_ne];exact h
    clear h
    go_wp2_with fail
    go_ret
    exact ⟨rfl,HB.out⟩
  ·have hx:=HN_kind.out h
   subst hx
   have e1:(kind1 == kind2)=false:=by rw [beq_eq_false_iff_ne];exact h
   clear h
   go_wp2_with fail
   go_ret
   exact ⟨rfl,HB.out⟩
 ·have hx:=HN_leaf.out h
  subst hx
  have e1:(leaf1 == leaf2)=false:=by rw [beq_eq_false_iff_ne];exact h
  clear h
  go_wp2_with fail
  go_ret
  exact ⟨rfl,HB.out⟩
set_option maxHeartbeats 4000000 in
theorem eqNodes_any (xs ys:List NodeM) (A C:Option Addr) (ca cc:Nat) (w:World) (hx:Cells w A (xs.flatMap NodeM.cells)) (hy:Cells w C (ys.flatMap NodeM.cells)) (hxe:∀ r ∈ xs,NodeAt w r) (hye:∀ r ∈ ys,NodeAt w r) (hla:xs.length≤ca∧ca≤maxLen) (hlc:ys.length≤cc∧cc≤maxLen) :
  Calls Tryz.prog 43 #[.slice A xs.length ca,.slice C ys.length cc,.func (Fn.func 44) #[] #[]] w fun e w'=>e=.returned (.bool (eqv (xs.map (·.n)) (ys.map (·.n))))∧Below w.heap.size w w':=by
 unfold maxLen at hla hlc
 by_cases hl:xs.length=ys.length
 ·by_cases h0:xs.length=0
  ·have e1:xs=[]:=List.length_eq_zero_iff.1 h0
   have e2:ys=[]:=List.length_eq_zero_iff.1 (hl ▸ h0)
   subst e1 e2
   rw [eqv_true rfl]
   go_enter Tryz.func43,Tryz.ntmps43
   go_wp2_with fail
   go_loopw [17] (fun i wr=>i=.int .i64 0∧wr=w) (fun _ _=>0)
   case atStart=>exact ⟨rfl,by trivial⟩
   case round =>
    obtain ⟨rfl,rfl⟩:=hrel
    go_wp2_with fail
    go_ret
    exact ⟨rfl,Below.refl _ _⟩
  ·obtain ⟨b1,o1,rfl,hb1,hx1⟩:=elems NodeM.cells_len (by decide) hx (by omega)
   obtain ⟨b2,o2,rfl,hb2,hx2⟩:=elems NodeM.cells_len (by decide) hy (by omega)
   have e0:((xs.length:Int) != (ys.length:Int))=false:=by rw [hl];simp
   have HX:=Lib.hid hxe
   have HY:=Lib.hid hye
   have HX1:=Lib.hid hx1
   have HX2:=Lib.hid hx2
   have HL:=Lib.hid hl
   clear hx hy hxe hye hx1 hx2 hl
   go_enter Tryz.func43,Tryz.ntmps43
   go_wp2_with fail
   go_loopw [6,7,8,9,17] (fun _ _ _ _ i wr=>∃ k:Nat,k≤xs.length∧i=.int .i64 k∧EqUp (xs.map (·.n)) (ys.map (·.n)) k∧Below w.heap.size w wr) (fun _ _ _ _ i _=>xs.length - (intOf i).toNat)
   case atStart=>exact ⟨0,by omega,rfl,EqUp.zero _ _,Below.refl _ _⟩
   case round =>
    obtain ⟨k,hk,rfl,heq,hbel⟩:=hrel
    have HEQ:=Lib.hid heq
    have HB:=Lib.hid hbel
    clear heq
    by_cases hlt:k<xs.length
    ·have hlt2:k<ys.length:=by have:=HL.out;omega
     have g1:=map_get (·.n) hlt
     have g2:=map_get (·.n) hlt2
     have rx:=HX.out _ (List.getElem_mem hlt)
     have ry:=HY.out _ (List.getElem_mem hlt2)
     have hx1:=HX1.out k hlt
     have hx2:=HX2.out k hlt2
     have HG1:=Lib.hid g1
     have HG2:=Lib.hid g2
     have HRX:=Lib.hid rx
     have HRY:=Lib.hid ry
     clear g1 g2 rx ry
     generalize xs[k]=m1 at *
     generalize ys[k]=m2 at *
     have x0:wr.cell? ⟨b1,o1+k*10,none⟩=some (.bool m1.n.leaf):=(hbel.cell (p:=⟨b1,o1+k*10,none⟩) hb1).trans (hx1 0 _ rfl)
     have x1:wr.cell? ⟨b1,o1+k*10+1,none⟩=some (.int .i64 m1.n.kind):=(hbel.cell (p:=⟨b1,o1+k*10+1,none⟩) hb1).trans (hx1 1 _ rfl)
     have x2:wr.cell? ⟨b1,o1+k*10+2,none⟩=some (.slice m1.A m1.n.cuts.length m1.ca):=(hbel.cell (p:=⟨b1,o1+k*10+2,none⟩) hb1).trans (hx1 2 _ rfl)
     have x3:wr.cell? ⟨b1,o1+k*10+3,none⟩=some (.slice m1.C m1.n.dual.length m1.cc):=(hbel.cell (p:=⟨b1,o1+k*10+3,none⟩) hb1).trans (hx1 3 _ rfl)
     have x4:wr.cell? ⟨b1,o1+k*10+4,none⟩=some (.int .i64 m1.n.ck):=(hbel.cell (p:=⟨b1,o1+k*10+4,none⟩) hb1).trans (hx1 4 _ rfl)
     have x5:wr.cell? ⟨b1,o1+k*10+5,none⟩=some (.int .i64 m1.n.ca):=(hbel.cell (p:=⟨b1,o1+k*10+5,none⟩) hb1).trans (hx1 5 _ rfl)
     have x6:wr.cell? ⟨b1,o1+k*10+6,none⟩=some (.int .i64 m1.n.cb):=(hbel.cell (p:=⟨b1,o1+k*10+6,none⟩) hb1).trans (hx1 6 _ rfl)
     have x7:wr.cell? ⟨b1,o1+k*10+7,none⟩=some (.int .i64 m1.n.cn):=(hbel.cell (p:=⟨b1,o1+k*10+7,none⟩) hb1).trans (hx1 7 _ rfl)
     have x8:wr.cell? ⟨b1,o1+k*10+8,none⟩=some (.int .i64 m1.n.yes):=(hbel.cell (p:=⟨b1,o1+k*10+8,none⟩) hb1).trans (hx1 8 _ rfl)
     have x9:wr.cell? ⟨b1,o1+k*10+9,none⟩=some (.int .i64 m1.n.no):=(hbel.cell (p:=⟨b1,o1+k*10+9,none⟩) hb1).trans (hx1 9 _ rfl)
     have hkl:(k:Int)<(xs.length:Int):=by omega
     have hkl2:(k:Int)<(ys.length:Int):=by omega
     obtain ⟨n1,p1⟩:=new_at wr (nodeB m1)
     have HB1:=Lib.hid (below_lift hbel n1)
     have HP1:=Lib.hid p1
     clear n1 p1 hx1
     go_upto_region 6 with fail
     generalize wr.alloc (nodeB m1)=w2 at *
     have hb2w:=HB1.out
     have y0:w2.cell? ⟨b2,o2+k*10,none⟩=some (.bool m2.n.leaf):=(hb2w.cell (p:=⟨b2,o2+k*10,none⟩) hb2).trans (hx2 0 _ rfl)
     have y1:w2.cell? ⟨b2,o2+k*10+1,none⟩=some (.int .i64 m2.n.kind):=(hb2w.cell (p:=⟨b2,o2+k*10+1,none⟩) hb2).trans (hx2 1 _ rfl)
     have y2:w2.cell? ⟨b2,o2+k*10+2,none⟩=some (.slice m2.A m2.n.cuts.length m2.ca):=(hb2w.cell (p:=⟨b2,o2+k*10+2,none⟩) hb2).trans (hx2 2 _ rfl)
     have y3:w2.cell? ⟨b2,o2+k*10+3,none⟩=some (.slice m2.C m2.n.dual.length m2.cc):=(hb2w.cell (p:=⟨b2,o2+k*10+3,none⟩) hb2).trans (hx2 3 _ rfl)
     have y4:w2.cell? ⟨b2,o2+k*10+4,none⟩=some (.int .i64 m2.n.ck):=(hb2w.cell (p:=⟨b2,o2+k*10+4,none⟩) hb2).trans (hx2 4 _ rfl)
     have y5:w2.cell? ⟨b2,o2+k*10+5,none⟩=some (.int .i64 m2.n.ca):=(hb2w.cell (p:=⟨b2,o2+k*10+5,none⟩) hb2).trans (hx2 5 _ rfl)
     have y6:w2.cell? ⟨b2,o2+k*10+6,none⟩=some (.int .i64 m2.n.cb):=(hb2w.cell (p:=⟨b2,o2+k*10+6,none⟩) hb2).trans (hx2 6 _ rfl)
     have y7:w2.cell? ⟨b2,o2+k*10+7,none⟩=some (.int .i64 m2.n.cn):=(hb2w.cell (p:=⟨b2,o2+k*10+7,none⟩) hb2).trans (hx2 7 _ rfl)
     have y8:w2.cell? ⟨b2,o2+k*10+8,none⟩=some (.int .i64 m2.n.yes):=(hb2w.cell (p:=⟨b2,o2+k*10+8,none⟩) hb2).trans (hx2 8 _ rfl)
     have y9:w2.cell? ⟨b2,o2+k*10+9,none⟩=some (.int .i64 m2.n.no):=(hb2w.cell (p:=⟨b2,o2+k*10+9,none⟩) hb2).trans (hx2 9 _ rfl)
     obtain ⟨n2,p2⟩:=new_at w2 (nodeB m2)
     have HB2:=Lib.hid (below_lift hb2w n2)
     have HP2:=Lib.hid p2
     have HP1':=Lib.hid (row_keep HP1.out n2)
     clear n2 p2 hx2 x0 x1 x2 x3 x4 x5 x6 x7 x8 x9 hb2w HP1
     go_upto_region 7 with fail
     generalize w2.alloc (nodeB m2)=w3 at *
     clear y0 y1 y2 y3 y4 y5 y6 y7 y8 y9
     obtain ⟨a0,a1,a2,a3,a4,a5,a6,a7,a8,a9⟩:=cells10 HP1'.out
     obtain ⟨c0,c1,c2,c3,c4,c5,c6,c7,c8,c9⟩:=cells10 HP2.out
     have HC:=Lib.hid (psameNode_any m1 m2 w3 (HRX.out.below HB2.out) (HRY.out.below HB2.out))
     go_wp2_with fail
     refine HC.out.mono ?_
     rintro e w4 ⟨rfl,hb4⟩
     have hb5:=below_lift HB2.out hb4
     by_cases hm:m1.n=m2.n
     ·rw [eqv_true hm]
      have HN:=Lib.hid (HEQ.out.succ (by rw [HG1.out,HG2.out,hm]))
      clear hm
      go_wp2_with fail
      go_roundw
      case rel=>exact ⟨k+1,by omega,by go_num,HN.out,hb5⟩
      case measure=>simp [intOf];omega
     ·rw [eqv_false hm]
      have HR:=Lib.hid (eqv_false (neq_get (xs:=xs.map (·.n)) (ys:=ys.map (·.n)) (k:=k) (by rw [HG1.out,HG2.out];exact fun e=>hm (by injection e))))
      clear hm
      go_wp2_with fail
      go_ret
      rw [HR.out]
      exact ⟨rfl,hb5⟩
    ·have hkx:¬ (k:Int)<(xs.length:Int):=by omega
     have HR:=Lib.hid (eqv_true (HEQ.out.all (by rw [List.length_map];omega) (by rw [List.length_map,List.length_map];exact HL.out)))
     go_wp2_with fail
     go_ret
     rw [HR.out]
     exact ⟨rfl,hbel⟩
 ·have e0:((xs.length:Int) != (ys.length:Int))=true:=by simp;omega
  rw [eqv_false fun e=>hl (by have:=congrArg List.length e;rwa [List.length_map,List.length_map] at this)]
  go_enter Tryz.func43,Tryz.ntmps43
  go_wp2_with fail
  go_ret
  exact ⟨rfl,Below.refl _ _⟩
abbrev proofB (m:ProofM):Obj:=.cells #[.bool m.none,.slice m.P.A m.P.rs.length m.P.ca,.slice m.P.C m.P.us.length m.P.cc,.slice m.A m.ns.length m.ca] 28
set_option maxHeartbeats 4000000 in
theorem pfSame_any (m1 m2:ProofM) (w:World) (h1:ProofAt w m1) (h2:ProofAt w m2) :
  Calls Tryz.prog 16 #[proofA m1,proofA m2] w fun e w'=>e=.returned (.bool (eqv m1.v m2.v))∧Below w.heap.size w w':=by
 obtain ⟨bw,o1,o2⟩:=two_new w (proofB m1) (proofB m2)
 have HE1:=Lib.hid (fun w' (h:Below w.heap.size w w')=>pSame_any m1.P m2.P w' (h1.plan.below h) (h2.plan.below h))
 have HE2:=Lib.hid (fun w' (h:Below w.heap.size w w')=>eqNodes_any m1.ns m2.ns m1.A m2.A m1.ca m2.ca w' (h1.nodes.below h) (h2.nodes.below h) (fun r hr=>(h1.each r hr).below h) (fun r hr=>(h2.each r hr).below h) h1.nl h2.nl)
 have HEQ:=Lib.hid (show eqv m1.v m2.v=((m1.none == m2.none) && (eqv m1.P.v m2.P.v && eqv (m1.ns.map (·.n)) (m2.ns.map (·.n)))) from by
  by_cases ha:m1.none=m2.none
  ·by_cases hb:m1.P.v=m2.P.v
   ·by_cases hc:m1.ns.map (·.n)=m2.ns.map (·.n)
    ·rw [eqv_true hb,eqv_true hc,eqv_true (show m1.v=m2.v by unfold ProofM.v;rw [ha,hb,hc]),ha];simp
    ·rw [eqv_false hc,eqv_false fun e=>hc (by have:=congrArg ProofV.nodes e;exact this)];simp
   ·rw [eqv_false hb,eqv_false fun e=>hb (by have:=congrArg ProofV.plan e;exact this)];simp
  ·rw [show (m1.none == m2.none)=false by rw [beq_eq_false_iff_ne];exact ha,Bool.false_and,eqv_false fun e=>ha (by have:=congrArg ProofV.none e;exact this)])
 have HB:=Lib.hid bw
 have HO1:=Lib.hid o1
 have HO2:=Lib.hid o2
 clear h1 h2 bw o1 o2
 generalize eqv m1.v m2.v=res at *
 generalize eqv m1.P.v m2.P.v=r1 at *
 generalize eqv (m1.ns.map (·.n)) (m2.ns.map (·.n))=r2 at *
 go_enter Tryz.func16,Tryz.ntmps16
 go_upto_region 1 with fail
 generalize ((w.alloc _).alloc _)=wB at *
 obtain ⟨a0,a1,a2,a3⟩:=cells4 HO1.out
 obtain ⟨b0,b1,b2,b3⟩:=cells4 HO2.out
 have HC1:=Lib.hid (HE1.out wB HB.out)
 cases hn:(m1.none == m2.none)
 ·have hx:=HEQ.out
  rw [hn,Bool.false_and] at hx
  subst hx
  go_wp2_with fail
  go_ret
  exact ⟨rfl,HB.out⟩
 have HEQ2:=Lib.hid (show res=(r1 && r2) by have:=HEQ.out;rw [hn,Bool.true_and] at this;exact this)
 go_wp2_with fail
 refine HC1.out.mono ?_
 rintro e w3 ⟨rfl,hb3⟩
 have hbw3:=below_lift HB.out hb3
 obtain ⟨a0,a1,a2,a3⟩:=cells4 (row_keep HO1.out hb3)
 obtain ⟨b0,b1,b2,b3⟩:=cells4 (row_keep HO2.out hb3)
 cases r1
 ·have hx:=HEQ2.out
  rw [Bool.false_and] at hx
  subst hx
  go_wp2_with fail
  go_ret
  exact ⟨rfl,hbw3⟩
 ·have hx:=HEQ2.out
  rw [Bool.true_and] at hx
  subst hx
  have HC2:=Lib.hid (HE2.out w3 hbw3)
  go_wp2_with fail
  refine HC2.out.mono ?_
  rintro e w4 ⟨rfl,hb4⟩
  go_wp2_with fail
  go_ret
  exact ⟨rfl,below_lift hbw3 hb4⟩
end Go.Proofs.YtljekdpgjaahjaaGreatDoor

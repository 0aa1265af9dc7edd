/- Results that lie in a cell; stores of whole structs; slices.Equal of truth values. (PtX and a part of PtE again: their group has names that stand in the Tk texts.) -/
import Derived.Test.YtjcekdiocliddaaGreatDoorG55
import Derived.Laws.ResultCell
import Derived.Laws.Rows
import Derived.BigQuiet
import Derived.Laws.CopyOwn
import Derived.OrdersHeld
import Derived.Deep.RegionHeld3
namespace Go.Proofs.YtjcekdiocliddaaGreatDoor
open Go.RowKit Num Txt Pf
set_option linter.unusedVariables false
attribute [local go_sem] B_size B_get B_toList B_mk B_extract B_append
theorem frz {w:World} {g:Nat} {l:Array Value} {t:TypeId} (h:w.heap[g]? = some (.cells l t)) (i:Nat):w.frozen? ⟨g,i,none⟩=false:=by unfold World.frozen?;simp [h]
section
variable {w:World} {g:Nat} {x0 x1 x2 x3 x4 x5 x6 x7 x8 x9 a b c d e f i j k l:Value} {t:TypeId}
theorem pset2 (h:w.heap[g]? = some (.cells #[x0,x1] t)):((w.setCell ⟨g,0,none⟩ a).setCell ⟨g,1,none⟩ b).heap[g]? = some (.cells #[a,b] t):=heap_put (heap_put h)
theorem pset4 (h:w.heap[g]? = some (.cells #[x0,x1,x2,x3] t)):((((w.setCell ⟨g,0,none⟩ a).setCell ⟨g,1,none⟩ b).setCell ⟨g,2,none⟩ c).setCell ⟨g,3,none⟩ d).heap[g]? = some (.cells #[a,b,c,d] t):=heap_put (heap_put (heap_put (heap_put h)))
theorem pset10 (h:w.heap[g]? = some (.cells #[x0,x1,x2,x3,x4,x5,x6,x7,x8,x9] t)):((((((((((w.setCell ⟨g,0,none⟩ a).setCell ⟨g,1,none⟩ b).setCell ⟨g,2,none⟩ c).setCell ⟨g,3,none⟩ d).setCell ⟨g,4,none⟩ e).setCell ⟨g,5,none⟩ f).setCell ⟨g,6,none⟩ i).setCell ⟨g,7,none⟩ j).setCell ⟨g,8,none⟩ k).setCell ⟨g,9,none⟩ l).heap[g]? = some (.cells #[a,b,c,d,e,f,i,j,k,l] t):=by
 have h0:(w.setCell ⟨g,0,none⟩ a).heap[g]? = some (.cells #[a,x1,x2,x3,x4,x5,x6,x7,x8,x9] t):=heap_put h
 have h1:((w.setCell ⟨g,0,none⟩ a).setCell ⟨g,1,none⟩ b).heap[g]? = some (.cells #[a,b,x2,x3,x4,x5,x6,x7,x8,x9] t):=heap_put h0
 clear h0
 generalize (w.setCell ⟨g,0,none⟩ a).setCell ⟨g,1,none⟩ b=w1 at *
 have h0:(w1.setCell ⟨g,2,none⟩ c).heap[g]? = some (.cells #[a,b,c,x3,x4,x5,x6,x7,x8,x9] t):=heap_put h1
 have h1:((w1.setCell ⟨g,2,none⟩ c).setCell ⟨g,3,none⟩ d).heap[g]? = some (.cells #[a,b,c,d,x4,x5,x6,x7,x8,x9] t):=heap_put h0
 clear h0
 generalize (w1.setCell ⟨g,2,none⟩ c).setCell ⟨g,3,none⟩ d=w2 at *
 have h0:(w2.setCell ⟨g,4,none⟩ e).heap[g]? = some (.cells #[a,b,c,d,e,x5,x6,x7,x8,x9] t):=heap_put h1
 have h1:((w2.setCell ⟨g,4,none⟩ e).setCell ⟨g,5,none⟩ f).heap[g]? = some (.cells #[a,b,c,d,e,f,x6,x7,x8,x9] t):=heap_put h0
 clear h0
 generalize (w2.setCell ⟨g,4,none⟩ e).setCell ⟨g,5,none⟩ f=w3 at *
 have h0:(w3.setCell ⟨g,6,none⟩ i).heap[g]? = some (.cells #[a,b,c,d,e,f,i,x7,x8,x9] t):=heap_put h1
 have h1:((w3.setCell ⟨g,6,none⟩ i).setCell ⟨g,7,none⟩ j).heap[g]? = some (.cells #[a,b,c,d,e,f,i,j,x8,x9] t):=heap_put h0
 clear h0
 generalize (w3.setCell ⟨g,6,none⟩ i).setCell ⟨g,7,none⟩ j=w4 at *
 have h0:(w4.setCell ⟨g,8,none⟩ k).heap[g]? = some (.cells #[a,b,c,d,e,f,i,j,k,x9] t):=heap_put h1
 exact heap_put h0
end
theorem results_cell_two {fn:Func} {p u v:Tmp} {ty:TypeId} (h:fn.results=#[.cell p ty,.tmp u,.tmp v]) (tmps:Array Value) (P:Program) (w:World) :
  (results fn tmps).run P w =
   ((asAddr (tmps.getD p undef)).run P w).andThen fun a w₁=>((loadVar ty a).run P w₁).andThen fun x w₂=>.ok (.tuple #[x,tmps.getD u undef,tmps.getD v undef]) w₂:=by
 simp only [results,h]
 simp [Sem.run_bind,Result.andThen]
section
variable {fn:Func} {p u v:Tmp} {ty:TypeId} {w:World} {g:Nat} {cs:Array Value} {x y:Value} {tmps:Array Value}
set_option maxRecDepth 100000 in
theorem res_row (h:fn.results=#[.cell p ty,.tmp u]) (hl:(loadVar ty ⟨g,0,none⟩).run Tryz.prog w=.ok (.agg cs) w) (hp:tmps.getD p undef=.pointer (some ⟨g,0,none⟩)) (hv:tmps.getD u undef=x) :
  (results fn tmps).run Tryz.prog w=.ok (.tuple #[.agg cs,x]) w:=by
 rw [results_cell_tmp h,hp,hv]
 show ((loadVar ty ⟨g,0,none⟩).run Tryz.prog w).andThen _=_
 rw [hl];rfl
set_option maxRecDepth 100000 in
theorem res_row2 (h:fn.results=#[.cell p ty,.tmp u,.tmp v]) (hl:(loadVar ty ⟨g,0,none⟩).run Tryz.prog w=.ok (.agg cs) w) (hp:tmps.getD p undef=.pointer (some ⟨g,0,none⟩)) (hv:tmps.getD u undef=x) (hy:tmps.getD v undef=y) :
  (results fn tmps).run Tryz.prog w=.ok (.tuple #[.agg cs,x,y]) w:=by
 rw [results_cell_two h,hp,hv,hy]
 show ((loadVar ty ⟨g,0,none⟩).run Tryz.prog w).andThen _=_
 rw [hl];rfl
end
section
variable {w:World} {g:Nat} {t:TypeId} {a b c d e f i j k l:Value}
set_option maxRecDepth 100000 in
theorem ld_vis (h:w.heap[g]? = some (.cells #[a,b] t)):(loadVar 92 ⟨g,0,none⟩).run Tryz.prog w=.ok (.agg #[a,b]) w:=by
 have hl:=run_loadVar_row (P:=Tryz.prog) w g t 92 #[a,b] _ _ h Tryz.underlying92 rfl (by kernel_rfl)
 exact hl
set_option maxRecDepth 100000 in
theorem ld_rou (h:w.heap[g]? = some (.cells #[a,b,c,d] t)):(loadVar 34 ⟨g,0,none⟩).run Tryz.prog w=.ok (.agg #[a,b,c,d]) w:=run_loadVar_row (P:=Tryz.prog) w g t 34 #[a,b,c,d] _ _ h Tryz.underlying34 rfl (by kernel_rfl)
end
def EqUp {α} (xs ys:List α) (k:Nat):Prop:=∀ i,i<k→xs[i]? = ys[i]?
theorem EqUp.zero {α} (xs ys:List α):EqUp xs ys 0:=fun i hi=>absurd hi (Nat.not_lt_zero _)
theorem EqUp.succ {α} {xs ys:List α} {k:Nat} (h:EqUp xs ys k) (hk:xs[k]? = ys[k]?):EqUp xs ys (k+1):=fun i hi=>by
 by_cases e:i=k
 ·rw [e];exact hk
 ·exact h i (by omega)
theorem EqUp.all {α} {xs ys:List α} {k:Nat} (h:EqUp xs ys k) (h1:xs.length≤k) (hl:xs.length=ys.length):xs=ys:=List.ext_getElem? fun i=>by
 by_cases e:i<k
 ·exact h i e
 ·rw [List.getElem?_eq_none (by omega),List.getElem?_eq_none (by omega)]
open Classical in
noncomputable def eqv {α:Type} (a b:α):Bool:=decide (a=b)
open Classical in
theorem eqv_true {α:Type} {a b:α} (h:a=b):eqv a b=true:=by unfold eqv;exact decide_eq_true h
open Classical in
theorem eqv_false {α:Type} {a b:α} (h:a≠b):eqv a b=false:=by unfold eqv;exact decide_eq_false h
open Classical in
theorem eqv_iff {α:Type} {a b:α}:eqv a b=true↔a=b:=by unfold eqv;exact decide_eq_true_iff
theorem neq_get {α:Type} {xs ys:List α} {k:Nat} (h:xs[k]? ≠ ys[k]?):xs≠ys:=fun e=>h (by rw [e])
theorem boolsP_length (l:List Bool):(boolsP l).length=l.length:=by simp [boolsP]
theorem boolsP_at (l:List Bool) (k:Nat) (h:k<l.length):(boolsP l)[k]? = some (.bool l[k]):=boolsP_get l k h
theorem ints_at2 (l:List Int) (k:Nat) (h:k<l.length):(ints l)[k]? = some (.int .i64 l[k]):=by unfold ints;rw [List.getElem?_map,List.getElem?_eq_getElem h];rfl
theorem strs_at (l:List Str) (k:Nat) (h:k<l.length):(strs l)[k]? = some (.string (B l[k])):=by unfold strs;rw [List.getElem?_map,List.getElem?_eq_getElem h];rfl
set_option maxHeartbeats 1000000 in
theorem eqBools_any (xs ys:List Bool) (A C:Option Addr) (ca cc:Nat) (w:World) (hx:Cells w A (boolsP xs)) (hy:Cells w C (boolsP ys)) (hla:xs.length≤ca∧ca≤maxLen) (hlc:ys.length≤cc∧cc≤maxLen) :
  Calls Tryz.prog 26 #[.slice A xs.length ca,.slice C ys.length cc] w fun e w'=>e=.returned (.bool (eqv xs ys))∧Below w.heap.size w w':=by
 unfold maxLen at hla hlc
 by_cases hl:xs.length=ys.length
 ·by_cases h0:xs.length=0
  ·have e1:xs=[]:=List.length_eq_zero_iff.1 h0
   have e2:ys=[]:=List.length_eq_zero_iff.1 (hl ▸ h0)
   subst e1 e2
   rw [eqv_true rfl]
   go_enter Tryz.func26,Tryz.ntmps26
   go_wp2_with fail
   go_loopw [13] (fun i wr=>i=.int .i64 0∧wr=w) (fun _ _=>0)
   case atStart=>exact ⟨rfl,by trivial⟩
   case round =>
    obtain ⟨rfl,rfl⟩:=hrel
    go_wp2_with fail
    go_ret
    exact ⟨rfl,Below.refl _ _⟩
  ·obtain ⟨b1,o1,rfl,hb1,hx1⟩:=hx (by rw [boolsP_length];omega)
   obtain ⟨b2,o2,rfl,hb2,hx2⟩:=hy (by rw [boolsP_length];omega)
   have e0:((xs.length:Int) != (ys.length:Int))=false:=by rw [hl];simp
   clear hx hy
   go_enter Tryz.func26,Tryz.ntmps26
   go_wp2_with fail
   go_loopw [5,13] (fun _ i wr=>∃ k:Nat,k≤xs.length∧i=.int .i64 k∧EqUp xs ys k∧Below w.heap.size w wr) (fun _ i _=>xs.length - (intOf i).toNat)
   case atStart=>exact ⟨0,by omega,rfl,EqUp.zero _ _,Below.refl _ _⟩
   case round =>
    obtain ⟨k,hk,rfl,heq,hbel⟩:=hrel
    have HEQ:=Lib.hid heq
    clear heq
    by_cases hlt:k<xs.length
    ·have hlt2:k<ys.length:=by omega
     have y1:wr.cell? ⟨b1,o1+k,none⟩=some (.bool (xs[k])):=(hbel.cell (p:=⟨b1,o1+k,none⟩) hb1).trans (hx1 k _ (boolsP_at xs k hlt))
     have y2:wr.cell? ⟨b2,o2+k,none⟩=some (.bool (ys[k])):=(hbel.cell (p:=⟨b2,o2+k,none⟩) hb2).trans (hx2 k _ (boolsP_at ys k hlt2))
     have HG:=Lib.hid (List.getElem?_eq_getElem hlt)
     have HG2:=Lib.hid (List.getElem?_eq_getElem hlt2)
     have hkl:(k:Int)<(xs.length:Int):=by omega
     have hkl2:(k:Int)<(ys.length:Int):=by omega
     by_cases hxy:xs[k]=ys[k]
     ·have HN:=Lib.hid (HEQ.out.succ (by rw [HG.out,HG2.out,hxy]))
      rw [hxy] at y1
      clear hxy HG HG2
      generalize ys[k]=u at *
      have e1:(u != u)=false:=by simp
      go_wp2_with fail
      go_quiet (fail)
      have hb0:=below_drewN hbel nq
      go_wp2_with fail
      all_goals first
       |(go_roundw
         case rel=>exact ⟨k+1,by omega,by go_num,HN.out,hb0⟩
         case measure=>simp [intOf];omega)
       |exact ⟨⟨k+1,by omega,by go_num,HN.out,hb0⟩,by simp [intOf];omega⟩
     ·have HR:=Lib.hid (eqv_false (neq_get (xs:=xs) (ys:=ys) (k:=k) (by rw [HG.out,HG2.out];exact fun e=>hxy (by injection e))))
      clear HG HG2
      generalize xs[k]=u at *
      generalize ys[k]=v at *
      have e1:(u != v)=true:=by simpa using hxy
      have e2:(u == v)=false:=by simpa using hxy
      have e3:(!(u == v))=true:=by simpa using hxy
      go_wp2_with fail
      go_quiet (fail)
      have hb0:=below_drewN hbel nq
      go_wp2_with fail
      go_ret
      rw [HR.out]
      exact ⟨rfl,hb0⟩
    ·have hkx:¬ (k:Int)<(xs.length:Int):=by omega
     have HR:=Lib.hid (eqv_true (HEQ.out.all (by omega) hl))
     go_wp2_with fail
     go_ret
     rw [HR.out]
     exact ⟨rfl,hbel⟩
 ·have e0:((xs.length:Int) != (ys.length:Int))=true:=by simp;omega
  rw [eqv_false fun e=>hl (by rw [e])]
  go_enter Tryz.func26,Tryz.ntmps26
  go_wp2_with fail
  go_ret
  exact ⟨rfl,Below.refl _ _⟩
end Go.Proofs.YtjcekdiocliddaaGreatDoor
namespace Go.Proofs.YtjcekdiocliddaaGreatDoor
open Go.RowKit Num Txt Pf
set_option linter.unusedVariables false
theorem results_cell_one {fn:Func} {p:Tmp} {ty:TypeId} (h:fn.results=#[.cell p ty]) (tmps:Array Value) (P:Program) (w:World) :
  (results fn tmps).run P w=((asAddr (tmps.getD p undef)).run P w).andThen fun a w₁=>(loadVar ty a).run P w₁:=by
 simp only [results,h]
 simp [Sem.run_bind,Result.andThen]
theorem results_cell_cell {fn:Func} {p q u:Tmp} {ty tz:TypeId} (h:fn.results=#[.cell p ty,.cell q tz,.tmp u]) (tmps:Array Value) (P:Program) (w:World) :
  (results fn tmps).run P w =
   ((asAddr (tmps.getD p undef)).run P w).andThen fun a w₁=>((loadVar ty a).run P w₁).andThen fun x w₂=>((asAddr (tmps.getD q undef)).run P w₂).andThen fun b w₃=>((loadVar tz b).run P w₃).andThen fun y w₄=>.ok (.tuple #[x,y,tmps.getD u undef]) w₄:=by
 simp only [results,h]
 simp [Sem.run_bind,Result.andThen]
section
variable {fn:Func} {p q u:Tmp} {ty tz:TypeId} {w:World} {g k:Nat} {cs ds:Array Value} {x:Value} {tmps:Array Value}
set_option maxRecDepth 100000 in
theorem res_row1 (h:fn.results=#[.cell p ty]) (hl:(loadVar ty ⟨g,0,none⟩).run Tryz.prog w=.ok (.agg cs) w) (hp:tmps.getD p undef=.pointer (some ⟨g,0,none⟩)) :
  (results fn tmps).run Tryz.prog w=.ok (.agg cs) w:=by
 rw [results_cell_one h,hp]
 show ((loadVar ty ⟨g,0,none⟩).run Tryz.prog w)=_
 rw [hl]
set_option maxRecDepth 100000 in
theorem res_rows (h:fn.results=#[.cell p ty,.cell q tz,.tmp u]) (hl:(loadVar ty ⟨g,0,none⟩).run Tryz.prog w=.ok (.agg cs) w) (hk:(loadVar tz ⟨k,0,none⟩).run Tryz.prog w=.ok (.agg ds) w) (hp:tmps.getD p undef=.pointer (some ⟨g,0,none⟩)) (hq:tmps.getD q undef=.pointer (some ⟨k,0,none⟩)) (hv:tmps.getD u undef=x) :
  (results fn tmps).run Tryz.prog w=.ok (.tuple #[.agg cs,.agg ds,x]) w:=by
 rw [results_cell_cell h,hp,hq,hv]
 show ((loadVar ty ⟨g,0,none⟩).run Tryz.prog w).andThen _=_
 rw [hl]
 show ((loadVar tz ⟨k,0,none⟩).run Tryz.prog w).andThen _=_
 rw [hk];rfl
end
section
variable {w:World} {g:Nat} {t:TypeId} {a b c d e f i:Value}
set_option maxRecDepth 100000 in
theorem ld_way (h:w.heap[g]? = some (.cells #[a,b,c] t)):(loadVar 236 ⟨g,0,none⟩).run Tryz.prog w=.ok (.agg #[a,b,c]) w:=run_loadVar_row (P:=Tryz.prog) w g t 236 #[a,b,c] _ _ h Tryz.underlying236 rfl (by kernel_rfl)
set_option maxRecDepth 100000 in
theorem ld_arc (h:w.heap[g]? = some (.cells #[a,b,c,d,e,f] t)):(loadVar 188 ⟨g,0,none⟩).run Tryz.prog w=.ok (.agg #[a,b,c,d,e,f]) w:=run_loadVar_row (P:=Tryz.prog) w g t 188 #[a,b,c,d,e,f] _ _ h Tryz.underlying188 rfl (by kernel_rfl)
set_option maxRecDepth 100000 in
theorem ld_stp (h:w.heap[g]? = some (.cells #[a,b,c,d] t)):(loadVar 134 ⟨g,0,none⟩).run Tryz.prog w=.ok (.agg #[a,b,c,d]) w:=run_loadVar_row (P:=Tryz.prog) w g t 134 #[a,b,c,d] _ _ h Tryz.underlying134 rfl (by kernel_rfl)
set_option maxRecDepth 100000 in
theorem ld_score (h:w.heap[g]? = some (.cells #[a,b,c,d] t)):(loadVar 41 ⟨g,0,none⟩).run Tryz.prog w=.ok (.agg #[a,b,c,d]) w:=run_loadVar_row (P:=Tryz.prog) w g t 41 #[a,b,c,d] _ _ h Tryz.underlying41 rfl (by kernel_rfl)
set_option maxRecDepth 100000 in
theorem ld_sheet (h:w.heap[g]? = some (.cells #[a,b,c,d,e] t)):(loadVar 39 ⟨g,0,none⟩).run Tryz.prog w=.ok (.agg #[a,b,c,d,e]) w:=run_loadVar_row (P:=Tryz.prog) w g t 39 #[a,b,c,d,e] _ _ h Tryz.underlying39 rfl (by kernel_rfl)
set_option maxRecDepth 100000 in
theorem ld_lab (h:w.heap[g]? = some (.cells #[a,b,c,d,e,f,i] t)):(loadVar 150 ⟨g,0,none⟩).run Tryz.prog w=.ok (.agg #[a,b,c,d,e,f,i]) w:=run_loadVar_row (P:=Tryz.prog) w g t 150 #[a,b,c,d,e,f,i] _ _ h Tryz.underlying150 rfl (by kernel_rfl)
variable {a0 a1 a2 a3 a4 a5 a6 a7 a8 a9 b0 b1 b2 b3 b4 b5 b6 b7 b8 b9 c0 c1 c2 c3 c4:Value}
set_option maxRecDepth 100000 in
theorem ld_trip (h:w.heap[g]? = some (.cells #[a0,a1,a2,a3,a4,a5,a6,a7,a8,a9,b0,b1,b2,b3,b4,b5,b6,b7,b8,b9,c0,c1,c2,c3,c4] t)):(loadVar 84 ⟨g,0,none⟩).run Tryz.prog w=.ok (.agg #[a0,a1,a2,a3,a4,a5,a6,a7,a8,a9,b0,b1,b2,b3,b4,b5,b6,b7,b8,b9,c0,c1,c2,c3,c4]) w:=run_loadVar_row (P:=Tryz.prog) w g t 84 #[a0,a1,a2,a3,a4,a5,a6,a7,a8,a9,b0,b1,b2,b3,b4,b5,b6,b7,b8,b9,c0,c1,c2,c3,c4] _ _ h Tryz.underlying84 rfl (by kernel_rfl)
end
theorem cell_held {W w' w2:World} {a:Addr} {v:Value} (h0:Below W.heap.size W w') (hb:Below w'.heap.size w' w2) (ha:a.block<W.heap.size) (h:w'.cell? a=some v):w2.cell? a=some v:=(hb.cell (p:=a) (Nat.lt_of_lt_of_le ha h0.size)).trans h
theorem alloc2 (w:World) (a b:Obj):((w.alloc a).alloc b).heap[w.heap.size]? = some a∧((w.alloc a).alloc b).heap[w.heap.size+1]? = some b∧Below w.heap.size w ((w.alloc a).alloc b):=by
 obtain ⟨n1,p1⟩:=new_at w a
 obtain ⟨n2,p2⟩:=new_at (w.alloc a) b
 have hs:(w.alloc a).heap.size=w.heap.size+1:=by simp
 rw [hs] at p2
 have k1:=row_keep p1 n2
 exact ⟨k1,p2,below_lift n1 n2⟩
theorem alloc3 (w:World) (a b c:Obj):(((w.alloc a).alloc b).alloc c).heap[w.heap.size]? = some a∧(((w.alloc a).alloc b).alloc c).heap[w.heap.size+1]? = some b∧(((w.alloc a).alloc b).alloc c).heap[w.heap.size+1+1]? = some c∧Below w.heap.size w (((w.alloc a).alloc b).alloc c):=by
 obtain ⟨k1,k2,k3⟩:=alloc2 w a b
 obtain ⟨n2,p2⟩:=new_at ((w.alloc a).alloc b) c
 have hs:((w.alloc a).alloc b).heap.size=w.heap.size+1+1:=by simp
 rw [hs] at p2
 exact ⟨row_keep k1 n2,row_keep k2 n2,p2,below_lift k3 n2⟩
theorem alloc4 (w:World) (a b c d:Obj):((((w.alloc a).alloc b).alloc c).alloc d).heap[w.heap.size]? = some a∧((((w.alloc a).alloc b).alloc c).alloc d).heap[w.heap.size+1]? = some b∧((((w.alloc a).alloc b).alloc c).alloc d).heap[w.heap.size+1+1]? = some c∧((((w.alloc a).alloc b).alloc c).alloc d).heap[w.heap.size+1+1+1]? = some d∧Below w.heap.size w ((((w.alloc a).alloc b).alloc c).alloc d):=by
 obtain ⟨k1,k2,k3,k4⟩:=alloc3 w a b c
 obtain ⟨n2,p2⟩:=new_at (((w.alloc a).alloc b).alloc c) d
 have hs:(((w.alloc a).alloc b).alloc c).heap.size=w.heap.size+1+1+1:=by simp
 rw [hs] at p2
 exact ⟨row_keep k1 n2,row_keep k2 n2,row_keep k3 n2,p2,below_lift k4 n2⟩
theorem set3 {Bs:Nat} {w0 w:World} {g:Nat} {x0 x1 x2 a b c:Value} {t:TypeId} (h:w.heap[g]? = some (.cells #[x0,x1,x2] t)) (hb:Below Bs w0 w) (hg:Bs≤g):(((w.setCell ⟨g,0,none⟩ a).setCell ⟨g,1,none⟩ b).setCell ⟨g,2,none⟩ c).heap[g]? = some (.cells #[a,b,c] t)∧Below Bs w0 (((w.setCell ⟨g,0,none⟩ a).setCell ⟨g,1,none⟩ b).setCell ⟨g,2,none⟩ c):=by
 refine ⟨?_,(((hb.setCell hg _).setCell hg _).setCell hg _)⟩
 clear hb
 have h0:(w.setCell ⟨g,0,none⟩ a).heap[g]? = some (.cells #[a,x1,x2] t):=heap_put h
 clear h
 generalize w.setCell ⟨g,0,none⟩ a=w1 at *
 have h1:(w1.setCell ⟨g,1,none⟩ b).heap[g]? = some (.cells #[a,b,x2] t):=heap_put h0
 clear h0
 generalize w1.setCell ⟨g,1,none⟩ b=w2 at *
 have h2:(w2.setCell ⟨g,2,none⟩ c).heap[g]? = some (.cells #[a,b,c] t):=heap_put h1
 exact h2
theorem set4 {Bs:Nat} {w0 w:World} {g:Nat} {x0 x1 x2 x3 a b c d:Value} {t:TypeId} (h:w.heap[g]? = some (.cells #[x0,x1,x2,x3] t)) (hb:Below Bs w0 w) (hg:Bs≤g):((((w.setCell ⟨g,0,none⟩ a).setCell ⟨g,1,none⟩ b).setCell ⟨g,2,none⟩ c).setCell ⟨g,3,none⟩ d).heap[g]? = some (.cells #[a,b,c,d] t)∧Below Bs w0 ((((w.setCell ⟨g,0,none⟩ a).setCell ⟨g,1,none⟩ b).setCell ⟨g,2,none⟩ c).setCell ⟨g,3,none⟩ d):=by
 refine ⟨?_,((((hb.setCell hg _).setCell hg _).setCell hg _).setCell hg _)⟩
 clear hb
 have h0:(w.setCell ⟨g,0,none⟩ a).heap[g]? = some (.cells #[a,x1,x2,x3] t):=heap_put h
 clear h
 generalize w.setCell ⟨g,0,none⟩ a=w1 at *
 have h1:(w1.setCell ⟨g,1,none⟩ b).heap[g]? = some (.cells #[a,b,x2,x3] t):=heap_put h0
 clear h0
 generalize w1.setCell ⟨g,1,none⟩ b=w2 at *
 have h2:(w2.setCell ⟨g,2,none⟩ c).heap[g]? = some (.cells #[a,b,c,x3] t):=heap_put h1
 clear h1
 generalize w2.setCell ⟨g,2,none⟩ c=w3 at *
 have h3:(w3.setCell ⟨g,3,none⟩ d).heap[g]? = some (.cells #[a,b,c,d] t):=heap_put h2
 exact h3
theorem set5 {Bs:Nat} {w0 w:World} {g:Nat} {x0 x1 x2 x3 x4 a b c d e:Value} {t:TypeId} (h:w.heap[g]? = some (.cells #[x0,x1,x2,x3,x4] t)) (hb:Below Bs w0 w) (hg:Bs≤g):(((((w.setCell ⟨g,0,none⟩ a).setCell ⟨g,1,none⟩ b).setCell ⟨g,2,none⟩ c).setCell ⟨g,3,none⟩ d).setCell ⟨g,4,none⟩ e).heap[g]? = some (.cells #[a,b,c,d,e] t)∧Below Bs w0 (((((w.setCell ⟨g,0,none⟩ a).setCell ⟨g,1,none⟩ b).setCell ⟨g,2,none⟩ c).setCell ⟨g,3,none⟩ d).setCell ⟨g,4,none⟩ e):=by
 refine ⟨?_,(((((hb.setCell hg _).setCell hg _).setCell hg _).setCell hg _).setCell hg _)⟩
 clear hb
 have h0:(w.setCell ⟨g,0,none⟩ a).heap[g]? = some (.cells #[a,x1,x2,x3,x4] t):=heap_put h
 clear h
 generalize w.setCell ⟨g,0,none⟩ a=w1 at *
 have h1:(w1.setCell ⟨g,1,none⟩ b).heap[g]? = some (.cells #[a,b,x2,x3,x4] t):=heap_put h0
 clear h0
 generalize w1.setCell ⟨g,1,none⟩ b=w2 at *
 have h2:(w2.setCell ⟨g,2,none⟩ c).heap[g]? = some (.cells #[a,b,c,x3,x4] t):=heap_put h1
 clear h1
 generalize w2.setCell ⟨g,2,none⟩ c=w3 at *
 have h3:(w3.setCell ⟨g,3,none⟩ d).heap[g]? = some (.cells #[a,b,c,d,x4] t):=heap_put h2
 clear h2
 generalize w3.setCell ⟨g,3,none⟩ d=w4 at *
 have h4:(w4.setCell ⟨g,4,none⟩ e).heap[g]? = some (.cells #[a,b,c,d,e] t):=heap_put h3
 exact h4
theorem set6 {Bs:Nat} {w0 w:World} {g:Nat} {x0 x1 x2 x3 x4 x5 a b c d e f:Value} {t:TypeId} (h:w.heap[g]? = some (.cells #[x0,x1,x2,x3,x4,x5] t)) (hb:Below Bs w0 w) (hg:Bs≤g):((((((w.setCell ⟨g,0,none⟩ a).setCell ⟨g,1,none⟩ b).setCell ⟨g,2,none⟩ c).setCell ⟨g,3,none⟩ d).setCell ⟨g,4,none⟩ e).setCell ⟨g,5,none⟩ f).heap[g]? = some (.cells #[a,b,c,d,e,f] t)∧Below Bs w0 ((((((w.setCell ⟨g,0,none⟩ a).setCell ⟨g,1,none⟩ b).setCell ⟨g,2,none⟩ c).setCell ⟨g,3,none⟩ d).setCell ⟨g,4,none⟩ e).setCell ⟨g,5,none⟩ f):=by
 refine ⟨?_,((((((hb.setCell hg _).setCell hg _).setCell hg _).setCell hg _).setCell hg _).setCell hg _)⟩
 clear hb
 have h0:(w.setCell ⟨g,0,none⟩ a).heap[g]? = some (.cells #[a,x1,x2,x3,x4,x5] t):=heap_put h
 clear h
 generalize w.setCell ⟨g,0,none⟩ a=w1 at *
 have h1:(w1.setCell ⟨g,1,none⟩ b).heap[g]? = some (.cells #[a,b,x2,x3,x4,x5] t):=heap_put h0
 clear h0
 generalize w1.setCell ⟨g,1,none⟩ b=w2 at *
 have h2:(w2.setCell ⟨g,2,none⟩ c).heap[g]? = some (.cells #[a,b,c,x3,x4,x5] t):=heap_put h1
 clear h1
 generalize w2.setCell ⟨g,2,none⟩ c=w3 at *
 have h3:(w3.setCell ⟨g,3,none⟩ d).heap[g]? = some (.cells #[a,b,c,d,x4,x5] t):=heap_put h2
 clear h2
 generalize w3.setCell ⟨g,3,none⟩ d=w4 at *
 have h4:(w4.setCell ⟨g,4,none⟩ e).heap[g]? = some (.cells #[a,b,c,d,e,x5] t):=heap_put h3
 clear h3
 generalize w4.setCell ⟨g,4,none⟩ e=w5 at *
 have h5:(w5.setCell ⟨g,5,none⟩ f).heap[g]? = some (.cells #[a,b,c,d,e,f] t):=heap_put h4
 exact h5
theorem set7 {Bs:Nat} {w0 w:World} {g:Nat} {x0 x1 x2 x3 x4 x5 x6 a b c d e f i:Value} {t:TypeId} (h:w.heap[g]? = some (.cells #[x0,x1,x2,x3,x4,x5,x6] t)) (hb:Below Bs w0 w) (hg:Bs≤g):(((((((w.setCell ⟨g,0,none⟩ a).setCell ⟨g,1,none⟩ b).setCell ⟨g,2,none⟩ c).setCell ⟨g,3,none⟩ d).setCell ⟨g,4,none⟩ e).setCell ⟨g,5,none⟩ f).setCell ⟨g,6,none⟩ i).heap[g]? = some (.cells #[a,b,c,d,e,f,i] t)∧Below Bs w0 (((((((w.setCell ⟨g,0,none⟩ a).setCell ⟨g,1,none⟩ b).setCell ⟨g,2,none⟩ c).setCell ⟨g,3,none⟩ d).setCell ⟨g,4,none⟩ e).setCell ⟨g,5,none⟩ f).setCell ⟨g,6,none⟩ i):=by
 refine ⟨?_,(((((((hb.setCell hg _).setCell hg _).setCell hg _).setCell hg _).setCell hg _).setCell hg _).setCell hg _)⟩
 clear hb
 have h0:(w.setCell ⟨g,0,none⟩ a).heap[g]? = some (.cells #[a,x1,x2,x3,x4,x5,x6] t):=heap_put h
 clear h
 generalize w.setCell ⟨g,0,none⟩ a=w1 at *
 have h1:(w1.setCell ⟨g,1,none⟩ b).heap[g]? = some (.cells #[a,b,x2,x3,x4,x5,x6] t):=heap_put h0
 clear h0
 generalize w1.setCell ⟨g,1,none⟩ b=w2 at *
 have h2:(w2.setCell ⟨g,2,none⟩ c).heap[g]? = some (.cells #[a,b,c,x3,x4,x5,x6] t):=heap_put h1
 clear h1
 generalize w2.setCell ⟨g,2,none⟩ c=w3 at *
 have h3:(w3.setCell ⟨g,3,none⟩ d).heap[g]? = some (.cells #[a,b,c,d,x4,x5,x6] t):=heap_put h2
 clear h2
 generalize w3.setCell ⟨g,3,none⟩ d=w4 at *
 have h4:(w4.setCell ⟨g,4,none⟩ e).heap[g]? = some (.cells #[a,b,c,d,e,x5,x6] t):=heap_put h3
 clear h3
 generalize w4.setCell ⟨g,4,none⟩ e=w5 at *
 have h5:(w5.setCell ⟨g,5,none⟩ f).heap[g]? = some (.cells #[a,b,c,d,e,f,x6] t):=heap_put h4
 clear h4
 generalize w5.setCell ⟨g,5,none⟩ f=w6 at *
 have h6:(w6.setCell ⟨g,6,none⟩ i).heap[g]? = some (.cells #[a,b,c,d,e,f,i] t):=heap_put h5
 exact h6
theorem cellsX {w:World} {g:Nat} {cs:Array Value} {e:TypeId} {z:Nat × Nat} (h:w.heap[g]? = some (.cells cs e z)) (j:Nat) (v:Value) (hv:cs[j]? = some v):w.cell? ⟨g,j,none⟩=some v:=by simp [World.cell?,h,hv]
theorem row_set {Bs g:Nat} {w0 w:World} {old:Array Value} {t:TypeId} (cs:Array Value) (h:w.heap[g]? = some (.cells old t)) (hb:Below Bs w0 w) (hg:Bs≤g):(w.setRow g cs).heap[g]? = some (.cells cs t)∧Below Bs w0 (w.setRow g cs):=⟨setRow_heap w g old cs t _ h,below_setRow hb hg cs⟩
theorem cells6 {w:World} {g:Nat} {a b c d x y:Value} {e:TypeId} {z:Nat × Nat} (h:w.heap[g]? = some (.cells #[a,b,c,d,x,y] e z)):w.cell? ⟨g,0,none⟩=some a∧w.cell? ⟨g,1,none⟩=some b∧w.cell? ⟨g,2,none⟩=some c∧w.cell? ⟨g,3,none⟩=some d∧w.cell? ⟨g,4,none⟩=some x∧w.cell? ⟨g,5,none⟩=some y:=by
 refine ⟨?_,?_,?_,?_,?_,?_⟩ <;> simp [World.cell?,h]
theorem cells3 {w:World} {g:Nat} {a b c:Value} {e:TypeId} {z:Nat × Nat} (h:w.heap[g]? = some (.cells #[a,b,c] e z)):w.cell? ⟨g,0,none⟩=some a∧w.cell? ⟨g,1,none⟩=some b∧w.cell? ⟨g,2,none⟩=some c:=by
 refine ⟨?_,?_,?_⟩ <;> simp [World.cell?,h]
theorem cells5 {w:World} {g:Nat} {a b c d x:Value} {e:TypeId} {z:Nat × Nat} (h:w.heap[g]? = some (.cells #[a,b,c,d,x] e z)):w.cell? ⟨g,0,none⟩=some a∧w.cell? ⟨g,1,none⟩=some b∧w.cell? ⟨g,2,none⟩=some c∧w.cell? ⟨g,3,none⟩=some d∧w.cell? ⟨g,4,none⟩=some x:=by
 refine ⟨?_,?_,?_,?_,?_⟩ <;> simp [World.cell?,h]
theorem cells7 {w:World} {g:Nat} {a b c d x y k:Value} {e:TypeId} {z:Nat × Nat} (h:w.heap[g]? = some (.cells #[a,b,c,d,x,y,k] e z)):w.cell? ⟨g,0,none⟩=some a∧w.cell? ⟨g,1,none⟩=some b∧w.cell? ⟨g,2,none⟩=some c∧w.cell? ⟨g,3,none⟩=some d∧w.cell? ⟨g,4,none⟩=some x∧w.cell? ⟨g,5,none⟩=some y∧w.cell? ⟨g,6,none⟩=some k:=by
 refine ⟨?_,?_,?_,?_,?_,?_,?_⟩ <;> simp [World.cell?,h]
theorem new_set (w:World) (z cs:Array Value) (t:TypeId):((w.alloc (.cells z t)).setRow w.heap.size cs).heap[w.heap.size]? = some (.cells cs t)∧Below w.heap.size w ((w.alloc (.cells z t)).setRow w.heap.size cs):=row_set cs (new_at w _).2 (new_at w _).1 (Nat.le_refl _)
section
variable {P:Program}
theorem run_loadVar_cells (w:World) (b o:Nat) (ty:TypeId) (cs:List Value) (d:TypeDesc) (hc:∀ j v,cs[j]? = some v→w.cell? ⟨b,o+j,none⟩=some v)
  (hu:P.underlying ty=some d) (hd:(match d with | .struct _ | .array _ _=>true | _=>false)=true) (hi:(P.info? ty).map (·.size)=some cs.length) :
  (loadVar ty ⟨b,o,none⟩).run P w=.ok (.agg cs.toArray) w:=by
 have hl:(loadCells ⟨b,o,none⟩ cs.length).run P w=.ok cs.toArray w :=
  run_loadCells_list (P:=P) w ⟨b,o,none⟩ cs (fun j v hv=>by
   rw [Go.WideShapes.add_plain];exact hc j v hv)
 cases hq:P.info? ty with
 |none=>simp [hq] at hi
 |some i =>
  have hs:i.size=cs.length:=by simpa [hq] using hi
  have hagg:(isAgg ty).run P w=.ok true w:=by
   unfold isAgg
   rw [Sem.run_bind,run_underlying hu w]
   cases d <;> simp_all
  simp [loadVar,Sem.run_bind,hagg,sizeOf,typeInfo,hq,hs,hl]
theorem yl_row {o:Oper} {a:Act} {w:World} (ty:TypeId) (x:Operand) (ho:o.op=.load ty x) (g:Nat) (hx:a.eval x=.pointer (some ⟨g,0,none⟩)) (t:TypeId) (cs:Array Value) (d:TypeDesc)
  (hu:P.underlying ty=some d) (hd:(match d with | .struct _ | .array _ _=>true | _=>false)=true) (hi:(P.info? ty).map (·.size)=some cs.size) (hg:w.heap[g]? = some (.cells cs t)) :
  (execOp a.eval o).run P w=.ok (.value (.agg cs)) w:=by
 unfold execOp
 simp only [ho,hx,Instr.loadAt,Instr.sureAddr,Sem.run_bind,Sem.run_pure,Result.andThen_ok,run_loadVar_row w g t ty cs _ d hg hu hd hi]
theorem yl_cells {o:Oper} {a:Act} {w:World} (ty:TypeId) (x:Operand) (ho:o.op=.load ty x) (b off:Nat) (hx:a.eval x=.pointer (some ⟨b,off,none⟩)) (cs:List Value) (d:TypeDesc)
  (hu:P.underlying ty=some d) (hd:(match d with | .struct _ | .array _ _=>true | _=>false)=true) (hi:(P.info? ty).map (·.size)=some cs.length) (hc:∀ j v,cs[j]? = some v→w.cell? ⟨b,off+j,none⟩=some v) :
  (execOp a.eval o).run P w=.ok (.value (.agg cs.toArray)) w:=by
 unfold execOp
 simp only [ho,hx,Instr.loadAt,Instr.sureAddr,Sem.run_bind,Sem.run_pure,Result.andThen_ok,run_loadVar_cells w b off ty cs d hc hu hd hi]
theorem yl_build {o:Oper} {a:Act} {w:World} (t:TypeId) (parts:Array (Nat × Operand)) (ho:o.op=.build t parts) (cs:Array Value)
  (hb:P.built t (parts.map fun (i,x)=>(i,a.eval x)).toList=some cs):(execOp a.eval o).run P w=.ok (.value (.agg cs)) w:=by
 unfold execOp
 simp only [ho,Sem.run_bind,run_build w t _ cs hb,Result.andThen_ok,Sem.run_pure]
theorem wp_alloc_new {o:Oper} {a:Act} {w:World} {K:Act→World→Prop} {Q:Exit→Act→World→Prop} (ty:TypeId) (ho:o.op=.alloc ty) (z:Array Value) (hz:(P.info? ty).bind (·.zero)=some (.agg z))
  (h:K (a.put o.dst (.pointer (some ⟨w.heap.size,0,none⟩))) (w.alloc (.cells z ty))):o.wp P a w K Q:=by
 cases hq:P.info? ty with
 |none=>rw [hq] at hz;cases hz
 |some i =>
  rw [hq] at hz
  have hz:i.zero=some (.agg z):=hz
  unfold Oper.wp execOp
  simp [ho,Instr.alloc,zeroValue,typeInfo,hq,hz,newVar,newRow,Value.cells]
  exact h
theorem wp_box_new {o:Oper} {a:Act} {w:World} {K:Act→World→Prop} {Q:Exit→Act→World→Prop} (ty:TypeId) (x:Operand) (ho:o.op=.box ty x) (cs:Array Value) (hx:a.eval x=.agg cs)
  (h:K (a.put o.dst (.pointer (some ⟨w.heap.size,0,none⟩))) (w.alloc (.cells cs ty))):o.wp P a w K Q:=by
 unfold Oper.wp execOp
 simp only [ho,hx,Sem.run_bind,Instr.box,newVar,newRow,run_newObj_alloc,Sem.run_pure,Result.andThen_ok,Value.cells]
 exact h
theorem wanted_go {c:Prop} [Decidable c] {A B:Prop} (hc:c) (h:A):if c then A else B:=by rw [if_pos hc];exact h
theorem wp_load_cells {o:Oper} {a:Act} {w:World} {K:Act→World→Prop} {Q:Exit→Act→World→Prop} (ty:TypeId) (x:Operand) (ho:o.op=.load ty x)
  (b off:Nat) (hx:a.eval x=.pointer (some ⟨b,off,none⟩)) (cs:List Value) (d:TypeDesc) (hc:∀ j v,cs[j]? = some v→w.cell? ⟨b,off+j,none⟩=some v)
  (hu:P.underlying ty=some d) (hd:(match d with | .struct _ | .array _ _=>true | _=>false)=true) (hi:(P.info? ty).map (·.size)=some cs.length)
  (h:K (a.put o.dst (.agg cs.toArray)) w):o.wp P a w K Q:=by
 unfold Oper.wp execOp
 simp only [ho,hx,Instr.loadAt,Instr.sureAddr,Sem.run_bind,Sem.run_pure,Result.andThen_ok,run_loadVar_cells w b off ty cs d hc hu hd hi]
 exact h
theorem wpList_load_cells {ops:Array Oper} {rest:List Oper} {o:Oper} {a:Act} {w:World} {Q:Exit→Act→World→Prop} (hgd:o.guard=none) (ty:TypeId) (x:Operand) (ho:o.op=.load ty x)
  (b off:Nat) (hx:a.eval x=.pointer (some ⟨b,off,none⟩)) (cs:List Value) (d:TypeDesc) (hc:∀ j v,cs[j]? = some v→w.cell? ⟨b,off+j,none⟩=some v)
  (hu:P.underlying ty=some d) (hd:(match d with | .struct _ | .array _ _=>true | _=>false)=true) (hi:(P.info? ty).map (·.size)=some cs.length)
  (h:wpList P ops Q rest (a.put o.dst (.agg cs.toArray)) w):wpList P ops Q (o :: rest) a w :=
 wpList_plain hgd fun _ hK=>wp_load_cells ty x ho b off hx cs d hc hu hd hi (hK _ _ h)
end
end Go.Proofs.YtjcekdiocliddaaGreatDoor

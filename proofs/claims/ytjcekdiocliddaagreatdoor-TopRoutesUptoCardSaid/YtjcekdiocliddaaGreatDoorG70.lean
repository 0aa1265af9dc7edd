/- Results that lie in a cell; stores of whole structs; slices.Equal of truth values. (PtX and a part of PtE again: their group has names that stand in the Tk texts.) -/
import Derived.Test.YtjcekdiocliddaaGreatDoorG55
import Derived.Laws.ResultCell
import Derived.Laws.Rows
import Derived.BigQuiet
import Derived.Laws.CopyOwn
import Derived.OrdersHeld
import Derived.Deep.RegionHeld3
namespace Go.Proofs.YtjcekdiocliddaaGreatDoor
open Go.RowKit Num Txt Pf
set_option maxHeartbeats 32000000
set_option maxRecDepth 100000
set_option linter.unusedVariables false
attribute [local go_sem] BS Bg Bt Bm Be Ba
theorem fz {w:World} {g:Nat} {l:Array Value} {t:TypeId} (h:w.heap[g]? = some (.cells l t)) (i:Nat):w.frozen? ⟨g,i,none⟩=false:=by unfold World.frozen?;simp [h]
section
variable {w:World} {g:Nat} {x0 x1 x2 x3 x4 x5 x6 x7 x8 x9 a b c d e f i j k l:Value} {t:TypeId}
end
section
variable {fn:Func} {p u v:Tmp} {ty:TypeId} {w:World} {g:Nat} {cs:Array Value} {x y:Value} {tmps:Array Value}
theorem rr (h:fn.results=#[.cell p ty,.tmp u]) (hl:(loadVar ty ⟨g,0,none⟩).run Tryz.prog w=.ok (.agg cs) w) (hp:tmps.getD p undef=.pointer (some ⟨g,0,none⟩)) (hv:tmps.getD u undef=x) :
  (results fn tmps).run Tryz.prog w=.ok (.tuple #[.agg cs,x]) w:=by
 rw [results_cell_tmp h,hp,hv];show ((loadVar ty ⟨g,0,none⟩).run Tryz.prog w).andThen _=_
 rw [hl];rfl
end
section
variable {w:World} {g:Nat} {t:TypeId} {a b c d e f i j k l:Value}
end
def EqUp {α} (xs ys:List α) (k:Nat):Prop:=∀ i,i<k->xs[i]? = ys[i]?
theorem EqUp.all {α} {xs ys:List α} {k:Nat} (h:EqUp xs ys k) (h1:xs.length<=k) (hl:xs.length=ys.length):xs=ys:=List.ext_getElem? fun i=>by
 by_cases e:i<k
 ·exact h i e
 ·rw [List.getElem?_eq_none (by omega),List.getElem?_eq_none (by omega)]
theorem BP (l:List Bool):(bP l).length=l.length:=by simp [bP]
theorem bT (l:List Bool) (k:Nat) (h:k<l.length):(bP l)[k]? = some (.bool l[k]):=boolsP_get l k h
end Go.Proofs.YtjcekdiocliddaaGreatDoor
namespace Go.Proofs.YtjcekdiocliddaaGreatDoor
open Go.RowKit Num Txt Pf
set_option maxRecDepth 100000
set_option linter.unusedVariables false
theorem Re {fn:Func} {p:Tmp} {ty:TypeId} (h:fn.results=#[.cell p ty]) (tmps:Array Value) (P:Program) (w:World) :
  (results fn tmps).run P w=((asAddr (tmps.getD p undef)).run P w).andThen fun a w₁=>(loadVar ty a).run P w₁:=by
 simp only [results,h];simp [Sem.run_bind,Result.andThen]
theorem rC {fn:Func} {p q u:Tmp} {ty tz:TypeId} (h:fn.results=#[.cell p ty,.cell q tz,.tmp u]) (tmps:Array Value) (P:Program) (w:World) :
  (results fn tmps).run P w =
   ((asAddr (tmps.getD p undef)).run P w).andThen fun a w₁=>((loadVar ty a).run P w₁).andThen fun x w₂=>((asAddr (tmps.getD q undef)).run P w₂).andThen fun b w₃=>((loadVar tz b).run P w₃).andThen fun y w₄=>.ok (.tuple #[x,y,tmps.getD u undef]) w₄:=by
 simp only [results,h];simp [Sem.run_bind,Result.andThen]
section
variable {fn:Func} {p q u:Tmp} {ty tz:TypeId} {w:World} {g k:Nat} {cs ds:Array Value} {x:Value} {tmps:Array Value}
theorem Rr (h:fn.results=#[.cell p ty]) (hl:(loadVar ty ⟨g,0,none⟩).run Tryz.prog w=.ok (.agg cs) w) (hp:tmps.getD p undef=.pointer (some ⟨g,0,none⟩)) :
  (results fn tmps).run Tryz.prog w=.ok (.agg cs) w:=by
 rw [Re h,hp];show ((loadVar ty ⟨g,0,none⟩).run Tryz.prog w)=_
 rw [hl]
theorem re (h:fn.results=#[.cell p ty,.cell q tz,.tmp u]) (hl:(loadVar ty ⟨g,0,none⟩).run Tryz.prog w=.ok (.agg cs) w) (hk:(loadVar tz ⟨k,0,none⟩).run Tryz.prog w=.ok (.agg ds) w) (hp:tmps.getD p undef=.pointer (some ⟨g,0,none⟩)) (hq:tmps.getD q undef=.pointer (some ⟨k,0,none⟩)) (hv:tmps.getD u undef=x) :
  (results fn tmps).run Tryz.prog w=.ok (.tuple #[.agg cs,.agg ds,x]) w:=by
 rw [rC h,hp,hq,hv];show ((loadVar ty ⟨g,0,none⟩).run Tryz.prog w).andThen _=_
 rw [hl];show ((loadVar tz ⟨k,0,none⟩).run Tryz.prog w).andThen _=_
 rw [hk];rfl
end
section
variable {w:World} {g:Nat} {t:TypeId} {a b c d e f i:Value}
theorem ld_way (h:w.heap[g]? = some (.cells #[a,b,c] t)):(loadVar 236 ⟨g,0,none⟩).run Tryz.prog w=.ok (.agg #[a,b,c]) w:=run_loadVar_row (P:=Tryz.prog) w g t 236 #[a,b,c] _ _ h Tryz.underlying236 rfl (by kernel_rfl)
theorem ld_arc (h:w.heap[g]? = some (.cells #[a,b,c,d,e,f] t)):(loadVar 188 ⟨g,0,none⟩).run Tryz.prog w=.ok (.agg #[a,b,c,d,e,f]) w:=run_loadVar_row (P:=Tryz.prog) w g t 188 #[a,b,c,d,e,f] _ _ h Tryz.underlying188 rfl (by kernel_rfl)
theorem ld_stp (h:w.heap[g]? = some (.cells #[a,b,c,d] t)):(loadVar 134 ⟨g,0,none⟩).run Tryz.prog w=.ok (.agg #[a,b,c,d]) w:=run_loadVar_row (P:=Tryz.prog) w g t 134 #[a,b,c,d] _ _ h Tryz.underlying134 rfl (by kernel_rfl)
theorem Le (h:w.heap[g]? = some (.cells #[a,b,c,d] t)):(loadVar 41 ⟨g,0,none⟩).run Tryz.prog w=.ok (.agg #[a,b,c,d]) w:=run_loadVar_row (P:=Tryz.prog) w g t 41 #[a,b,c,d] _ _ h Tryz.underlying41 rfl (by kernel_rfl)
theorem Lt (h:w.heap[g]? = some (.cells #[a,b,c,d,e] t)):(loadVar 39 ⟨g,0,none⟩).run Tryz.prog w=.ok (.agg #[a,b,c,d,e]) w:=run_loadVar_row (P:=Tryz.prog) w g t 39 #[a,b,c,d,e] _ _ h Tryz.underlying39 rfl (by kernel_rfl)
theorem lL (h:w.heap[g]? = some (.cells #[a,b,c,d,e,f,i] t)):(loadVar 150 ⟨g,0,none⟩).run Tryz.prog w=.ok (.agg #[a,b,c,d,e,f,i]) w:=run_loadVar_row (P:=Tryz.prog) w g t 150 #[a,b,c,d,e,f,i] _ _ h Tryz.underlying150 rfl (by kernel_rfl)
variable {a0 a1 a2 a3 a4 a5 a6 a7 a8 a9 b0 b1 b2 b3 b4 b5 b6 b7 b8 b9 c0 c1 c2 c3 c4:Value}
theorem ld_trip (h:w.heap[g]? = some (.cells #[a0,a1,a2,a3,a4,a5,a6,a7,a8,a9,b0,b1,b2,b3,b4,b5,b6,b7,b8,b9,c0,c1,c2,c3,c4] t)):(loadVar 84 ⟨g,0,none⟩).run Tryz.prog w=.ok (.agg #[a0,a1,a2,a3,a4,a5,a6,a7,a8,a9,b0,b1,b2,b3,b4,b5,b6,b7,b8,b9,c0,c1,c2,c3,c4]) w:=run_loadVar_row (P:=Tryz.prog) w g t 84 #[a0,a1,a2,a3,a4,a5,a6,a7,a8,a9,b0,b1,b2,b3,b4,b5,b6,b7,b8,b9,c0,c1,c2,c3,c4] _ _ h Tryz.underlying84 rfl (by kernel_rfl)
end
theorem ch {W w' w2:World} {a:Addr} {v:Value} (h0:Below W.heap.size W w') (hb:Below w'.heap.size w' w2) (ha:a.block<W.heap.size) (h:w'.cell? a=some v):w2.cell? a=some v:=(hb.cell (p:=a) (Nat.lt_of_lt_of_le ha h0.size)).trans h
theorem aL (w:World) (a b:Obj):((w.alloc a).alloc b).heap[w.heap.size]? = some a/\((w.alloc a).alloc b).heap[w.heap.size+1]? = some b/\Below w.heap.size w ((w.alloc a).alloc b):=by
 obtain ⟨n1,p1⟩:=Na w a;obtain ⟨n2,p2⟩:=Na (w.alloc a) b;have hs:(w.alloc a).heap.size=w.heap.size+1:=by simp
 rw [hs] at p2;have k1:=rK p1 n2;exact ⟨k1,p2,bL n1 n2⟩
theorem Av (w:World) (a b c:Obj):(((w.alloc a).alloc b).alloc c).heap[w.heap.size]? = some a/\(((w.alloc a).alloc b).alloc c).heap[w.heap.size+1]? = some b/\(((w.alloc a).alloc b).alloc c).heap[w.heap.size+1+1]? = some c/\Below w.heap.size w (((w.alloc a).alloc b).alloc c):=by
 obtain ⟨k1,k2,k3⟩:=aL w a b;obtain ⟨n2,p2⟩:=Na ((w.alloc a).alloc b) c;have hs:((w.alloc a).alloc b).heap.size=w.heap.size+1+1:=by simp
 rw [hs] at p2;exact ⟨rK k1 n2,rK k2 n2,p2,bL k3 n2⟩
theorem alloc4 (w:World) (a b c d:Obj):((((w.alloc a).alloc b).alloc c).alloc d).heap[w.heap.size]? = some a/\((((w.alloc a).alloc b).alloc c).alloc d).heap[w.heap.size+1]? = some b/\((((w.alloc a).alloc b).alloc c).alloc d).heap[w.heap.size+1+1]? = some c/\((((w.alloc a).alloc b).alloc c).alloc d).heap[w.heap.size+1+1+1]? = some d/\Below w.heap.size w ((((w.alloc a).alloc b).alloc c).alloc d):=by
 obtain ⟨k1,k2,k3,k4⟩:=Av w a b c;obtain ⟨n2,p2⟩:=Na (((w.alloc a).alloc b).alloc c) d;have hs:(((w.alloc a).alloc b).alloc c).heap.size=w.heap.size+1+1+1:=by simp
 rw [hs] at p2;exact ⟨rK k1 n2,rK k2 n2,rK k3 n2,p2,bL k4 n2⟩
theorem set4 {Bs:Nat} {w0 w:World} {g:Nat} {x0 x1 x2 x3 a b c d:Value} {t:TypeId} (h:w.heap[g]? = some (.cells #[x0,x1,x2,x3] t)) (hb:Below Bs w0 w) (hg:Bs<=g):((((w.setCell ⟨g,0,none⟩ a).setCell ⟨g,1,none⟩ b).setCell ⟨g,2,none⟩ c).setCell ⟨g,3,none⟩ d).heap[g]? = some (.cells #[a,b,c,d] t)/\Below Bs w0 ((((w.setCell ⟨g,0,none⟩ a).setCell ⟨g,1,none⟩ b).setCell ⟨g,2,none⟩ c).setCell ⟨g,3,none⟩ d):=by
 refine ⟨?_,((((hb.setCell hg _).setCell hg _).setCell hg _).setCell hg _)⟩;clear hb;have h0:(w.setCell ⟨g,0,none⟩ a).heap[g]? = some (.cells #[a,x1,x2,x3] t):=Hp h;clear h;generalize w.setCell ⟨g,0,none⟩ a=w1 at *;have h1:(w1.setCell ⟨g,1,none⟩ b).heap[g]? = some (.cells #[a,b,x2,x3] t):=Hp h0;clear h0;generalize w1.setCell ⟨g,1,none⟩ b=w2 at *
 have h2:(w2.setCell ⟨g,2,none⟩ c).heap[g]? = some (.cells #[a,b,c,x3] t):=Hp h1;clear h1;generalize w2.setCell ⟨g,2,none⟩ c=w3 at *;have h3:(w3.setCell ⟨g,3,none⟩ d).heap[g]? = some (.cells #[a,b,c,d] t):=Hp h2;exact h3
theorem set6 {Bs:Nat} {w0 w:World} {g:Nat} {x0 x1 x2 x3 x4 x5 a b c d e f:Value} {t:TypeId} (h:w.heap[g]? = some (.cells #[x0,x1,x2,x3,x4,x5] t)) (hb:Below Bs w0 w) (hg:Bs<=g):((((((w.setCell ⟨g,0,none⟩ a).setCell ⟨g,1,none⟩ b).setCell ⟨g,2,none⟩ c).setCell ⟨g,3,none⟩ d).setCell ⟨g,4,none⟩ e).setCell ⟨g,5,none⟩ f).heap[g]? = some (.cells #[a,b,c,d,e,f] t)/\Below Bs w0 ((((((w.setCell ⟨g,0,none⟩ a).setCell ⟨g,1,none⟩ b).setCell ⟨g,2,none⟩ c).setCell ⟨g,3,none⟩ d).setCell ⟨g,4,none⟩ e).setCell ⟨g,5,none⟩ f):=by
 refine ⟨?_,((((((hb.setCell hg _).setCell hg _).setCell hg _).setCell hg _).setCell hg _).setCell hg _)⟩;clear hb;have h0:(w.setCell ⟨g,0,none⟩ a).heap[g]? = some (.cells #[a,x1,x2,x3,x4,x5] t):=Hp h;clear h;generalize w.setCell ⟨g,0,none⟩ a=w1 at *;have h1:(w1.setCell ⟨g,1,none⟩ b).heap[g]? = some (.cells #[a,b,x2,x3,x4,x5] t):=Hp h0;clear h0
 generalize w1.setCell ⟨g,1,none⟩ b=w2 at *;have h2:(w2.setCell ⟨g,2,none⟩ c).heap[g]? = some (.cells #[a,b,c,x3,x4,x5] t):=Hp h1;clear h1;generalize w2.setCell ⟨g,2,none⟩ c=w3 at *;have h3:(w3.setCell ⟨g,3,none⟩ d).heap[g]? = some (.cells #[a,b,c,d,x4,x5] t):=Hp h2;clear h2;generalize w3.setCell ⟨g,3,none⟩ d=w4 at *
 have h4:(w4.setCell ⟨g,4,none⟩ e).heap[g]? = some (.cells #[a,b,c,d,e,x5] t):=Hp h3;clear h3;generalize w4.setCell ⟨g,4,none⟩ e=w5 at *;have h5:(w5.setCell ⟨g,5,none⟩ f).heap[g]? = some (.cells #[a,b,c,d,e,f] t):=Hp h4;exact h5
theorem CX {w:World} {g:Nat} {cs:Array Value} {e:TypeId} {z:Nat × Nat} (h:w.heap[g]? = some (.cells cs e z)) (j:Nat) (v:Value) (hv:cs[j]? = some v):w.cell? ⟨g,j,none⟩=some v:=by simp [World.cell?,h,hv]
theorem rS {Bs g:Nat} {w0 w:World} {old:Array Value} {t:TypeId} (cs:Array Value) (h:w.heap[g]? = some (.cells old t)) (hb:Below Bs w0 w) (hg:Bs<=g):(w.setRow g cs).heap[g]? = some (.cells cs t)/\Below Bs w0 (w.setRow g cs):=⟨setRow_heap w g old cs t _ h,below_setRow hb hg cs⟩
theorem C6 {w:World} {g:Nat} {a b c d x y:Value} {e:TypeId} {z:Nat × Nat} (h:w.heap[g]? = some (.cells #[a,b,c,d,x,y] e z)):w.cell? ⟨g,0,none⟩=some a/\w.cell? ⟨g,1,none⟩=some b/\w.cell? ⟨g,2,none⟩=some c/\w.cell? ⟨g,3,none⟩=some d/\w.cell? ⟨g,4,none⟩=some x/\w.cell? ⟨g,5,none⟩=some y:=by
 refine ⟨?_,?_,?_,?_,?_,?_⟩ <;> simp [World.cell?,h]
theorem cells3 {w:World} {g:Nat} {a b c:Value} {e:TypeId} {z:Nat × Nat} (h:w.heap[g]? = some (.cells #[a,b,c] e z)):w.cell? ⟨g,0,none⟩=some a/\w.cell? ⟨g,1,none⟩=some b/\w.cell? ⟨g,2,none⟩=some c:=by
 refine ⟨?_,?_,?_⟩ <;> simp [World.cell?,h]
theorem cells7 {w:World} {g:Nat} {a b c d x y k:Value} {e:TypeId} {z:Nat × Nat} (h:w.heap[g]? = some (.cells #[a,b,c,d,x,y,k] e z)):w.cell? ⟨g,0,none⟩=some a/\w.cell? ⟨g,1,none⟩=some b/\w.cell? ⟨g,2,none⟩=some c/\w.cell? ⟨g,3,none⟩=some d/\w.cell? ⟨g,4,none⟩=some x/\w.cell? ⟨g,5,none⟩=some y/\w.cell? ⟨g,6,none⟩=some k:=by
 refine ⟨?_,?_,?_,?_,?_,?_,?_⟩ <;> simp [World.cell?,h]
theorem nS (w:World) (z cs:Array Value) (t:TypeId):((w.alloc (.cells z t)).setRow w.heap.size cs).heap[w.heap.size]? = some (.cells cs t)/\Below w.heap.size w ((w.alloc (.cells z t)).setRow w.heap.size cs):=rS cs (Na w _).2 (Na w _).1 (Nat.le_refl _)
section
variable {P:Program}
theorem Rl (w:World) (b o:Nat) (ty:TypeId) (cs:List Value) (d:TypeDesc) (hc:∀ j v,cs[j]? = some v->w.cell? ⟨b,o+j,none⟩=some v)
  (hu:P.underlying ty=some d) (hd:(match d with | .struct _ | .array _ _=>true | _=>false)=true) (hi:(P.info? ty).map (·.size)=some cs.length) :
  (loadVar ty ⟨b,o,none⟩).run P w=.ok (.agg cs.toArray) w:=by
 have hl:(loadCells ⟨b,o,none⟩ cs.length).run P w=.ok cs.toArray w :=
  run_loadCells_list (P:=P) w ⟨b,o,none⟩ cs (fun j v hv=>by
   rw [Go.WideShapes.add_plain];exact hc j v hv)
 cases hq:P.info? ty with
 |none=>simp [hq] at hi
 |some i =>
  have hs:i.size=cs.length:=by simpa [hq] using hi
  have hagg:(isAgg ty).run P w=.ok true w:=by
   unfold isAgg;rw [Sem.run_bind,run_underlying hu w];cases d <;> simp_all
  simp [loadVar,Sem.run_bind,hagg,sizeOf,typeInfo,hq,hs,hl]
theorem yl_row {o:Oper} {a:Act} {w:World} (ty:TypeId) (x:Operand) (ho:o.op=.load ty x) (g:Nat) (hx:a.eval x=.pointer (some ⟨g,0,none⟩)) (t:TypeId) (cs:Array Value) (d:TypeDesc)
  (hu:P.underlying ty=some d) (hd:(match d with | .struct _ | .array _ _=>true | _=>false)=true) (hi:(P.info? ty).map (·.size)=some cs.size) (hg:w.heap[g]? = some (.cells cs t)) :
  (execOp a.eval o).run P w=.ok (.value (.agg cs)) w:=by
 unfold execOp;simp only [ho,hx,Instr.loadAt,Instr.sureAddr,Sem.run_bind,Sem.run_pure,Result.andThen_ok,run_loadVar_row w g t ty cs _ d hg hu hd hi]
theorem yl_cells {o:Oper} {a:Act} {w:World} (ty:TypeId) (x:Operand) (ho:o.op=.load ty x) (b off:Nat) (hx:a.eval x=.pointer (some ⟨b,off,none⟩)) (cs:List Value) (d:TypeDesc)
  (hu:P.underlying ty=some d) (hd:(match d with | .struct _ | .array _ _=>true | _=>false)=true) (hi:(P.info? ty).map (·.size)=some cs.length) (hc:∀ j v,cs[j]? = some v->w.cell? ⟨b,off+j,none⟩=some v) :
  (execOp a.eval o).run P w=.ok (.value (.agg cs.toArray)) w:=by
 unfold execOp;simp only [ho,hx,Instr.loadAt,Instr.sureAddr,Sem.run_bind,Sem.run_pure,Result.andThen_ok,Rl w b off ty cs d hc hu hd hi]
theorem yl_build {o:Oper} {a:Act} {w:World} (t:TypeId) (parts:Array (Nat × Operand)) (ho:o.op=.build t parts) (cs:Array Value)
  (hb:P.built t (parts.map fun (i,x)=>(i,a.eval x)).toList=some cs):(execOp a.eval o).run P w=.ok (.value (.agg cs)) w:=by
 unfold execOp;simp only [ho,Sem.run_bind,run_build w t _ cs hb,Result.andThen_ok,Sem.run_pure]
theorem Wa {o:Oper} {a:Act} {w:World} {K:Act->World->Prop} {Q:Exit->Act->World->Prop} (ty:TypeId) (ho:o.op=.alloc ty) (z:Array Value) (hz:(P.info? ty).bind (·.zero)=some (.agg z))
  (h:K (a.put o.dst (.pointer (some ⟨w.heap.size,0,none⟩))) (w.alloc (.cells z ty))):o.wp P a w K Q:=by
 cases hq:P.info? ty with
 |none=>rw [hq] at hz;cases hz
 |some i =>
  rw [hq] at hz;have hz:i.zero=some (.agg z):=hz;unfold Oper.wp execOp;simp [ho,Instr.alloc,zeroValue,typeInfo,hq,hz,newVar,newRow,Value.cells]
  exact h
theorem Wg {c:Prop} [Decidable c] {A B:Prop} (hc:c) (h:A):if c then A else B:=by rw [if_pos hc];exact h
theorem Wl {o:Oper} {a:Act} {w:World} {K:Act->World->Prop} {Q:Exit->Act->World->Prop} (ty:TypeId) (x:Operand) (ho:o.op=.load ty x)
  (b off:Nat) (hx:a.eval x=.pointer (some ⟨b,off,none⟩)) (cs:List Value) (d:TypeDesc) (hc:∀ j v,cs[j]? = some v->w.cell? ⟨b,off+j,none⟩=some v)
  (hu:P.underlying ty=some d) (hd:(match d with | .struct _ | .array _ _=>true | _=>false)=true) (hi:(P.info? ty).map (·.size)=some cs.length)
  (h:K (a.put o.dst (.agg cs.toArray)) w):o.wp P a w K Q:=by
 unfold Oper.wp execOp;simp only [ho,hx,Instr.loadAt,Instr.sureAddr,Sem.run_bind,Sem.run_pure,Result.andThen_ok,Rl w b off ty cs d hc hu hd hi];exact h
theorem wL {ops:Array Oper} {rest:List Oper} {o:Oper} {a:Act} {w:World} {Q:Exit->Act->World->Prop} (hgd:o.guard=none) (ty:TypeId) (x:Operand) (ho:o.op=.load ty x)
  (b off:Nat) (hx:a.eval x=.pointer (some ⟨b,off,none⟩)) (cs:List Value) (d:TypeDesc) (hc:∀ j v,cs[j]? = some v->w.cell? ⟨b,off+j,none⟩=some v)
  (hu:P.underlying ty=some d) (hd:(match d with | .struct _ | .array _ _=>true | _=>false)=true) (hi:(P.info? ty).map (·.size)=some cs.length)
  (h:wpList P ops Q rest (a.put o.dst (.agg cs.toArray)) w):wpList P ops Q (o :: rest) a w :=
 wpList_plain hgd fun _ hK=>Wl ty x ho b off hx cs d hc hu hd hi (hK _ _ h)
end
theorem P1 {α:Type} (l:List α) (i:Nat) (a:α):l.toArray.setIfInBounds i a=(l.set i a).toArray:=List.setIfInBounds_toArray l i a
theorem pu {α:Type} (x a:α) (l:List α):(x :: l).set 0 a=a :: l:=rfl
theorem P3 {α:Type} (x a:α) (l:List α) (i:Nat):(x :: l).set (i+1) a=x :: l.set i a:=rfl
section
variable {P:Program} {ops:Array Oper} {Q:Exit->Act->World->Prop} {md:Region.Mode} {S:World->Prop} {fuel:Nat} {listed:Array Bool} {a:Act} {w:World}
theorem tk (i:Nat) {oi:Oper} {v:Value} (h:wpAnyH P md ops Q S fuel (listed.setIfInBounds i true) (a.put oi.dst v) w) (hi:ops[i]? = some oi:=by simp only [List.getElem?_toArray,List.getElem?_cons_succ,List.getElem?_cons_zero];rfl)
  (hs:Region.noSelect ops=true:=by kernel_rfl) (hf:Region.free md ops listed i=true:=by kernel_rfl) (hr:(Region.ready md ops listed).contains i=true:=by kernel_rfl) (hQ:∀ c a w,Q (.panic c) (a.put oi.dst v) w->Q (.panic c) a w:=by exact fun _ _ _ h=>h)
  (hw:Region.wanted oi (yielded ops a.tmps)=true:=by rfl) (hv:∀ w,S w->(execOp a.eval oi).run P w=.ok (.value v) w:=by intro w hSw;go_simp;(try with_reducible rfl)) (hS:S w:=by assumption):wpAnyH P md ops Q S (fuel+1) listed a w :=
 wpAnyH_take hi hs hf hr hQ (.inl ⟨hw,hv⟩) hS h
theorem td (i:Nat) {oi:Oper} {v:Value} (h:wpAnyH P md ops Q S fuel (listed.setIfInBounds i true) (a.put oi.dst v) w) (hi:ops[i]? = some oi:=by simp only [List.getElem?_toArray,List.getElem?_cons_succ,List.getElem?_cons_zero];rfl)
  (hs:Region.noSelect ops=true:=by kernel_rfl) (hf:Region.free md ops listed i=true:=by kernel_rfl) (hr:(Region.ready md ops listed).contains i=true:=by kernel_rfl) (hQ:∀ c a w,Q (.panic c) (a.put oi.dst v) w->Q (.panic c) a w:=by exact fun _ _ _ h=>h)
  (hw:Region.wanted oi (yielded ops a.tmps)=true:=by rfl) (hv:∀ w,S w->(execOp a.eval oi).run P w=.ok (.value v) w:=by intro w hSw;(try dsimp only at hSw);go_simp;(try with_reducible rfl)) (hS:S w:=by assumption):wpAnyH P md ops Q S (fuel+1) listed a w :=
 wpAnyH_take hi hs hf hr hQ (.inl ⟨hw,hv⟩) hS h
theorem Tv (i:Nat) {oi:Oper} {v:Value} (hv:∀ w,S w->(execOp a.eval oi).run P w=.ok (.value v) w) (h:wpAnyH P md ops Q S fuel (listed.setIfInBounds i true) (a.put oi.dst v) w) (hi:ops[i]? = some oi:=by simp only [List.getElem?_toArray,List.getElem?_cons_succ,List.getElem?_cons_zero];rfl)
  (hs:Region.noSelect ops=true:=by kernel_rfl) (hf:Region.free md ops listed i=true:=by kernel_rfl) (hr:(Region.ready md ops listed).contains i=true:=by kernel_rfl) (hQ:∀ c a w,Q (.panic c) (a.put oi.dst v) w->Q (.panic c) a w:=by exact fun _ _ _ h=>h)
  (hw:Region.wanted oi (yielded ops a.tmps)=true:=by rfl) (hS:S w:=by assumption):wpAnyH P md ops Q S (fuel+1) listed a w :=
 wpAnyH_take hi hs hf hr hQ (.inl ⟨hw,hv⟩) hS h
theorem tq (i:Nat) {oi:Oper} {v u:Value} {p:Addr} (hc:∀ w,S w->w.cell? p=some u) (h:wpAnyH P md ops Q S fuel (listed.setIfInBounds i true) (a.put oi.dst v) w) (hi:ops[i]? = some oi:=by simp only [List.getElem?_toArray,List.getElem?_cons_succ,List.getElem?_cons_zero];rfl)
  (hs:Region.noSelect ops=true:=by kernel_rfl) (hf:Region.free md ops listed i=true:=by kernel_rfl) (hr:(Region.ready md ops listed).contains i=true:=by kernel_rfl) (hQ:∀ c a w,Q (.panic c) (a.put oi.dst v) w->Q (.panic c) a w:=by exact fun _ _ _ h=>h)
  (hw:Region.wanted oi (yielded ops a.tmps)=true:=by rfl) (hS:S w:=by assumption) (hv:∀ w,S w->w.cell? p=some u->(execOp a.eval oi).run P w=.ok (.value v) w:=by intro w hSw q0;go_simp;(try with_reducible rfl)):wpAnyH P md ops Q S (fuel+1) listed a w :=
 wpAnyH_take hi hs hf hr hQ (.inl ⟨hw,fun w h=>hv w h (hc w h)⟩) hS h
theorem tkr (i:Nat) {oi:Oper} {ty t:TypeId} {x:Operand} {g:Nat} {cs:Array Value} {d:TypeDesc} (hu:P.underlying ty=some d) (hc:∀ w,S w->w.heap[g]? = some (.cells cs t)) (h:wpAnyH P md ops Q S fuel (listed.setIfInBounds i true) (a.put oi.dst (.agg cs)) w) (hi:ops[i]? = some oi:=by simp only [List.getElem?_toArray,List.getElem?_cons_succ,List.getElem?_cons_zero];rfl)
  (hs:Region.noSelect ops=true:=by kernel_rfl) (hf:Region.free md ops listed i=true:=by kernel_rfl) (hr:(Region.ready md ops listed).contains i=true:=by kernel_rfl) (hQ:∀ c a w,Q (.panic c) (a.put oi.dst (.agg cs)) w->Q (.panic c) a w:=by exact fun _ _ _ h=>h)
  (hw:Region.wanted oi (yielded ops a.tmps)=true:=by rfl) (hS:S w:=by assumption) (ho:oi.op=.load ty x:=by rfl) (hx:a.eval x=.pointer (some ⟨g,0,none⟩):=by rfl)
  (hd:(match (generalizing:=false) d with | .struct _ | .array _ _=>true | _=>false)=true:=by rfl) (hz:(P.info? ty).map (·.size)=some cs.size:=by kernel_rfl):wpAnyH P md ops Q S (fuel+1) listed a w :=
 wpAnyH_take hi hs hf hr hQ (.inl ⟨hw,fun w hSw=>yl_row ty x ho g hx t cs d hu (by cases d <;> exact hd) hz (hc w hSw)⟩) hS h
theorem tkl (i:Nat) {oi:Oper} {ty:TypeId} {x:Operand} {g off:Nat} (cs:List Value) {d:TypeDesc} (hu:P.underlying ty=some d) (hc:∀ w,S w->∀ j v,cs[j]? = some v->w.cell? ⟨g,off+j,none⟩=some v) (h:wpAnyH P md ops Q S fuel (listed.setIfInBounds i true) (a.put oi.dst (.agg cs.toArray)) w) (hi:ops[i]? = some oi:=by simp only [List.getElem?_toArray,List.getElem?_cons_succ,List.getElem?_cons_zero];rfl)
  (hs:Region.noSelect ops=true:=by kernel_rfl) (hf:Region.free md ops listed i=true:=by kernel_rfl) (hr:(Region.ready md ops listed).contains i=true:=by kernel_rfl) (hQ:∀ c a w,Q (.panic c) (a.put oi.dst (.agg cs.toArray)) w->Q (.panic c) a w:=by exact fun _ _ _ h=>h)
  (hw:Region.wanted oi (yielded ops a.tmps)=true:=by rfl) (hS:S w:=by assumption) (ho:oi.op=.load ty x:=by rfl) (hx:a.eval x=.pointer (some ⟨g,off,none⟩):=by rfl)
  (hd:(match (generalizing:=false) d with | .struct _ | .array _ _=>true | _=>false)=true:=by rfl) (hz:(P.info? ty).map (·.size)=some cs.length:=by kernel_rfl):wpAnyH P md ops Q S (fuel+1) listed a w :=
 wpAnyH_take hi hs hf hr hQ (.inl ⟨hw,fun w hSw=>yl_cells ty x ho g off hx cs d hu (by cases d <;> exact hd) hz (hc w hSw)⟩) hS h
theorem un (i:Nat) {oi:Oper} (h:wpAnyH P md ops Q S fuel (listed.setIfInBounds i true) (a.put oi.dst undef) w) (hi:ops[i]? = some oi:=by simp only [List.getElem?_toArray,List.getElem?_cons_succ,List.getElem?_cons_zero];rfl)
  (hs:Region.noSelect ops=true:=by kernel_rfl) (hf:Region.free md ops listed i=true:=by kernel_rfl) (hr:(Region.ready md ops listed).contains i=true:=by kernel_rfl) (hQ:∀ c a w,Q (.panic c) (a.put oi.dst undef) w->Q (.panic c) a w:=by exact fun _ _ _ h=>h)
  (hw:Region.wanted oi (yielded ops a.tmps)=false:=by kernel_rfl) (hS:S w:=by assumption):wpAnyH P md ops Q S (fuel+1) listed a w :=
 wpAnyH_take hi hs hf hr hQ (.inr ⟨hw,rfl⟩) hS h
theorem one (i:Nat) {oi:Oper} (h:∀ K':Act->World->Prop,Shut (∀ a w,S w->(S w->wpAnyH P md ops Q S fuel (listed.setIfInBounds i true) a w)->K' a w)->if Region.wanted oi (yielded ops a.tmps)=true then Oper.wp P oi a w K' Q else K' (a.put oi.dst undef) w) (hi:ops[i]? = some oi:=by simp only [List.getElem?_toArray,List.getElem?_cons_succ,List.getElem?_cons_zero];rfl)
  (hr:Region.ready md ops listed=[i]:=by kernel_rfl):wpAnyH P md ops Q S (fuel+1) listed a w :=
 wpAnyH_ready hr (by simp) (AllReadyH.cons hi h AllReadyH.nil)
end
section
variable {P:Program} {ops:Array Oper} {rest:List Oper} {o:Oper} {a:Act} {w:World} {Q:Exit->Act->World->Prop} {g:Nat} {t ty:TypeId} {d:TypeDesc} {x y:Operand}
theorem lr {cs:Array Value} {fr:Nat × Nat} (hg:w.heap[g]? = some (.cells cs t fr)) (hu:P.underlying ty=some d) (h:wpList P ops Q rest (a.put o.dst (.agg cs)) w) (hgd:o.guard=none:=by rfl) (ho:o.op=.load ty x:=by rfl) (hx:a.eval x=.pointer (some ⟨g,0,none⟩):=by rfl)
  (hd:(match d with | .struct _ | .array _ _=>true | _=>false)=true:=by rfl) (hi:(P.info? ty).map (·.size)=some cs.size:=by kernel_rfl):wpList P ops Q (o :: rest) a w:=wpList_load_row hgd ty x ho g hx t cs fr d hg hu hd hi h
theorem sw {old:Array Value} (cells:Array Value) (hg:w.heap[g]? = some (.cells old t (0,0))) (h:wpList P ops Q rest (a.put o.dst undef) (w.setRow g cells)) (hgd:o.guard=none:=by rfl) (ho:o.op=.store ty x y:=by rfl) (hx:a.eval x=.pointer (some ⟨g,0,none⟩):=by rfl) (hy:a.eval y=.agg cells:=by rfl)
  (hi:(P.info? ty).map (·.size)=some cells.size:=by kernel_rfl) (hold:old.size=cells.size:=by rfl) (h1:cells.all (·.oneCell')=true:=by kernel_rfl):wpList P ops Q (o :: rest) a w:=wpList_store_row hgd ty x y ho g cells hx hy t old hg hi hold h1 h
end
end Go.Proofs.YtjcekdiocliddaaGreatDoor

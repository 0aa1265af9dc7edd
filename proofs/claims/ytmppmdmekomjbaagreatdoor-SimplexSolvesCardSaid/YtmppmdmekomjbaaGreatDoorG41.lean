/- The first tableau of the reference: a slack column for each row: plain. -/
import Derived.Test.YtmppmdmekomjbaaGreatDoorG32
import Derived.Test.YtmppmdmekomjbaaGreatDoorG36
import Derived.Test.YtmppmdmekomjbaaGreatDoorG35
import Derived.Test.YtmppmdmekomjbaaGreatDoorG20
import Derived.Test.YtmppmdmekomjbaaGreatDoorRRef5
import Derived.Test.YtmppmdmekomjbaaGreatDoorRTimesP
namespace Go.Proofs.YtmppmdmekomjbaaGreatDoor
namespace Num
set_option linter.unusedVariables false
def colR (p:LinL):Nat:=p.cost.length+p.rows.length
def R1 (p:LinL) (i j:Nat):Int :=
 if j<p.cost.length then sgI (rowAt p i)*(rowAt p i).coef.getD j 0
 else if j<colR p then (if (rowAt p i).kind≠2∧j=p.cost.length+i then (if (rowAt p i).kind=3 then -(sgI (rowAt p i)) else sgI (rowAt p i)) else 0)
 else if j<colR p+p.rows.length then (if j=colR p+i then 1 else 0)
 else if j=colR p+p.rows.length then sgI (rowAt p i)*(rowAt p i).right else 0
theorem sxR1 (p:LinL) (hk:∀ i,i<p.rows.length→(rowAt p i).kind=1∨(rowAt p i).kind=2∨(rowAt p i).kind=3) :
  SxR p.cost.length p.rows.length (colR p) (fun i=>sgI (rowAt p i)) (fun i j=>(rowAt p i).coef.getD j 0) (fun i=>(rowAt p i).kind) (fun i=>(rowAt p i).right) (fun i=>p.cost.length+i) (R1 p):=by
 have hcr:colR p=p.cost.length+p.rows.length:=rfl
 have hle:p.cost.length≤colR p:=by omega
 refine ⟨hle,fun i hi=>sg_sign _,hk,fun i hi j hj=>?_,fun i hi h=>?_,fun i hi j h1 h2 h=>?_,fun i l hi hl hne h1 h2=>?_,fun i l hi hl=>?_,fun i hi=>?_,fun i hi=>?_,fun i hi=>sg_pos _⟩
 ·unfold R1;rw [if_pos hj]
 ·refine ⟨by omega,by omega,?_⟩
  unfold R1
  rw [if_neg (by omega),if_pos (by omega),if_pos ⟨h,rfl⟩]
 ·unfold R1
  rw [if_neg (by omega),if_pos h2,if_neg (fun hh=>h.elim (fun e=>hh.1 e) (fun e=>e hh.2))]
 ·omega
 ·unfold R1
  rw [if_neg (by omega),if_neg (by omega),if_pos (by omega)]
  by_cases e:i=l
  ·rw [if_pos (by omega),if_pos e]
  ·rw [if_neg (by omega),if_neg e]
 ·unfold R1
  rw [if_neg (by omega),if_neg (by omega),if_neg (by omega),if_pos rfl]
 ·unfold R1
  rw [if_neg (by omega),if_neg (by omega),if_neg (by omega),if_neg (by omega)]
def C1 (p:LinL) (cost:List Int) (κ:Int) (j:Nat):Int :=
 if j<p.cost.length then cost.getD j 0 else if j<colR p then 0 else if j<colR p+p.rows.length then κ else if j=colR p+p.rows.length then 0 else 1
theorem sxC1 (p:LinL) (cost:List Int) (κ:Int):SxC p.cost.length p.rows.length (colR p) κ (fun j=>cost.getD j 0) (C1 p cost κ):=by
 have hcr:colR p=p.cost.length+p.rows.length:=rfl
 refine ⟨fun j hj=>?_,fun j h1 h2=>?_,fun l hl=>?_,?_,?_⟩ <;> unfold C1
 ·rw [if_pos hj]
 ·rw [if_neg (by omega),if_pos h2]
 ·rw [if_neg (by omega),if_neg (by omega),if_pos (by omega)]
 ·rw [if_neg (by omega),if_neg (by omega),if_neg (by omega),if_pos rfl]
 ·rw [if_neg (by omega),if_neg (by omega),if_neg (by omega),if_neg (by omega)]
theorem R1_small {d d2:Nat} {p:LinL} (h:SmallL d d2 p) (hd:1≤d) {i j:Nat} (hi:i<p.rows.length):dl (R1 p i j)≤d:=by
 have hm:=List.getElem_mem hi
 unfold R1
 rw [rowAt_eq hi]
 have h0:dl 0≤d:=Nat.le_trans (dl_small (.inl rfl)) hd
 split
 ·refine dl_sg ?_
  rw [List.getD_eq_getElem?_getD]
  rcases Nat.lt_or_ge j p.rows[i].coef.length with e | e
  ·rw [List.getElem?_eq_getElem e];exact h.coef _ hm _ (List.getElem_mem e)
  ·rw [List.getElem?_eq_none e];exact h0
 ·split
  ·split
   ·refine Nat.le_trans (dl_small ?_) hd
    rcases sg_sign p.rows[i] with e | e <;> rw [e] <;> split <;> omega
   ·exact h0
  ·split
   ·split
    ·exact Nat.le_trans (dl_small (.inr (.inl rfl))) hd
    ·exact h0
   ·split
    ·exact dl_sg (h.right _ hm)
    ·exact h0
theorem C1_small {d:Nat} {p:LinL} {cost:List Int} {κ:Int} (h:∀ n ∈ cost,dl n≤d) (hκ:κ=0∨κ=1) (hd:1≤d) (j:Nat):dl (C1 p cost κ j)≤d:=by
 have h0:dl 0≤d:=Nat.le_trans (dl_small (.inl rfl)) hd
 unfold C1
 split
 ·rw [List.getD_eq_getElem?_getD]
  rcases Nat.lt_or_ge j cost.length with e | e
  ·rw [List.getElem?_eq_getElem e];exact h _ (List.getElem_mem e)
  ·rw [List.getElem?_eq_none e];exact h0
 ·split
  ·exact h0
  ·split
   ·rcases hκ with e | e <;> rw [e]
    ·exact h0
    ·exact Nat.le_trans (dl_small (.inr (.inl rfl))) hd
   ·split
    ·exact h0
    ·exact Nat.le_trans (dl_small (.inr (.inl rfl))) hd
theorem ext1_small {d d2:Nat} {p:LinL} {cost:List Int} {κ:Int} (h:SmallL d d2 p) (hc:∀ n ∈ cost,dl n≤d2) (hκ:κ=0∨κ=1) (hd:1≤d) (hdd:d≤d2) (s c:Nat) (hs:s<p.rows.length+1):dl (extR p.rows.length (R1 p) (C1 p cost κ) s c)≤d2:=by
 unfold extR
 split
 ·exact C1_small hc hκ (by omega) c
 ·exact Nat.le_trans (R1_small h hd (by omega)) hdd
end Num
end Go.Proofs.YtmppmdmekomjbaaGreatDoor
namespace Go.Proofs.YtmppmdmekomjbaaGreatDoor
namespace Num
set_option linter.unusedVariables false
section
variable {ci:Nat} {sk:Nat→Nat} {R:Nat→Nat→Int} {C:Nat→Int} {D D1 d:Nat} {p:LinL} {cost:List Int} {κ:Int} {E:List (List Str)} {bs:List Nat} {T:Mx}
theorem grow_small (hE:SxE D p.rows.length ci (extR p.rows.length R C) E bs T) (hR:SxR p.cost.length p.rows.length ci (fun i=>sgI (rowAt p i)) (fun i j=>(rowAt p i).coef.getD j 0) (fun i=>(rowAt p i).kind) (fun i=>(rowAt p i).right) sk R)
  (hC:SxC p.cost.length p.rows.length ci κ (fun j=>cost.getD j 0) C) (hd1:1≤d) (hd:∀ s,s<p.rows.length→∀ c,dl (R s c)≤d) (hg:gr (p.rows.length - 1) d≤D1) (hD:D≤4096) (hD1:D1≤4096) {i j:Nat} (hi:i<p.rows.length) (hj:j<ci+p.rows.length+1):FrD D1 D1 (cellM E i j):=by
 have hc:=hE.tab.cut (bOf_top _ _ _) (by omega) hR.top hC.top
 obtain ⟨P,Q,hQ,h1,h2,h3⟩:=hc.bound hd1 (fun s hs c _=>hd s hs c) hi (j:=j) (by omega)
 refine FrD.value ((hE.mat.cell (by rw [hE.len];omega) hj).right hD hD) hQ (Nat.le_trans h1 hg) (Nat.le_trans h2 hg) hD1 hD1 ?_
 rw [← hE.val i (by omega) j hj,h3]
theorem gans_prim (hE:SxE D p.rows.length ci (extR p.rows.length R C) E bs T) (hR:SxR p.cost.length p.rows.length ci (fun i=>sgI (rowAt p i)) (fun i j=>(rowAt p i).coef.getD j 0) (fun i=>(rowAt p i).kind) (fun i=>(rowAt p i).right) sk R)
  (hC:SxC p.cost.length p.rows.length ci κ (fun j=>cost.getD j 0) C) (hsm:∀ i,i<p.rows.length→∀ j,j<ci+p.rows.length+1→FrD D1 D1 (cellM E i j)) (h1:1≤D1) (hp:∀ i,i<p.rows.length→0≤T i (ci+p.rows.length)) (hz:∀ l,l<p.rows.length→ci≤bOf bs p.rows.length (ci+p.rows.length+1) l→T l (ci+p.rows.length)=0)
  {xs:List Str} (hx:TxL p.cost.length (XvP E (fun l=>bs.getD l 0) (ci+p.rows.length) p.rows.length) xs):PrimR D1 p xs∧sumN p.cost.length (fun i=>((cost.getD i 0:Int):Rat)*rat xs i) = -(T p.rows.length (ci+p.rows.length)):=by
 have hcut:=hE.tab.cut (bOf_top _ _ _) (by omega) hR.top hC.top
 have hv:=sx_values hR hC hE.tab (bOf_top _ _ _) hp hz
 have hle:=hR.le
 have hrat:∀ x,x<p.cost.length→rat xs x=xV p.rows.length T (bOf bs p.rows.length (ci+p.rows.length+1)) (ci+p.rows.length) x:=by
  intro x hxn
  rw [rat_getD (by rw [hx.1];exact hxn)]
  rcases hx.2 x hxn with ⟨l,hl,hb,hs⟩ | ⟨hb,hs⟩
  ·have hb2:bOf bs p.rows.length (ci+p.rows.length+1) l=x:=by rw [bOf_lt hl];exact hb
   rw [hs,← hE.val l (by omega) _ (by omega),← hb2,xV_base hcut hl]
  ·rw [hs,rq_zero,xV_free fun l hl=>by rw [bOf_lt hl];exact hb l hl]
 refine ⟨⟨hx.1,fun s hs=>?_,fun i hi=>by rw [hrat i hi];exact hv.1 i,fun r hr=>?_⟩,?_⟩
 ·obtain ⟨i,hi,e⟩:=mem_getD hs
  rw [hx.1] at hi
  rcases hx.2 i hi with ⟨l,hl,_,h3⟩ | ⟨_,h3⟩
  ·rw [e,h3];exact frT_D (hsm l hl _ (by omega))
  ·rw [e,h3];exact frT_D ((fr_small (.inl rfl)).mono h1 h1)
 ·have:=hv.2.1 r hr
  rw [sumN_congr (g:=fun i=>(((rowAt p r).coef.getD i 0:Int):Rat)*rat xs i) (fun i hi=>by rw [hrat i hi])] at this
  exact this
 ·have:=hv.2.2
  rw [sumN_congr (g:=fun i=>((cost.getD i 0:Int):Rat)*rat xs i) (fun i hi=>by rw [hrat i hi])] at this
  exact this
theorem gans_ray (hE:SxE D p.rows.length ci (extR p.rows.length R C) E bs T) (hR:SxR p.cost.length p.rows.length ci (fun i=>sgI (rowAt p i)) (fun i j=>(rowAt p i).coef.getD j 0) (fun i=>(rowAt p i).kind) (fun i=>(rowAt p i).right) sk R)
  (hC:SxC p.cost.length p.rows.length ci κ (fun j=>p.cost.getD j 0) C) (hsm:∀ i,i<p.rows.length→∀ j,j<ci+p.rows.length+1→FrD D1 D1 (cellM E i j)) (h1:2*D1+4≤4096) {c:Nat} (hc:c<ci) (hneg:T p.rows.length c<0) (hp:∀ i,i<p.rows.length→T i c≤0) (hz:∀ l,l<p.rows.length→ci≤bOf bs p.rows.length (ci+p.rows.length+1) l→T l c=0)
  {xs:List Str} (hx:TxL p.cost.length (RyP E (fun l=>bs.getD l 0) c p.rows.length) xs):RayR (D1+2) p xs:=by
 have hcut:=hE.tab.cut (bOf_top _ _ _) (by omega) hR.top hC.top
 have hv:=sx_ray hR hC hE.tab (bOf_top _ _ _) hc hp hz
 have hle:=hR.le
 have hsub:∀ l,l<p.rows.length→FrD (D1+2) (D1+2) (subQS [48] (cellM E l c))∧rq (subQS [48] (cellM E l c)) = -(T l c):=fun l hl=>by
  have hs:=(fr_small (.inl rfl):FrD 1 1 [48]).sub (hsm l hl c (by omega)) (by omega) (by omega)
  refine ⟨hs.2.1.mono (by omega) (by omega),?_⟩
  rw [hs.2.2,rq_zero,← hE.val l (by omega) c (by omega)];grind
 have hfree:∀ l,l<p.rows.length→bOf bs p.rows.length (ci+p.rows.length+1) l≠c:=fun l hl e=>by
  have h2:=hE.tab.base p.rows.length l (Nat.lt_succ_self _) (by omega)
  rw [e] at h2
  rw [h2] at hneg
  unfold kron at hneg
  rw [if_neg (by omega)] at hneg
  exact absurd hneg (by decide)
 have hrat:∀ x,x<p.cost.length→rat xs x=kron x c - xV p.rows.length T (bOf bs p.rows.length (ci+p.rows.length+1)) c x:=by
  intro x hxn
  rw [rat_getD (by rw [hx.1];exact hxn)]
  rcases hx.2 x hxn with ⟨l,hl,hb,hs⟩ | ⟨hb,h2,h3⟩
  ·have hb2:bOf bs p.rows.length (ci+p.rows.length+1) l=x:=by rw [bOf_lt hl];exact hb
   have hne:=hfree l hl
   rw [hb2] at hne
   rw [hs,(hsub l hl).2,← hb2,xV_base hcut hl,hb2]
   unfold kron;rw [if_neg hne];grind
  ·rw [xV_free fun l hl=>by rw [bOf_lt hl];exact hb l hl]
   by_cases e:x=c
   ·have h49:rq [49]=1:=by
     have:=rq_int 1
     rw [show decI 1=[49] by decide +kernel] at this
     rw [this];rfl
    rw [h2 e,h49];unfold kron;rw [if_pos e];grind
   ·rw [h3 e,rq_zero];unfold kron;rw [if_neg e];grind
 refine ⟨hx.1,fun s hs=>?_,fun i hi=>by rw [hrat i hi];exact hv.1 i,fun r hr=>?_,?_⟩
 ·obtain ⟨i,hi,e⟩:=mem_getD hs
  rw [hx.1] at hi
  rcases hx.2 i hi with ⟨l,hl,_,h3⟩ | ⟨_,h2,h3⟩
  ·rw [e,h3];exact frT_D (hsub l hl).1
  ·by_cases ec:i=c
   ·rw [e,h2 ec];exact frT_D ((fr_small (.inr rfl)).mono (by omega) (by omega))
   ·rw [e,h3 ec];exact frT_D ((fr_small (.inl rfl)).mono (by omega) (by omega))
 ·have:=hv.2.1 r hr
  rw [sumN_congr (g:=fun i=>(((rowAt p r).coef.getD i 0:Int):Rat)*rat xs i) (fun i hi=>by rw [hrat i hi])] at this
  exact this
 ·have:=hv.2.2
  rw [sumN_congr (g:=fun i=>((p.cost.getD i 0:Int):Rat)*rat xs i) (fun i hi=>by rw [hrat i hi])] at this
  rw [this];exact hneg
theorem gans_dual (hE:SxE D p.rows.length ci (extR p.rows.length R C) E bs T) (hR:SxR p.cost.length p.rows.length ci (fun i=>sgI (rowAt p i)) (fun i j=>(rowAt p i).coef.getD j 0) (fun i=>(rowAt p i).kind) (fun i=>(rowAt p i).right) sk R)
  (hC:SxC p.cost.length p.rows.length ci κ (fun j=>cost.getD j 0) C) (hp:∀ j,j<ci→0≤T p.rows.length j) {tv:List Bool} (htv:∀ i,i<p.rows.length→tv.getD i false=decide ((rowAt p i).right<0)) {ys:List Str} (hy:DuL D p.rows.length ci T (κ:Rat) tv p.rows.length ys) :
  DualR (D+4) p cost ys∧rightR p ys = -(T p.rows.length (ci+p.rows.length)):=by
 have hv:=sx_duals hR hC hE.tab (bOf_top _ _ _) hp
 have hrat:∀ l,l<p.rows.length→rat ys l=(sgI (rowAt p l):Rat)*((κ:Rat) - T p.rows.length (ci+l)):=by
  intro l hl
  rw [rat_getD (by rw [hy.1];exact hl),(hy.2 l hl).2,htv l hl]
  unfold sgI
  have hc1:((1:Int):Rat)=1:=rfl
  have hcm:((-1:Int):Rat) = -1:=rfl
  by_cases e:(rowAt p l).right<0
  ·rw [if_pos (by simpa using e),if_pos e,hcm]
  ·rw [if_neg (by simpa using e),if_neg e,hc1]
 refine ⟨⟨hy.1,fun s hs=>?_,fun r hr=>by rw [hrat r hr];exact hv.1 r hr,fun i hi=>?_⟩,?_⟩
 ·obtain ⟨i,hi,e⟩:=mem_getD hs
  rw [e];exact frT_D (hy.2 i (by rw [← hy.1];exact hi)).1
 ·rw [sumN_congr (g:=fun r=>(((rowAt p r).coef.getD i 0:Int):Rat)*((sgI (rowAt p r):Rat)*((κ:Rat) - T p.rows.length (ci+r)))) (fun r hr=>by rw [hrat r hr])]
  exact hv.2.1 i hi
 ·unfold rightR
  rw [sumN_congr (g:=fun r=>(((rowAt p r).right:Int):Rat)*((sgI (rowAt p r):Rat)*((κ:Rat) - T p.rows.length (ci+r)))) (fun r hr=>by rw [hrat r hr])]
  exact hv.2.2
end
end Num
end Go.Proofs.YtmppmdmekomjbaaGreatDoor
namespace Go.Proofs.YtmppmdmekomjbaaGreatDoor
open Go.RowKit Num
set_option linter.unusedVariables false
structure KH where
 kt:Nat
 A:Option Addr
 c:Nat
 Bb:Option Addr
 cb:Nat
 V:Option Addr
 cv:Nat
def hdrK (r:VecV):Value:=.slice r.A r.xs.length r.c
structure RowK (w:World) (r:VecV):Prop where
 cells:Cells w r.A (strs r.xs)
 kind:0<r.xs.length→∀ b off sp,r.A=some ⟨b,off,sp⟩→∃ cur,w.heap[b]? = some (.cells cur 29 (0,0))
 cap:r.xs.length≤r.c∧r.c≤maxLen
structure KPart (w:World) (Bs:Nat) (H:KH) (rs:List VecV) (bs:List Nat) (tv:List Bool):Prop where
 outer:OwnS w Bs 28 H.A rs.length H.c (rs.map hdrK)
 rows:∀ r ∈ rs,RowK w r
 bas:OwnS w Bs 3 H.Bb bs.length H.cb (nums bs)
 tur:OwnS w Bs 4 H.V tv.length H.cv (boolsV tv)
structure SxK (w:World) (Bs:Nat) (H:KH) (vars aux:Nat) (rs:List VecV) (bs:List Nat) (tv:List Bool):Prop where
 base:Bs≤H.kt
 obj:w.heap[H.kt]? = some (.cells #[.slice H.A rs.length H.c,.int .i64 vars,.int .i64 aux,.slice H.Bb bs.length H.cb,.slice H.V tv.length H.cv,.bool false] 68)
 part:KPart w Bs H rs bs tv
def rtx (rs:List VecV):List (List Str):=rs.map (·.xs)
theorem rtx_length (rs:List VecV):(rtx rs).length=rs.length:=by unfold rtx;rw [List.length_map]
theorem rtx_get {rs:List VecV} {i:Nat} (h:i<rs.length):(rtx rs).getD i []=rs[i].xs:=by
 unfold rtx;rw [List.getD_eq_getElem?_getD,List.getElem?_map,List.getElem?_eq_getElem h];rfl
theorem rtx_set (rs:List VecV) (i:Nat) (r:VecV):rtx (rs.set i r)=(rtx rs).set i r.xs:=by unfold rtx;rw [List.map_set]
theorem OwnS.pre {w:World} {Bs n c k:Nat} {e:TypeId} {A:Option Addr} {xs:List Value} (h:OwnS w Bs e A n c xs) (hk:k≤n):OwnS w Bs e A k c (xs.take k)∨n=0:=by
 have hl:=h.len
 rcases h.2 with ⟨hv,hn⟩ | ⟨g,cap,cur,hv,hg,hh,h1,h2,h3,h4⟩
 ·exact .inr hn
 ·refine .inl ⟨by rw [List.length_take];omega,.inr ⟨g,cap,cur,?_,hg,hh,by omega,h2,h3,?_⟩⟩
  ·injection hv with e1 e2 e3
   rw [e1,e3]
  ·rw [← h4,List.take_take]
   congr 1
   omega
section
variable {w w':World} {Bs:Nat} {H:KH} {vars aux:Nat} {rs:List VecV} {bs:List Nat} {tv:List Bool}
theorem RowK.below {r:VecV} (h:RowK w r) (hb:Below w.heap.size w w'):RowK w' r :=
 ⟨h.cells.below hb,fun h0 b off sp e=>by obtain ⟨cur,hc⟩:=h.kind h0 b off sp e;exact ⟨cur,(hb.block b (lt_of_heap hc)).trans hc⟩,h.cap⟩
theorem KPart.below (h:KPart w Bs H rs bs tv) (hb:Below w.heap.size w w'):KPart w' Bs H rs bs tv:=⟨h.outer.below hb,fun r hr=>(h.rows r hr).below hb,h.bas.below hb,h.tur.below hb⟩
theorem KPart.mono {Bs':Nat} (h:KPart w Bs H rs bs tv) (hB:Bs'≤Bs):KPart w Bs' H rs bs tv:=⟨h.outer.mono hB,h.rows,h.bas.mono hB,h.tur.mono hB⟩
theorem SxK.lt (h:SxK w Bs H vars aux rs bs tv):H.kt<w.heap.size:=lt_of_heap h.obj
theorem SxK.below (h:SxK w Bs H vars aux rs bs tv) (hb:Below w.heap.size w w'):SxK w' Bs H vars aux rs bs tv:=⟨h.base,(hb.block _ h.lt).trans h.obj,h.part.below hb⟩
theorem SxK.cell (h:SxK w Bs H vars aux rs bs tv) (i:Nat):w.cell? ⟨H.kt,i,none⟩=#[Value.slice H.A rs.length H.c,.int .i64 vars,.int .i64 aux,.slice H.Bb bs.length H.cb,.slice H.V tv.length H.cv,.bool false][i]? := by
 unfold World.cell?;simp only [h.obj];rfl
theorem SxK.free (h:SxK w Bs H vars aux rs bs tv) (i:Nat):w.frozen? ⟨H.kt,i,none⟩=false:=free_of_heap h.obj i
theorem KPart.hdr (h:KPart w Bs H rs bs tv) (h0:0<rs.length):∃ g,H.A=some ⟨g,0,none⟩∧Bs≤g∧g<w.heap.size∧(∀ i (hi:i<rs.length),w.cell? ⟨g,i,none⟩=some (.slice rs[i].A rs[i].xs.length rs[i].c))∧∀ j,w.frozen? ⟨g,j,none⟩=false:=by
 obtain ⟨g,e,h1,h2,h3,h4⟩:=h.outer.at_ h0
 exact ⟨g,e,h1,h2,fun i hi=>by rw [h3 i hi,List.getElem?_map,List.getElem?_eq_getElem hi];rfl,h4⟩
theorem RowK.at_ {r:VecV} (h:RowK w r) (h0:0<r.xs.length):∃ b off,r.A=some ⟨b,off,none⟩∧b<w.heap.size∧∀ j (hj:j<r.xs.length),w.cell? ⟨b,off+j,none⟩=some (.string (B r.xs[j])):=by
 obtain ⟨b,off,e,hb,hc⟩:=h.cells (by unfold strs;rw [List.length_map];exact h0)
 exact ⟨b,off,e,hb,fun j hj=>hc j _ (by unfold strs;rw [List.getElem?_map,List.getElem?_eq_getElem hj];rfl)⟩
theorem RowK.kept {r:VecV} {g:Nat} {l:Array Value} {e:TypeId} {z:Nat × Nat} (h:RowK w r) (hk:KeptB g w w') (hg:w.heap[g]? = some (.cells l e z)) (he:e≠29):RowK w' r:=by
 have hsame:∀ {b:Nat} {cur:Array Value},w.heap[b]? = some (.cells cur 29 (0,0))→w'.heap[b]? = w.heap[b]? := by
  intro b cur hc
  refine hk.2 b (lt_of_heap hc) fun e2=>?_
  rw [e2,hg] at hc
  injection hc with hc
  injection hc with _ hc _
  exact he hc
 refine ⟨fun h0=>?_,fun h0 b off sp e=>?_,h.cap⟩
 ·obtain ⟨b,off,e,hlt,hc⟩:=h.cells h0
  rw [strs_length] at h0
  obtain ⟨cur,hcur⟩:=h.kind h0 b off none e
  exact ⟨b,off,e,Nat.lt_of_lt_of_le hlt hk.1,fun j u hu=>(World.cell?_of_block (w:=w) (hsame hcur)).trans (hc j u hu)⟩
 ·obtain ⟨cur,hcur⟩:=h.kind h0 b off sp e
  exact ⟨cur,(hsame hcur).trans hcur⟩
theorem SxK.put (h:SxK w Bs H vars aux rs bs tv) {i g:Nat} {r:VecV} (hi:i<rs.length) (hg:H.A=some ⟨g,0,none⟩) (hr:RowK w r):SxK (w.setCell ⟨g,i,none⟩ (hdrK r)) Bs H vars aux (rs.set i r) bs tv:=by
 have ho:=h.part.outer
 rw [hg] at ho
 obtain ⟨_,_,cur,htg⟩:=ho.typ
 have hkt:H.kt≠g:=fun e=>by
  have:=h.obj
  rw [e,htg] at this
  injection this with this
  injection this with _ this _
  exact absurd this (by decide)
 have hk:KeptB g w (w.setCell ⟨g,i,none⟩ (hdrK r)):=(KeptB.refl g w).store _ _
 refine ⟨h.base,?_,⟨?_,fun x hx=>?_,h.part.bas.kept hk (h.part.bas.not htg (by decide)),h.part.tur.kept hk (h.part.tur.not htg (by decide))⟩⟩
 ·rw [List.length_set];exact (hk.2 _ h.lt hkt).trans h.obj
 ·rw [List.length_set,List.map_set,hg]
  exact ho.stored i _
 ·rcases List.mem_or_eq_of_mem_set hx with h1 | h1
  ·exact (h.part.rows x h1).kept hk htg (by decide)
  ·rw [h1];exact hr.kept hk htg (by decide)
theorem SxK.basis (h:SxK w Bs H vars aux rs bs tv) {g i x:Nat} (hg:H.Bb=some ⟨g,0,none⟩):SxK (w.setCell ⟨g,i,none⟩ (.int .i64 (x:Int))) Bs H vars aux rs (bs.set i x) tv:=by
 have ho:=h.part.bas
 rw [hg] at ho
 obtain ⟨_,_,cur,htg⟩:=ho.typ
 have hkt:H.kt≠g:=fun e=>by
  have:=h.obj
  rw [e,htg] at this
  injection this with this
  injection this with _ this _
  exact absurd this (by decide)
 have hk:KeptB g w (w.setCell ⟨g,i,none⟩ (.int .i64 (x:Int))):=(KeptB.refl g w).store _ _
 refine ⟨h.base,?_,⟨h.part.outer.kept hk (h.part.outer.not htg (by decide)),fun r hr=>(h.part.rows r hr).kept hk htg (by decide),?_,h.part.tur.kept hk (h.part.tur.not htg (by decide))⟩⟩
 ·rw [List.length_set];exact (hk.2 _ h.lt hkt).trans h.obj
 ·rw [List.length_set,hg]
  have:=ho.stored i (.int .i64 (x:Int))
  rw [sxnums_set] at this
  exact this
theorem rowK_own {Bs' n c:Nat} {X:Option Addr} {xs:List Str} (h:OwnS w Bs' 29 X n c (strs xs)) (hl:xs.length=n):RowK w ⟨X,c,xs⟩:=by
 refine ⟨h.cells,fun h0 b off sp e=>?_,by rw [hl];exact h.cap⟩
 rcases h.2 with ⟨hv,_⟩ | ⟨g',cap,cur,hv,_,hh,_⟩
 ·injection hv with hv _ _
  have e:X=some ⟨b,off,sp⟩:=e
  rw [e] at hv;cases hv
 ·injection hv with hv _ _
  have e:X=some ⟨b,off,sp⟩:=e
  rw [e] at hv
  injection hv with hv
  injection hv with hv _ _
  rw [hv]
  exact ⟨cur,hh⟩
theorem RowK.keptA {Bs' n' c':Nat} {X:Option Addr} {ys:List Value} {e:TypeId} {r:VecV} (h:RowK w r) (hX:OwnS w Bs' e X n' c' ys) (he:e≠29) (hk:KeptA X w w'):RowK w' r:=by
 have hsame:∀ {b:Nat} {cur:Array Value},w.heap[b]? = some (.cells cur 29 (0,0))→w'.heap[b]? = w.heap[b]? := fun hc=>hk.2 _ (lt_of_heap hc) (hX.not hc he)
 refine ⟨fun h0=>?_,fun h0 b off sp e=>?_,h.cap⟩
 ·obtain ⟨b,off,e,hlt,hc⟩:=h.cells h0
  rw [strs_length] at h0
  obtain ⟨cur,hcur⟩:=h.kind h0 b off none e
  exact ⟨b,off,e,Nat.lt_of_lt_of_le hlt hk.1,fun j u hu=>(World.cell?_of_block (w:=w) (hsame hcur)).trans (hc j u hu)⟩
 ·obtain ⟨cur,hcur⟩:=h.kind h0 b off sp e
  exact ⟨cur,(hsame hcur).trans hcur⟩
theorem RowK.set {r:VecV} {kt i:Nat} {v:Value} {l:Array Value} {e:TypeId} {z:Nat × Nat} (h:RowK w r) (hg:w.heap[kt]? = some (.cells l e z)) (he:e≠29):RowK (w.setCell ⟨kt,i,none⟩ v) r:=h.kept ((KeptB.refl kt w).store i v) hg he
theorem SxK.app (h:SxK w Bs H vars aux rs bs tv) {k:Nat} (hkl:k≤rs.length) {r:VecV} {A':Option Addr} {c':Nat} (hr:RowK w r) (hown:OwnS w' Bs 28 A' (k+1) c' ((rs.take k).map hdrK ++ [hdrK r])) (hk:KeptA H.A w w') :
  SxK (w'.setCell ⟨H.kt,0,none⟩ (.slice A' (k+1) c')) Bs { H with A:=A',c:=c' } vars aux (rs.take k ++ [r]) bs tv:=by
 have ho:=h.part.outer
 have ho1:=(hk.2 H.kt h.lt (ho.not h.obj (by decide))).trans h.obj
 have hl:(rs.take k ++ [r]).length=k+1:=by rw [List.length_append,List.length_take];simp;omega
 refine ⟨h.base,?_,⟨?_,fun x hx=>?_,setCell_own (hk.own ho h.part.bas (by decide)) ho1 (by decide),setCell_own (hk.own ho h.part.tur (by decide)) ho1 (by decide)⟩⟩
 ·show (w'.setCell ⟨H.kt,0,none⟩ _).heap[H.kt]? = _
  rw [heap_setCell_at ho1,hl];rfl
 ·rw [hl,List.map_append]
  exact setCell_own hown ho1 (by decide)
 ·rcases List.mem_append.1 hx with h1 | h1
  ·exact ((h.part.rows x (List.mem_of_mem_take h1)).keptA ho (by decide) hk).set ho1 (by decide)
  ·have h1:x=r:=by simpa using h1
   rw [h1]
   exact (hr.keptA ho (by decide) hk).set ho1 (by decide)
theorem SxK.appBase (h:SxK w Bs H vars aux rs bs tv) {x:Nat} {A':Option Addr} {c':Nat} (hown:OwnS w' Bs 3 A' (bs.length+1) c' (nums (bs ++ [x]))) (hk:KeptA H.Bb w w') :
  SxK (w'.setCell ⟨H.kt,3,none⟩ (.slice A' (bs.length+1) c')) Bs { H with Bb:=A',cb:=c' } vars aux rs (bs ++ [x]) tv:=by
 have ho:=h.part.bas
 have ho1:=(hk.2 H.kt h.lt (ho.not h.obj (by decide))).trans h.obj
 refine ⟨h.base,?_,⟨setCell_own (hk.own ho h.part.outer (by decide)) ho1 (by decide),fun y hy=>((h.part.rows y hy).keptA ho (by decide) hk).set ho1 (by decide),?_,setCell_own (hk.own ho h.part.tur (by decide)) ho1 (by decide)⟩⟩
 ·show (w'.setCell ⟨H.kt,3,none⟩ _).heap[H.kt]? = _
  rw [heap_setCell_at ho1,List.length_append];rfl
 ·rw [List.length_append];exact setCell_own hown ho1 (by decide)
theorem SxK.appFlip (h:SxK w Bs H vars aux rs bs tv) {x:Bool} {A':Option Addr} {c':Nat} (hown:OwnS w' Bs 4 A' (tv.length+1) c' (boolsV (tv ++ [x]))) (hk:KeptA H.V w w') :
  SxK (w'.setCell ⟨H.kt,4,none⟩ (.slice A' (tv.length+1) c')) Bs { H with V:=A',cv:=c' } vars aux rs bs (tv ++ [x]):=by
 have ho:=h.part.tur
 have ho1:=(hk.2 H.kt h.lt (ho.not h.obj (by decide))).trans h.obj
 refine ⟨h.base,?_,⟨setCell_own (hk.own ho h.part.outer (by decide)) ho1 (by decide),fun y hy=>((h.part.rows y hy).keptA ho (by decide) hk).set ho1 (by decide),setCell_own (hk.own ho h.part.bas (by decide)) ho1 (by decide),?_⟩⟩
 ·show (w'.setCell ⟨H.kt,4,none⟩ _).heap[H.kt]? = _
  rw [heap_setCell_at ho1,List.length_append];rfl
 ·rw [List.length_append];exact setCell_own hown ho1 (by decide)
end
attribute [local go_sem] B_size B_get B_toList B_mk B_extract B_append
attribute [local go_sem high] run_max2
set_option maxRecDepth 100000 in
theorem rxless_any (p:Value) (a b c:Str) (w:World) (ha:a.length≤100000) (hb:b.length≤100000) (hc:c.length≤100000) (h1:mulQE b c=0) (h2:subQE a (mulQS b c)=0) :
  Calls Tryz.prog 70 #[p,.string (B a),.string (B b),.string (B c)] w fun e w'=>e=.returned (.string (B (subQS a (mulQS b c))))∧Below w.heap.size w w':=by
 have HM:=Lib.hid (rqmul_any b c w (by omega) (by omega))
 have HS:=Lib.hid (fun w=>rqsub_any a (mulQS b c) w ha (Nat.le_trans (mulQ_len b c) (by omega)))
 rw [h1] at HM
 rw [h2] at HS
 generalize mulQS b c=m at *
 generalize subQS a m=s at *
 clear h1 h2
 go_enter Tryz.func70,Tryz.ntmps70
 simp only [B_mk]
 go_wp2_with fail
 refine HM.out.mono ?_
 rintro e w1 ⟨rfl,hb1⟩
 go_wp2_with fail
 refine (HS.out w1).mono ?_
 rintro e w2 ⟨rfl,hb2⟩
 go_wp2_with fail
 go_ret
 exact ⟨rfl,hb1.trans (hb2.mono hb1.size)⟩
set_option maxRecDepth 100000 in
theorem rxover_any (p:Value) (a b:Str) (w:World) (ha:a.length≤100000) (hb:b.length≤100000) (h1:quoQE a b=0) :
  Calls Tryz.prog 113 #[p,.string (B a),.string (B b)] w fun e w'=>e=.returned (.string (B (quoQS a b)))∧Below w.heap.size w w':=by
 have HM:=Lib.hid (rqdiv_any a b w (by omega) (by omega))
 rw [h1] at HM
 generalize quoQS a b=s at *
 clear h1
 go_enter Tryz.func113,Tryz.ntmps113
 simp only [B_mk]
 go_wp2_with fail
 refine HM.out.mono ?_
 rintro e w1 ⟨rfl,hb1⟩
 go_wp2_with fail
 go_ret
 exact ⟨rfl,hb1⟩
end Go.Proofs.YtmppmdmekomjbaaGreatDoor
namespace Go.Proofs.YtmppmdmekomjbaaGreatDoor
open Go.RowKit Num
set_option linter.unusedVariables false
def KeptN (w w':World):Prop:=∀ (k:Nat) (l:Array Value) (z:Nat × Nat),w.heap[k]? = some (.cells l 31 z)→w'.heap[k]? = some (.cells l 31 z)
def BlN (Bs:Nat) (w w':World):Prop:=Below Bs w w'∧KeptN w w'
section
variable {w w1 w2:World} {Bs:Nat}
theorem BlN.refl (Bs:Nat) (w:World):BlN Bs w w:=⟨Below.refl _ _,fun _ _ _ h=>h⟩
theorem keptN_below (h:Below w.heap.size w w1):KeptN w w1:=fun k l z hk=>(h.block k (lt_of_heap hk)).trans hk
theorem BlN.of (h:Below w.heap.size w w1) (hB:Bs≤w.heap.size):BlN Bs w w1:=⟨h.mono hB,keptN_below h⟩
theorem BlN.trans (h:BlN Bs w w1) (h2:BlN Bs w1 w2):BlN Bs w w2:=⟨h.1.trans h2.1,fun k l z hk=>h2.2 k l z (h.2 k l z hk)⟩
theorem BlN.snoc (h:BlN Bs w w1) (h2:Below w1.heap.size w1 w2) (hB:Bs≤w1.heap.size):BlN Bs w w2:=h.trans (.of h2 hB)
theorem BlN.set {g i:Nat} {v:Value} {l:Array Value} {e:TypeId} {z:Nat × Nat} (h:BlN Bs w w1) (hg:Bs≤g) (ht:w1.heap[g]? = some (.cells l e z)) (he:e≠31):BlN Bs w (w1.setCell ⟨g,i,none⟩ v):=by
 refine ⟨h.1.setCell hg v,fun k l' z' hk=>?_⟩
 have h1:=h.2 k l' z' hk
 refine (((KeptB.refl g w1).store i v).2 k (lt_of_heap h1) fun e2=>?_).trans h1
 rw [e2,ht] at h1
 injection h1 with h1
 injection h1 with _ h1 _
 exact he h1
theorem BlN.app {Bs' n c:Nat} {A:Option Addr} {e:TypeId} {xs:List Value} (h:BlN Bs w w1) (hX:OwnS w1 Bs' e A n c xs) (he:e≠31) (hk:KeptA A w1 w2) (hb:Below Bs w1 w2):BlN Bs w w2 :=
 ⟨h.1.trans hb,fun k l z hk2=>by
  have h1:=h.2 k l z hk2
  exact (hk.2 k (lt_of_heap h1) (hX.not h1 he)).trans h1⟩
end
end Go.Proofs.YtmppmdmekomjbaaGreatDoor

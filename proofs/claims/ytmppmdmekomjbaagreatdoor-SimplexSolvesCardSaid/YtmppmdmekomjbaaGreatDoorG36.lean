/- What the simplex method's texts say: answers that prove themselves: plain. -/
import Derived.Test.YtmppmdmekomjbaaGreatDoorG32
import Derived.Test.YtmppmdmekomjbaaGreatDoorG34
import Derived.Test.YtmppmdmekomjbaaGreatDoorG35
import Derived.Test.YtmppmdmekomjbaaGreatDoorLProg7
import Derived.Test.YtmppmdmekomjbaaGreatDoorG17
import Derived.BigQuiet
namespace Go.Proofs.YtmppmdmekomjbaaGreatDoor
namespace Num
set_option linter.unusedVariables false
structure PrimR (K:Nat) (p:LinL) (xs:List Str):Prop where
 len:xs.length=p.cost.length
 fr:∀ x ∈ xs,FrT K x
 pos:∀ i,i<p.cost.length→0≤rat xs i
 hold:∀ r,r<p.rows.length→holdsR (rowAt p r).kind (sumN p.cost.length (fun i=>(((rowAt p r).coef.getD i 0:Int):Rat)*rat xs i)) (((rowAt p r).right:Int):Rat)
structure RayR (K:Nat) (p:LinL) (xs:List Str):Prop where
 len:xs.length=p.cost.length
 fr:∀ x ∈ xs,FrT K x
 pos:∀ i,i<p.cost.length→0≤rat xs i
 hold:∀ r,r<p.rows.length→holdsR (rowAt p r).kind (sumN p.cost.length (fun i=>(((rowAt p r).coef.getD i 0:Int):Rat)*rat xs i)) 0
 fall:sumN p.cost.length (fun i=>((p.cost.getD i 0:Int):Rat)*rat xs i)<0
structure DualR (K:Nat) (p:LinL) (lim:List Int) (ds:List Str):Prop where
 len:ds.length=p.rows.length
 fr:∀ x ∈ ds,FrT K x
 sign:∀ r,r<p.rows.length→signR (rowAt p r).kind (rat ds r)
 below:∀ i,i<p.cost.length→sumN p.rows.length (fun r=>(((rowAt p r).coef.getD i 0:Int):Rat)*rat ds r)≤((lim.getD i 0:Int):Rat)
def costR (p:LinL) (xs:List Str):Rat:=sumN p.cost.length (fun i=>((p.cost.getD i 0:Int):Rat)*rat xs i)
def rightR (p:LinL) (ds:List Str):Rat:=sumN p.rows.length (fun r=>(((rowAt p r).right:Int):Rat)*rat ds r)
theorem frT_D {K:Nat} {s:Str} (h:FrD K K s):FrT K s:=by
 obtain ⟨p,q,h1,h2,h3,h4⟩:=h
 exact ⟨p,q,⟨h1,h2,h3⟩,h4⟩
theorem rat_getD {xs:List Str} {i:Nat} (h:i<xs.length):rat xs i=rq (xs.getD i []):=by
 rw [rat_get h,List.getD_eq_getElem?_getD,List.getElem?_eq_getElem h];rfl
theorem mem_getD {xs:List Str} {x:Str} (h:x ∈ xs):∃ i,i<xs.length∧x=xs.getD i []:=by
 obtain ⟨i,hi,rfl⟩:=List.getElem_of_mem h
 exact ⟨i,hi,by rw [List.getD_eq_getElem?_getD,List.getElem?_eq_getElem hi];rfl⟩
section
variable {D D1 d:Nat} {p:LinL} {cost:List Int} {κ:Int} {E:List (List Str)} {bs:List Nat} {T:Mx}
theorem row_small (hE:SxE D p.rows.length (colI p) (extR p.rows.length (R0 p) (C0 p cost κ)) E bs T) (hR:SxR p.cost.length p.rows.length (colI p) (fun i=>sgI (rowAt p i)) (fun i j=>(rowAt p i).coef.getD j 0) (fun i=>(rowAt p i).kind) (fun i=>(rowAt p i).right) (slkI p) (R0 p))
  (hC:SxC p.cost.length p.rows.length (colI p) κ (fun j=>cost.getD j 0) (C0 p cost κ)) (hd1:1≤d) (hd:∀ s,s<p.rows.length→∀ c,dl (R0 p s c)≤d) (hg:gr (p.rows.length - 1) d≤D1) (hD:D≤4096) (hD1:D1≤4096) {i j:Nat} (hi:i<p.rows.length) (hj:j<colI p+p.rows.length+1):FrD D1 D1 (cellM E i j):=by
 have hc:=hE.tab.cut (bOf_top _ _ _) (by omega) hR.top hC.top
 obtain ⟨P,Q,hQ,h1,h2,h3⟩:=hc.bound hd1 (fun s hs c _=>hd s hs c) hi (j:=j) (by omega)
 refine FrD.value ((hE.mat.cell (by rw [hE.len];omega) hj).right hD hD) hQ (Nat.le_trans h1 hg) (Nat.le_trans h2 hg) hD1 hD1 ?_
 rw [← hE.val i (by omega) j hj,h3]
theorem ans_prim (hE:SxE D p.rows.length (colI p) (extR p.rows.length (R0 p) (C0 p cost κ)) E bs T) (hR:SxR p.cost.length p.rows.length (colI p) (fun i=>sgI (rowAt p i)) (fun i j=>(rowAt p i).coef.getD j 0) (fun i=>(rowAt p i).kind) (fun i=>(rowAt p i).right) (slkI p) (R0 p))
  (hC:SxC p.cost.length p.rows.length (colI p) κ (fun j=>cost.getD j 0) (C0 p cost κ)) (hsm:∀ i,i<p.rows.length→∀ j,j<colI p+p.rows.length+1→FrD D1 D1 (cellM E i j)) (h1:1≤D1) (hp:∀ i,i<p.rows.length→0≤T i (colI p+p.rows.length)) (hz:∀ l,l<p.rows.length→colI p≤bOf bs p.rows.length (colI p+p.rows.length+1) l→T l (colI p+p.rows.length)=0)
  {xs:List Str} (hx:TxL p.cost.length (XvP E (fun l=>bs.getD l 0) (colI p+p.rows.length) p.rows.length) xs):PrimR D1 p xs∧sumN p.cost.length (fun i=>((cost.getD i 0:Int):Rat)*rat xs i) = -(T p.rows.length (colI p+p.rows.length)):=by
 have hcut:=hE.tab.cut (bOf_top _ _ _) (by omega) hR.top hC.top
 have hv:=sx_values hR hC hE.tab (bOf_top _ _ _) hp hz
 have hle:=hR.le
 have hrat:∀ x,x<p.cost.length→rat xs x=xV p.rows.length T (bOf bs p.rows.length (colI p+p.rows.length+1)) (colI p+p.rows.length) x:=by
  intro x hxn
  rw [rat_getD (by rw [hx.1];exact hxn)]
  rcases hx.2 x hxn with ⟨l,hl,hb,hs⟩ | ⟨hb,hs⟩
  ·have hb2:bOf bs p.rows.length (colI p+p.rows.length+1) l=x:=by rw [bOf_lt hl];exact hb
   rw [hs,← hE.val l (by omega) _ (by omega),← hb2,xV_base hcut hl]
  ·rw [hs,rq_zero,xV_free fun l hl=>by rw [bOf_lt hl];exact hb l hl]
 refine ⟨⟨hx.1,fun s hs=>?_,fun i hi=>by rw [hrat i hi];exact hv.1 i,fun r hr=>?_⟩,?_⟩
 ·obtain ⟨i,hi,e⟩:=mem_getD hs
  rw [hx.1] at hi
  rcases hx.2 i hi with ⟨l,hl,_,h3⟩ | ⟨_,h3⟩
  ·rw [e,h3];exact frT_D (hsm l hl _ (by omega))
  ·rw [e,h3];exact frT_D ((fr_small (.inl rfl)).mono h1 h1)
 ·have:=hv.2.1 r hr
  rw [sumN_congr (g:=fun i=>(((rowAt p r).coef.getD i 0:Int):Rat)*rat xs i) (fun i hi=>by rw [hrat i hi])] at this
  exact this
 ·have:=hv.2.2
  rw [sumN_congr (g:=fun i=>((cost.getD i 0:Int):Rat)*rat xs i) (fun i hi=>by rw [hrat i hi])] at this
  exact this
theorem ans_ray (hE:SxE D p.rows.length (colI p) (extR p.rows.length (R0 p) (C0 p p.cost κ)) E bs T) (hR:SxR p.cost.length p.rows.length (colI p) (fun i=>sgI (rowAt p i)) (fun i j=>(rowAt p i).coef.getD j 0) (fun i=>(rowAt p i).kind) (fun i=>(rowAt p i).right) (slkI p) (R0 p))
  (hC:SxC p.cost.length p.rows.length (colI p) κ (fun j=>p.cost.getD j 0) (C0 p p.cost κ)) (hsm:∀ i,i<p.rows.length→∀ j,j<colI p+p.rows.length+1→FrD D1 D1 (cellM E i j)) (h1:2*D1+4≤4096) {c:Nat} (hc:c<colI p) (hneg:T p.rows.length c<0) (hp:∀ i,i<p.rows.length→T i c≤0) (hz:∀ l,l<p.rows.length→colI p≤bOf bs p.rows.length (colI p+p.rows.length+1) l→T l c=0)
  {xs:List Str} (hx:TxL p.cost.length (RyP E (fun l=>bs.getD l 0) c p.rows.length) xs):RayR (D1+2) p xs:=by
 have hcut:=hE.tab.cut (bOf_top _ _ _) (by omega) hR.top hC.top
 have hv:=sx_ray hR hC hE.tab (bOf_top _ _ _) hc hp hz
 have hle:=hR.le
 have hsub:∀ l,l<p.rows.length→FrD (D1+2) (D1+2) (subQS [48] (cellM E l c))∧rq (subQS [48] (cellM E l c)) = -(T l c):=fun l hl=>by
  have hs:=(fr_small (.inl rfl):FrD 1 1 [48]).sub (hsm l hl c (by omega)) (by omega) (by omega)
  refine ⟨hs.2.1.mono (by omega) (by omega),?_⟩
  rw [hs.2.2,rq_zero,← hE.val l (by omega) c (by omega)];grind
 have hfree:∀ l,l<p.rows.length→bOf bs p.rows.length (colI p+p.rows.length+1) l≠c:=fun l hl e=>by
  have h2:=hE.tab.base p.rows.length l (Nat.lt_succ_self _) (by omega)
  rw [e] at h2
  rw [h2] at hneg
  unfold kron at hneg
  rw [if_neg (by omega)] at hneg
  exact absurd hneg (by decide)
 have hrat:∀ x,x<p.cost.length→rat xs x=kron x c - xV p.rows.length T (bOf bs p.rows.length (colI p+p.rows.length+1)) c x:=by
  intro x hxn
  rw [rat_getD (by rw [hx.1];exact hxn)]
  rcases hx.2 x hxn with ⟨l,hl,hb,hs⟩ | ⟨hb,h2,h3⟩
  ·have hb2:bOf bs p.rows.length (colI p+p.rows.length+1) l=x:=by rw [bOf_lt hl];exact hb
   have hne:=hfree l hl
   rw [hb2] at hne
   rw [hs,(hsub l hl).2,← hb2,xV_base hcut hl,hb2]
   unfold kron;rw [if_neg hne];grind
  ·rw [xV_free fun l hl=>by rw [bOf_lt hl];exact hb l hl]
   by_cases e:x=c
   ·have h49:rq [49]=1:=by
     have:=rq_int 1
     rw [show decI 1=[49] by decide +kernel] at this
     rw [this];rfl
    rw [h2 e,h49];unfold kron;rw [if_pos e];grind
   ·rw [h3 e,rq_zero];unfold kron;rw [if_neg e];grind
 refine ⟨hx.1,fun s hs=>?_,fun i hi=>by rw [hrat i hi];exact hv.1 i,fun r hr=>?_,?_⟩
 ·obtain ⟨i,hi,e⟩:=mem_getD hs
  rw [hx.1] at hi
  rcases hx.2 i hi with ⟨l,hl,_,h3⟩ | ⟨_,h2,h3⟩
  ·rw [e,h3];exact frT_D (hsub l hl).1
  ·by_cases ec:i=c
   ·rw [e,h2 ec];exact frT_D ((fr_small (.inr rfl)).mono (by omega) (by omega))
   ·rw [e,h3 ec];exact frT_D ((fr_small (.inl rfl)).mono (by omega) (by omega))
 ·have:=hv.2.1 r hr
  rw [sumN_congr (g:=fun i=>(((rowAt p r).coef.getD i 0:Int):Rat)*rat xs i) (fun i hi=>by rw [hrat i hi])] at this
  exact this
 ·have:=hv.2.2
  rw [sumN_congr (g:=fun i=>((p.cost.getD i 0:Int):Rat)*rat xs i) (fun i hi=>by rw [hrat i hi])] at this
  rw [this];exact hneg
theorem ans_dual (hE:SxE D p.rows.length (colI p) (extR p.rows.length (R0 p) (C0 p cost κ)) E bs T) (hR:SxR p.cost.length p.rows.length (colI p) (fun i=>sgI (rowAt p i)) (fun i j=>(rowAt p i).coef.getD j 0) (fun i=>(rowAt p i).kind) (fun i=>(rowAt p i).right) (slkI p) (R0 p))
  (hC:SxC p.cost.length p.rows.length (colI p) κ (fun j=>cost.getD j 0) (C0 p cost κ)) (hp:∀ j,j<colI p→0≤T p.rows.length j) {tv:List Bool} (htv:∀ i,i<p.rows.length→tv.getD i false=decide ((rowAt p i).right<0)) {ys:List Str} (hy:DuL D p.rows.length (colI p) T (κ:Rat) tv p.rows.length ys) :
  DualR (D+4) p cost ys∧rightR p ys = -(T p.rows.length (colI p+p.rows.length)):=by
 have hv:=sx_duals hR hC hE.tab (bOf_top _ _ _) hp
 have hrat:∀ l,l<p.rows.length→rat ys l=(sgI (rowAt p l):Rat)*((κ:Rat) - T p.rows.length (colI p+l)):=by
  intro l hl
  rw [rat_getD (by rw [hy.1];exact hl),(hy.2 l hl).2,htv l hl]
  unfold sgI
  have hc1:((1:Int):Rat)=1:=rfl
  have hcm:((-1:Int):Rat) = -1:=rfl
  by_cases e:(rowAt p l).right<0
  ·rw [if_pos (by simpa using e),if_pos e,hcm]
  ·rw [if_neg (by simpa using e),if_neg e,hc1]
 refine ⟨⟨hy.1,fun s hs=>?_,fun r hr=>by rw [hrat r hr];exact hv.1 r hr,fun i hi=>?_⟩,?_⟩
 ·obtain ⟨i,hi,e⟩:=mem_getD hs
  rw [e];exact frT_D (hy.2 i (by rw [← hy.1];exact hi)).1
 ·rw [sumN_congr (g:=fun r=>(((rowAt p r).coef.getD i 0:Int):Rat)*((sgI (rowAt p r):Rat)*((κ:Rat) - T p.rows.length (colI p+r)))) (fun r hr=>by rw [hrat r hr])]
  exact hv.2.1 i hi
 ·unfold rightR
  rw [sumN_congr (g:=fun r=>(((rowAt p r).right:Int):Rat)*((sgI (rowAt p r):Rat)*((κ:Rat) - T p.rows.length (colI p+r)))) (fun r hr=>by rw [hrat r hr])]
  exact hv.2.2
end
end Num
end Go.Proofs.YtmppmdmekomjbaaGreatDoor
namespace Go.Proofs.YtmppmdmekomjbaaGreatDoor
open Num
set_option linter.unusedVariables false
theorem cell_app {M:List (List Str)} {r:List Str} {m i j:Nat} (hm:M.length=m) (hi:i<m+1):cellM (M ++ [r]) i j=if i=m then r.getD j [] else cellM M i j:=by
 unfold cellM
 by_cases e:i=m
 ·rw [if_pos e,List.getD_eq_getElem?_getD (l:=M ++ [r]),List.getElem?_append_right (by omega),hm,e,Nat.sub_self];rfl
 ·rw [if_neg e,List.getD_eq_getElem?_getD (l:=M ++ [r]),List.getElem?_append_left (by omega),← List.getD_eq_getElem?_getD]
theorem charge_ent {D D1 d m ci:Nat} {R:Nat→Nat→Int} {cst:Nat→Int} {M:List (List Str)} {bs:List Nat} {T:Mx} {pr:List Str} (hT:Tb m (ci+m+2) R T (fun l=>bs.getD l 0)) (hz:∀ i,i<m→R i (ci+m+1)=0) (hc1:cst (ci+m+1)=1)
  (hml:M.length=m) (hM:Mat D1 D1 (ci+m+1) M) (hD1:D1≤D) (hv:∀ i,i<m→∀ j,j<ci+m+1→T i j=rq (cellM M i j)) (hbl:bs.length=m) (hbx:∀ x ∈ bs,x<ci+m)
  (hp:TxL (ci+m+1) (PrP D1 (fun j=>(cst j:Rat)) T (fun l=>bs.getD l 0) m) pr) (hs:8+(D1+6)*m≤4096) (hd1:1≤d) (hd:∀ s,s<m+1→∀ c,dl (extR m R cst s c)≤d) (hg:gr m d≤D) (hD:D≤4096) :
  ∃ T',SxE D m ci (extR m R cst) (M ++ [pr]) bs T'∧∀ i,i<m→∀ j,T' i j=T i j:=by
 have hext:=hT.ext (cst:=cst) (z:=ci+m+1) (by omega) hz hc1
 have hbe:∀ l,l<m+1→extB m (ci+m+1) (fun l=>bs.getD l 0) l=bOf bs m (ci+m+1) l:=fun l hl=>by unfold extB bOf;rfl
 have hbf:extB m (ci+m+1) (fun l=>bs.getD l 0)=bOf bs m (ci+m+1):=by funext l;unfold extB bOf;rfl
 rw [hbf] at hext
 have hval:∀ i,i<m+1→∀ j,j<ci+m+1→extT m T (fun l=>bs.getD l 0) cst i j=rq (cellM (M ++ [pr]) i j):=by
  intro i hi j hj
  rw [cell_app hml hi]
  unfold extT
  by_cases e:i=m
  ·rw [if_pos e,if_pos e];exact ((hp.2 j hj).2).symm
  ·rw [if_neg e,if_neg e];exact hv i (by omega) j hj
 have e1:(D1+1)*m≤(D1+6)*m:=Nat.mul_le_mul_right _ (by omega)
 have hprD:∀ j,j<ci+m+1→FrD D D (pr.getD j []):=fun j hj=>by
  obtain ⟨P,Q,hQ,h1,h2,h3⟩:=hext.bound hd1 (fun s hs c _=>hd s hs c) (i:=m) (j:=j) (by omega) (by omega)
  rw [Nat.add_sub_cancel] at h1 h2
  refine FrD.value ((hp.2 j hj).1.right (by omega) (by omega)) hQ (Nat.le_trans h1 hg) (Nat.le_trans h2 hg) hD hD ?_
  rw [← h3,hval m (by omega) j hj,cell_app hml (by omega),if_pos rfl]
 refine ⟨extT m T (fun l=>bs.getD l 0) cst,⟨by rw [List.length_append,hml];rfl,?_,hbl,hbx,hext,hval⟩,fun i hi j=>by unfold extT;rw [if_neg (by omega)]⟩
 intro r hr
 rcases List.mem_append.1 hr with h | h
 ·obtain ⟨h1,h2⟩:=hM r h
  exact ⟨h1,fun a ha=>(h2 a ha).mono hD1 hD1⟩
 ·have h:r=pr:=by simpa using h
  subst h
  refine ⟨hp.1,fun a ha=>?_⟩
  obtain ⟨i,hi,e⟩:=mem_getD ha
  rw [e];exact hprD i (by rw [← hp.1];exact hi)
theorem int_fr {z:Int} {d:Nat} (h:dl z≤d):FrD d 1 (decI z):=⟨z,1,by decide,h,by decide +kernel,(low_int z).symm⟩
theorem ent_cut {D m ci:Nat} {R:Nat→Nat→Int} {cst:Nat→Int} {E:List (List Str)} {bs:List Nat} {T:Mx} (h:SxE D m ci (extR m R cst) E bs T) (hz:∀ i,i<m→R i (ci+m+1)=0) (hc1:cst (ci+m+1)=1):Tb m (ci+m+2) R T (fun l=>bs.getD l 0):=by
 have hc:=h.tab.cut (bOf_top _ _ _) (by omega) hz hc1
 exact ⟨hc.ker,fun i l hi hl=>by rw [← hc.base i l hi hl,bOf_lt hl],fun l hl=>by rw [← bOf_lt hl];exact hc.col l hl⟩
end Go.Proofs.YtmppmdmekomjbaaGreatDoor
namespace Go.Proofs.YtmppmdmekomjbaaGreatDoor
open Go.RowKit Num
set_option linter.unusedVariables false
attribute [local go_sem] B_size B_get B_toList B_mk B_extract B_append
abbrev ansV (k:Int) (X D Rr:Value) (v:Str):Value:=.agg #[.int .i64 k,X,D,Rr,.string (B v)]
theorem row_cells5 {w:World} {g:Nat} {a b c d e:Value} {t:TypeId} (h:w.heap[g]? = some (.cells #[a,b,c,d,e] t)) :
  (w.cell? ⟨g,0,none⟩=some a∧w.cell? ⟨g,1,none⟩=some b∧w.cell? ⟨g,2,none⟩=some c∧w.cell? ⟨g,3,none⟩=some d∧w.cell? ⟨g,4,none⟩=some e) ∧
  (w.frozen? ⟨g,0,none⟩=false∧w.frozen? ⟨g,1,none⟩=false∧w.frozen? ⟨g,2,none⟩=false∧w.frozen? ⟨g,3,none⟩=false∧w.frozen? ⟨g,4,none⟩=false):=by
 refine ⟨⟨?_,?_,?_,?_,?_⟩,?_,?_,?_,?_,?_⟩
 ·rw [cell_of_row w g 0 _ _ _ h];rfl
 ·rw [cell_of_row w g 1 _ _ _ h];rfl
 ·rw [cell_of_row w g 2 _ _ _ h];rfl
 ·rw [cell_of_row w g 3 _ _ _ h];rfl
 ·rw [cell_of_row w g 4 _ _ _ h];rfl
 all_goals (unfold World.frozen?;simp [h])
theorem row_set5 {w:World} {g:Nat} {x0 x1 x2 x3 x4 a b c d e:Value} {t:TypeId} (h:w.heap[g]? = some (.cells #[x0,x1,x2,x3,x4] t)) :
  (((((w.setCell ⟨g,0,none⟩ a).setCell ⟨g,1,none⟩ b).setCell ⟨g,2,none⟩ c).setCell ⟨g,3,none⟩ d).setCell ⟨g,4,none⟩ e).heap[g]? = some (.cells #[a,b,c,d,e] t):=by
 have h1:=heap_setCell_at (i:=0) (v:=a) h
 have h2:=heap_setCell_at (i:=1) (v:=b) h1
 have h3:=heap_setCell_at (i:=2) (v:=c) h2
 have h4:=heap_setCell_at (i:=3) (v:=d) h3
 have h5:=heap_setCell_at (i:=4) (v:=e) h4
 exact h5
attribute [local go_sem] cell_set_off
set_option maxRecDepth 100000 in
theorem done_res {w:World} {g:Nat} {a b c d f:Value} {e:Int} {tmps:Array Value} {t:TypeId} (hrow:w.heap[g]? = some (.cells #[a,b,c,d,f] t)) (h4:tmps.getD 4 undef=.pointer (some ⟨g,0,none⟩)) (h5:tmps.getD 5 undef=.int .i64 e) :
  (results Tryz.f27 tmps).run Tryz.prog w=.ok (.tuple #[.agg #[a,b,c,d,f],.int .i64 e]) w:=by
 rw [results_cell_tmp (p:=4) (u:=5) (ty:=31) rfl,h4,h5]
 have hl:=run_loadVar_row (P:=Tryz.prog) w g t 31 #[a,b,c,d,f] _ _ hrow Tryz.underlying31 rfl (by kernel_rfl)
 show ((loadVar 31 ⟨g,0,none⟩).run Tryz.prog w).andThen _=_
 rw [hl];rfl
set_option maxHeartbeats 4000000 in
set_option maxRecDepth 100000 in
theorem sxdone_any (kt:Nat) (k:Int) (Xa Da Ra:Option Addr) (xn xc dn dc rn rc:Nat) (v:Str) (w:World) (hk:ErrAt w kt) :
  Calls Tryz.prog 27 #[.pointer (some ⟨kt,0,none⟩),ansV k (.slice Xa xn xc) (.slice Da dn dc) (.slice Ra rn rc) v] w fun e w'=>e=.returned (.tuple #[ansV k (.slice Xa xn xc) (.slice Da dn dc) (.slice Ra rn rc) v,.int .i64 0])∧Below w.heap.size w w':=by
 have hlt:=hk.lt
 have n1:=new_below w (.cells #[.int .i64 k,.slice Xa xn xc,.slice Da dn dc,.slice Ra rn rc,.string (B v)] 31)
 have hk1:=hk.below n1
 have n2:=new_below (w.alloc (.cells #[.int .i64 k,.slice Xa xn xc,.slice Da dn dc,.slice Ra rn rc,.string (B v)] 31)) (.cells #[.int .i64 0,.slice none 0 0,.slice none 0 0,.slice none 0 0,.string (B [])] 31)
 have hk2:=hk1.below n2
 have c7:=hk2.cell
 have r1:=row_on (row_new (w:=w) (o:=.cells #[.int .i64 k,.slice Xa xn xc,.slice Da dn dc,.slice Ra rn rc,.string (B v)] 31)) n2
 have r2:=row_new (w:=w.alloc (.cells #[.int .i64 k,.slice Xa xn xc,.slice Da dn dc,.slice Ra rn rc,.string (B v)] 31)) (o:=.cells #[.int .i64 0,.slice none 0 0,.slice none 0 0,.slice none 0 0,.string (B [])] 31)
 rw [show (w.alloc (.cells #[.int .i64 k,.slice Xa xn xc,.slice Da dn dc,.slice Ra rn rc,.string (B v)] 31)).heap.size=w.heap.size+1 by simp] at r2
 obtain ⟨⟨a0,a1,a2,a3,a4⟩,_⟩:=row_cells5 r1
 obtain ⟨⟨b0,b1,b2,b3,b4⟩,z0,z1,z2,z3,z4⟩:=row_cells5 r2
 have HR2:=Lib.hid r2
 have HB:=Lib.hid (below_lift3 n1 n2)
 clear r1 r2 hk1 hk2 hk n1 n2
 go_enter Tryz.func27,Tryz.ntmps27
 go_upto_region 1 with fail
 generalize (w.alloc (.cells #[.int .i64 k,.slice Xa xn xc,.slice Da dn dc,.slice Ra rn rc,.string (B v)] 31)).alloc (.cells #[.int .i64 0,.slice none 0 0,.slice none 0 0,.slice none 0 0,.string (B [])] 31)=w2 at *
 go_wp2_with fail
 (try simp only [Exit.inBlock,Exit.then])
 refine bodyPost_ret (done_res (row_set5 HR2.out) rfl rfl) rfl ?_
 refine ⟨rfl,?_⟩
 exact (((((HB.out.setCell (Nat.le_succ _) _).setCell (Nat.le_succ _) _).setCell (Nat.le_succ _) _).setCell (Nat.le_succ _) _).setCell (Nat.le_succ _) _)
end Go.Proofs.YtmppmdmekomjbaaGreatDoor
namespace Go.Proofs.YtmppmdmekomjbaaGreatDoor
open Go.RowKit Num
set_option linter.unusedVariables false
attribute [local go_sem] B_size B_get B_toList B_mk B_extract B_append
def AnsR (D:Nat) (p:LinL) (a:AnsL):Prop :=
 (a.kind=1∧a.ray=[]∧PrimR 255 p a.X∧DualR (D+4) p p.cost a.dual∧timesQ p.cost a.X=(a.value,0)∧rightR p a.dual=costR p a.X) ∨
 (a.kind=2∧a.X=[]∧a.ray=[]∧a.value=[]∧DualR (D+4) p [] a.dual∧0<rightR p a.dual) ∨
 (a.kind=3∧a.dual=[]∧a.value=[]∧PrimR 255 p a.X∧RayR 257 p a.ray)
def AnsAt (w:World) (v:Value) (a:AnsL):Prop:=∃ (X Y Z:Option Addr) (cx cy cz:Nat),v=ansV a.kind (.slice X a.X.length cx) (.slice Y a.dual.length cy) (.slice Z a.ray.length cz) a.value∧RatsAt w a.X X cx∧RatsAt w a.dual Y cy∧RatsAt w a.ray Z cz
theorem ratsAt_own {w:World} {Bs n c:Nat} {X:Option Addr} {xs:List Str} (h:OwnS w Bs 29 X n c (strs xs)) (hl:xs.length=n) (hx:∀ x ∈ xs,x.length≤100000):RatsAt w xs X c:=⟨h.cells,hx,by rw [hl];exact h.cap⟩
theorem ratsAt_nil (w:World):RatsAt w [] none 0:=⟨Cells.nil _ _,fun x h=>absurd h (by simp),Nat.le_refl _,by unfold maxLen;omega⟩
theorem bu_rows {p:LinL} {M:List (List Str)} {bs us:List Nat} {tv:List Bool} {D1 d:Nat} (h:BuP p p.rows.length M bs us tv) (hR:SxR p.cost.length p.rows.length (colI p) (fun i=>sgI (Num.rowAt p i)) (fun i j=>(Num.rowAt p i).coef.getD j 0) (fun i=>(Num.rowAt p i).kind) (fun i=>(Num.rowAt p i).right) (slkI p) (R0 p)) (hd:∀ i,i<p.rows.length→∀ j,dl (R0 p i j)≤d) (hdD:d≤D1) (h1:1≤D1) :
  Tb p.rows.length (colI p+p.rows.length+2) (R0 p) (ratM (R0 p)) (fun l=>bs.getD l 0)∧Mat D1 D1 (colI p+p.rows.length+1) M∧(∀ i,i<p.rows.length→∀ j,j<colI p+p.rows.length+1→ratM (R0 p) i j=rq (cellM M i j))∧∀ x ∈ bs,x<colI p+p.rows.length:=by
 have htb:=tb_first (N:=colI p+p.rows.length+2) hR.unit (fun l hl=>by omega)
 refine ⟨⟨htb.ker,fun i l hi hl=>by rw [← htb.base i l hi hl,h.be l hl],fun l hl=>by rw [h.be l hl];exact htb.col l hl⟩,fun r hr=>?_,fun i hi j hj=>?_,fun x hx=>?_⟩
 ·obtain ⟨i,hi,rfl⟩:=List.getElem_of_mem hr
  rw [h.ml] at hi
  have hre:=h.re i hi
  have hg:M.getD i []=M[i]:=by rw [List.getD_eq_getElem?_getD,List.getElem?_eq_getElem];rfl
  rw [hg] at hre
  refine ⟨hre.1,fun a ha=>?_⟩
  obtain ⟨j,hj,e⟩:=mem_getD ha
  rw [hre.1] at hj
  rw [e,hre.2 j hj]
  exact (int_fr (hd i hi j)).mono hdD h1
 ·unfold cellM
  rw [(h.re i hi).2 j hj,rq_int];rfl
 ·obtain ⟨i,hi,rfl⟩:=List.getElem_of_mem hx
  have h2:=h.be i (by rw [← h.bl];exact hi)
  rw [List.getD_eq_getElem?_getD,List.getElem?_eq_getElem hi] at h2
  have h2:bs[i]=colI p+i:=h2
  have:=h.bl
  omega
theorem cs_costs {p:LinL} {cost:List Int} {κ:Int} {unit:Str} {own:Bool} {cs:List Str} (hcs:TxL (colI p+p.rows.length) (CsP cost unit own p.cost.length (colI p)) cs) (hu:unit=decI κ) (hκ:κ=0∨κ=1) (hd:∀ n ∈ cost,dl n≤5) :
  TxL (colI p+p.rows.length) (fun x s=>FrD 5 1 s∧rq s=((C0 p (if own then cost else []) κ x:Int):Rat)) cs:=by
 have hle:p.cost.length≤colI p:=by unfold colI;omega
 have h0:FrD 5 1 [48]∧rq [48]=((0:Int):Rat):=⟨(fr_small (.inl rfl)).mono (by omega) (by omega),rq_zero⟩
 refine hcs.imp fun x hx s hs=>?_
 unfold C0
 by_cases e:x<p.cost.length
 ·rw [if_pos e]
  have:=hs.1 e
  cases own with
  | true =>
   rw [if_pos rfl] at this
   rw [if_pos rfl,this,rq_int]
   refine ⟨int_fr ?_,rfl⟩
   rw [List.getD_eq_getElem?_getD]
   rcases Nat.lt_or_ge x cost.length with e2 | e2
   ·rw [List.getElem?_eq_getElem e2];exact hd _ (List.getElem_mem e2)
   ·rw [List.getElem?_eq_none e2];exact Nat.le_trans (dl_small (.inl rfl)) (by omega)
  | false =>
   rw [if_neg (by decide)] at this
   rw [if_neg (by decide),this]
   exact h0
 ·rw [if_neg e]
  by_cases e2:x<colI p
  ·rw [if_pos e2,hs.2.1 (by omega) e2];exact h0
  ·rw [if_neg e2,if_pos hx,hs.2.2 (by omega),hu,rq_int]
   exact ⟨int_fr (Nat.le_trans (dl_small (by omega)) (by omega)),rfl⟩
theorem fr_lens {K:Nat} {xs:List Str} (h:∀ x ∈ xs,FrT K x) (hK:K≤4096):∀ x ∈ xs,x.length≤100000:=fun x hx=>by have:=(h x hx).len;omega
theorem kept5 {w:World} {g:Nat} {a b c d e:Value}:KeptB g w (((((w.setCell ⟨g,0,none⟩ a).setCell ⟨g,1,none⟩ b).setCell ⟨g,2,none⟩ c).setCell ⟨g,3,none⟩ d).setCell ⟨g,4,none⟩ e):=(((((KeptB.refl _ w).store _ _).store _ _).store _ _).store _ _).store _ _
theorem below5 {w0 w:World} {g B:Nat} {a b c d e:Value} (h:Below B w0 w) (hg:B≤g):Below B w0 (((((w.setCell ⟨g,0,none⟩ a).setCell ⟨g,1,none⟩ b).setCell ⟨g,2,none⟩ c).setCell ⟨g,3,none⟩ d).setCell ⟨g,4,none⟩ e):=((((h.setCell hg _).setCell hg _).setCell hg _).setCell hg _).setCell hg _
theorem rq_o1:rq [49]=((1:Int):Rat):=by
 have:=rq_int 1
 rwa [show decI 1=[49] by decide +kernel] at this
theorem rq_z0:rq [48]=((0:Int):Rat):=rq_zero
attribute [local go_sem] cell_set_off
set_option maxRecDepth 100000 in
theorem solve_res {w:World} {g:Nat} {a b c d f:Value} {e:Int} {tmps:Array Value} {t:TypeId} (hrow:w.heap[g]? = some (.cells #[a,b,c,d,f] t)) (h4:tmps.getD 2 undef=.pointer (some ⟨g,0,none⟩)) (h5:tmps.getD 3 undef=.int .i64 e) :
  (results Tryz.f10 tmps).run Tryz.prog w=.ok (.tuple #[.agg #[a,b,c,d,f],.int .i64 e]) w:=by
 rw [results_cell_tmp (p:=2) (u:=3) (ty:=31) rfl,h4,h5]
 have hl:=run_loadVar_row (P:=Tryz.prog) w g t 31 #[a,b,c,d,f] _ _ hrow Tryz.underlying31 rfl (by kernel_rfl)
 show ((loadVar 31 ⟨g,0,none⟩).run Tryz.prog w).andThen _=_
 rw [hl];rfl
set_option maxHeartbeats 8000000 in
set_option maxRecDepth 100000 in
theorem sxsolve_any {D d2:Nat} (cost:List Int) (rs:List RowV) (A:Option Addr) (ca:Nat) (R:Option Addr) (cr:Nat) (w:World) (hp:LinAt w cost rs A ca R cr) (hcl:checkK (linOf cost rs) rs.length=[]) (hw:∀ r ∈ rs,r.L.coef.length=cost.length)
  (hkd:∀ i,i<rs.length→(Num.rowAt (linOf cost rs) i).kind=1∨(Num.rowAt (linOf cost rs) i).kind=2∨(Num.rowAt (linOf cost rs) i).kind=3) (hsm:SmallL 3 d2 (linOf cost rs)) (hdd:3≤d2∧d2≤5) (hn:cost.length≤7) (hm:rs.length≤7) (hg1:gr (rs.length - 1) 3≤255) (hg:gr rs.length d2≤D) (hD2:255≤D) (hD:3*D+16≤4096) (he:Env w) :
  Calls Tryz.prog 10 #[linV A cost.length ca R rs.length cr] w fun e w'=>∃ (v:Value) (a:AnsL),e=.returned (.tuple #[v,.int .i64 0])∧AnsAt w' v a∧AnsR D (linOf cost rs) a∧Below w.heap.size w w':=by
 have HSX:SxR (linOf cost rs).cost.length (linOf cost rs).rows.length (colI (linOf cost rs)) (fun i=>sgI (Num.rowAt (linOf cost rs) i)) (fun i j=>(Num.rowAt (linOf cost rs) i).coef.getD j 0) (fun i=>(Num.rowAt (linOf cost rs) i).kind) (fun i=>(Num.rowAt (linOf cost rs) i).right) (slkI (linOf cost rs)) (R0 (linOf cost rs)):=sxR0 _ (fun i hi=>hkd i (by rw [← lin_rows cost rs];exact hi))
 have hpm:(linOf cost rs).rows.length=rs.length:=lin_rows cost rs
 have hcol:colI (linOf cost rs)≤14:=by
  have h1:=slN_len (linOf cost rs).rows
  unfold colI
  rw [hpm] at h1
  show cost.length+_≤14
  omega
 have hncol:cost.length≤colI (linOf cost rs):=by unfold colI;exact Nat.le_add_right _ _
 have b0:=new_below w (linO A cost.length ca R rs.length cr)
 have n2:=new_below (w.alloc (linO A cost.length ca R rs.length cr)) (.cells #[.int .i64 0,.slice none 0 0,.slice none 0 0,.slice none 0 0,.string (B [])] 31)
 have bB:=below_lift3 b0 n2
 have r2:=row_new (w:=w.alloc (linO A cost.length ca R rs.length cr)) (o:=.cells #[.int .i64 0,.slice none 0 0,.slice none 0 0,.slice none 0 0,.string (B [])] 31)
 rw [show (w.alloc (linO A cost.length ca R rs.length cr)).heap.size=w.heap.size+1 by simp] at r2
 obtain ⟨x0,x1,x2⟩:=lin_cells n2
 have HX:=Lib.hid (show ∀ w',Below ((w.alloc (linO A cost.length ca R rs.length cr)).alloc (.cells #[.int .i64 0,.slice none 0 0,.slice none 0 0,.slice none 0 0,.string (B [])] 31)).heap.size ((w.alloc (linO A cost.length ca R rs.length cr)).alloc (.cells #[.int .i64 0,.slice none 0 0,.slice none 0 0,.slice none 0 0,.string (B [])] 31)) w'→w'.cell? ⟨w.heap.size,0,none⟩=some (.slice A cost.length ca)∧w'.cell? ⟨w.heap.size,1,none⟩=some (.slice R rs.length cr) from fun w' h=>⟨(h.cell (p:=⟨w.heap.size,0,none⟩) x2).trans x0,(h.cell (p:=⟨w.heap.size,1,none⟩) x2).trans x1⟩)
 have HR2:=Lib.hid r2
 have HBB:=Lib.hid bB
 have HP:=Lib.hid hp
 have HE:=Lib.hid he
 have HG:=Lib.hid hg
 have HG1:=Lib.hid hg1
 have HD:=Lib.hid hD
 have HPM:=Lib.hid hpm
 have HW:=Lib.hid hw
 have HKD:=Lib.hid hkd
 have HCL:=Lib.hid hcl
 have HSM:=Lib.hid hsm
 have HSX:=Lib.hid HSX
 have HNC:=Lib.hid hncol
 clear hp hcl hw hkd hsm he hg hg1 hD hpm r2 bB n2 x0 x1 x2
 go_enter Tryz.func10,Tryz.ntmps10
 simp only [B_mk]
 go_upto_region 1 with fail
 generalize (w.alloc (linO A cost.length ca R rs.length cr)).alloc (.cells #[.int .i64 0,.slice none 0 0,.slice none 0 0,.slice none 0 0,.string (B [])] 31)=wB at *
 have y:=HX.out wB (Below.refl _ _)
 obtain ⟨y0,y1⟩:=y
 have hpB:=HP.out.below HBB.out
 have heB:=HE.out.below HBB.out
 have HCK:=Lib.hid (lcheck_any cost rs A ca R cr wB (by omega) hpB heB.1)
 go_wp2_with fail
 refine HCK.out.mono ?_
 rintro e w1 ⟨⟨v,rfl,hF⟩,hb1⟩
 rw [HCL.out] at hF
 obtain ⟨F,cf,rfl,_⟩:=hF
 obtain ⟨x0,x1⟩:=HX.out w1 hb1
 have he1:=heB.below hb1
 have hp1:=hpB.below hb1
 have HBU:=Lib.hid (sxbuild_any cost rs A ca R cr w1 hp1 HW.out ⟨fun r hr n hn=>Nat.le_trans (HSM.out.coef r hr n hn) (by omega),fun r hr=>Nat.le_trans (HSM.out.right r hr) (by omega),fun n hn=>Nat.le_trans (HSM.out.cost n hn) (by omega)⟩ (by omega) (by omega) he1)
 clear HCK y0 y1
 go_wp2_with fail
 refine HBU.out.mono ?_
 rintro e w2 ⟨H,M,bs,us,tv,rfl,hS,hB,hb2⟩
 have hml:=hB.ml
 have hcO:rs.length≤H.c:=by have:=hS.mat.outer.cap.1;rw [hml] at this;exact this
 have hB':BuP (linOf cost rs) (linOf cost rs).rows.length M bs us tv:=by rw [HPM.out];exact hB
 have hR3:∀ i,i<(linOf cost rs).rows.length→∀ j,dl (R0 (linOf cost rs) i j)≤3:=fun i hi j=>R0_small HSM.out (by omega) hi
 have hrows:=bu_rows (D1:=255) (d:=3) hB' HSX.out hR3 (by omega) (by omega)
 rw [HPM.out] at hrows hR3
 have HROWS:=Lib.hid hrows
 have HR3:=Lib.hid hR3
 have HB:=Lib.hid hB
 have hb02:=below_lift3 hb1 hb2
 have hp2:=hp1.below hb2
 have he2:=he1.below hb2
 obtain ⟨y0,y1⟩:=HX.out w2 hb02
 have HCO:=Lib.hid (sxcosts_any (m:=rs.length) (vars:=cost.length) (cols:=colI (linOf cost rs)) (kt:=H.kt) (c:=H.c) (A0:=H.A) cost rs A ca R cr [49] false w2 hS.lt (by rw [← hml];exact hS.cell 0) (hS.cell 5) (hS.cell 6) hcO hp2 rfl HNC.out (by omega) (by omega) he2)
 have HS:=Lib.hid hS
 have HB02:=Lib.hid hb02
 have hs12:=hb2.size
 have hsB1:=hb1.size
 clear HBU x0 x1 hS hB hB' hrows hR3 hcO hb2 hb02 hp2 he2 hml
 go_wp2_with fail
 refine HCO.out.mono ?_
 rintro e w3 ⟨X,cx,cs,rfl,hX3,hcs,hb3⟩
 have hb03:=below_lift3 HB02.out hb3
 have hcs2:=cs_costs (p:=linOf cost rs) (cost:=cost) (κ:=1) (own:=false) (by rw [HPM.out];exact hcs) (by decide +kernel) (.inr rfl) (fun n hn=>Nat.le_trans (HSM.out.cost n hn) (by omega))
 rw [HPM.out] at hcs2
 have hmm:(255+6)*rs.length≤(255+6)*7:=Nat.mul_le_mul_left _ hm
 have hS3:=HS.out.below hb3
 have HCG:=Lib.hid (sxcharge_any (m:=rs.length) (n:=colI (linOf cost rs)+rs.length) (vars:=cost.length) (cols:=colI (linOf cost rs)) (D1:=255) (T:=ratM (R0 (linOf cost rs))) (cst:=fun j=>((C0 (linOf cost rs) [] 1 j:Int):Rat)) rfl w1.heap.size wB w3 hb03 hsB1 (Nat.le_trans hs12 hb3.size) hS3 HB.out.ml HB.out.bl HB.out.ul HB.out.tl HROWS.out.2.1 HROWS.out.2.2.1 HROWS.out.2.2.2 hX3 hcs2 (by
  have h1:=(sxC0 (linOf cost rs) [] 1).rhs
  rw [HPM.out] at h1
  show ((C0 (linOf cost rs) [] 1 (colI (linOf cost rs)+rs.length):Int):Rat)=0
  rw [h1];rfl) (by omega) (by omega) (by omega) (by omega) heB)
 have hs3:=hb3.size
 clear HCO y0 y1 hX3 hcs hcs2 hS3 hb3 hb03
 go_wp2_with fail
 refine HCG.out.mono ?_
 rintro e w4 ⟨rfl,⟨P,cp,pr,hM4,hpr⟩,hb4,hs4⟩
 have hzR:∀ i,i<rs.length→R0 (linOf cost rs) i (colI (linOf cost rs)+rs.length+1)=0:=fun i hi=>by have:=HSX.out.top i (by rw [HPM.out];exact hi);rwa [HPM.out] at this
 have hc1R:C0 (linOf cost rs) [] 1 (colI (linOf cost rs)+rs.length+1)=1:=by have:=(sxC0 (linOf cost rs) [] 1).top;rwa [HPM.out] at this
 have hde:∀ s,s<rs.length+1→∀ c,dl (extR rs.length (R0 (linOf cost rs)) (C0 (linOf cost rs) [] 1) s c)≤d2:=fun s hs c=>by
  have:=ext_small (p:=linOf cost rs) (cost:=[]) (κ:=1) HSM.out (fun n h=>absurd h (by simp)) (.inr rfl) (by omega) hdd.1 s c (by rw [HPM.out];exact hs)
  rwa [HPM.out] at this
 obtain ⟨T1,hE1,hT1⟩:=charge_ent (D:=D) (D1:=255) (d:=d2) (m:=rs.length) (ci:=colI (linOf cost rs)) (cst:=C0 (linOf cost rs) [] 1) HROWS.out.1 hzR hc1R HB.out.ml HROWS.out.2.1 hD2 HROWS.out.2.2.1 HB.out.bl HROWS.out.2.2.2 hpr (by omega) (by omega) hde HG.out (by have:=HD.out;omega)
 have hF1:Feas rs.length (colI (linOf cost rs)+rs.length+2) (colI (linOf cost rs)) (colI (linOf cost rs)+rs.length) (colI (linOf cost rs)+rs.length+1) (extR rs.length (R0 (linOf cost rs)) (C0 (linOf cost rs) [] 1)) T1 (bOf bs rs.length (colI (linOf cost rs)+rs.length+1)):=⟨hE1.tab,bOf_top _ _ _,fun i hi=>by
  rw [hT1 i hi]
  show 0≤((R0 (linOf cost rs) i (colI (linOf cost rs)+rs.length):Int):Rat)
  have h1:=HSX.out.rhs i (by rw [HPM.out];exact hi)
  have h2:=HSX.out.pos i (by rw [HPM.out];exact hi)
  rw [HPM.out] at h1
  rw [h1]
  exact Rat.intCast_nonneg.2 h2⟩
 obtain ⟨H1,hH1,hM4⟩:∃ H1:SxH,H1.kt=H.kt∧SxM w4 w1.heap.size H1 rs.length (colI (linOf cost rs)+rs.length+1) cost.length (colI (linOf cost rs)) (M ++ [pr]) bs us tv:=⟨{ H with P:=P,cp:=cp },rfl,hM4⟩
 have HIM:=Lib.hid (sximprove_any (D:=D) (d:=d2) (J:=fun _ _=>True) (by omega) (fun s hs c _=>hde s hs c) HG.out (by have:=HD.out;omega) (fun _ _ _ _ _ _ _=>trivial) hE1 hF1 trivial w1.heap.size wB w4 hb4 hsB1 hM4 (by omega) (by omega) heB)
 rw [hH1] at HIM
 have HH1:=Lib.hid hH1
 clear HCG hpr hM4 hE1 hT1 hF1 hH1 hb4
 go_wp2_with fail
 refine HIM.out.mono ?_
 rintro e w5 ⟨f1,E1,bs1,T2,rfl,hM5,hEnd,hb5,hs5⟩
 have HSXm:=HSX.out
 rw [HPM.out] at HSXm
 have hC1:=sxC0 (linOf cost rs) [] 1
 rw [HPM.out] at hC1
 have hC1':SxC (linOf cost rs).cost.length rs.length (colI (linOf cost rs)) 1 (fun _=>0) (C0 (linOf cost rs) [] 1):=⟨fun j hj=>by rw [hC1.var j hj];simp,hC1.slack,hC1.unit,hC1.rhs,hC1.top⟩
 have hbb:∀ l,l<rs.length→bOf bs1 rs.length (colI (linOf cost rs)+rs.length+1) l<colI (linOf cost rs)+rs.length:=fun l hl=>by
  rw [bOf_lt hl,List.getD_eq_getElem?_getD,List.getElem?_eq_getElem (by rw [hEnd.ent.blen];exact hl)]
  exact hEnd.ent.blt _ (List.getElem_mem _)
 have hpr1:∀ j,j<colI (linOf cost rs)→0≤T2 rs.length j:=by
  rcases hEnd.fin with ⟨_,h⟩ | ⟨c,_,hc,hneg,hno⟩
  ·exact h
  ·have:=sx_bounded HSXm hC1' hEnd.ent.tab (bOf_top _ _ _) hbb hc hno
   grind
 have hsum:=sx_sum HSXm hC1' hEnd.ent.tab (bOf_top _ _ _) hbb hEnd.feas.pos
 have HSXM:=Lib.hid HSXm
 have HC1:=Lib.hid hC1
 have HBB1:=Lib.hid hbb
 have HPR1:=Lib.hid hpr1
 have HSUM:=Lib.hid hsum
 have HEND:=Lib.hid hEnd
 have HDm:∀ w8,Below wB.heap.size wB w8→w8.heap[w.heap.size+1]? = some (.cells #[.int .i64 0,.slice none 0 0,.slice none 0 0,.slice none 0 0,.string (B [])] 31):=fun w8 h=>(h.block _ (lt_of_heap HR2.out)).trans HR2.out
 have HRES:=Lib.hid HDm
 obtain ⟨gp,hgp,hgp2,hcp1,hcp2,hpc⟩:=hM5.priAt (by omega) (hEnd.ent.mat.row (by rw [hEnd.ent.len];omega)).1
 unfold maxLen at hcp2
 have c7:=hM5.cell 7
 have c1:=hM5.cell 1
 have cx:=hpc (colI (linOf cost rs)+rs.length) (by omega)
 have c1:w5.cell? ⟨H1.kt,1,none⟩=some (.slice (some ⟨gp,0,none⟩) (colI (linOf cost rs)+rs.length+1) H1.cp):=by rw [← hgp];exact c1
 rw [HH1.out] at c7 c1
 have hzz:=hEnd.ent.zero (i:=rs.length) (j:=colI (linOf cost rs)+rs.length) (by have:=HD.out;omega) (by omega) (by omega)
 have HZZ:=Lib.hid hzz
 have HM5:=Lib.hid hM5
 obtain ⟨rr,hrr⟩:∃ rr,colI (linOf cost rs)+rs.length=rr:=⟨_,rfl⟩
 rw [hrr] at c1 hcp1 cx
 have hrr2:rr≤100:=by omega
 have hwrap:=wrap_nat (n:=rr) (by omega)
 have HRR:=Lib.hid hrr
 have HTX:=Lib.hid (show cellM E1 rs.length rr=cellM E1 rs.length (colI (linOf cost rs)+rs.length) by rw [hrr])
 clear HIM hEnd hsum hpr1 hbb hC1 hC1' HSXm HDm hpc hM5 hzz hrr hgp
 generalize htt:cellM E1 rs.length rr=tt at *
 have HTT:=Lib.hid htt
 clear htt
 by_cases hz:tt=[48]
 ·have hz0:T2 rs.length (colI (linOf cost rs)+rs.length)=0:=HZZ.out.2 (by rw [← HTX.out];exact hz)
  have HCLN:=Lib.hid (show ClnP rs.length (colI (linOf cost rs)) T2 (bOf bs1 rs.length (colI (linOf cost rs)+rs.length+1)) 0 from ⟨HEND.out.feas.pos,HSUM.out.2 hz0,fun l hl=>absurd hl (Nat.not_lt_zero _)⟩)
  have hde:∀ s,s<rs.length+1→∀ c,c<colI (linOf cost rs)+rs.length+2→dl (extR rs.length (R0 (linOf cost rs)) (C0 (linOf cost rs) [] 1) s c)≤d2:=fun s hs c _=>by
   have:=ext_small (p:=linOf cost rs) (cost:=[]) (κ:=1) HSM.out (fun n h=>absurd h (by simp)) (.inr rfl) (by omega) hdd.1 s c (by rw [HPM.out];exact hs)
   rwa [HPM.out] at this
  have HDE:=Lib.hid hde
  rw [hz] at cx
  clear hz hz0 hde
  go_upto_region 9 with fail
  go_quiet (fail)
  go_wp2_with fail
  have hq:=below_drewN (Below.refl w5.heap.size w5) nq
  have hM6:=HM5.out.below hq
  have hb6:=below_lift3 hb5 hq
  have HCLE:=Lib.hid (sxclean_any (D:=D) (d:=d2) (by omega) HDE.out HG.out (by have:=HD.out;omega) HEND.out.ent HCLN.out w1.heap.size wB (w5.drewN nq) hb6 hsB1 hM6 (by omega) (by omega) heB)
  rw [HH1.out] at HCLE
  clear c1 c7 cx hM6 hb6 hq
  refine HCLE.out.mono ?_
  rintro e w7 ⟨rfl,⟨E2,bs2,T3,hM7,hE2,hC2⟩,hb7,hs7⟩
  have hE2p:SxE D (linOf cost rs).rows.length (colI (linOf cost rs)) (extR (linOf cost rs).rows.length (R0 (linOf cost rs)) (C0 (linOf cost rs) [] 1)) E2 bs2 T3:=by rw [HPM.out];exact hE2
  have hsm2:=fun i hi j hj=>row_small (D1:=255) (d:=3) hE2p HSX.out (sxC0 _ _ _) (by omega) (fun s hs c=>HR3.out s (by rw [← HPM.out];exact hs) c) (by rw [HPM.out];exact HG1.out) (by have:=HD.out;omega) (by omega) (i:=i) (j:=j) hi hj
  rw [HPM.out] at hsm2
  have htl2:(E2.take rs.length).length=rs.length:=by rw [List.length_take,hE2.len];omega
  have hct:∀ i,i<rs.length→∀ j,cellM (E2.take rs.length) i j=cellM E2 i j:=fun i hi j=>by unfold cellM;rw [take_getD hi]
  have hMat2:Mat 255 255 (colI (linOf cost rs)+rs.length+1) (E2.take rs.length):=fun r hr=>by
   obtain ⟨i,hi,rfl⟩:=List.getElem_of_mem hr
   rw [htl2] at hi
   have hg:(E2.take rs.length)[i]'(by omega)=E2.getD i []:=by
    rw [← take_getD hi,List.getD_eq_getElem?_getD,List.getElem?_eq_getElem (by omega)];rfl
   have hw2:=hE2.mat.row (i:=i) (by rw [hE2.len];omega)
   rw [hg]
   refine ⟨hw2.1,fun a ha=>?_⟩
   obtain ⟨j,hj,e⟩:=mem_getD ha
   rw [e]
   exact hsm2 i hi j (by rw [← hw2.1];exact hj)
  have hv2:∀ i,i<rs.length→∀ j,j<colI (linOf cost rs)+rs.length+1→T3 i j=rq (cellM (E2.take rs.length) i j):=fun i hi j hj=>by rw [hct i hi];exact hE2.val i (by omega) j hj
  have hTb2:=ent_cut hE2 (fun i hi=>by have:=HSX.out.top i (by rw [HPM.out];exact hi);rwa [HPM.out] at this) (by have:=(sxC0 (linOf cost rs) [] 1).top;rwa [HPM.out] at this)
  have hbl2:=hE2.blen
  have hbx2:=hE2.blt
  have HV2:=Lib.hid hv2
  have HMAT2:=Lib.hid hMat2
  have HTB2:=Lib.hid hTb2
  have HBL2:=Lib.hid hbl2
  have HBX2:=Lib.hid hbx2
  have HC2:=Lib.hid hC2
  have hS7:=hM7.toB
  have HM7:=Lib.hid hM7
  have hcA7:=hS7.mat.outer.cap.1
  rw [htl2] at hcA7
  obtain ⟨y0,y1⟩:=HX.out w7 hb7
  have HCO2:=Lib.hid (sxcosts_any (m:=rs.length) (vars:=cost.length) (cols:=colI (linOf cost rs)) (kt:=H1.kt) (c:=H1.c) (A0:=H1.A) cost rs A ca R cr [48] true w7 hM7.lt (hM7.cell 0) (hM7.cell 5) (hM7.cell 6) hcA7 (hpB.below hb7) rfl HNC.out (by omega) (by omega) (heB.below hb7))
  rw [HH1.out] at HCO2
  have HS7:=Lib.hid hS7
  have HTL2:=Lib.hid htl2
  clear HCLE hM7 hS7 hE2 hE2p hC2 hsm2 hct hMat2 hv2 hTb2 hbl2 hbx2 hcA7 htl2
  go_wp2_with fail
  refine HCO2.out.mono ?_
  rintro e w8 ⟨X2,cx2,cs2,rfl,hX8,hcs8,hb8⟩
  have hb08:=below_lift3 hb7 hb8
  have hcs9:=cs_costs (p:=linOf cost rs) (cost:=cost) (κ:=0) (own:=true) (by rw [HPM.out];exact hcs8) (by decide +kernel) (.inl rfl) (fun n hn=>Nat.le_trans (HSM.out.cost n hn) (by omega))
  rw [HPM.out] at hcs9
  have HCG2:=Lib.hid (sxcharge_any (m:=rs.length) (n:=colI (linOf cost rs)+rs.length) (vars:=cost.length) (cols:=colI (linOf cost rs)) (D1:=255) (T:=T3) (cst:=fun j=>((C0 (linOf cost rs) cost 0 j:Int):Rat)) rfl w1.heap.size wB w8 hb08 hsB1 (Nat.le_trans (Nat.le_trans hs12 (Nat.le_trans hs3 (Nat.le_trans hs4 (Nat.le_trans hs5 hs7)))) hb8.size) (HS7.out.below hb8) HTL2.out HBL2.out HB.out.ul HB.out.tl HMAT2.out HV2.out HBX2.out hX8 hcs9 (by
   have h1:=(sxC0 (linOf cost rs) cost 0).rhs
   rw [HPM.out] at h1
   show ((C0 (linOf cost rs) cost 0 (colI (linOf cost rs)+rs.length):Int):Rat)=0
   rw [h1];rfl) (by omega) (by omega) (by omega) (by omega) heB)
  rw [HH1.out] at HCG2
  clear HCO2 y0 y1 hX8 hcs8 hcs9 hb8 hb08
  go_wp2_with fail
  refine HCG2.out.mono ?_
  rintro e w9 ⟨rfl,⟨P2,cp2,pr2,hM9,hpr2⟩,hb9,hs9⟩
  have hde2:∀ s,s<rs.length+1→∀ c,dl (extR rs.length (R0 (linOf cost rs)) (C0 (linOf cost rs) cost 0) s c)≤d2:=fun s hs c=>by
   have:=ext_small (p:=linOf cost rs) (cost:=cost) (κ:=0) HSM.out HSM.out.cost (.inl rfl) (by omega) hdd.1 s c (by rw [HPM.out];exact hs)
   rwa [HPM.out] at this
  obtain ⟨T4,hE4,hT4⟩:=charge_ent (D:=D) (D1:=255) (d:=d2) (m:=rs.length) (ci:=colI (linOf cost rs)) (cst:=C0 (linOf cost rs) cost 0) HTB2.out (fun i hi=>by have:=HSX.out.top i (by rw [HPM.out];exact hi);rwa [HPM.out] at this) (by have:=(sxC0 (linOf cost rs) cost 0).top;rwa [HPM.out] at this) HTL2.out HMAT2.out hD2 HV2.out HBL2.out HBX2.out hpr2 (by omega) (by omega) hde2 HG.out (by have:=HD.out;omega)
  have hF4:Feas rs.length (colI (linOf cost rs)+rs.length+2) (colI (linOf cost rs)) (colI (linOf cost rs)+rs.length) (colI (linOf cost rs)+rs.length+1) (extR rs.length (R0 (linOf cost rs)) (C0 (linOf cost rs) cost 0)) T4 (bOf bs2 rs.length (colI (linOf cost rs)+rs.length+1)):=⟨hE4.tab,bOf_top _ _ _,fun i hi=>by rw [hT4 i hi];exact HC2.out.pos i hi⟩
  have hI4:Idle rs.length (colI (linOf cost rs)) T4 (bOf bs2 rs.length (colI (linOf cost rs)+rs.length+1)):=fun l hl hc=>⟨by rw [hT4 l hl];exact HC2.out.zer l hl hc,fun j hj=>by rw [hT4 l hl];exact HC2.out.done l hl hc j hj⟩
  obtain ⟨H2,hH2,hM9⟩:∃ H2:SxH,H2.kt=H.kt∧SxM w9 w1.heap.size H2 rs.length (colI (linOf cost rs)+rs.length+1) cost.length (colI (linOf cost rs)) (E2.take rs.length ++ [pr2]) bs2 us tv:=⟨{ H1 with kt:=H.kt,P:=P2,cp:=cp2 },rfl,hM9⟩
  have HIM2:=Lib.hid (sximprove_any (D:=D) (d:=d2) (J:=Idle rs.length (colI (linOf cost rs))) (by omega) (fun s hs c _=>hde2 s hs c) HG.out (by have:=HD.out;omega) (fun _ _ _ _ h1 h2 h3=>idle_next h1 h2 h3) hE4 hF4 hI4 w1.heap.size wB w9 hb9 hsB1 hM9 (by omega) (by omega) heB)
  rw [hH2] at HIM2
  have HH2:=Lib.hid hH2
  clear HCG2 hpr2 hM9 hE4 hT4 hF4 hI4 hH2 hb9 hde2
  go_wp2_with fail
  refine HIM2.out.mono ?_
  rintro e w10 ⟨f2,E5,bs5,T5,rfl,hM10,hEnd5,hb10,hs10⟩
  have c7:=hM10.cell 7
  rw [HH2.out] at c7
  have HEND5:=Lib.hid hEnd5
  have HM10:=Lib.hid hM10
  have HVA:=Lib.hid (sxvalues_any hEnd5.ent w1.heap.size w10 hM10 (by omega) (by omega) (by omega) (heB.below hb10))
  rw [HH2.out] at HVA
  clear HIM2 hEnd5 hM10
  go_wp2_with fail
  refine HVA.out.mono ?_
  rintro e w11 ⟨X3,cx3,xs,rfl,hX11,hxs,hb11⟩
  have hb011:=below_lift3 hb10 hb11
  have HM11:=Lib.hid (HM10.out.below hb11)
  have hE5p:SxE D (linOf cost rs).rows.length (colI (linOf cost rs)) (extR (linOf cost rs).rows.length (R0 (linOf cost rs)) (C0 (linOf cost rs) cost 0)) E5 bs5 T5:=by rw [HPM.out];exact HEND5.out.ent
  have hsm5:=fun i hi j hj=>row_small (D1:=255) (d:=3) hE5p HSX.out (sxC0 _ _ _) (by omega) (fun s hs c=>HR3.out s (by rw [← HPM.out];exact hs) c) (by rw [HPM.out];exact HG1.out) (by have:=HD.out;omega) (by omega) (i:=i) (j:=j) hi hj
  have hprim:=ans_prim (D1:=255) (xs:=xs) hE5p HSX.out (sxC0 _ _ _) hsm5 (by omega) (by rw [HPM.out];exact HEND5.out.feas.pos) (by rw [HPM.out];exact fun l hl h=>(HEND5.out.inv l hl h).1) (by rw [HPM.out];exact hxs)
  have hlenx:=fr_lens hprim.1.fr (by omega)
  have HPRIM:=Lib.hid hprim
  have HLX:=Lib.hid hlenx
  have HE5P:=Lib.hid hE5p
  have HSM5:=Lib.hid hsm5
  have HX11:=Lib.hid hX11
  have HXL:=Lib.hid (show xs.length=cost.length from hxs.1)
  obtain ⟨y0,y1⟩:=HX.out w11 hb011
  clear HVA hxs hprim hlenx hE5p hsm5 hX11
  rcases HEND5.out.fin with ⟨rfl,hpr⟩ | ⟨c,rfl,hc,hneg,hno⟩
  ·have HPR:=Lib.hid hpr
   have htm:=times_ok (K:=255) (ns:=cost) (xs:=xs) HXL.out.symm HP.out.fit HPRIM.out.1.fr (by omega) (by have:cost.length*(21+255)≤7*(21+255):=Nat.mul_le_mul_right _ hn;omega)
   have HVL:=Lib.hid (lval_any cost rs A ca R cr xs X3 cx3 w11 (hpB.below hb011) (ratsAt_own HX11.out HXL.out HLX.out) (heB.below hb011))
   rw [htm.1,HXL.out] at HVL
   have HTV:=Lib.hid (show timesQ cost xs=((timesQ cost xs).1,0) from Prod.ext rfl htm.1)
   clear hpr htm
   generalize hval:(timesQ cost xs).1=val at *
   clear hval
   go_wp2_with fail
   refine HVL.out.mono ?_
   rintro e w12 ⟨rfl,hb12⟩
   have hM12:=HM11.out.below hb12
   have her12:=hM12.err
   rw [HH2.out] at her12
   have HNT:=Lib.hid (sxnote_any H.kt w12 her12)
   have hb012:=below_lift3 hb011 hb12
   have HDU:=Lib.hid (sxduals_any [48] (.inl rfl) HEND5.out.ent (by have:=HD.out;omega) w1.heap.size w12 hM12 HB.out.ul (fun i hi=>HB.out.ue i hi) HB.out.tl (by omega) (by omega) (heB.below hb012))
   rw [HH2.out] at HDU
   have HER12:=Lib.hid her12
   clear HVL y0 y1 hM12 her12
   go_wp2_with fail
   refine HNT.out.mono ?_
   rintro e w13 ⟨rfl,hw13⟩
   obtain rfl:=hw13.symm
   go_wp2_with fail
   refine HDU.out.mono ?_
   rintro e w14 ⟨Y,cy,ys,rfl,hY,hDu,hb14⟩
   have HDN:=Lib.hid (sxdone_any H.kt 1 X3 Y none cost.length cx3 rs.length cy 0 0 val w14 (HER12.out.below hb14))
   go_wp2_with fail
   refine HDN.out.mono ?_
   rintro e w8 ⟨rfl,hb8⟩
   have hb88:=below_lift3 (below_lift3 hb012 hb14) hb8
   have hres:=HRES.out w8 hb88
   obtain ⟨⟨q0,q1,q2,q3,q4⟩,z0,z1,z2,z3,z4⟩:=row_cells5 hres
   have hX8:=((HX11.out.below hb12).below hb14).below hb8
   have hY8:=hY.below hb8
   go_wp2_with fail
   have hDA:=ans_dual (p:=linOf cost rs) (cost:=cost) (κ:=0) (tv:=tv) (ys:=ys) HE5P.out HSX.out (sxC0 _ _ _) (by rw [HPM.out];exact HPR.out) (by rw [HPM.out];exact HB.out.te) (by rw [HPM.out,← rq_z0];exact hDu)
   have hlen:=fr_lens hDA.1.fr (by have:=HD.out;omega)
   have hbF:=HBB.out.trans (hb88.mono HBB.out.size)
   (try simp only [Exit.inBlock,Exit.then])
   refine bodyPost_ret (solve_res (row_set5 hres) rfl rfl) rfl ?_
   refine ⟨_,⟨1,xs,ys,[],val⟩,rfl,⟨X3,Y,none,cx3,cy,0,?_,ratsAt_own (hX8.kept kept5 (hX8.not hres (by decide))) HXL.out HLX.out,ratsAt_own (hY8.kept kept5 (hY8.not hres (by decide))) hDu.1 hlen,ratsAt_nil _⟩,?_,?_⟩
   ·show _=ansV 1 (.slice X3 xs.length cx3) (.slice Y ys.length cy) (.slice none 0 0) val
    rw [hDu.1,HXL.out]
   ·refine .inl ⟨rfl,rfl,HPRIM.out.1,hDA.1,HTV.out,?_⟩
    rw [hDA.2]
    exact HPRIM.out.2.symm
   ·exact below5 hbF (Nat.le_succ _)
  ·have HRY:=Lib.hid (sxray_any HEND5.out.ent (by have:=HD.out;omega) hc w1.heap.size w11 HM11.out (by omega) (by omega) (by omega) (heB.below hb011))
   rw [HH2.out] at HRY
   have her11:=HM11.out.err
   rw [HH2.out] at her11
   have HER11:=Lib.hid her11
   have HNEG:=Lib.hid hneg
   have HNO:=Lib.hid hno
   have hc0:(0:Int)≤(c:Int):=by omega
   clear hneg hno her11
   go_wp2_with fail
   refine HRY.out.mono ?_
   rintro e w14 ⟨Y,cy,ys,rfl,hY,hRy,hb14⟩
   have HDN:=Lib.hid (sxdone_any H.kt 3 X3 none Y cost.length cx3 0 0 cost.length cy [] w14 (HER11.out.below hb14))
   go_wp2_with fail
   refine HDN.out.mono ?_
   rintro e w8 ⟨rfl,hb8⟩
   have hb88:=below_lift3 (below_lift3 hb011 hb14) hb8
   have hres:=HRES.out w8 hb88
   obtain ⟨⟨q0,q1,q2,q3,q4⟩,z0,z1,z2,z3,z4⟩:=row_cells5 hres
   have hX8:=(HX11.out.below hb14).below hb8
   have hY8:=hY.below hb8
   clear y0 y1
   go_wp2_with fail
   have hRA:=ans_ray (D1:=255) (κ:=0) (p:=linOf cost rs) (xs:=ys) HE5P.out HSX.out (sxC0 _ _ _) HSM5.out (by omega) hc (by rw [HPM.out];exact HNEG.out) (by rw [HPM.out];exact HNO.out) (by rw [HPM.out];exact fun l hl h=>(HEND5.out.inv l hl h).2 c hc) (by rw [HPM.out];exact hRy)
   have hlen:=fr_lens hRA.fr (by omega)
   have hbF:=HBB.out.trans (hb88.mono HBB.out.size)
   (try simp only [Exit.inBlock,Exit.then])
   refine bodyPost_ret (solve_res (row_set5 hres) rfl rfl) rfl ?_
   refine ⟨_,⟨3,xs,[],ys,[]⟩,rfl,⟨X3,none,Y,cx3,0,cy,?_,ratsAt_own (hX8.kept kept5 (hX8.not hres (by decide))) HXL.out HLX.out,ratsAt_nil _,ratsAt_own (hY8.kept kept5 (hY8.not hres (by decide))) hRy.1 hlen⟩,?_,?_⟩
   ·show _=ansV 3 (.slice X3 xs.length cx3) (.slice none 0 0) (.slice Y ys.length cy) []
    rw [hRA.len,HXL.out];rfl
   ·exact .inr (.inr ⟨rfl,rfl,rfl,HPRIM.out.1,hRA⟩)
   ·exact below5 hbF (Nat.le_succ _)
 ·have hz':(tt != [48])=true:=by simpa using hz
  have hzb:(tt == [48])=false:=by simpa using hz
  have HNZ:=Lib.hid (show T2 rs.length (colI (linOf cost rs)+rs.length)≠0 from fun h=>hz (by rw [HTX.out];exact HZZ.out.1 h))
  clear hz
  go_upto_region 9 with fail
  go_quiet (fail)
  go_wp2_with fail
  have hq:=below_drewN (Below.refl w5.heap.size w5) nq
  have hM6:=HM5.out.below hq
  have hb6:=below_lift3 hb5 hq
  have HDU:=Lib.hid (sxduals_any [49] (.inr rfl) HEND.out.ent (by have:=HD.out;omega) w1.heap.size (w5.drewN nq) hM6 HB.out.ul (fun i hi=>HB.out.ue i hi) HB.out.tl (by omega) (by omega) (heB.below hb6))
  rw [HH1.out] at HDU
  have herr6:=hM6.err
  rw [HH1.out] at herr6
  have HER6:=Lib.hid herr6
  clear c1 c7 cx hM6 herr6
  refine HDU.out.mono ?_
  rintro e w7 ⟨Y,cy,ys,rfl,hY,hDu,hb7⟩
  have HDN:=Lib.hid (sxdone_any H.kt 2 none Y none 0 0 rs.length cy 0 0 [] w7 (HER6.out.below hb7))
  go_wp2_with fail
  refine HDN.out.mono ?_
  rintro e w8 ⟨rfl,hb8⟩
  have hb78:=below_lift3 hb6 hb7
  have hb88:=below_lift3 hb78 hb8
  have hres:=HRES.out w8 hb88
  obtain ⟨⟨q0,q1,q2,q3,q4⟩,z0,z1,z2,z3,z4⟩:=row_cells5 hres
  go_wp2_with fail
  have hDA:=ans_dual (p:=linOf cost rs) (cost:=[]) (κ:=1) (tv:=tv) (ys:=ys) (by rw [HPM.out];exact HEND.out.ent) HSX.out (sxC0 _ _ _) (by rw [HPM.out];exact HPR1.out) (by rw [HPM.out];exact HB.out.te) (by rw [HPM.out,← rq_o1];exact hDu)
  rw [HPM.out] at hDA
  have hY8:=hY.below hb8
  have hlen:=fr_lens hDA.1.fr (by have:=HD.out;omega)
  have hbF:=HBB.out.trans (hb88.mono HBB.out.size)
  (try simp only [Exit.inBlock,Exit.then])
  refine bodyPost_ret (solve_res (row_set5 hres) rfl rfl) rfl ?_
  refine ⟨_,⟨2,[],ys,[],[]⟩,rfl,⟨none,Y,none,0,cy,0,?_,ratsAt_nil _,ratsAt_own (hY8.kept kept5 (hY8.not hres (by decide))) hDu.1 hlen,ratsAt_nil _⟩,?_,?_⟩
  ·show _=ansV 2 (.slice none 0 0) (.slice Y ys.length cy) (.slice none 0 0) []
   rw [hDu.1]
  ·refine .inr (.inl ⟨rfl,rfl,rfl,rfl,hDA.1,?_⟩)
   rw [hDA.2]
   have h1:=HSUM.out.1
   have h2:=HNZ.out
   generalize T2 rs.length (colI (linOf cost rs)+rs.length)=tq at *
   grind
  ·exact below5 hbF (Nat.le_succ _)
end Go.Proofs.YtmppmdmekomjbaaGreatDoor
namespace Go.Proofs.YtmppmdmekomjbaaGreatDoor
open Go.RowKit Num
set_option linter.unusedVariables false
attribute [local go_sem] B_size B_get B_toList B_mk B_extract B_append
set_option maxHeartbeats 4000000 in
set_option maxRecDepth 100000 in
theorem sxright_any (xs:List Str) (X:Option Addr) (cx:Nat) (w:World) (hx:RatsAt w xs X cx) (he:Env w) :
  Calls Tryz.prog 47 #[.slice X xs.length cx] w fun e w'=>e=.returned (.bool (xs.all rightQ))∧Below w.heap.size w w':=by
 have hlx:=hx.lx
 unfold maxLen at hlx
 have HX:=Lib.hid hx
 clear hx
 go_enter Tryz.func47,Tryz.ntmps47
 go_wp2_with fail
 go_loopw [4,7] (fun _ i wr=>∃ k:Nat,k≤xs.length∧i=.int .i64 k∧(xs.take k).all rightQ=true∧Below w.heap.size w wr) (fun _ i _=>xs.length - (intOf i).toNat)
 case atStart=>exact ⟨0,Nat.zero_le _,rfl,rfl,Below.refl _ _⟩
 case round =>
  obtain ⟨k,hk,rfl,hall,hb⟩:=hrel
  have HALL:=Lib.hid hall
  clear hall
  by_cases hlt:k<xs.length
  ·obtain ⟨b,off,rfl,hbl,hc⟩:=HX.out.cells (by unfold strs;rw [List.length_map];omega)
   have dc:=(hb.cell (p:=⟨b,off+k,none⟩) hbl).trans (hc k (.string (B xs[k])) (by unfold strs;rw [List.getElem?_map,List.getElem?_eq_getElem hlt];rfl))
   have hl:=HX.out.len xs[k] (List.getElem_mem hlt)
   have HR:=Lib.hid (rq_any xs[k] wr (by omega) (he.below hb))
   have HN:=Lib.hid (show rightQ xs[k]=true→(xs.take (k+1)).all rightQ=true from fun h=>all_take hlt HALL.out h)
   have HF:=Lib.hid (show rightQ xs[k]=false→xs.all rightQ=false from fun h=>all_bad hlt h)
   clear hc hl
   generalize xs[k]=s at *
   cases hq:rightQ s
   ·have HF2:=Lib.hid (HF.out hq)
    rw [hq] at HR
    clear hq
    go_wp2_with fail
    refine HR.out.mono ?_
    rintro e w1 ⟨rfl,hb1⟩
    go_wp2_with fail
    go_ret
    exact ⟨by rw [HF2.out];rfl,below_lift3 hb hb1⟩
   ·have HN2:=Lib.hid (HN.out hq)
    rw [hq] at HR
    clear hq
    go_wp2_with fail
    refine HR.out.mono ?_
    rintro e w1 ⟨rfl,hb1⟩
    go_wp2_with fail
    go_roundw
    case rel=>exact ⟨k+1,by omega,by go_num,HN2.out,below_lift3 hb hb1⟩
    case measure=>simp [intOf];omega
  ·have hkx:k=xs.length:=by omega
   have HA:=Lib.hid (show xs.all rightQ=true by have:=HALL.out;rwa [hkx,List.take_length] at this)
   have hkn:¬ (k:Int)<(xs.length:Int):=by omega
   clear hkx
   go_wp2_with fail
   go_ret
   exact ⟨by rw [HA.out];rfl,hb⟩
abbrev ansP (a:AnsL) (X Y Z:Option Addr) (cx cy cz:Nat):Value:=ansV a.kind (.slice X a.X.length cx) (.slice Y a.dual.length cy) (.slice Z a.ray.length cz) a.value
theorem two_box {w:World} (A:Option Addr) (n ca:Nat) (R:Option Addr) (m cr:Nat) (k:Int) (u v x:Value) (s:Str) :
  ∀ w',Below ((w.alloc (linO A n ca R m cr)).alloc (.cells #[.int .i64 k,u,v,x,.string (B s)] 31)).heap.size ((w.alloc (linO A n ca R m cr)).alloc (.cells #[.int .i64 k,u,v,x,.string (B s)] 31)) w' →
   (w'.cell? ⟨w.heap.size,0,none⟩=some (.slice A n ca)∧w'.cell? ⟨w.heap.size,1,none⟩=some (.slice R m cr)) ∧
   w'.cell? ⟨w.heap.size+1,0,none⟩=some (.int .i64 k)∧w'.cell? ⟨w.heap.size+1,1,none⟩=some u∧w'.cell? ⟨w.heap.size+1,2,none⟩=some v∧w'.cell? ⟨w.heap.size+1,3,none⟩=some x∧w'.cell? ⟨w.heap.size+1,4,none⟩=some (.string (B s)):=by
 intro w' h
 have n2:=new_below (w.alloc (linO A n ca R m cr)) (.cells #[.int .i64 k,u,v,x,.string (B s)] 31)
 obtain ⟨x0,x1,x2⟩:=lin_cells n2
 have r2:=row_new (w:=w.alloc (linO A n ca R m cr)) (o:=.cells #[.int .i64 k,u,v,x,.string (B s)] 31)
 rw [show (w.alloc (linO A n ca R m cr)).heap.size=w.heap.size+1 by simp] at r2
 have r3:=row_on r2 h
 obtain ⟨⟨a0,a1,a2,a3,a4⟩,_⟩:=row_cells5 r3
 exact ⟨⟨(h.cell (p:=⟨w.heap.size,0,none⟩) x2).trans x0,(h.cell (p:=⟨w.heap.size,1,none⟩) x2).trans x1⟩,a0,a1,a2,a3,a4⟩
set_option maxHeartbeats 4000000 in
set_option maxRecDepth 100000 in
theorem sxproved_any (cost:List Int) (rs:List RowV) (A:Option Addr) (ca:Nat) (R:Option Addr) (cr:Nat) (a:AnsL) (X Y Z:Option Addr) (cx cy cz:Nat) (w:World) (hm:rs.length≤1000000) (hwf:∀ r ∈ rs,r.L.coef.length=cost.length) (hp:LinAt w cost rs A ca R cr) (hX:RatsAt w a.X X cx) (hY:RatsAt w a.dual Y cy) (he:Env w) :
  Calls Tryz.prog 50 #[linV A cost.length ca R rs.length cr,ansP a X Y Z cx cy cz] w fun e w'=>e=.returned (.bool (provedB (linOf cost rs) a))∧Below w.heap.size w w':=by
 obtain ⟨ak,aX,aD,aR,aV⟩:=a
 have b1:=new_below w (linO A cost.length ca R rs.length cr)
 have b2:=new_below (w.alloc (linO A cost.length ca R rs.length cr)) (.cells #[.int .i64 ak,.slice X aX.length cx,.slice Y aD.length cy,.slice Z aR.length cz,.string (B aV)] 31)
 have b12:=below_lift3 b1 b2
 have HT:=Lib.hid (two_box (w:=w) A cost.length ca R rs.length cr ak (.slice X aX.length cx) (.slice Y aD.length cy) (.slice Z aR.length cz) aV)
 have HP:=Lib.hid (fun w' (h:Below w.heap.size w w')=>lproves_any cost rs A ca R cr aD Y cy w' hm hwf (hp.below h) (hY.below h) (he.below h))
 have HV:=Lib.hid (fun w' (h:Below w.heap.size w w')=>lval_any cost rs A ca R cr aX X cx w' (hp.below h) (hX.below h) (he.below h))
 have HD:=Lib.hid (show provedB (linOf cost rs) ⟨ak,aX,aD,aR,aV⟩=(provesB (linOf cost rs) aD && decide (provesS (linOf cost rs) aD=aV) && decide ((timesQ cost aX).2=0) && decide ((timesQ cost aX).1=aV)) from rfl)
 have HB12:=Lib.hid b12
 clear hp hX hY b1 b2 b12
 generalize provedB (linOf cost rs) ⟨ak,aX,aD,aR,aV⟩=res at *
 go_enter Tryz.func50,Tryz.ntmps50
 go_upto_region 1 with fail
 generalize (w.alloc (linO A cost.length ca R rs.length cr)).alloc (.cells #[.int .i64 ak,.slice X aX.length cx,.slice Y aD.length cy,.slice Z aR.length cz,.string (B aV)] 31)=w2 at *
 obtain ⟨⟨x0,x1⟩,y0,y1,y2,y3,y4⟩:=HT.out w2 (Below.refl _ _)
 have HPX:=Lib.hid (HP.out w2 HB12.out)
 go_wp2_with fail
 refine HPX.out.mono ?_
 rintro e w3 ⟨rfl,hb3⟩
 obtain ⟨⟨u0,u1⟩,v0,v1,v2,v3,v4⟩:=HT.out w3 hb3
 have hb03:=below_lift3 HB12.out hb3
 clear x0 x1 y0 y1 y2 y3 y4 HPX
 generalize provesS (linOf cost rs) aD=ps at *
 cases hpb:provesB (linOf cost rs) aD
 ·have HR:=Lib.hid (show res=false by rw [HD.out,hpb];rfl)
  clear hpb
  go_wp2_with fail
  go_ret
  exact ⟨ret_bool HR.out.symm,hb03⟩
 ·have HPB:=Lib.hid hpb
  clear hpb
  by_cases hps:ps=aV
  ·subst hps
   have HVX:=Lib.hid (HV.out w3 hb03)
   generalize htq:timesQ cost aX=tq at *
   obtain ⟨t1,t2⟩:=tq
   have HR:=Lib.hid (show res=(decide (t2=0) && decide (t1=ps)) by rw [HD.out,HPB.out];simp)
   clear htq
   go_wp2_with fail
   refine HVX.out.mono ?_
   rintro e w4 ⟨rfl,hb4⟩
   obtain ⟨⟨u0',u1'⟩,v0',v1',v2',v3',v4'⟩:=HT.out w4 (below_lift3 hb3 hb4)
   have hb04:=below_lift3 hb03 hb4
   clear u0 u1 v0 v1 v2 v3 v4
   by_cases h2:t2=0
   ·subst h2
    by_cases h1:t1=ps
    ·subst h1
     have HR2:=Lib.hid (show res=true by rw [HR.out];simp)
     go_wp2_with fail
     go_ret
     exact ⟨ret_bool HR2.out.symm,hb04⟩
    ·have h1':(t1 == ps)=false:=by simpa using h1
     have HR2:=Lib.hid (show res=false by rw [HR.out];simp [h1])
     clear h1
     go_wp2_with fail
     go_ret
     exact ⟨ret_bool HR2.out.symm,hb04⟩
   ·have h2':(t2 == 0)=false:=by simpa using h2
    have HR2:=Lib.hid (show res=false by rw [HR.out];simp [h2])
    clear h2
    go_wp2_with fail
    go_ret
    exact ⟨ret_bool HR2.out.symm,hb04⟩
  ·have hps':(ps != aV)=true:=by simpa using hps
   have hps2:(ps == aV)=false:=by simpa using hps
   have HR:=Lib.hid (show res=false by rw [HD.out];simp [hps])
   clear hps
   go_wp2_with fail
   go_ret
   exact ⟨ret_bool HR.out.symm,hb03⟩
def sizesB (n m:Nat) (a:AnsL):Bool :=
 if (a.kind == 1)=true then ((a.X.length:Int) == (n:Int)) && ((a.dual.length:Int) == (m:Int)) && ((a.ray.length:Int) == 0)
 else if (a.kind == 2)=true then ((a.X.length:Int) == 0) && ((a.dual.length:Int) == (m:Int)) && ((a.ray.length:Int) == 0) && (a.value == [])
 else ((a.X.length:Int) == (n:Int)) && ((a.dual.length:Int) == 0) && ((a.ray.length:Int) == (n:Int)) && (a.value == [])
set_option maxHeartbeats 8000000 in
set_option maxRecDepth 100000 in
theorem sxsizes_any (n m:Nat) (A:Option Addr) (ca:Nat) (R:Option Addr) (cr:Nat) (a:AnsL) (X Y Z:Option Addr) (cx cy cz:Nat) (w:World) :
  Calls Tryz.prog 46 #[linV A n ca R m cr,ansP a X Y Z cx cy cz] w fun e w'=>e=.returned (.bool (sizesB n m a))∧Below w.heap.size w w':=by
 obtain ⟨ak,aX,aD,aR,aV⟩:=a
 have b1:=new_below w (linO A n ca R m cr)
 have b2:=new_below (w.alloc (linO A n ca R m cr)) (.cells #[.int .i64 ak,.slice X aX.length cx,.slice Y aD.length cy,.slice Z aR.length cz,.string (B aV)] 31)
 have b12:=below_lift3 b1 b2
 have HT:=Lib.hid (two_box (w:=w) A n ca R m cr ak (.slice X aX.length cx) (.slice Y aD.length cy) (.slice Z aR.length cz) aV)
 have HD:=Lib.hid (show sizesB n m ⟨ak,aX,aD,aR,aV⟩=(if (ak == 1)=true then ((aX.length:Int) == (n:Int)) && ((aD.length:Int) == (m:Int)) && ((aR.length:Int) == 0)
  else if (ak == 2)=true then ((aX.length:Int) == 0) && ((aD.length:Int) == (m:Int)) && ((aR.length:Int) == 0) && (aV == [])
  else ((aX.length:Int) == (n:Int)) && ((aD.length:Int) == 0) && ((aR.length:Int) == (n:Int)) && (aV == [])) from rfl)
 have HB12:=Lib.hid b12
 clear b1 b2 b12
 generalize sizesB n m ⟨ak,aX,aD,aR,aV⟩=res at *
 change Calls Tryz.prog 46 #[linV A n ca R m cr,ansV ak (.slice X aX.length cx) (.slice Y aD.length cy) (.slice Z aR.length cz) aV] w _
 generalize aX.length=lx at *
 generalize aD.length=ld at *
 generalize aR.length=lr at *
 cases k1:(ak == 1)
 ·cases k2:(ak == 2)
  ·have HR:=Lib.hid (show res=(((lx:Int) == (n:Int)) && ((ld:Int) == 0) && ((lr:Int) == (n:Int)) && (aV == [])) by rw [HD.out,if_neg (by rw [k1];decide),if_neg (by rw [k2];decide)])
   cases hX:((lx:Int) == (n:Int)) <;> cases hD:((ld:Int) == 0) <;> cases hR:((lr:Int) == (n:Int)) <;> cases hV:(aV == ([]:Str))
   all_goals
    have HR2:=Lib.hid HR.out
    rw [hX,hD,hR,hV] at HR2
    go_enter Tryz.func46,Tryz.ntmps46
    simp only [B_mk]
    go_upto_region 1 with fail
    generalize (w.alloc (linO A n ca R m cr)).alloc (.cells #[.int .i64 ak,.slice X lx cx,.slice Y ld cy,.slice Z lr cz,.string (B aV)] 31)=w2 at *
    obtain ⟨⟨x0,x1⟩,y0,y1,y2,y3,y4⟩:=HT.out w2 (Below.refl _ _)
    go_quiet (fail)
    have hq:=below_drewN (Below.refl w2.heap.size w2) nq
    obtain ⟨⟨x0,x1⟩,y0,y1,y2,y3,y4⟩:=HT.out _ hq
    have hbq:=below_lift3 HB12.out hq
    go_wp2_with fail
    go_ret
    exact ⟨ret_bool (by rw [HR2.out];rfl),hbq⟩
  ·have HR:=Lib.hid (show res=(((lx:Int) == 0) && ((ld:Int) == (m:Int)) && ((lr:Int) == 0) && (aV == [])) by rw [HD.out,if_neg (by rw [k1];decide),if_pos k2])
   cases hX:((lx:Int) == 0) <;> cases hD:((ld:Int) == (m:Int)) <;> cases hR:((lr:Int) == 0) <;> cases hV:(aV == ([]:Str))
   all_goals
    have HR2:=Lib.hid HR.out
    rw [hX,hD,hR,hV] at HR2
    go_enter Tryz.func46,Tryz.ntmps46
    simp only [B_mk]
    go_upto_region 1 with fail
    generalize (w.alloc (linO A n ca R m cr)).alloc (.cells #[.int .i64 ak,.slice X lx cx,.slice Y ld cy,.slice Z lr cz,.string (B aV)] 31)=w2 at *
    obtain ⟨⟨x0,x1⟩,y0,y1,y2,y3,y4⟩:=HT.out w2 (Below.refl _ _)
    go_quiet (fail)
    have hq:=below_drewN (Below.refl w2.heap.size w2) nq
    obtain ⟨⟨x0,x1⟩,y0,y1,y2,y3,y4⟩:=HT.out _ hq
    have hbq:=below_lift3 HB12.out hq
    go_wp2_with fail
    go_ret
    exact ⟨ret_bool (by rw [HR2.out];rfl),hbq⟩
 ·have HR:=Lib.hid (show res=(((lx:Int) == (n:Int)) && ((ld:Int) == (m:Int)) && ((lr:Int) == 0)) by rw [HD.out,if_pos k1])
  cases hX:((lx:Int) == (n:Int)) <;> cases hD:((ld:Int) == (m:Int)) <;> cases hR:((lr:Int) == 0)
  all_goals
   have HR2:=Lib.hid HR.out
   rw [hX,hD,hR] at HR2
   go_enter Tryz.func46,Tryz.ntmps46
   simp only [B_mk]
   go_upto_region 1 with fail
   generalize (w.alloc (linO A n ca R m cr)).alloc (.cells #[.int .i64 ak,.slice X lx cx,.slice Y ld cy,.slice Z lr cz,.string (B aV)] 31)=w2 at *
   obtain ⟨⟨x0,x1⟩,y0,y1,y2,y3,y4⟩:=HT.out w2 (Below.refl _ _)
   go_quiet (fail)
   have hq:=below_drewN (Below.refl w2.heap.size w2) nq
   obtain ⟨⟨x0,x1⟩,y0,y1,y2,y3,y4⟩:=HT.out _ hq
   have hbq:=below_lift3 HB12.out hq
   go_wp2_with fail
   go_ret
   exact ⟨ret_bool (by rw [HR2.out];rfl),hbq⟩
theorem times_len2 (ns:List Int) (xs:List Str):(timesQ ns xs).1.length≤1000000:=Nat.le_trans (times_len ns xs) (by omega)
set_option maxHeartbeats 8000000 in
set_option maxRecDepth 100000 in
theorem sxfalls_any (cost:List Int) (rs:List RowV) (A:Option Addr) (ca:Nat) (R:Option Addr) (cr:Nat) (xs:List Str) (X:Option Addr) (cx:Nat) (w:World) (hm:rs.length≤1000000) (hk:∀ r ∈ rs,r.L.kind=1∨r.L.kind=2∨r.L.kind=3) (hp:LinAt w cost rs A ca R cr) (hx:RatsAt w xs X cx) (he:Env w) :
  Calls Tryz.prog 52 #[linV A cost.length ca R rs.length cr,.slice X xs.length cx] w fun e w'=>e=.returned (.bool (fallsB (linOf cost rs) xs))∧Below w.heap.size w w':=by
 have hlx:=hx.lx
 have hlr:=hp.lr
 have hla:=hp.la
 unfold maxLen at hlx hlr hla
 have b0:=new_below w (linO A cost.length ca R rs.length cr)
 have HX:=Lib.hid hx
 have HP:=Lib.hid hp
 have HK:=Lib.hid hk
 have HD:=Lib.hid (show fallsB (linOf cost rs) xs=(nonneg xs && rs.all (fun r=>fallB r.L xs) && decide ((timesQ cost xs).2=0) && decide (signQ (timesQ cost xs).1<0)) by
  unfold fallsB linOf;simp [List.all_map,Function.comp_def])
 clear hx hp hk
 generalize fallsB (linOf cost rs) xs=res at *
 go_enter Tryz.func52,Tryz.ntmps52
 go_wp2_with fail
 go_loopw [6,16] (fun _ i wr=>∃ k:Nat,k≤xs.length∧i=.int .i64 k∧(xs.take k).all (fun x=>decide (0≤signQ x))=true∧Below (w.alloc (linO A cost.length ca R rs.length cr)).heap.size (w.alloc (linO A cost.length ca R rs.length cr)) wr) (fun _ i _=>xs.length - (intOf i).toNat)
 case atStart=>exact ⟨0,Nat.zero_le _,rfl,rfl,Below.refl _ _⟩
 case round =>
  obtain ⟨k,hk,rfl,hall,hb⟩:=hrel
  have HALL:=Lib.hid hall
  clear hall
  have hbw:=b0.trans (hb.mono b0.size)
  by_cases hlt:k<xs.length
  ·obtain ⟨b,off,rfl,hbl,hc⟩:=HX.out.cells (by unfold strs;rw [List.length_map];omega)
   have dc:=(hbw.cell (p:=⟨b,off+k,none⟩) hbl).trans (hc k (.string (B xs[k])) (by unfold strs;rw [List.getElem?_map,List.getElem?_eq_getElem hlt];rfl))
   have hl:=HX.out.len xs[k] (List.getElem_mem hlt)
   have HR:=Lib.hid (qsign_any xs[k] wr (by omega) (he.below hbw))
   have HN:=Lib.hid (show 0≤signQ xs[k]→(xs.take (k+1)).all (fun x=>decide (0≤signQ x))=true from fun h=>all_take hlt HALL.out (by simpa using h))
   have HF:=Lib.hid (show ¬ 0≤signQ xs[k]→nonneg xs=false from fun h=>all_bad hlt (by simpa using h))
   clear hc hl
   generalize xs[k]=s at *
   by_cases hs:signQ s<0
   ·have HF2:=Lib.hid (show res=false by rw [HD.out,HF.out (by omega)];rfl)
    generalize signQ s=sg at *
    go_wp2_with fail
    refine HR.out.mono ?_
    rintro e w1 ⟨rfl,hb1⟩
    go_wp2_with fail
    go_ret
    exact ⟨ret_bool HF2.out.symm,below_lift3 hbw hb1⟩
   ·have HN2:=Lib.hid (HN.out (by omega))
    generalize signQ s=sg at *
    go_wp2_with fail
    refine HR.out.mono ?_
    rintro e w1 ⟨rfl,hb1⟩
    go_wp2_with fail
    go_roundw
    case rel=>exact ⟨k+1,by omega,by go_num,HN2.out,below_lift3 hb hb1⟩
    case measure=>simp [intOf];omega
  ·have hkx:k=xs.length:=by omega
   have HA:=Lib.hid (show nonneg xs=true by have:=HALL.out;rw [hkx,List.take_length] at this;exact this)
   have hkn:¬ (k:Int)<(xs.length:Int):=by omega
   obtain ⟨x0,x1,x2⟩:=lin_cells hb
   clear hkx
   go_wp2_with fail
   clear x0 x1 x2
   go_loopw [7,8,9,10,11,27] (fun _ _ _ _ _ i wr=>∃ j:Nat,j≤rs.length∧i=.int .i64 j∧(rs.take j).all (fun r=>fallB r.L xs)=true∧Below (w.alloc (linO A cost.length ca R rs.length cr)).heap.size (w.alloc (linO A cost.length ca R rs.length cr)) wr) (fun _ _ _ _ _ i _=>rs.length - (intOf i).toNat)
   case atStart=>exact ⟨0,Nat.zero_le _,rfl,rfl,hb⟩
   case round =>
    clear hb hbw hkn
    obtain ⟨j,hj,rfl,hall,hb⟩:=hrel
    have HALLR:=Lib.hid hall
    clear hall
    have hbw:=b0.trans (hb.mono b0.size)
    obtain ⟨x0,x1,x2⟩:=lin_cells hb
    by_cases hlt2:j<rs.length
    ·obtain ⟨bR,oR,rfl,hbR,hcR⟩:=HP.out.rows.at (by omega)
     have hc0:=(hbw.cell (p:=⟨bR,oR+j*3,none⟩) hbR).trans (hcR j hlt2).1
     have hc1:=(hbw.cell (p:=⟨bR,oR+j*3+1,none⟩) hbR).trans (hcR j hlt2).2.1
     have hc2:=(hbw.cell (p:=⟨bR,oR+j*3+2,none⟩) hbR).trans (hcR j hlt2).2.2
     have hkk:=HK.out rs[j] (List.getElem_mem hlt2)
     have hra:Num.rowAt (linOf cost rs) j=rs[j].L:=lin_rowAt cost rs j hlt2
     have hlq:leftQ (linOf cost rs) (j:Int) xs=timesQ rs[j].L.coef xs:=by
      unfold leftQ
      rw [if_pos ⟨by omega,by rw [lin_rows];omega⟩,Int.toNat_natCast,hra]
     have HN:=Lib.hid (show fallB rs[j].L xs=true→(rs.take (j+1)).all (fun r=>fallB r.L xs)=true from fun h=>all_take hlt2 HALLR.out h)
     have HF:=Lib.hid (show fallB rs[j].L xs=false→rs.all (fun r=>fallB r.L xs)=false from fun h=>all_bad hlt2 h)
     have n1:=new_below wr (.cells #[.slice rs[j].A rs[j].L.coef.length rs[j].c,.int .i64 rs[j].L.kind,.int .i64 rs[j].L.right] 45)
     have hbn:=hb.trans (n1.mono hb.size)
     have row1:=row_new (w:=wr) (o:=.cells #[.slice rs[j].A rs[j].L.coef.length rs[j].c,.int .i64 rs[j].L.kind,.int .i64 rs[j].L.right] 45)
     have hbwn:=b0.trans (hbn.mono b0.size)
     have HL:=Lib.hid (lleft_any cost rs (A) ca (some ⟨bR,oR,none⟩) cr (j:Int) xs X cx _ (by constructor <;> omega) (HP.out.below hbwn) (HX.out.below hbwn) (he.below hbwn))
     rw [hlq] at HL
     have HFB:=Lib.hid (show fallB rs[j].L xs=(decide ((timesQ rs[j].L.coef xs).2=0) && holdsB rs[j].L.kind (signQ (timesQ rs[j].L.coef xs).1)) from rfl)
     have HSG:=Lib.hid (fun (w:World) (he:Env w)=>qsign_any (timesQ rs[j].L.coef xs).1 w (times_len2 _ _) he)
     obtain ⟨z0,z1,z2⟩:=lin_cells hbn
     clear hcR hra hlq n1
     generalize fallB rs[j].L xs=fb at *
     generalize timesQ rs[j].L.coef xs=tq at *
     obtain ⟨t1,t2⟩:=tq
     generalize rs[j]=r at *
     go_wp2_with fail
     refine HL.out.mono ?_
     rintro e w2 ⟨rfl,hb2⟩
     have hb3:=hbn.trans (hb2.mono hbn.size)
     have hbw3:=b0.trans (hb3.mono b0.size)
     have HSX:=Lib.hid (HSG.out w2 (he.below hbw3))
     have r2:=row_on row1 hb2
     clear hc0 hc1 hc2 x0 x1 x2 z0 z1 z2 HL hb2 row1
     go_wp2_with fail
     refine HSX.out.mono ?_
     rintro e w4 ⟨rfl,hb4⟩
     have hb5:=hb3.trans (hb4.mono hb3.size)
     have hbw5:=b0.trans (hb5.mono b0.size)
     have r4:=row_on r2 hb4
     have c1:w4.cell? ⟨wr.heap.size,1,none⟩=some (.int .i64 r.L.kind):=by rw [cell_of_row w4 wr.heap.size 1 _ _ _ r4];rfl
     clear HSX r2 r4 hb4 hb3 hbw3
     generalize signQ t1=sg at *
     by_cases ht:t2=0
     ·have ht':(t2 != 0)=false:=by simpa using ht
      have HFB2:=Lib.hid (show fb=holdsB r.L.kind sg by rw [HFB.out];simp [ht])
      clear ht
      generalize r.L.kind=kk at *
      rcases hkk with rfl | rfl | rfl
      ·by_cases hs:0<sg
       ·have HR:=Lib.hid (show res=false by rw [HD.out,HF.out (by rw [HFB2.out];unfold holdsB;simp;omega)];simp)
        have hsd:decide (0<sg)=true:=decide_eq_true hs
        go_wp2_with fail
        go_ret
        exact ⟨ret_bool HR.out.symm,hbw5⟩
       ·have HN2:=Lib.hid (HN.out (by rw [HFB2.out];unfold holdsB;simp;omega))
        have hsd:decide (0<sg)=false:=decide_eq_false hs
        go_wp2_with fail
        go_roundw
        case rel=>exact ⟨j+1,by omega,by go_num,HN2.out,hb5⟩
        case measure=>simp [intOf];omega
      ·by_cases hs:sg=0
       ·have HN2:=Lib.hid (HN.out (by rw [HFB2.out];unfold holdsB;simp;omega))
        subst hs
        go_wp2_with fail
        go_roundw
        case rel=>exact ⟨j+1,by omega,by go_num,HN2.out,hb5⟩
        case measure=>simp [intOf];omega
       ·have HR:=Lib.hid (show res=false by rw [HD.out,HF.out (by rw [HFB2.out];unfold holdsB;simp;omega)];simp)
        have hsd:(sg != 0)=true:=by simpa using hs
        clear hs
        go_wp2_with fail
        go_ret
        exact ⟨ret_bool HR.out.symm,hbw5⟩
      ·by_cases hs:sg<0
       ·have HR:=Lib.hid (show res=false by rw [HD.out,HF.out (by rw [HFB2.out];unfold holdsB;simp;omega)];simp)
        have hsd:decide (sg<0)=true:=decide_eq_true hs
        go_wp2_with fail
        go_ret
        exact ⟨ret_bool HR.out.symm,hbw5⟩
       ·have HN2:=Lib.hid (HN.out (by rw [HFB2.out];unfold holdsB;simp;omega))
        have hsd:decide (sg<0)=false:=decide_eq_false hs
        go_wp2_with fail
        go_roundw
        case rel=>exact ⟨j+1,by omega,by go_num,HN2.out,hb5⟩
        case measure=>simp [intOf];omega
     ·have ht':(t2 != 0)=true:=by simpa using ht
      have HR:=Lib.hid (show res=false by rw [HD.out,HF.out (by rw [HFB.out];simp [ht])];simp)
      clear ht
      go_wp2_with fail
      go_ret
      exact ⟨ret_bool HR.out.symm,hbw5⟩
    ·have hjx:j=rs.length:=by omega
     have HAR:=Lib.hid (show rs.all (fun r=>fallB r.L xs)=true by have:=HALLR.out;rwa [hjx,List.take_length] at this)
     have hjn:¬ (j:Int)<(rs.length:Int):=by omega
     have HVL:=Lib.hid (lval_any cost rs A ca R cr xs X cx wr (HP.out.below hbw) (HX.out.below hbw) (he.below hbw))
     have HSG:=Lib.hid (fun (w:World) (he:Env w)=>qsign_any (timesQ cost xs).1 w (times_len2 _ _) he)
     clear hjx
     generalize timesQ cost xs=tq at *
     obtain ⟨t1,t2⟩:=tq
     have HRR:=Lib.hid (show res=(decide (t2=0) && decide (signQ t1<0)) by rw [HD.out,HA.out,HAR.out];simp)
     go_wp2_with fail
     refine HVL.out.mono ?_
     rintro e w2 ⟨rfl,hb2⟩
     have hbw2:=below_lift3 hbw hb2
     have HSX:=Lib.hid (HSG.out w2 (he.below hbw2))
     clear x0 x1 x2 HVL HSG
     by_cases ht:t2=0
     ·subst ht
      by_cases hs:signQ t1<0
      ·have HR:=Lib.hid (show res=true by rw [HRR.out];simp [hs])
       generalize signQ t1=sg at *
       go_wp2_with fail
       refine HSX.out.mono ?_
       rintro e w3 ⟨rfl,hb3⟩
       have hsd:decide (sg<0)=true:=decide_eq_true hs
       go_wp2_with fail
       go_ret
       exact ⟨ret_bool HR.out.symm,below_lift3 hbw2 hb3⟩
      ·have HR:=Lib.hid (show res=false by rw [HRR.out];simp [hs])
       generalize signQ t1=sg at *
       go_wp2_with fail
       refine HSX.out.mono ?_
       rintro e w3 ⟨rfl,hb3⟩
       have hsd:decide (sg<0)=false:=decide_eq_false (by omega)
       go_wp2_with fail
       go_ret
       exact ⟨ret_bool HR.out.symm,below_lift3 hbw2 hb3⟩
     ·have ht':(t2 == 0)=false:=by simpa using ht
      have HR:=Lib.hid (show res=false by rw [HRR.out];simp [ht])
      clear ht
      go_wp2_with fail
      go_ret
      exact ⟨ret_bool HR.out.symm,hbw2⟩
end Go.Proofs.YtmppmdmekomjbaaGreatDoor

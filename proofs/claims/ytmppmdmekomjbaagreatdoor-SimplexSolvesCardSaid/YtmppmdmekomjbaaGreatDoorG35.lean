/- simplex: charge. -/
import Derived.Test.YtmppmdmekomjbaaGreatDoorG34
import Derived.Laws.CopyOwn
import Derived.Laws.AppendOwn
import Derived.Test.YtmppmdmekomjbaaGreatDoorG32
import Derived.Test.YtmppmdmekomjbaaGreatDoorLProg7
namespace Go.Proofs.YtmppmdmekomjbaaGreatDoor
open Go.RowKit Num
set_option linter.unusedVariables false
attribute [local go_sem] B_size B_get B_toList B_mk B_extract B_append
structure SxB (w:World) (Bs:Nat) (H:SxH) (pv:Value) (vars cols:Nat) (M:List (List Str)) (bs us:List Nat) (tv:List Bool):Prop where
 base:Bs≤H.kt
 obj:w.heap[H.kt]? = some (.cells #[.slice H.A M.length H.c,pv,.slice H.Bb bs.length H.cb,.slice H.U us.length H.cu,.slice H.V tv.length H.cv,.int .i64 cols,.int .i64 vars,.int .i64 0] 61)
 mat:MatX w Bs H.A H.c H.hA H.hC H.hR M
 bas:OwnS w Bs 3 H.Bb bs.length H.cb (nums bs)
 uni:OwnS w Bs 3 H.U us.length H.cu (nums us)
 tur:OwnS w Bs 4 H.V tv.length H.cv (boolsV tv)
 bu:∀ g,H.Bb=some g→H.U≠some g
theorem heap_setCell_at {w:World} {g i:Nat} {v:Value} {l:Array Value} {e:TypeId} {z:Nat × Nat} (h:w.heap[g]? = some (.cells l e z)):(w.setCell ⟨g,i,none⟩ v).heap[g]? = some (.cells (l.setIfInBounds i v) e z):=by
 unfold World.setCell
 show (w.heap.modify g _)[g]? = _
 rw [Array.getElem?_modify,if_pos rfl,h]
 rfl
section
variable {w w':World} {Bs:Nat} {H:SxH} {pv:Value} {m k vars cols:Nat} {M E:List (List Str)} {bs us:List Nat} {tv:List Bool}
theorem SxB.lt (h:SxB w Bs H pv vars cols M bs us tv):H.kt<w.heap.size:=lt_of_heap h.obj
theorem SxB.cell (h:SxB w Bs H pv vars cols M bs us tv) (i:Nat):w.cell? ⟨H.kt,i,none⟩=#[Value.slice H.A M.length H.c,pv,.slice H.Bb bs.length H.cb,.slice H.U us.length H.cu,.slice H.V tv.length H.cv,.int .i64 cols,.int .i64 vars,.int .i64 0][i]? := by
 unfold World.cell?;simp only [h.obj];rfl
theorem SxB.below (h:SxB w Bs H pv vars cols M bs us tv) (hb:Below w.heap.size w w'):SxB w' Bs H pv vars cols M bs us tv :=
 ⟨h.base,(hb.block _ h.lt).trans h.obj,h.mat.below hb,h.bas.below hb,h.uni.below hb,h.tur.below hb,h.bu⟩
theorem SxM.toB (h:SxM w Bs H m k vars cols E bs us tv):SxB w Bs H (.slice H.P k H.cp) vars cols (E.take m) bs us tv:=by
 have h0:(E.take m).length=m:=by rw [List.length_take,h.elen];omega
 have h1:bs.length=m:=by have:=h.bas.len;rwa [nums_length] at this
 have h2:us.length=m:=by have:=h.uni.len;rwa [nums_length] at this
 have h3:tv.length=m:=by have:=h.tur.len;unfold boolsV at this;rwa [List.length_map] at this
 refine ⟨h.base,?_,h.mat,?_,?_,?_,h.bu⟩
 ·rw [h0,h1,h2,h3];exact h.obj
 ·rw [h1];exact h.bas
 ·rw [h2];exact h.uni
 ·rw [h3];exact h.tur
theorem SxB.toM (h:SxB w Bs H pv vars cols M bs us tv) {P:Option Addr} {cp:Nat} {pr:List Str} (hm:M.length=m) (h1:bs.length=m) (h2:us.length=m) (h3:tv.length=m) (hk:KeptB H.kt w w') (hw:w.heap.size≤Bs∨True)
  (ho:w'.heap[H.kt]? = some (.cells #[.slice H.A M.length H.c,.slice P k cp,.slice H.Bb bs.length H.cb,.slice H.U us.length H.cu,.slice H.V tv.length H.cv,.int .i64 cols,.int .i64 vars,.int .i64 0] 61)) (hP:OwnS w' Bs 29 P k cp (strs pr)) (hn:∀ i,i<m→∀ g,H.hA i=some g→P≠some g) :
  SxM w' Bs { H with P:=P,cp:=cp } m k vars cols (M ++ [pr]) bs us tv:=by
 have htk:(M ++ [pr]).take m=M:=by rw [List.take_append_of_le_length (by omega),← hm,List.take_length]
 have hgd:(M ++ [pr]).getD m []=pr:=by rw [List.getD_eq_getElem?_getD,List.getElem?_append_right (by omega),hm,Nat.sub_self];rfl
 refine ⟨h.base,?_,by rw [List.length_append,hm];rfl,?_,?_,hn,?_,?_,?_,h.bu⟩
 ·show w'.heap[H.kt]? = _
  rw [ho,hm,h1,h2,h3]
 ·rw [htk]
  exact h.mat.kept hk (h.mat.outer.not h.obj (by decide)) (fun i hi=>(h.mat.rows i hi).not h.obj (by decide))
 ·rw [hgd];exact hP
 ·have:=h.bas.kept hk (h.bas.not h.obj (by decide));rwa [h1] at this
 ·have:=h.uni.kept hk (h.uni.not h.obj (by decide));rwa [h2] at this
 ·have:=h.tur.kept hk (h.tur.not h.obj (by decide));rwa [h3] at this
end
def PrP (D1:Nat) (cst:Nat→Rat) (T:Mx) (b:Nat→Nat) (i j:Nat) (s:Str):Prop:=FrD (6+(D1+6)*i) (1+(D1+1)*i) s∧rq s=cst j - sumR (fun l=>cst (b l)*T l j) i
theorem PrP.zero {D1 i j:Nat} {cst:Nat→Rat} {T:Mx} {b:Nat→Nat} {s:Str} (h:PrP D1 cst T b i j s) (hc:cst (b i)=0):PrP D1 cst T b (i+1) j s:=by
 refine ⟨h.1.mono (by rw [Nat.mul_add];omega) (by rw [Nat.mul_add];omega),?_⟩
 rw [h.2]
 show cst j - _=cst j - (sumR (fun l=>cst (b l)*T l j) i+cst (b i)*T i j)
 rw [hc];grind
theorem PrP.step {D1 i j:Nat} {cst:Nat→Rat} {T:Mx} {b:Nat→Nat} {s c v:Str} (h:PrP D1 cst T b i j s) (hc:FrD 5 1 c) (hcv:rq c=cst (b i)) (hv:FrD D1 D1 v) (hvv:rq v=T i j) (hs:8+(D1+6)*(i+1)≤4096) :
  mulQE c v=0∧FrD (5+D1) (1+D1) (mulQS c v)∧subQE s (mulQS c v)=0∧PrP D1 cst T b (i+1) j (subQS s (mulQS c v)):=by
 rw [Nat.mul_add,Nat.mul_one] at hs
 have e1:(D1+6)*i=(D1+1)*i+5*i:=by rw [show D1+6=D1+1+5 by omega,Nat.add_mul]
 have hm:=hc.mul hv (by omega) (by omega)
 have hb:=h.1.sub hm.2.1 (by omega) (by omega)
 refine ⟨hm.1,hm.2.1,hb.1,hb.2.1.mono ?_ ?_,?_⟩
 ·rw [Nat.mul_add,Nat.mul_one];omega
 ·rw [Nat.mul_add,Nat.mul_one];omega
 ·rw [hb.2.2,hm.2.2,h.2,hcv,hvv]
  show _=cst j - (sumR (fun l=>cst (b l)*T l j) i+cst (b i)*T i j)
  grind
end Go.Proofs.YtmppmdmekomjbaaGreatDoor
namespace Go.Proofs.YtmppmdmekomjbaaGreatDoor
open Go.ChangeShapes Go.WideShapes Go.RowKit Num
set_option linter.unusedVariables false
attribute [local go_sem] B_size B_get B_toList B_mk B_extract B_append
theorem cells_own {w:World} {g n:Nat} {l:List Str} (h:w.heap[g]? = some (.cells (strs l).toArray 29 (0,0))) (hl:l.length=n) (hn:n≤1000000):OwnS w g 29 (some ⟨g,0,none⟩) n n (strs l):=by
 have h1:(strs l).length=n:=by unfold strs;rw [List.length_map,hl]
 refine ⟨by omega,.inr ⟨g,n,_,rfl,Nat.le_refl _,h,Nat.le_refl _,by unfold maxLen;omega,by simpa using h1,?_⟩⟩
 rw [Nat.mul_one,show (strs l).toArray.toList=strs l by simp]
 exact List.take_of_length_le (by omega)
theorem cellM_app {M:List (List Str)} {r:List Str} {i j:Nat} (hi:i<M.length):cellM (M ++ [r]) i j=cellM M i j:=by
 unfold cellM
 rw [List.getD_eq_getElem?_getD (l:=M ++ [r]),List.getElem?_append_left hi,← List.getD_eq_getElem?_getD]
theorem getD_app {M:List (List Str)} {r:List Str} {i:Nat} (hi:i<M.length):(M ++ [r]).getD i []=M.getD i []:=by
 rw [List.getD_eq_getElem?_getD,List.getElem?_append_left hi,← List.getD_eq_getElem?_getD]
theorem mrat_size:(Tryz.prog.info? 29).map (·.size)=some 1:=by kernel_rfl
theorem price_row {cs:List Str} {n:Nat} (h:cs.length=n):((splice (strs (List.replicate (n+1) [])) 0 (strs cs)).toArray.setIfInBounds n (.string (B [48])))=(strs (cs ++ [[48]])).toArray:=by
 apply Array.ext'
 rw [Array.toList_setIfInBounds]
 have e:splice (strs (List.replicate (n+1) [])) 0 (strs cs)=strs cs ++ [.string (B [])]:=by
  unfold splice strs
  rw [List.take_zero,List.nil_append,List.length_map,Nat.zero_add,h,← List.map_drop,List.drop_replicate,show n+1 - n=1 by omega];rfl
 rw [e]
 show (strs cs ++ [Value.string (B [])]).set n _=strs (cs ++ [[48]])
 have hl:(strs cs).length=n:=by unfold strs;rw [List.length_map,h]
 rw [← hl,List.set_append_right _ _ (Nat.le_refl _),Nat.sub_self]
 unfold strs;simp
theorem price_cell {cs:List Str} {n:Nat} (h:cs.length=n):∃ v,(splice (strs (List.replicate (n+1) [])) 0 (strs cs)).toArray[n]? = some v:=by
 have e:(splice (strs (List.replicate (n+1) [])) 0 (strs cs)).length=n+1:=by rw [length_splice _ _ _ (by unfold strs;simp;omega)];unfold strs;simp
 exact ⟨_,by rw [List.getElem?_toArray,List.getElem?_eq_getElem (by omega)]⟩
theorem run_copy_all {w:World} {g n nc cx:Nat} {L:List Value} {xs:List Value} {X:Option Addr} (ty:TypeId) (hg:w.heap[g]? = some (.cells L.toArray 29 (0,0))) (hl:xs.length=n) (hL:n≤L.length) (hN:L.length=nc) (hX:0<n→∃ ad,X=some ad∧∀ j v,xs[j]? = some v→w.cell? (ad.add j)=some v) (h1:∀ v ∈ xs,v.oneCell'=true) :
  ∃ w',(Builtin.copy_ #[28,28] ty #[.slice (some ⟨g,0,none⟩) nc nc,.slice X n cx]).run Tryz.prog w=.ok (goInt n) w'∧w'.heap[g]? = some (.cells (splice L 0 xs).toArray 29 (0,0))∧Below g w w':=by
 have hmin:Nat.min n nc=n:=Nat.min_eq_left (by omega)
 by_cases h0:n=0
 ·subst h0
  obtain rfl:xs=[]:=List.eq_nil_of_length_eq_zero hl
  refine ⟨w,run_copy_none (P:=Tryz.prog) w _ _ ty 29 _ X nc nc 0 cx Tryz.underlying28 mrat_size (by simp),?_,Below.refl _ _⟩
  simpa [splice] using hg
 ·obtain ⟨ad,rfl,hsrc⟩:=hX (by omega)
  have hr:=run_copy_row (P:=Tryz.prog) w 28 28 ty 29 g 0 nc nc ad n cx L.toArray 29 xs Tryz.underlying28 mrat_size hg (by rw [hl,hmin]) hsrc (by simp;omega) h1
  rw [hl] at hr
  refine ⟨_,hr,?_,below_setRow (Below.refl _ _) (Nat.le_refl _) _⟩
  have:=setRow_heap w g L.toArray (((L.toArray.toList.take 0 ++ xs ++ L.toArray.toList.drop (0+n)).toArray)) 29 (0,0) hg
  rw [this]
  unfold splice
  rw [hl,List.append_assoc]
set_option maxHeartbeats 4000000 in
set_option maxRecDepth 100000 in
theorem sxcharge_any {m n vars cols D1 cx Bc:Nat} {M:List (List Str)} {bs us:List Nat} {tv:List Bool} {H:SxH} {pv:Value} {T:Mx} {cst:Nat→Rat} {X:Option Addr} {cs:List Str} (hn:cols+m=n) (Bs:Nat) (w0 w:World) (h0:Below w0.heap.size w0 w) (hB:w0.heap.size≤Bs) (hBs:Bs≤w.heap.size)
  (hM:SxB w Bs H pv vars cols M bs us tv) (hml:M.length=m) (hbl:bs.length=m) (hul:us.length=m) (htl:tv.length=m) (hMat:Mat D1 D1 (n+1) M) (hT:∀ i,i<m→∀ j,j<n+1→T i j=rq (cellM M i j)) (hbx:∀ x ∈ bs,x<n)
  (hX:OwnS w Bc 29 X n cx (strs cs)) (hcs:TxL n (fun x s=>FrD 5 1 s∧rq s=cst x) cs) (hc0:cst n=0) (hs:8+(D1+6)*m≤4096) (hD1:D1≤1000) (hk:n+1≤1000) (hm:m≤500) (he:Env w0) :
  Calls Tryz.prog 24 #[.pointer (some ⟨H.kt,0,none⟩),.slice X n cx] w fun e w'=>e=.returned (.tuple #[])∧(∃ (P:Option Addr) (cp:Nat) (pr:List Str),SxM w' Bs { H with P:=P,cp:=cp } m (n+1) vars cols (M ++ [pr]) bs us tv∧TxL (n+1) (PrP D1 cst T (fun l=>bs.getD l 0) m) pr)∧Below w0.heap.size w0 w'∧w.heap.size≤w'.heap.size:=by
 have hklt:=hM.lt
 have hcX:=hX.cap
 unfold maxLen at hcX
 have hXk:X≠some ⟨H.kt,0,none⟩:=hX.not hM.obj (by decide)
 have mk:∀ w:World,(Instr.makeSlice 28 (.int .i64 ((n:Int)+1)) (.int .i64 ((n:Int)+1))).run Tryz.prog w=.ok (.slice (some ⟨w.heap.size,0,none⟩) (n+1) (n+1)) (w.alloc (.cells (madeCells #[.string (B [])] (n+1)) 29)):=fun w=>by
  have:=run_make_row' (P:=Tryz.prog) 28 29 (.string (B [])) 16 Tryz.underlying28 mrat_info rfl .i64 .i64 (n+1) (by omega) (by omega) w
  rw [show ((n+1:Nat):Int)=(n:Int)+1 by omega] at this
  exact this
 have b1:=new_below w (.cells (madeCells #[.string (B [])] (n+1)) 29)
 have c1:(w.alloc (.cells (madeCells #[.string (B [])] (n+1)) 29)).cell? ⟨H.kt,1,none⟩=some pv:=(b1.cell (p:=⟨H.kt,1,none⟩) hklt).trans (hM.cell 1)
 have f1:(w.alloc (.cells (madeCells #[.string (B [])] (n+1)) 29)).frozen? ⟨H.kt,1,none⟩=false:=(b1.frozen (p:=⟨H.kt,1,none⟩) hklt).trans (free_of_heap hM.obj 1)
 generalize hw1:w.alloc (.cells (madeCells #[.string (B [])] (n+1)) 29)=w1 at *
 have hs1:w1.heap.size=w.heap.size+1:=by rw [← hw1];simp
 have hg1:w1.heap[w.heap.size]? = some (.cells (madeCells #[.string (B [])] (n+1)) 29 (0,0)):=by rw [← hw1];exact row_new
 have ho1:=(b1.block _ hklt).trans hM.obj
 have ho2:=heap_setCell_at (i:=1) (v:=.slice (some ⟨w.heap.size,0,none⟩) (n+1) (n+1)) ho1
 have hg2:(w1.setCell ⟨H.kt,1,none⟩ (.slice (some ⟨w.heap.size,0,none⟩) (n+1) (n+1))).heap[w.heap.size]? = some (.cells (strs (List.replicate (n+1) [])).toArray 29 (0,0)):=by
  rw [Below.heap_setCell _ _ _ _ (by show w.heap.size≠H.kt;omega),hg1]
  congr 2
  apply Array.ext'
  rw [toList_madeCells_one,strs_rep]
 have hk2:KeptB H.kt w (w1.setCell ⟨H.kt,1,none⟩ (.slice (some ⟨w.heap.size,0,none⟩) (n+1) (n+1))):=((KeptB.refl H.kt w).below b1).store _ _
 have hs2:(w1.setCell ⟨H.kt,1,none⟩ (.slice (some ⟨w.heap.size,0,none⟩) (n+1) (n+1))).heap.size=w.heap.size+1:=by rw [World.size_setCell,hs1]
 have hb2:Below w0.heap.size w0 (w1.setCell ⟨H.kt,1,none⟩ (.slice (some ⟨w.heap.size,0,none⟩) (n+1) (n+1))):=(below_lift3 h0 b1).setCell (Nat.le_trans hB hM.base) _
 have hX2:=hX.kept hk2 hXk
 go_enter Tryz.func24,Tryz.ntmps24
 simp only [B_mk]
 have HX:=Lib.hid hX
 have HM:=Lib.hid hM
 have HT:=Lib.hid hT
 have HCS:=Lib.hid hcs
 have HO2:=Lib.hid ho2
 have HG2:=Lib.hid hg2
 have HK2:=Lib.hid hk2
 have HS2:=Lib.hid hs2
 have HX2:=Lib.hid hX2
 have HB2:=Lib.hid hb2
 have d1:(w1.setCell ⟨H.kt,1,none⟩ (.slice (some ⟨w.heap.size,0,none⟩) (n+1) (n+1))).cell? ⟨H.kt,1,none⟩=some (.slice (some ⟨w.heap.size,0,none⟩) (n+1) (n+1)):=by unfold World.cell?;simp only [ho2];rfl
 have HN:=Lib.hid hn
 have HZ:=Lib.hid hc0
 have HMAT:=Lib.hid hMat
 have HBX:=Lib.hid hbx
 have HW1:=Lib.hid hw1
 clear hX hM hT hcs ho2 hg2 hk2 hs2 hX2 hb2 ho1 hg1 hs1 b1 hXk hn h0 hMat hbx hc0
 go_upto_region 1 with fail
 generalize hw2:w1.setCell ⟨H.kt,1,none⟩ (.slice (some ⟨w.heap.size,0,none⟩) (n+1) (n+1))=w2 at *
 have HW2:=Lib.hid hw2
 clear hw2 c1 f1
 have hcl:(strs cs).length=Nat.min n (n+1):=by
  have h1:cs.length=n:=HCS.out.1
  unfold strs;rw [List.length_map,h1];exact (Nat.min_eq_left (Nat.le_succ n)).symm
 have hpos:0<(strs cs).length→(some (⟨w.heap.size,0,none⟩:Addr))=some ⟨w.heap.size,0,none⟩∧∃ ad,X=some ad∧∀ j v,(strs cs)[j]? = some v→w2.cell? (ad.add j)=some v:=fun h=>by
  obtain ⟨b,off,e1,e2,e3⟩:=HX2.out.cells h
  exact ⟨rfl,_,e1,fun j v hv=>by rw [add_plain];exact e3 j v hv⟩
 obtain ⟨w3,hrun,hg3,hb3⟩:=run_copy_all (cx:=cx) (nc:=n+1) 3 HG2.out (xs:=strs cs) (n:=n) (by have h1:cs.length=n:=HCS.out.1;unfold strs;rw [List.length_map,h1]) (by unfold strs;simp) (by unfold strs;simp) (X:=X) (fun h=>(hpos (by have h1:cs.length=n:=HCS.out.1;unfold strs;rw [List.length_map,h1];exact h)).2) (fun v hv=>by unfold strs at hv;obtain ⟨s,_,rfl⟩:=List.mem_map.1 hv;rfl)
 obtain ⟨v0,hv0⟩:=price_cell (show cs.length=n from HCS.out.1)
 have e1:=(hb3.cell (p:=⟨H.kt,1,none⟩) hklt).trans d1
 have e2:w3.cell? ⟨w.heap.size,n,none⟩=some v0:=by unfold World.cell?;simp only [hg3];exact hv0
 have e3:=free_of_heap hg3 n
 have hg4:=heap_setCell_at (i:=n) (v:=.string (B [48])) hg3
 rw [price_row (show cs.length=n from HCS.out.1)] at hg4
 have HG4:=Lib.hid hg4
 have HB3:=Lib.hid hb3
 clear hcl hpos mk hg3 hg4 hv0 hb3
 have d2:(w3.setCell ⟨w.heap.size,n,none⟩ (.string (B [48]))).cell? ⟨H.kt,2,none⟩=some (.slice H.Bb m H.cb):=by
  rw [cell_at (Below.heap_setCell _ _ _ _ (Nat.ne_of_lt hklt)) 2,(HB3.out.cell (p:=⟨H.kt,2,none⟩) hklt)]
  unfold World.cell?;simp only [HO2.out];rw [← hbl];rfl
 have hsz3:w.heap.size+1≤w3.heap.size:=by have:=HB3.out.size;rw [HS2.out] at this;exact this
 have hk4:KeptB H.kt w (w3.setCell ⟨w.heap.size,n,none⟩ (.string (B [48]))):=⟨by rw [World.size_setCell];omega,fun b h1 h2=>by
  rw [Below.heap_setCell _ _ _ _ (Nat.ne_of_lt h1),HB3.out.block b h1]
  exact HK2.out.2 b h1 h2⟩
 have ho4:(w3.setCell ⟨w.heap.size,n,none⟩ (.string (B [48]))).heap[H.kt]? = some (.cells #[.slice H.A M.length H.c,.slice (some ⟨w.heap.size,0,none⟩) (n+1) (n+1),.slice H.Bb bs.length H.cb,.slice H.U us.length H.cu,.slice H.V tv.length H.cv,.int .i64 cols,.int .i64 vars,.int .i64 0] 61):=by
  rw [Below.heap_setCell _ _ _ _ (Nat.ne_of_lt hklt),HB3.out.block _ hklt,HO2.out];rfl
 have hP4:OwnS (w3.setCell ⟨w.heap.size,n,none⟩ (.string (B [48]))) w.heap.size 29 (some ⟨w.heap.size,0,none⟩) (n+1) (n+1) (strs (cs ++ [[48]])):=cells_own HG4.out (by have h1:cs.length=n:=HCS.out.1;rw [List.length_append,h1];rfl) (by omega)
 have hrb:∀ i,i<m→∀ g,H.hA i=some g→(some (⟨w.heap.size,0,none⟩:Addr))≠some g:=fun i hi g hg e=>by
  have h1:=HM.out.mat.rows i (by omega)
  rw [hg,← e] at h1
  have:=h1.typ.2.1
  omega
 have hM4:=HM.out.toM hml hbl hul htl hk4 (.inr trivial) ho4 (hP4.mono hBs) hrb
 have hX4:OwnS (w3.setCell ⟨w.heap.size,n,none⟩ (.string (B [48]))) Bc 29 X n cx (strs cs):=HX.out.kept hk4 (HX.out.not HM.out.obj (by decide))
 have hb4:Below w0.heap.size w0 (w3.setCell ⟨w.heap.size,n,none⟩ (.string (B [48]))):=(HB2.out.trans (HB3.out.mono (Nat.le_trans hB hBs))).setCell (Nat.le_trans hB hBs) _
 have hsz4:w.heap.size≤(w3.setCell ⟨w.heap.size,n,none⟩ (.string (B [48]))).heap.size:=hk4.1
 have hP0:TxL (n+1) (PrP D1 cst T (fun l=>bs.getD l 0) 0) (cs ++ [[48]]):=by
  have h1:cs.length=n:=HCS.out.1
  refine ⟨by rw [List.length_append,h1];rfl,fun x hx=>?_⟩
  by_cases e:x<n
  ·rw [List.getD_eq_getElem?_getD,List.getElem?_append_left (by omega),← List.getD_eq_getElem?_getD]
   obtain ⟨h2,h3⟩:=HCS.out.2 x e
   refine ⟨h2.mono (by omega) (by omega),?_⟩
   rw [h3];show cst x=cst x - 0;grind
  ·have ex:x=n:=by omega
   rw [List.getD_eq_getElem?_getD,List.getElem?_append_right (by omega),h1,ex,Nat.sub_self]
   refine ⟨(fr_small (.inl rfl)).mono (by omega) (by omega),?_⟩
   show rq [48]=cst n - 0
   rw [rq_zero,HZ.out];grind
 have HM4:=Lib.hid hM4
 have HX4:=Lib.hid hX4
 have HB4:=Lib.hid hb4
 have HSZ4:=Lib.hid hsz4
 have HP4:=Lib.hid hP4
 have HP0:=Lib.hid hP0
 have HP4x:=Lib.hid hP4
 clear hk4 ho4 hrb hM4 hX4 hb4 hsz4 hP4 hP0 hsz3
 go_wp2_with fail
 generalize hw4:w3.setCell ⟨w.heap.size,n,none⟩ (.string (B [48]))=w4 at *
 clear hw4 e1 e2 e3 d1 d2 hrun HW1 HW2 HO2 HG2 HK2 HS2 HX2 HB2 HG4 HB3
 go_loopw [4,5,6,7,8,34] (fun _ _ _ _ _ i wr=>∃ (j:Nat) (pr:List Str),j≤m∧i=.int .i64 j∧OwnS wr w.heap.size 29 (some ⟨w.heap.size,0,none⟩) (n+1) (n+1) (strs pr)∧TxL (n+1) (PrP D1 cst T (fun l=>bs.getD l 0) j) pr∧KeptB w.heap.size w4 wr∧Below w0.heap.size w0 wr) (fun _ _ _ _ _ i _=>m - (intOf i).toNat)
 case atStart=>exact ⟨0,_,Nat.zero_le _,rfl,HP4.out,HP0.out,KeptB.refl _ _,HB4.out⟩
 case round =>
  clear HP4 HP0 HB4
  obtain ⟨i,pr,hi,rfl,hown,htx,hkk,hb0⟩:=hrel
  have HTX:=Lib.hid htx
  have HOW:=Lib.hid hown
  by_cases hlt:i<m
  ·obtain ⟨gA,g,hgA,hgA2,hrow⟩:=HM4.out.rows (by omega) (by omega) (fun i hi=>by rw [getD_app (by omega)];exact (HMAT.out.row (by omega)).1)
   obtain ⟨hgi,hgi2,hc1,hc2,hcell,htext⟩:=hrow i hlt
   unfold maxLen at hc2
   obtain ⟨gb,hgb,hgb2,hbc⟩:=HM4.out.basAt (by omega) hbl
   have hgA:H.A=some ⟨gA,0,none⟩:=hgA
   have hgi:H.hA i=some ⟨g i,0,none⟩:=hgi
   have hgb:H.Bb=some ⟨gb,0,none⟩:=hgb
   have hcell:w4.cell? ⟨gA,i,none⟩=some (.slice (some ⟨g i,0,none⟩) (n+1) (H.hC i)):=hcell
   have hc1:n+1≤H.hC i:=hc1
   have hc2:H.hC i≤2 ^ 63 - 1:=hc2
   have nA:gA≠w.heap.size:=fun e=>by
    have h1:OwnS w4 Bs 28 H.A _ H.c _:=HM4.out.mat.outer
    rw [hgA] at h1
    exact h1.ne (HP4x.out.mono hBs) (by decide) (by rw [e])
   have nb:gb≠w.heap.size:=fun e=>by
    have h1:OwnS w4 Bs 3 H.Bb m H.cb (nums bs):=HM4.out.bas
    rw [hgb] at h1
    exact h1.ne (HP4x.out.mono hBs) (by decide) (by rw [e])
   have ni:g i≠w.heap.size:=fun e=>HM4.out.prn i hlt _ hgi (by rw [e])
   have hbi:bs.getD i 0<n:=HBX.out _ (by rw [List.getD_eq_getElem?_getD,List.getElem?_eq_getElem (by omega)];exact List.getElem_mem _)
   obtain ⟨gx,hgx,_,hgx2,_,_⟩:=HX.out.at_ (by omega)
   subst hgx
   obtain ⟨gx',e,_,hgx3,hxc,_⟩:=HX4.out.at_ (by omega)
   obtain rfl:gx=gx':=by injection e with e;injection e
   have dx:=hxc (bs.getD i 0) hbi
   have hcsl:cs.length=n:=HCS.out.1
   rw [strs_get _ _ (by omega)] at dx
   have dx:=(cell_at (hkk.2 gx hgx3 (by omega)) (bs.getD i 0)).trans dx
   have db:=(cell_at (hkk.2 gb hgb2 nb) i).trans (hbc i hlt)
   have hkt4:H.kt<w4.heap.size:=HM4.out.lt
   have d0:=(cell_at (hkk.2 H.kt hkt4 (by omega)) 0).trans (HM4.out.cell 0)
   have d0:wr.cell? ⟨H.kt,0,none⟩=some (.slice (some ⟨gA,0,none⟩) m H.c):=by rw [← hgA];exact d0
   have d3:=(cell_at (hkk.2 gA hgA2 nA) i).trans hcell
   obtain ⟨hcf,hcq⟩:=HCS.out.2 (bs.getD i 0) hbi
   have HTE:=Lib.hid (fun j (hj:j<n+1)=>show w4.cell? ⟨g i,j,none⟩=some (.string (B (cellM M i j))) by have:=htext j hj;rwa [cellM_app (by omega)] at this)
   have HCF:=Lib.hid hcf
   have HCQ:=Lib.hid hcq
   have HGB:=Lib.hid hgb
   have hcA:=HM4.out.mat.outer.cap
   have hcA:m≤H.c∧H.c≤2 ^ 63 - 1:=by
    rw [List.length_take,HM4.out.elen] at hcA
    unfold maxLen at hcA
    rw [show min m (m+1)=m by omega] at hcA
    exact hcA
   have hbB:m≤H.cb∧H.cb≤2 ^ 63 - 1:=by have:=HM4.out.bas.cap;unfold maxLen at this;exact this
   clear htext hcell hrow hbc hxc hgA hgi hgb hcsl hcf hcq htx hown nA nb
   rw [HGB.out]
   generalize hgie:g i=gi at *
   clear hgie
   generalize H.hC i=hci at *
   by_cases hz:cs.getD (bs.getD i 0) []=[48]
   ·have HN2:=Lib.hid (show TxL (n+1) (PrP D1 cst T (fun l=>bs.getD l 0) (i+1)) pr from HTX.out.imp fun x hx u h=>h.zero (by rw [← HCQ.out,hz,rq_zero]))
    rw [hz] at dx
    clear hz
    generalize bs.getD i 0=bi at *
    go_wp2_with fail
    go_roundw
    case rel=>exact ⟨i+1,pr,by omega,by go_num,HOW.out,HN2.out,hkk,hb0⟩
    case measure=>simp [intOf];omega
   ·have hz':(cs.getD (bs.getD i 0) [] == [48])=false:=by simpa using hz
    clear hz
    have hlc:=HCF.out
    have hlc2:=frx_len (hlc.mono (n':=5) (d':=5) (by omega) (by omega))
    have HLC:=Lib.hid hlc2
    clear hlc hlc2
    generalize hcc:cs.getD (bs.getD i 0) []=c at *
    generalize hbe:bs.getD i 0=bi at *
    have HBE:=Lib.hid hbe
    have HI:=Lib.hid (show TxL (n+1) (fun x s=>if x<0 then PrP D1 cst T (fun l=>bs.getD l 0) (i+1) x s else PrP D1 cst T (fun l=>bs.getD l 0) i x s) pr from HTX.out.imp fun x hx u h=>by rw [if_neg (Nat.not_lt_zero _)];exact h)
    clear hcc hbe
    go_wp2_with fail
    clear d0 d3 db dx
    go_loopw [7,8,53] (fun _ _ q wx=>∃ (j:Nat) (ps:List Str),j≤n+1∧q=.int .i64 j∧OwnS wx w.heap.size 29 (some ⟨w.heap.size,0,none⟩) (n+1) (n+1) (strs ps)∧TxL (n+1) (fun x s=>if x<j then PrP D1 cst T (fun l=>bs.getD l 0) (i+1) x s else PrP D1 cst T (fun l=>bs.getD l 0) i x s) ps∧KeptB w.heap.size w4 wx∧Below w0.heap.size w0 wx) (fun _ _ q _=>n+1 - (intOf q).toNat)
    case atStart=>exact ⟨0,pr,Nat.zero_le _,rfl,HOW.out,HI.out,hkk,hb0⟩
    case round =>
     clear hkk hb0 HOW HTX HI
     obtain ⟨j,ps,hj,rfl,hown,htx,hkk,hb0⟩:=hrel
     by_cases hlj:j<n+1
     ·obtain ⟨g1,e4,_,hgw,hgc,hgf⟩:=hown.at_ (by omega)
      obtain rfl:w.heap.size=g1:=by injection e4 with e4;injection e4
      have dp:=hgc j hlj
      rw [strs_get _ _ (by rw [htx.1];exact hlj)] at dp
      have dp:wr.cell? ⟨w.heap.size,j,none⟩=some (.string (B (ps.getD j []))):=dp
      have dt:=(cell_at (hkk.2 gi hgi2 ni) j).trans (HTE.out j hlj)
      have dk:=(cell_at (hkk.2 H.kt hkt4 (by omega)) 1).trans (HM4.out.cell 1)
      have dk:wr.cell? ⟨H.kt,1,none⟩=some (.slice (some ⟨w.heap.size,0,none⟩) (n+1) (n+1)):=dk
      have hpo:(if j<j then PrP D1 cst T (fun l=>bs.getD l 0) (i+1) j (ps.getD j []) else PrP D1 cst T (fun l=>bs.getD l 0) i j (ps.getD j [])):=htx.2 j hlj
      rw [if_neg (Nat.lt_irrefl j)] at hpo
      have hvv:=HMAT.out.cell (i:=i) (c:=j) (by omega) hlj
      have him:(D1+6)*(i+1)≤(D1+6)*m:=Nat.mul_le_mul_left _ (by omega)
      have hst:=hpo.step HCF.out (by rw [HCQ.out,← HBE.out]) hvv (HT.out i hlt j hlj).symm (by omega)
      have l1:=frx_len hvv
      have hpl:=hpo.1
      have l2:=frx_len (hpl.mono (n':=4096) (d':=4096) (by rw [Nat.mul_add,Nat.mul_one] at him;omega) (by
       rw [Nat.mul_add,Nat.mul_one] at him
       have:(D1+1)*i≤(D1+6)*i:=Nat.mul_le_mul_right _ (by omega)
       omega))
      have l3:=frx_len (hst.2.1.mono (n':=D1+6) (d':=D1+6) (by omega) (by omega))
      have z1:=mul_zero_of HCF.out hvv (by omega) (by omega)
      have z2:mulQS c (cellM M i j)=[48]→subQS (ps.getD j []) (mulQS c (cellM M i j))=ps.getD j []:=fun h=>by
       refine rq_inj (hst.2.2.2.1.right (by rw [Nat.mul_add,Nat.mul_one] at him ⊢;omega) (by
        rw [Nat.mul_add,Nat.mul_one] at him ⊢
        have:(D1+1)*i≤(D1+6)*i:=Nat.mul_le_mul_right _ (by omega)
        omega)) (hpl.right (by rw [Nat.mul_add,Nat.mul_one] at him;omega) (by
        rw [Nat.mul_add,Nat.mul_one] at him
        have:(D1+1)*i≤(D1+6)*i:=Nat.mul_le_mul_right _ (by omega)
        omega)) ?_
       have h1:=hst.2.2.2.2
       have h2:=(HCF.out.mul hvv (by omega) (by omega)).2.2
       rw [h,rq_zero,HCQ.out,← HBE.out,← HT.out i hlt j hlj] at h2
       have h3:sumR (fun l=>cst (bs.getD l 0)*T l j) (i+1)=sumR (fun l=>cst (bs.getD l 0)*T l j) i+cst (bs.getD i 0)*T i j:=rfl
       rw [h3] at h1
       rw [h1,hpo.2]
       show _=cst j - sumR (fun l=>cst (bs.getD l 0)*T l j) i
       grind
      have HM1:=Lib.hid (fun (w:World) (hk:ErrAt w H.kt) (he:Env w)=>sxmul_any H.kt c (cellM M i j) w (by have:=HLC.out;omega) (by omega) hst.1 z1 hk he)
      have HM2:=Lib.hid (fun (w:World) (hk:ErrAt w H.kt) (he:Env w)=>sxsub_any H.kt (ps.getD j []) (mulQS c (cellM M i j)) w (by omega) (by omega) hst.2.2.1 z2 hk he)
      have HNX:=Lib.hid (show TxL (n+1) (fun x s=>if x<j+1 then PrP D1 cst T (fun l=>bs.getD l 0) (i+1) x s else PrP D1 cst T (fun l=>bs.getD l 0) i x s) (ps.set j (subQS (ps.getD j []) (mulQS c (cellM M i j)))) from htx.set (show (if j<j+1 then _ else _) by rw [if_pos (Nat.lt_succ_self j)];exact hst.2.2.2) (fun x _ hne u h=>by
       by_cases e:x<j
       ·rw [if_pos e] at h;rw [if_pos (by omega)];exact h
       ·rw [if_neg e] at h;rw [if_neg (by omega)];exact h))
      have HSO:=Lib.hid (fun (w2:World) (h:OwnS w2 w.heap.size 29 (some ⟨w.heap.size,0,none⟩) (n+1) (n+1) (strs ps))=>h.stored j (.string (B (subQS (ps.getD j []) (mulQS c (cellM M i j))))))
      have hEr:=HM4.out.err.at hkk.1 (hkk.2 H.kt hkt4 (show H.kt≠w.heap.size by omega))
      have hEr:ErrAt wr H.kt:=hEr
      have hktw:H.kt<wr.heap.size:=Nat.lt_of_lt_of_le hkt4 hkk.1
      have HGF:=Lib.hid hgf
      have HOW:=Lib.hid hown
      clear htx hpo hvv him hst l1 hpl l2 l3 z1 z2 hgc hgf hown
      generalize subQS (ps.getD j []) (mulQS c (cellM M i j))=y at *
      generalize mulQS c (cellM M i j)=zz at *
      generalize ps.getD j []=x at *
      generalize cellM M i j=v at *
      have hbd:=below_drew hb0
      have hed:=he.below hbd
      have hEd:ErrAt wr.drew H.kt:=hEr.below (below_drew (Below.refl _ _))
      have y0:H.kt<wr.drew.heap.size:=hktw
      have y1:w.heap.size<wr.drew.heap.size:=hgw
      have HED:=Lib.hid (fun (w2:World) (hb2:Below wr.drew.heap.size wr.drew w2)=>(⟨hEd.below hb2,hed.below hb2⟩:ErrAt w2 H.kt∧Env w2))
      have HL:=Lib.hid (fun (w2:World) (hb2:Below wr.drew.heap.size wr.drew w2)=>show w2.cell? ⟨H.kt,1,none⟩=some (.slice (some ⟨w.heap.size,0,none⟩) (n+1) (n+1))∧w2.cell? ⟨w.heap.size,j,none⟩=some (.string (B x))∧w2.frozen? ⟨w.heap.size,j,none⟩=false from
       ⟨(hb2.cell (p:=⟨H.kt,1,none⟩) y0).trans dk,(hb2.cell (p:=⟨w.heap.size,j,none⟩) y1).trans dp,(hb2.frozen (p:=⟨w.heap.size,j,none⟩) y1).trans (HGF.out j)⟩)
      go_wp2_with fail
      go_region_with (first
       | (go_at_call 65;refine (HM1.out _ hEd hed).mono ?_;rintro e w2 ⟨rfl,hb2⟩;obtain ⟨l0,l1,l2⟩:=HL.out w2 hb2)
       | (go_at_call 64;refine (HM2.out _ (HED.out _ hb2).1 (HED.out _ hb2).2).mono ?_;rintro e w3 ⟨rfl,hb3⟩;have hb4:=below_lift3 hb2 hb3;obtain ⟨m0,m1,m2⟩:=HL.out w3 hb4))
      all_goals
       have b2:=below_lift3 hbd hb4
       have hM2:=HSO.out w3 ((HOW.out.below (below_drew (Below.refl _ _))).below hb4)
       go_wp2_with fail
       go_roundw
       case rel=>exact ⟨j+1,_,by omega,by go_num,by rw [← strs_set];exact hM2,HNX.out,(hkk.below ((Below.refl _ wr).drew.trans hb4)).store _ _,b2.setCell (Nat.le_trans hB hBs) _⟩
       case measure=>simp [intOf];omega
     ·have hjx:¬ (j:Int)<(n:Int)+1:=by omega
      have HN2:=Lib.hid (show TxL (n+1) (PrP D1 cst T (fun l=>bs.getD l 0) (i+1)) ps from htx.imp fun x hx u h=>by rw [if_pos (by omega)] at h;exact h)
      have HOW:=Lib.hid hown
      clear htx hown
      go_wp2_with fail
      go_roundw
      case rel=>exact ⟨i+1,ps,by omega,by go_num,HOW.out,HN2.out,hkk,hb0⟩
      case measure=>simp [intOf];omega
  ·have him:i=m:=by omega
   have hix:¬ (i:Int)<(m:Int):=by omega
   have HX2:=Lib.hid (show TxL (n+1) (PrP D1 cst T (fun l=>bs.getD l 0) m) pr by rw [him] at htx;exact htx)
   have hMf:=HM4.out.price (w':=wr) (g:=w.heap.size) (r:=pr) rfl (hown.mono hBs) hkk
   have hset:(M ++ [cs ++ [[48]]]).set m pr=M ++ [pr]:=by rw [← hml,List.set_append_right _ _ (Nat.le_refl _),Nat.sub_self];rfl
   rw [hset] at hMf
   have HMF:=Lib.hid hMf
   clear him htx hown HTX hMf hset
   have hsf:=Nat.le_trans HSZ4.out hkk.1
   go_wp2_with fail
   go_end0
   exact ⟨rfl,⟨some ⟨w.heap.size,0,none⟩,n+1,pr,HMF.out,HX2.out⟩,hb0,hsf⟩
end Go.Proofs.YtmppmdmekomjbaaGreatDoor
namespace Go.Proofs.YtmppmdmekomjbaaGreatDoor
open Go.RowKit Num
set_option linter.unusedVariables false
def KeptA (A:Option Addr) (w w':World):Prop:=w.heap.size≤w'.heap.size∧∀ k,k<w.heap.size→A≠some ⟨k,0,none⟩→w'.heap[k]? = w.heap[k]?
def FreshA (A A':Option Addr) (w:World):Prop:=A'=A∨∃ g,w.heap.size≤g∧A'=some ⟨g,0,none⟩
section
variable {P:Program} {ops:Array Oper} {rest:List Oper} {o:Oper} {a:Act} {Q:Exit→Act→World→Prop}
theorem wp_app1f {t e:TypeId} {z:Value} {bytes:Nat} (he:Elem P t e z bytes) (hgd:o.guard=none) (s x:Operand) (ho:o.op=.call { callee:=.builtin .append,args:=#[s,x],argTypes:=#[t,t] })
  (Bs:Nat) (A:Option Addr) (n c:Nat) (xs:List Value) (w:World) (u:Value) (hs:a.eval s=.slice A n c) (hown:OwnS w Bs e A n c xs)
  (hx:a.eval x=.slice (some ⟨w.heap.size,0,none⟩) 1 1) (h1:u.oneCell'=true) (h63:n+1≤maxLen) (hby:(n+1)*bytes≤140737488355328) (hbase:Bs≤w.heap.size)
  (h:∀ A' c' w',OwnS w' Bs e A' (n+1) c' (xs ++ [u])→Below Bs w w'→KeptA A w w'→FreshA A A' w→wpList P ops Q rest (a.put o.dst (.slice A' (n+1) c')) w') :
  wpList P ops Q (o :: rest) a (w.alloc (.cells #[u] e)):=by
 obtain ⟨ht,⟨i,hi,hz,hsz,hb⟩,hzs⟩:=he
 have hown':(w.alloc (.cells #[u] e)).ownsRow Bs e 1 (.slice A n c) n xs:=hown.alloc _
 have hnews:∀ j v,[u][j]? = some v→(w.alloc (.cells #[u] e)).cell? ((⟨w.heap.size,0,none⟩:Addr).add j)=some v:=by
  intro j v hj
  match j,hj with
  | 0,hj=>simp at hj;subst hj;simp [Addr.add]
 have h1':∀ v ∈ [u],v.oneCell'=true:=by simpa using h1
 obtain ⟨v',w',hr,h2,h3,h4⟩:=run_append_own (P:=P) (w.alloc (.cells #[u] e)) Bs t o.type e i z 1 bytes ht hi hz hsz hb hzs (by decide) (.slice A n c) n xs hown' ⟨w.heap.size,0,none⟩ 1 1 [u] rfl hnews h1' h63 hby (by simp;omega)
 have hne:v'≠.slice none 0 0:=by intro e;have:=(h4.1 e).2;omega
 obtain ⟨g,cap,hv⟩:∃ g cap,v'=.slice (some ⟨g,0,none⟩) (n+1) cap:=by
  rcases h2.2 with ⟨hv,_⟩ | ⟨g,cap,cur,hv,_⟩
  ·exact absurd hv hne
  ·exact ⟨g,cap,hv⟩
 have hfr:FreshA A (some ⟨g,0,none⟩) w:=by
  rcases hown'.2 with ⟨hv0,hn0⟩ | ⟨g0,cap0,cur0,hv0,_,hg0,_,_,hcs,htake⟩
  ·injection hv0 with e1 e2 e3
   subst e1 e2 e3
   have hr':=run_append_nil (P:=P) (w.alloc (.cells #[u] e)) t o.type e i z ht hi hz ⟨w.heap.size,0,none⟩ 1 1 [u] (by rw [hsz];rfl) hnews (by omega) (by omega) (by rw [hb];simp at hby;omega)
   rw [hr'] at hr
   injection hr with hr _
   rw [hv] at hr
   injection hr with hr _ _
   exact .inr ⟨g,by injection hr with hr;injection hr with hr _ _;rw [← hr];simp,rfl⟩
  ·injection hv0 with e1 e2 e3
   subst e1 e3
   by_cases hroom:n+1≤c
   ·have hr':=run_append_room (P:=P) (w.alloc (.cells #[u] e)) t o.type e i ht hi g0 n c cur0 hg0 ⟨w.heap.size,0,none⟩ 1 1 [u] (by rw [hsz];rfl) hnews h1' hroom (by rw [hsz,hcs];simp;omega)
    rw [hr'] at hr
    injection hr with hr _
    rw [hv] at hr
    injection hr with hr _ _
    exact .inl hr.symm
   ·have holds:∀ j v,xs[j]? = some v→(w.alloc (.cells #[u] e)).cell? ((⟨g0,0,none⟩:Addr).add j)=some v:=World.ownsRow.cells hown' (g:=g0) rfl
    have hr':=run_append_grow (P:=P) (w.alloc (.cells #[u] e)) t o.type e i z ht hi hz ⟨g0,0,none⟩ n c xs (by rw [hsz];exact hown'.1) holds ⟨w.heap.size,0,none⟩ 1 1 [u] (by rw [hsz];rfl) hnews (by omega) (by unfold maxLen at h63;omega) (by rw [hb];exact growslice_fits (by omega) hby)
    rw [hr'] at hr
    injection hr with hr _
    rw [hv] at hr
    injection hr with hr _ _
    exact .inr ⟨g,by injection hr with hr;injection hr with hr _ _;rw [← hr];simp,rfl⟩
 refine wpList_plain hgd fun K hK=>?_
 unfold Oper.wp execOp
 simp only [ho,resolve,invoke,builtin,Sem.run_bind,Sem.run_pure,Result.andThen_ok,List.map_toArray,List.map_cons,List.map_nil,hs,hx,hr]
 subst hv
 refine hK _ _ (h _ _ _ h2 ?_ ⟨?_,?_⟩ hfr)
 ·refine ((Below.refl _ _).alloc hbase _).grown h3 (by simp;omega) ?_
  intro k hk
  rcases hown.2 with ⟨hv,_⟩ | ⟨g',cap',cur',hv,hg',_⟩
  ·rw [hv] at hk;simp [Value.ownBlock] at hk
  ·rw [hv] at hk;simp [Value.ownBlock] at hk;omega
 ·have:=h3.size
  simp at this
  omega
 ·intro k hk hA
  have hne2:some k≠(Value.slice A n c).ownBlock:=by
   rcases hown.2 with ⟨hv,_⟩ | ⟨g',cap',cur',hv,hg',_⟩
   ·rw [hv];simp [Value.ownBlock]
   ·injection hv with hv1 _ _
    rw [hv1]
    intro e
    have:k=g':=by simpa [Value.ownBlock] using e
    exact hA (by rw [hv1,this])
  rw [h3.block k (by simp;omega) hne2]
  show (w.heap.push _)[k]? = _
  rw [Array.getElem?_push_lt hk,Array.getElem?_eq_getElem hk]
end
theorem KeptA.own {A:Option Addr} {w w':World} {Bs Bs' n c n' c':Nat} {e e':TypeId} {X:Option Addr} {xs ys:List Value} (h:KeptA A w w') (hA:OwnS w Bs' e' A n' c' ys) (hX:OwnS w Bs e X n c xs) (he:e≠e'):OwnS w' Bs e X n c xs :=
 hX.keep fun b hb=>h.2 b (by subst hb;exact hX.typ.2.1) fun hA2=>by
  subst hb
  exact (hX.mono (Bs':=0) (Nat.zero_le _)).ne (hA.mono (Bs':=0) (Nat.zero_le _)) he hA2
theorem KeptA.own2 {A:Option Addr} {w w':World} {Bs n c:Nat} {e:TypeId} {X:Option Addr} {xs:List Value} (h:KeptA A w w') (hX:OwnS w Bs e X n c xs) (he:∀ g,X=some g→A≠some g):OwnS w' Bs e X n c xs :=
 hX.keep fun b hb=>h.2 b (by subst hb;exact hX.typ.2.1) fun hA2=>he _ hb hA2
section
variable {w w1:World} {Bs:Nat} {H:SxH} {pv:Value} {vars cols:Nat} {M:List (List Str)} {bs us:List Nat} {tv:List Bool} {A':Option Addr} {c':Nat}
theorem setCell_own {w:World} {kt i:Nat} {v:Value} {e:TypeId} {X:Option Addr} {n c:Nat} {xs:List Value} {l:Array Value} {e':TypeId} {z:Nat × Nat} (hX:OwnS w Bs e X n c xs) (h:w.heap[kt]? = some (.cells l e' z)) (he:e≠e'):OwnS (w.setCell ⟨kt,i,none⟩ v) Bs e X n c xs :=
 hX.kept ((KeptB.refl kt w).store i v) (hX.not h he)
theorem SxB.appRow (h:SxB w Bs H pv vars cols M bs us tv) {gr cr cR:Nat} {r:List Str} (hrow:OwnS w Bs 29 (some ⟨gr,0,none⟩) r.length cR (strs r)) (hcr:r.length≤cr∧cr≤maxLen) (hfr:∀ i,i<M.length→H.hA i≠some ⟨gr,0,none⟩)
  (hown:OwnS w1 Bs 28 A' (M.length+1) c' (hdrs H.hA H.hC M ++ [.slice (some ⟨gr,0,none⟩) r.length cr])) (hk:KeptA H.A w w1) :
  SxB (w1.setCell ⟨H.kt,0,none⟩ (.slice A' (M.length+1) c')) Bs { H with A:=A',c:=c',hA:=fun i=>if i=M.length then some ⟨gr,0,none⟩ else H.hA i,hC:=fun i=>if i=M.length then cr else H.hC i,hR:=fun i=>if i=M.length then cR else H.hR i } pv vars cols (M ++ [r]) bs us tv:=by
 have ho1:=(hk.2 H.kt h.lt (h.mat.outer.not h.obj (by decide))).trans h.obj
 have hrows:∀ i,i<M.length+1→OwnS w1 Bs 29 (if i=M.length then some ⟨gr,0,none⟩ else H.hA i) ((M ++ [r]).getD i []).length (if i=M.length then cR else H.hR i) (strs ((M ++ [r]).getD i [])):=by
  intro i hi
  by_cases e:i=M.length
  ·rw [if_pos e,if_pos e,e,List.getD_eq_getElem?_getD,List.getElem?_append_right (Nat.le_refl _),Nat.sub_self]
   exact hk.own h.mat.outer hrow (by decide)
  ·rw [if_neg e,if_neg e,List.getD_eq_getElem?_getD,List.getElem?_append_left (by omega),← List.getD_eq_getElem?_getD]
   exact hk.own h.mat.outer (h.mat.rows i (by omega)) (by decide)
 have hdr:hdrs (fun i=>if i=M.length then some (⟨gr,0,none⟩:Addr) else H.hA i) (fun i=>if i=M.length then cr else H.hC i) (M ++ [r])=hdrs H.hA H.hC M ++ [.slice (some ⟨gr,0,none⟩) r.length cr]:=by
  apply List.ext_getElem?
  intro i
  by_cases hi:i<M.length+1
  ·rw [hdrs_get _ _ _ (by rw [List.length_append];exact hi)]
   by_cases e:i=M.length
   ·rw [List.getElem?_append_right (by rw [hdrs_length];omega),hdrs_length,e,Nat.sub_self,if_pos rfl,if_pos rfl,List.getD_eq_getElem?_getD,List.getElem?_append_right (Nat.le_refl _),Nat.sub_self];rfl
   ·rw [List.getElem?_append_left (by rw [hdrs_length];omega),hdrs_get _ _ _ (by omega),if_neg e,if_neg e,List.getD_eq_getElem?_getD,List.getElem?_append_left (by omega),← List.getD_eq_getElem?_getD]
  ·rw [List.getElem?_eq_none (by rw [hdrs_length,List.length_append];simp;omega),List.getElem?_eq_none (by rw [List.length_append,hdrs_length];simp;omega)]
 refine ⟨h.base,?_,⟨?_,fun i hi=>?_,fun i hi=>?_,fun i j hi hj hij g hg=>?_,fun i hi g hg=>?_⟩,?_,?_,?_,h.bu⟩
 ·show (w1.setCell ⟨H.kt,0,none⟩ _).heap[H.kt]? = _
  rw [heap_setCell_at ho1,List.length_append];rfl
 ·rw [hdr,List.length_append]
  exact setCell_own hown ho1 (by decide)
 ·rw [List.length_append] at hi
  exact setCell_own (hrows i hi) ho1 (by decide)
 ·rw [List.length_append] at hi
  show ((M ++ [r]).getD i []).length≤(if i=M.length then cr else H.hC i)∧(if i=M.length then cr else H.hC i)≤maxLen
  by_cases e:i=M.length
  ·rw [if_pos e,e,List.getD_eq_getElem?_getD,List.getElem?_append_right (Nat.le_refl _),Nat.sub_self];exact hcr
  ·rw [if_neg e,List.getD_eq_getElem?_getD,List.getElem?_append_left (by have:=hi;simp at this;omega),← List.getD_eq_getElem?_getD]
   exact h.mat.caps i (by have:=hi;simp at this;omega)
 ·rw [List.length_append] at hi hj
  have hi:i<M.length+1:=hi
  have hj:j<M.length+1:=hj
  have hg:(if i=M.length then some (⟨gr,0,none⟩:Addr) else H.hA i)=some g:=hg
  show (if j=M.length then some (⟨gr,0,none⟩:Addr) else H.hA j)≠some g
  by_cases e1:i=M.length
  ·rw [if_pos e1] at hg
   rw [if_neg (by omega),← hg]
   exact hfr j (by omega)
  ·rw [if_neg e1] at hg
   by_cases e2:j=M.length
   ·rw [if_pos e2,← hg]
    exact (hfr i (by omega)).symm
   ·rw [if_neg e2]
    exact h.mat.apart i j (by omega) (by omega) hij g hg
 ·rw [List.length_append] at hi
  have h1:=hrows i hi
  have hg:(if i=M.length then some (⟨gr,0,none⟩:Addr) else H.hA i)=some g:=hg
  show A'≠some g
  intro hA
  have hg2:=hg
  rw [hg] at h1
  rcases h1.2 with ⟨hv,_⟩ | ⟨g',cap,cur,hv,_,_⟩
  ·injection hv with hv _ _;cases hv
  ·injection hv with hv _ _
   injection hv with hv
   subst hv
   exact h1.ne hown (by decide) hA
 ·exact setCell_own (hk.own h.mat.outer h.bas (by decide)) ho1 (by decide)
 ·exact setCell_own (hk.own h.mat.outer h.uni (by decide)) ho1 (by decide)
 ·exact setCell_own (hk.own h.mat.outer h.tur (by decide)) ho1 (by decide)
theorem MatX.keptA {A:Option Addr} {c n' c':Nat} {hA:Nat→Option Addr} {hC hR:Nat→Nat} {X:Option Addr} {ys:List Value} {e':TypeId} (h:MatX w Bs A c hA hC hR M) (hX:OwnS w Bs e' X n' c' ys) (h1:28≠e') (h2:29≠e') (hk:KeptA X w w1):MatX w1 Bs A c hA hC hR M :=
 ⟨hk.own hX h.outer h1,fun i hi=>hk.own hX (h.rows i hi) h2,h.caps,h.apart,h.apart0⟩
theorem MatX.set {A:Option Addr} {c kt i:Nat} {v:Value} {hA:Nat→Option Addr} {hC hR:Nat→Nat} {l:Array Value} {e':TypeId} {z:Nat × Nat} (h:MatX w Bs A c hA hC hR M) (ho:w.heap[kt]? = some (.cells l e' z)) (h1:28≠e') (h2:29≠e'):MatX (w.setCell ⟨kt,i,none⟩ v) Bs A c hA hC hR M :=
 ⟨setCell_own h.outer ho h1,fun i hi=>setCell_own (h.rows i hi) ho h2,h.caps,h.apart,h.apart0⟩
theorem own_lt {w:World} {e:TypeId} {n c g:Nat} {xs:List Value} (h:OwnS w Bs e (some ⟨g,0,none⟩) n c xs):g<w.heap.size:=h.typ.2.1
theorem fresh_bu {X X' U:Option Addr} {e:TypeId} {n c:Nat} {xs:List Value} (hU:OwnS w Bs e U n c xs) (hf:FreshA X X' w) (h0:∀ g,X=some g→U≠some g):∀ g,X'=some g→U≠some g:=by
 intro g hg hU2
 rcases hf with e | ⟨g',h1,e⟩
 ·rw [e] at hg;exact h0 g hg hU2
 ·rw [e] at hg
  injection hg with hg
  rw [← hg] at hU2
  rw [hU2] at hU
  have:=own_lt hU
  omega
theorem SxB.appBase (h:SxB w Bs H pv vars cols M bs us tv) {x:Nat} (hown:OwnS w1 Bs 3 A' (bs.length+1) c' (nums (bs ++ [x]))) (hk:KeptA H.Bb w w1) (hf:FreshA H.Bb A' w) :
  SxB (w1.setCell ⟨H.kt,2,none⟩ (.slice A' (bs.length+1) c')) Bs { H with Bb:=A',cb:=c' } pv vars cols M (bs ++ [x]) us tv:=by
 have ho1:=(hk.2 H.kt h.lt (h.bas.not h.obj (by decide))).trans h.obj
 refine ⟨h.base,?_,(h.mat.keptA h.bas (by decide) (by decide) hk).set ho1 (by decide) (by decide),?_,?_,setCell_own (hk.own h.bas h.tur (by decide)) ho1 (by decide),fresh_bu h.uni hf h.bu⟩
 ·show (w1.setCell ⟨H.kt,2,none⟩ _).heap[H.kt]? = _
  rw [heap_setCell_at ho1,List.length_append];rfl
 ·rw [List.length_append];exact setCell_own hown ho1 (by decide)
 ·exact setCell_own (hk.own2 h.uni (fun g h1 h2=>h.bu g h2 h1)) ho1 (by decide)
theorem SxB.appUnit (h:SxB w Bs H pv vars cols M bs us tv) {x:Nat} (hown:OwnS w1 Bs 3 A' (us.length+1) c' (nums (us ++ [x]))) (hk:KeptA H.U w w1) (hf:FreshA H.U A' w) :
  SxB (w1.setCell ⟨H.kt,3,none⟩ (.slice A' (us.length+1) c')) Bs { H with U:=A',cu:=c' } pv vars cols M bs (us ++ [x]) tv:=by
 have ho1:=(hk.2 H.kt h.lt (h.uni.not h.obj (by decide))).trans h.obj
 refine ⟨h.base,?_,(h.mat.keptA h.uni (by decide) (by decide) hk).set ho1 (by decide) (by decide),?_,?_,setCell_own (hk.own h.uni h.tur (by decide)) ho1 (by decide),fun g h1 h2=>fresh_bu h.bas hf (fun g h1 h2=>h.bu g h2 h1) g h2 h1⟩
 ·show (w1.setCell ⟨H.kt,3,none⟩ _).heap[H.kt]? = _
  rw [heap_setCell_at ho1,List.length_append];rfl
 ·exact setCell_own (hk.own2 h.bas (fun g h1 h2=>h.bu g h1 h2)) ho1 (by decide)
 ·rw [List.length_append];exact setCell_own hown ho1 (by decide)
theorem SxB.appTurn (h:SxB w Bs H pv vars cols M bs us tv) {x:Bool} (hown:OwnS w1 Bs 4 A' (tv.length+1) c' (boolsV (tv ++ [x]))) (hk:KeptA H.V w w1) :
  SxB (w1.setCell ⟨H.kt,4,none⟩ (.slice A' (tv.length+1) c')) Bs { H with V:=A',cv:=c' } pv vars cols M bs us (tv ++ [x]):=by
 have ho1:=(hk.2 H.kt h.lt (h.tur.not h.obj (by decide))).trans h.obj
 refine ⟨h.base,?_,(h.mat.keptA h.tur (by decide) (by decide) hk).set ho1 (by decide) (by decide),setCell_own (hk.own h.tur h.bas (by decide)) ho1 (by decide),setCell_own (hk.own h.tur h.uni (by decide)) ho1 (by decide),?_,h.bu⟩
 ·show (w1.setCell ⟨H.kt,4,none⟩ _).heap[H.kt]? = _
  rw [heap_setCell_at ho1,List.length_append];rfl
 ·rw [List.length_append];exact setCell_own hown ho1 (by decide)
end
end Go.Proofs.YtmppmdmekomjbaaGreatDoor
namespace Go.Proofs.YtmppmdmekomjbaaGreatDoor
open Go.ChangeShapes Go.WideShapes Go.RowKit Num
set_option linter.unusedVariables false
attribute [local go_sem] B_size B_get B_toList B_mk B_extract B_append
theorem sxsigned_any (kt:Nat) (s z:Int) (w:World) (hs:s=1∨s = -1) (hz:dl z≤18) (hk:ErrAt w kt) (he:Env w) :
  Calls Tryz.prog 62 #[.pointer (some ⟨kt,0,none⟩),.int .i64 s,.int .i64 z] w fun e w'=>e=.returned (.string (B (decI (s*z))))∧Below w.heap.size w w':=by
 have hft:fits z:=by
  have:=(dl_le (z:=z) (k:=18) (by omega)).1 hz
  constructor <;> omega
 have hF:FrD 18 1 (decI z):=⟨z,1,by decide,hz,by decide +kernel,(low_int z).symm⟩
 have hsb:=(fr_small (.inl rfl):FrD 1 1 [48]).sub hF (by omega) (by omega)
 have hz2:=sub_zero_of (fr_small (.inl rfl):FrD 1 1 [48]) hF (by omega) (by omega)
 have hF2:FrD 18 1 (decI (-z)):=⟨-z,1,by decide,by rw [dl_neg];exact hz,by decide +kernel,(low_int _).symm⟩
 have hneg:subQS [48] (decI z)=decI (-z):=by
  refine rq_inj (hsb.2.1.right (by omega) (by omega)) (hF2.right (by omega) (by omega)) ?_
  rw [hsb.2.2,rq_int,rq_int,rq_zero,Rat.intCast_neg];grind
 have HO:=Lib.hid (qof_any z w hft he.1)
 have hlz:=frx_len (hF.mono (n':=18) (d':=18) (by omega) (by omega))
 have HS:=Lib.hid (fun (w:World) (hk:ErrAt w kt) (he:Env w)=>sxsub_any kt [48] (decI z) w (by simp) (by omega) hsb.1 hz2 hk he)
 rw [hneg] at HS
 have HK:=Lib.hid hk
 have HE:=Lib.hid he
 clear hft hF hF2 hsb hz2 hneg hlz hk he hz
 rcases hs with rfl | rfl
 ·have hs2:(1:Int)*z=z:=by omega
  rw [hs2]
  generalize decI z=a at *
  clear HS hs2
  go_enter Tryz.func62,Tryz.ntmps62
  go_wp2_with fail
  refine HO.out.mono ?_
  rintro e w1 ⟨rfl,hb1⟩
  go_wp2_with fail
  go_ret
  exact ⟨rfl,hb1⟩
 ·have hs2:(-1:Int)*z = -z:=by omega
  rw [hs2]
  generalize decI (-z)=b at *
  generalize decI z=a at *
  clear hs2
  go_enter Tryz.func62,Tryz.ntmps62
  simp only [B_mk]
  go_wp2_with fail
  refine HO.out.mono ?_
  rintro e w1 ⟨rfl,hb1⟩
  go_wp2_with fail
  refine (HS.out w1 (HK.out.below hb1) (HE.out.below hb1)).mono ?_
  rintro e w2 ⟨rfl,hb2⟩
  go_wp2_with fail
  go_ret
  exact ⟨rfl,below_lift3 hb1 hb2⟩
def RowA (p:LinL) (i q:Nat) (j:Nat) (s:Str):Prop:=s=if j<q then decI (R0 p i j) else [48]
theorem bool_info:(Tryz.prog.info? 4).map (fun i=>(i.zero,i.size,i.bytes))=some (some (.bool false),1,1):=by kernel_rfl
theorem el_bool:Elem Tryz.prog 59 4 (.bool false) 1:=⟨Tryz.underlying59,info_parts bool_info,rfl⟩
theorem bint_info:(Tryz.prog.info? 3).map (fun i=>(i.zero,i.size,i.bytes))=some (some (.int .i64 0),1,8):=by kernel_rfl
theorem el_bint:Elem Tryz.prog 22 3 (.int .i64 0) 8:=⟨Tryz.underlying22,info_parts bint_info,rfl⟩
theorem nums_snoc_b (ys:List Nat) (x:Nat):nums ys ++ [.int .i64 (x:Int)]=nums (ys ++ [x]):=by simp [nums]
theorem bools_snoc_b (ys:List Bool) (x:Bool):boolsV ys ++ [.bool x]=boolsV (ys ++ [x]):=by simp [boolsV]
structure BuP (p:LinL) (q:Nat) (M:List (List Str)) (bs us:List Nat) (tv:List Bool):Prop where
 ml:M.length=q
 bl:bs.length=q
 ul:us.length=q
 tl:tv.length=q
 be:∀ i,i<q→bs.getD i 0=colI p+i
 ue:∀ i,i<q→us.getD i 0=colI p+i
 te:∀ i,i<q→tv.getD i false=decide ((Num.rowAt p i).right<0)
 re:∀ i,i<q→TxL (colI p+p.rows.length+1) (fun j s=>s=decI (R0 p i j)) (M.getD i [])
theorem getD_snoc {α:Type} {l:List α} {x d:α} {q i:Nat} (hl:l.length=q) (hi:i<q+1):(l ++ [x]).getD i d=if i=q then x else l.getD i d:=by
 rw [List.getD_eq_getElem?_getD]
 by_cases e:i=q
 ·rw [if_pos e,List.getElem?_append_right (by omega),hl,e,Nat.sub_self];rfl
 ·rw [if_neg e,List.getElem?_append_left (by omega),← List.getD_eq_getElem?_getD]
theorem BuP.next {p:LinL} {q:Nat} {M:List (List Str)} {bs us:List Nat} {tv:List Bool} (h:BuP p q M bs us tv) {r:List Str} (hr:TxL (colI p+p.rows.length+1) (fun j s=>s=decI (R0 p q j)) r):BuP p (q+1) (M ++ [r]) (bs ++ [colI p+q]) (us ++ [colI p+q]) (tv ++ [decide ((Num.rowAt p q).right<0)]):=by
 refine ⟨by rw [List.length_append,h.ml];rfl,by rw [List.length_append,h.bl];rfl,by rw [List.length_append,h.ul];rfl,by rw [List.length_append,h.tl];rfl,fun i hi=>?_,fun i hi=>?_,fun i hi=>?_,fun i hi=>?_⟩
 ·rw [getD_snoc h.bl hi];split
  ·rename_i e;rw [e]
  ·exact h.be i (by omega)
 ·rw [getD_snoc h.ul hi];split
  ·rename_i e;rw [e]
  ·exact h.ue i (by omega)
 ·rw [getD_snoc h.tl hi];split
  ·rename_i e;rw [e]
  ·exact h.te i (by omega)
 ·rw [getD_snoc h.ml hi];split
  ·rename_i e;rw [e];exact hr
  ·exact h.re i (by omega)
theorem own_made2 (w:World) (Bs n:Nat) (hn:n≤1000000) (hs:Bs≤w.heap.size):OwnS (w.alloc (.cells (madeCells #[.string (B [])] (n+1)) 29)) Bs 29 (some ⟨w.heap.size,0,none⟩) n (n+1) (strs (List.replicate n [])):=by
 have hl:(madeCells #[.string (B [])] (n+1)).size=n+1:=by rw [← Array.length_toList,toList_madeCells_one,List.length_replicate]
 refine ⟨by unfold strs;simp,.inr ⟨w.heap.size,n+1,_,rfl,hs,row_new,by omega,by unfold maxLen;omega,by rw [hl,Nat.mul_one],?_⟩⟩
 rw [toList_madeCells_one,Nat.mul_one,strs_rep]
 unfold strs
 simp
theorem sl_succ {rs:List RowV} {i:Nat} (h:i<rs.length):slN ((rs.map (·.L)).take (i+1))=slN ((rs.map (·.L)).take i)+if rs[i].L.kind≠2 then 1 else 0:=by
 rw [slN_take_succ (by simpa using h)];simp
theorem cell_heap {w:World} {g i:Nat} {l:Array Value} {e:TypeId} {z:Nat × Nat} (h:w.heap[g]? = some (.cells l e z)):w.cell? ⟨g,i,none⟩=l[i]? := by unfold World.cell?;simp only [h];rfl
theorem SxB.err {w:World} {Bs:Nat} {H:SxH} {pv:Value} {vars cols:Nat} {M:List (List Str)} {bs us:List Nat} {tv:List Bool} (h:SxB w Bs H pv vars cols M bs us tv):ErrAt w H.kt:=⟨h.cell 7,free_of_heap h.obj 7,h.lt⟩
theorem decI_z0:decI 0=[48]:=decI_zero
theorem decI_o1:decI 1=[49]:=by decide +kernel
theorem RowA.up {p:LinL} {i q q' W:Nat} {xs:List Str} (h:TxL W (RowA p i q) xs) (hq:q≤q') (hz:∀ x,q≤x→x<q'→R0 p i x=0):TxL W (RowA p i q') xs:=h.imp fun x hx u hu=>by
 unfold RowA at *
 by_cases e:x<q
 ·rw [if_pos e] at hu;rw [if_pos (by omega)];exact hu
 ·rw [if_neg e] at hu
  by_cases e2:x<q'
  ·rw [if_pos e2,hz x (by omega) e2,decI_z0];exact hu
  ·rw [if_neg e2];exact hu
theorem RowA.put {p:LinL} {i q q' W j:Nat} {s:Str} {xs:List Str} (h:TxL W (RowA p i q) xs) (hq:q≤q') (hj:j<q') (hs:s=decI (R0 p i j)) (hz:∀ x,q≤x→x<q'→x≠j→R0 p i x=0):TxL W (RowA p i q') (xs.set j s):=h.set (by unfold RowA;rw [if_pos hj];exact hs) fun x hx hne u hu=>by
 unfold RowA at *
 by_cases e:x<q
 ·rw [if_pos e] at hu;rw [if_pos (by omega)];exact hu
 ·rw [if_neg e] at hu
  by_cases e2:x<q'
  ·rw [if_pos e2,hz x (by omega) e2 hne,decI_z0];exact hu
  ·rw [if_neg e2];exact hu
set_option maxHeartbeats 8000000 in
set_option maxRecDepth 100000 in
theorem sxbuild_any (cost:List Int) (rs:List RowV) (A:Option Addr) (ca:Nat) (R:Option Addr) (cr:Nat) (w:World) (hp:LinAt w cost rs A ca R cr) (hw:∀ r ∈ rs,r.L.coef.length=cost.length) (hsm:SmallL 18 18 (linOf cost rs)) (hn:cost.length≤300) (hm:rs.length≤300) (he:Env w) :
  Calls Tryz.prog 23 #[linV A cost.length ca R rs.length cr] w fun e w'=>∃ (H:SxH) (M:List (List Str)) (bs us:List Nat) (tv:List Bool),e=.returned (.pointer (some ⟨H.kt,0,none⟩))∧SxB w' w.heap.size H (.slice none 0 0) cost.length (colI (linOf cost rs)) M bs us tv∧BuP (linOf cost rs) rs.length M bs us tv∧Below w.heap.size w w':=by
 have hla:=hp.la
 have hlr:=hp.lr
 unfold maxLen at hla hlr
 have b0:=new_below w (linO A cost.length ca R rs.length cr)
 have HP:=Lib.hid hp
 have HW:=Lib.hid hw
 have HSM:=Lib.hid hsm
 have HE:=Lib.hid he
 clear hp hw hsm he
 go_enter Tryz.func23,Tryz.ntmps23
 simp only [B_mk]
 go_upto_region 1 with fail
 go_quiet (fail)
 go_wp2_with fail
 have bq:=below_drewN (Below.refl (w.alloc (linO A cost.length ca R rs.length cr)).heap.size (w.alloc (linO A cost.length ca R rs.length cr))) nq
 obtain ⟨q0,q1,q2⟩:=lin_cells bq
 go_wp2_with fail
 clear q0 q1 q2
 go_loopw [5,7,29] (fun s _ i wr=>∃ k:Nat,k≤rs.length∧i=.int .i64 k∧s=.int .i64 (slN ((rs.map (·.L)).take k):Nat)∧Below (w.alloc (linO A cost.length ca R rs.length cr)).heap.size (w.alloc (linO A cost.length ca R rs.length cr)) wr) (fun _ _ i _=>rs.length - (intOf i).toNat)
 case atStart=>exact ⟨0,Nat.zero_le _,rfl,rfl,bq⟩
 case round =>
  clear bq
  obtain ⟨k,hk,rfl,rfl,hbl⟩:=hrel
  have hbw:=b0.trans (hbl.mono b0.size)
  by_cases hlt:k<rs.length
  ·obtain ⟨bR,oR,rfl,hbR,hcR⟩:=HP.out.rows.at (by omega)
   have hc0:=(hbw.cell (p:=⟨bR,oR+k*3,none⟩) hbR).trans (hcR k hlt).1
   have hc1:=(hbw.cell (p:=⟨bR,oR+k*3+1,none⟩) hbR).trans (hcR k hlt).2.1
   have hc2:=(hbw.cell (p:=⟨bR,oR+k*3+2,none⟩) hbR).trans (hcR k hlt).2.2
   have hks:=sl_succ hlt
   have HKS:=Lib.hid hks
   clear hcR hks
   generalize rs[k]=r at *
   have n1:=new_below wr (.cells #[.slice r.A r.L.coef.length r.c,.int .i64 r.L.kind,.int .i64 r.L.right] 45)
   have hb2:=hbl.trans (n1.mono hbl.size)
   by_cases hq:r.L.kind=2
   ·have hq':(r.L.kind != 2)=false:=by simpa using hq
    have HN:=Lib.hid (show slN ((rs.map (·.L)).take (k+1))=slN ((rs.map (·.L)).take k) by rw [HKS.out,if_neg (fun h=>h hq)];rfl)
    clear hq
    go_wp2_with fail
    go_roundw
    case rel=>exact ⟨k+1,by omega,by go_num,by rw [HN.out],hb2⟩
    case measure=>simp [intOf];omega
   ·have hq':(r.L.kind != 2)=true:=by simpa using hq
    have HN:=Lib.hid (show slN ((rs.map (·.L)).take (k+1))=slN ((rs.map (·.L)).take k)+1 by rw [HKS.out,if_pos hq])
    have hsl:slN ((rs.map (·.L)).take k)≤rs.length:=Nat.le_trans (slN_len _) (by rw [List.length_take,List.length_map];omega)
    clear hq
    generalize slN ((rs.map (·.L)).take k)=sl at *
    go_wp2_with fail
    go_roundw
    case rel=>exact ⟨k+1,by omega,by go_num,by rw [HN.out];go_num,hb2⟩
    case measure=>simp [intOf];omega
  ·have hkm:k=rs.length:=by omega
   have hkx:¬ (k:Int)<(rs.length:Int):=by omega
   have hsl:slN ((rs.map (·.L)).take k)≤rs.length:=Nat.le_trans (slN_len _) (by rw [List.length_take,List.length_map];omega)
   have HCI:=Lib.hid (show cost.length+slN ((rs.map (·.L)).take k)=colI (linOf cost rs) by unfold colI linOf;rw [hkm,show rs.length=(rs.map (·.L)).length by simp,List.take_length])
   have HKM:=Lib.hid hkm
   clear hkm
   generalize slN ((rs.map (·.L)).take k)=sl at *
   have HPM:=Lib.hid (show (linOf cost rs).rows.length=rs.length from lin_rows cost rs)
   generalize hn':cost.length=n at *
   have HN:=Lib.hid hn'
   generalize hm':rs.length=m at *
   have HM:=Lib.hid hm'
   clear hn' hm'
   have hcI:(n:Int)+(sl:Int)=((n+sl:Nat):Int):=by omega
   generalize hce:n+sl=ci at *
   have hci:ci≤600:=by omega
   have HCE:=Lib.hid hce
   clear hce
   have hRR:(ci:Int)+(m:Int)=((ci+m:Nat):Int):=by omega
   generalize hre:ci+m=rr at *
   have hrr:rr≤900:=by omega
   have HRE:=Lib.hid hre
   clear hre
   have hW:(rr:Int)+1=((rr+1:Nat):Int):=by omega
   generalize hwe:rr+1=W at *
   have hW1:rr<W:=by omega
   have hW2:W≤901:=by omega
   have hW3:(W:Int) - 1=(rr:Int):=by omega
   have HWE:=Lib.hid hwe
   clear hwe
   have ww:=wrap_nat (n:=W) (by omega)
   have wc:=wrap_nat (n:=ci) (by omega)
   have wr2:=wrap_nat (n:=rr) (by omega)
   have n1:=new_below wr (.cells #[.slice none 0 0,.slice none 0 0,.slice none 0 0,.slice none 0 0,.slice none 0 0,.int .i64 ci,.int .i64 n,.int .i64 0] 61)
   have hb1:=hbl.trans (n1.mono hbl.size)
   obtain ⟨q0,q1,q2⟩:=lin_cells hb1
   have row1:=row_new (w:=wr) (o:=.cells #[.slice none 0 0,.slice none 0 0,.slice none 0 0,.slice none 0 0,.slice none 0 0,.int .i64 ci,.int .i64 n,.int .i64 0] 61)
   have hkx2:¬ (k:Int)<(m:Int):=hkx
   have k0:=(lin_cells hbl).1
   have k1:=(lin_cells hbl).2.1
   go_wp2_with fail
   have hkt1:w.heap.size≤wr.heap.size:=Nat.le_trans b0.size hbl.size
   have hS0:SxB (wr.alloc (.cells #[.slice none 0 0,.slice none 0 0,.slice none 0 0,.slice none 0 0,.slice none 0 0,.int .i64 ci,.int .i64 n,.int .i64 0] 61)) w.heap.size ⟨wr.heap.size,none,0,fun _=>none,fun _=>0,fun _=>0,none,0,none,0,none,0,none,0⟩ (.slice none 0 0) n ci [] [] [] [] :=
    ⟨hkt1,row1,⟨OwnS.nil _ _ _,fun i hi=>absurd hi (by simp),fun i hi=>absurd hi (by simp),fun i j hi=>absurd hi (by simp),fun i hi=>absurd hi (by simp)⟩,OwnS.nil _ _ _,OwnS.nil _ _ _,OwnS.nil _ _ _,fun g h=>by cases h⟩
   have HS0:=Lib.hid hS0
   have HB1:=Lib.hid hb1
   have hslk0:slkI (linOf cost rs) 0=n:=by show cost.length+slN []=n;rw [HN.out];rfl
   have HSK0:=Lib.hid hslk0
   clear row1 q0 q1 q2 k0 k1 hS0 hb1 n1 hslk0
   generalize wr.alloc (.cells #[.slice none 0 0,.slice none 0 0,.slice none 0 0,.slice none 0 0,.slice none 0 0,.int .i64 ci,.int .i64 n,.int .i64 0] 61)=w1 at *
   generalize wr.heap.size=kt at *
   go_loopw [10,11,12,13,14,15,16,17,18,19,55] (fun nx _ _ _ _ _ _ _ _ _ i wr=>∃ (q:Nat) (H:SxH) (M:List (List Str)) (bs us:List Nat) (tv:List Bool),q≤m∧i=.int .i64 q∧nx=.int .i64 (slkI (linOf cost rs) q:Nat)∧H.kt=kt∧SxB wr w.heap.size H (.slice none 0 0) n ci M bs us tv∧BuP (linOf cost rs) q M bs us tv∧Below w.heap.size w wr) (fun _ _ _ _ _ _ _ _ _ _ i _=>m - (intOf i).toNat)
   case atStart=>exact ⟨0,_,[],[],[],[],Nat.zero_le _,rfl,by rw [HSK0.out],rfl,HS0.out,⟨rfl,rfl,rfl,rfl,fun i hi=>absurd hi (Nat.not_lt_zero _),fun i hi=>absurd hi (Nat.not_lt_zero _),fun i hi=>absurd hi (Nat.not_lt_zero _),fun i hi=>absurd hi (Nat.not_lt_zero _)⟩,b0.trans (HB1.out.mono b0.size)⟩
   case round =>
    clear HS0 HB1 HSK0 hkt1
    obtain ⟨q,H,M,bs,us,tv,hq,rfl,rfl,hkt,hS,hB,hbw⟩:=hrel
    have HS:=Lib.hid hS
    have HB:=Lib.hid hB
    by_cases hlt:q<m
    ·obtain ⟨bR,oR,rfl,hbR,hcR⟩:=HP.out.rows.at (by rw [HM.out];omega)
     have hql:q<rs.length:=by rw [HM.out];exact hlt
     have hc0:=(hbw.cell (p:=⟨bR,oR+q*3,none⟩) hbR).trans (hcR q hql).1
     have hc1:=(hbw.cell (p:=⟨bR,oR+q*3+1,none⟩) hbR).trans (hcR q hql).2.1
     have hc2:=(hbw.cell (p:=⟨bR,oR+q*3+2,none⟩) hbR).trans (hcR q hql).2.2
     have hrl:rs[q].L.coef.length=n:=HW.out _ (List.getElem_mem hql)
     have hra:Num.rowAt (linOf cost rs) q=rs[q].L:=lin_rowAt cost rs q hql
     have hok:=HP.out.ok rs[q] (List.getElem_mem hql)
     have hcc:=HP.out.rows.2 rs[q] (List.getElem_mem hql)
     have hsr:=HSM.out.right rs[q].L (by show _ ∈ rs.map (·.L);exact List.mem_map_of_mem (List.getElem_mem hql))
     have hsc:=HSM.out.coef rs[q].L (by show _ ∈ rs.map (·.L);exact List.mem_map_of_mem (List.getElem_mem hql))
     have hks:=sl_succ hql
     have HKS:=Lib.hid hks
     have hrc1:=hok.1
     have hrc2:=hok.2.1
     unfold maxLen at hrc2
     rw [hrl] at hc0 hrc1
     have HRA:=Lib.hid hra
     have HCC:=Lib.hid hcc
     have HSR:=Lib.hid hsr
     have HSC:=Lib.hid hsc
     have HRL:=Lib.hid hrl
     clear hcR hks hok hcc hsr hsc hra hrl hS hB
     generalize rs[q]=r at *
     have n1:=new_below wr (.cells #[.slice r.A n r.c,.int .i64 r.L.kind,.int .i64 r.L.right] 45)
     have row1:=row_new (w:=wr) (o:=.cells #[.slice r.A n r.c,.int .i64 r.L.kind,.int .i64 r.L.right] 45)
     have mk:∀ w:World,(Instr.makeSlice 28 (.int .i64 (W:Int)) (.int .i64 ((W:Int)+1))).run Tryz.prog w=.ok (.slice (some ⟨w.heap.size,0,none⟩) W (W+1)) (w.alloc (.cells (madeCells #[.string (B [])] (W+1)) 29)):=fun w=>by
      obtain ⟨i,hi,hz⟩:=Option.map_eq_some_iff.1 mrat_info
      simp only [Prod.mk.injEq] at hz
      have:=run_make_rowN (P:=Tryz.prog) 28 29 i (.string (B [])) Tryz.underlying28 hi hz.1 .i64 .i64 W (W+1) (by omega) (by rw [hz.2.2];omega) (by omega) w
      rw [hz.2.1,Nat.mul_one,show ((W+1:Nat):Int)=(W:Int)+1 by omega] at this
      exact this
     have hWc:W≤W+1:=by omega
     go_upto_if 70 with fail
     have bA:=n1.trans ((new_below (wr.alloc (.cells #[.slice r.A n r.c,.int .i64 r.L.kind,.int .i64 r.L.right] 45)) (.cells (madeCells #[.string (B [])] (W+1)) 29)).mono n1.size)
     have rowA:=row_on row1 (new_below (wr.alloc (.cells #[.slice r.A n r.c,.int .i64 r.L.kind,.int .i64 r.L.right] 45)) (.cells (madeCells #[.string (B [])] (W+1)) 29))
     have ownA:=own_made2 (wr.alloc (.cells #[.slice r.A n r.c,.int .i64 r.L.kind,.int .i64 r.L.right] 45)) (wr.heap.size+1) W (by omega) (by simp)
     rw [show (wr.alloc (.cells #[.slice r.A n r.c,.int .i64 r.L.kind,.int .i64 r.L.right] 45)).heap.size=wr.heap.size+1 by simp] at ownA
     have HBA:=Lib.hid bA
     have HRA2:=Lib.hid rowA
     have HOA:=Lib.hid ownA
     clear row1 n1 mk bA rowA ownA
     generalize (wr.alloc (.cells #[.slice r.A n r.c,.int .i64 r.L.kind,.int .i64 r.L.right] 45)).alloc (.cells (madeCells #[.string (B [])] (W+1)) 29)=wA at *
     have HSZ:=Lib.hid hbw.size
     have HKT:=Lib.hid hkt
     generalize hsb:wr.heap.size=sb at *
     have HSB:=Lib.hid hsb
     clear hsb hkt hc0 hc1 hc2
     go_cut [15] (fun s wx=>s=.int .i64 (sgI r.L)∧wx=wA)
     case first =>
      have e2:=(cell_heap (i:=2) HRA2.out)
      have e2:wA.cell? ⟨sb,2,none⟩=some (.int .i64 r.L.right):=e2
      by_cases hneg:r.L.right<0
      ·have HG:=Lib.hid (show sgI r.L = -1 from if_pos hneg)
       go_wp2_with fail
       go_meet
       exact ⟨by rw [HG.out],rfl⟩
      ·have HG:=Lib.hid (show sgI r.L=1 from if_neg hneg)
       go_wp2_with fail
       go_meet
       exact ⟨by rw [HG.out],rfl⟩
     case rest =>
      obtain ⟨rfl,hwA⟩:=hcut
      obtain rfl:=hwA.symm
      go_wp2_with fail
      obtain ⟨wo,hwo⟩:∃ wo,wo=wr:=⟨wr,rfl⟩
      subst hwo
      have HST:=Lib.hid (show TxL W (fun x s=>x<0→s=[48]) (List.replicate W []) from ⟨by simp,fun x _ h=>absurd h (Nat.not_lt_zero _)⟩)
      go_loopw [16,73] (fun _ i wr=>∃ (j:Nat) (xs:List Str),j≤W∧i=.int .i64 j∧OwnS wr (sb+1) 29 (some ⟨sb+1,0,none⟩) W (W+1) (strs xs)∧TxL W (fun x s=>x<j→s=[48]) xs∧Below sb wo wr∧wr.heap[sb]? = some (.cells #[.slice r.A n r.c,.int .i64 r.L.kind,.int .i64 r.L.right] 45)) (fun _ i _=>W - (intOf i).toNat)
      case atStart=>exact ⟨0,_,Nat.zero_le _,rfl,HOA.out,HST.out,HBA.out,HRA2.out⟩
      case round =>
       clear HOA HST HBA HRA2
       obtain ⟨j,xs,hj,rfl,hown,htx,hb,hrow⟩:=hrel
       have HROW:=Lib.hid hrow
       have HOW:=Lib.hid hown
       have HTX:=Lib.hid htx
       have HBO:=Lib.hid hb
       by_cases hlj:j<W
       ·obtain ⟨g1,e1,_,hgw,hgc,hgf⟩:=hown.at_ (by omega)
        obtain rfl:g1=sb+1:=by injection e1 with e1;injection e1 with e1 _ _;exact e1.symm
        have d0:=hgc j hlj
        rw [strs_get _ _ (by rw [htx.1];exact hlj)] at d0
        have d1:=hgf j
        have HN2:=Lib.hid (show TxL W (fun x s=>x<j+1→s=[48]) (xs.set j [48]) from htx.set (fun _=>rfl) (fun x _ hne u h hx=>h (by omega)))
        clear hgc hgf hown htx hrow hb
        generalize xs.getD j []=u0 at *
        go_wp2_with fail
        go_roundw
        case rel=>exact ⟨j+1,xs.set j [48],by omega,by go_num,by rw [← strs_set];exact HOW.out.stored _ _,HN2.out,HBO.out.setCell (Nat.le_succ sb) _,by rw [Below.heap_setCell _ _ _ _ (Nat.ne_of_lt (Nat.lt_succ_self sb))];exact HROW.out⟩
        case measure=>simp [intOf];omega
       ·have HA0:=Lib.hid (show TxL W (RowA (linOf cost rs) q 0) xs from htx.imp fun x hx u h=>by unfold RowA;rw [if_neg (Nat.not_lt_zero _)];exact h (by omega))
        have e0:wr.cell? ⟨sb,0,none⟩=some (.slice r.A n r.c):=cell_heap (i:=0) hrow
        have hjx:¬ (j:Int)<(W:Int):=by omega
        clear hown htx hrow hb HTX hj hlj
        go_wp2_with fail
        clear e0
        go_loopw [17,18,83] (fun _ _ i wr=>∃ (j:Nat) (xs:List Str),j≤n∧i=.int .i64 j∧OwnS wr (sb+1) 29 (some ⟨sb+1,0,none⟩) W (W+1) (strs xs)∧TxL W (RowA (linOf cost rs) q j) xs∧Below sb wo wr∧wr.heap[sb]? = some (.cells #[.slice r.A n r.c,.int .i64 r.L.kind,.int .i64 r.L.right] 45)) (fun _ _ i _=>n - (intOf i).toNat)
        case atStart=>exact ⟨0,xs,Nat.zero_le _,rfl,HOW.out,HA0.out,HBO.out,HROW.out⟩
        case round =>
         clear HOW HBO HROW HA0 hjx
         obtain ⟨j,xs,hj,rfl,hown,htx,hb,hrow⟩:=hrel
         have HROW:=Lib.hid hrow
         have HOW:=Lib.hid hown
         have HTX:=Lib.hid htx
         have HBO:=Lib.hid hb
         by_cases hlj:j<n
         ·obtain ⟨g1,e1,_,hgw,hgc,hgf⟩:=hown.at_ (by omega)
          obtain rfl:g1=sb+1:=by injection e1 with e1;injection e1 with e1 _ _;exact e1.symm
          have hjW:j<W:=by omega
          have d0:=hgc j hjW
          rw [strs_get _ _ (by rw [htx.1];exact hjW)] at d0
          have d1:=hgf j
          have hbw2:=hbw.trans (hb.mono (show w.heap.size≤sb from HSZ.out))
          have hjl:j<r.L.coef.length:=by rw [HRL.out];exact hlj
          obtain ⟨bc,oc,hA,dc⟩:=ints_at (HCC.out.below hbw2) hjl
          have hcj:r.L.coef.getD j 0=r.L.coef[j]:=by rw [List.getD_eq_getElem?_getD,List.getElem?_eq_getElem hjl];rfl
          have hR:R0 (linOf cost rs) q j=sgI r.L*r.L.coef[j]:=by
           unfold R0
           rw [if_pos (show j<(linOf cost rs).cost.length by show j<cost.length;rw [HN.out];exact hlj),HRA.out,hcj]
          have hek:=HS.out.err
          rw [HKT.out] at hek
          have HSG:=Lib.hid (sxsigned_any kt (sgI r.L) r.L.coef[j] wr (sg_sign _) (HSC.out _ (List.getElem_mem hjl)) (hek.below (by rw [HSB.out];exact hb)) (HE.out.below hbw2))
          rw [← hR] at HSG
          have HN2:=Lib.hid (show TxL W (RowA (linOf cost rs) q (j+1)) (xs.set j (decI (R0 (linOf cost rs) q j))) from RowA.put htx (Nat.le_succ j) (Nat.lt_succ_self j) rfl (fun x h1 h2 h3=>absurd h3 (by omega)))
          have hrAc:n≤r.c:=hrc1
          have HAA:=Lib.hid hA
          clear hgc hgf hown htx hrow hb hcj hR hek hA
          generalize decI (R0 (linOf cost rs) q j)=y at *
          generalize r.L.coef[j]=cj at *
          generalize xs.getD j []=u0 at *
          rw [HAA.out]
          go_wp2_with fail
          refine HSG.out.mono ?_
          rintro e w2 ⟨rfl,hb2⟩
          have e0:=(hb2.cell (p:=⟨sb+1,j,none⟩) hgw).trans d0
          have e1:=(hb2.frozen (p:=⟨sb+1,j,none⟩) hgw).trans d1
          have hown2:=(HOW.out.below hb2).stored j (.string (B y))
          have hb3:=(HBO.out.trans (hb2.mono (Nat.le_trans (by rw [← HSB.out];exact Nat.le_refl _) HBO.out.size))).setCell (Nat.le_succ sb) (.string (B y)) (p:=⟨sb+1,j,none⟩)
          have hrow2:(w2.setCell ⟨sb+1,j,none⟩ (.string (B y))).heap[sb]? = some (.cells #[.slice r.A n r.c,.int .i64 r.L.kind,.int .i64 r.L.right] 45):=by
           rw [Below.heap_setCell _ _ _ _ (Nat.ne_of_lt (Nat.lt_succ_self sb)),hb2.block sb (lt_of_heap HROW.out)];exact HROW.out
          clear d0 d1 dc HSG
          go_wp2_with fail
          go_roundw
          case rel=>exact ⟨j+1,_,by omega,by go_num,by rw [← strs_set];exact hown2,HN2.out,hb3,by rw [← HAA.out];exact hrow2⟩
          case measure=>simp [intOf];omega
         ·have hjn:j=n:=by omega
          have HXA:=Lib.hid (show TxL W (RowA (linOf cost rs) q n) xs by rw [← hjn];rw [hjn] at htx ⊢;exact htx)
          have e1:wr.cell? ⟨sb,1,none⟩=some (.int .i64 r.L.kind):=cell_heap (i:=1) hrow
          have hjx:¬ (j:Int)<(n:Int):=by omega
          have HHOW:=Lib.hid hown
          clear hown htx hrow hb HTX hj hlj hjn
          go_upto_if 98 with fail
          go_cut [10] (fun nx wx=>nx=.int .i64 (slkI (linOf cost rs) (q+1):Nat)∧∃ xs':List Str,OwnS wx (sb+1) 29 (some ⟨sb+1,0,none⟩) W (W+1) (strs xs')∧TxL W (RowA (linOf cost rs) q ci) xs'∧Below sb wo wx∧wx.heap[sb]? = some (.cells #[.slice r.A n r.c,.int .i64 r.L.kind,.int .i64 r.L.right] 45))
          case first =>
           have hsn:slkI (linOf cost rs) (q+1)=slkI (linOf cost rs) q+if r.L.kind≠2 then 1 else 0:=by
            have:=HKS.out
            show cost.length+slN ((rs.map (·.L)).take (q+1))=cost.length+slN ((rs.map (·.L)).take q)+_
            rw [this,Nat.add_assoc]
           have hqP:q<(linOf cost rs).rows.length:=by rw [HPM.out];exact hlt
           have hcol:colI (linOf cost rs)=ci:=HCI.out.symm
           have hncl:(linOf cost rs).cost.length=n:=HN.out
           by_cases hq2:r.L.kind=2
           ·have hq':(r.L.kind != 2)=false:=by simpa using hq2
            have HS1:=Lib.hid (show slkI (linOf cost rs) (q+1)=slkI (linOf cost rs) q by rw [hsn,if_neg (fun h=>h hq2)];rfl)
            have HU:=Lib.hid (show TxL W (RowA (linOf cost rs) q ci) xs from RowA.up HXA.out (by omega) fun x h1 h2=>by
             unfold R0
             rw [hncl,hcol,if_neg (by omega),if_pos h2,if_neg (fun h=>h.1 (by rw [HRA.out];exact hq2))])
            clear hsn hcol hncl hq2
            go_wp2_with fail
            go_meet
            exact ⟨by rw [HS1.out],xs,HHOW.out,HU.out,HBO.out,HROW.out⟩
           ·have hq':(r.L.kind != 2)=true:=by simpa using hq2
            have HS1:=Lib.hid (show slkI (linOf cost rs) (q+1)=slkI (linOf cost rs) q+1 by rw [hsn,if_pos hq2])
            have hsl:=slk_lt (p:=linOf cost rs) hqP (by rw [HRA.out];exact hq2)
            rw [hcol,hncl] at hsl
            have hRs:R0 (linOf cost rs) q (slkI (linOf cost rs) q)=if r.L.kind=3 then -(sgI r.L) else sgI r.L:=by
             unfold R0
             rw [hncl,hcol,if_neg (by omega),if_pos hsl.2,HRA.out,if_pos ⟨hq2,rfl⟩]
            have HU:=Lib.hid (show TxL W (RowA (linOf cost rs) q ci) (xs.set (slkI (linOf cost rs) q) (decI (R0 (linOf cost rs) q (slkI (linOf cost rs) q)))) from RowA.put HXA.out (by omega) hsl.2 rfl fun x h1 h2 h3=>by
             unfold R0
             rw [hncl,hcol,if_neg (by omega),if_pos h2,if_neg (fun h=>h3 h.2)])
            have hft:fits (R0 (linOf cost rs) q (slkI (linOf cost rs) q)):=by
             rw [hRs]
             rcases sg_sign r.L with e | e <;> rw [e] <;> split <;> exact ⟨by decide,by decide⟩
            have hbw2:=hbw.trans (HBO.out.mono (show w.heap.size≤sb from HSZ.out))
            have HOF:=Lib.hid (qof_any _ wr hft (HE.out.below hbw2).1)
            obtain ⟨g1,e1x,_,hgw,hgc,hgf⟩:=HHOW.out.at_ (by omega)
            obtain rfl:g1=sb+1:=by injection e1x with e1x;injection e1x with e1x _ _;exact e1x.symm
            have d0:=hgc (slkI (linOf cost rs) q) (by omega)
            rw [strs_get _ _ (by rw [HXA.out.1];omega)] at d0
            have d1:=hgf (slkI (linOf cost rs) q)
            have hslW:slkI (linOf cost rs) q<W:=by omega
            have hsw:=wrap_nat (n:=slkI (linOf cost rs) q+1) (by omega)
            have HSS:=Lib.hid hsl
            generalize xs.getD (slkI (linOf cost rs) q) []=u0 at *
            have HRS:=Lib.hid hRs
            generalize hyy:R0 (linOf cost rs) q (slkI (linOf cost rs) q)=yz at *
            clear hgc hgf hsn hcol hncl hft hsl hRs hyy hbw2
            generalize slkI (linOf cost rs) q=sk at *
            have hadd:(sk:Int)+1=((sk+1:Nat):Int):=by omega
            generalize hske:sk+1=sk1 at *
            have HSKE:=Lib.hid hske
            clear hske hq2
            have hfin:∀ w2,Below wr.heap.size wr w2→OwnS (w2.setCell ⟨sb+1,sk,none⟩ (.string (B (decI yz)))) (sb+1) 29 (some ⟨sb+1,0,none⟩) W (W+1) (strs (xs.set sk (decI yz)))∧Below sb wo (w2.setCell ⟨sb+1,sk,none⟩ (.string (B (decI yz))))∧(w2.setCell ⟨sb+1,sk,none⟩ (.string (B (decI yz)))).heap[sb]? = some (.cells #[.slice r.A n r.c,.int .i64 r.L.kind,.int .i64 r.L.right] 45):=fun w2 hb2=>by
             refine ⟨by rw [← strs_set];exact (HHOW.out.below hb2).stored _ _,(HBO.out.trans (hb2.mono (Nat.le_trans (by rw [← HSB.out];exact Nat.le_refl _) HBO.out.size))).setCell (Nat.le_succ sb) _,?_⟩
             rw [Below.heap_setCell _ _ _ _ (Nat.ne_of_lt (Nat.lt_succ_self sb)),hb2.block sb (lt_of_heap HROW.out)];exact HROW.out
            have HFIN:=Lib.hid hfin
            clear hfin
            by_cases hk3:r.L.kind=3
            ·have hk3':(r.L.kind == 3)=true:=by simpa using hk3
             have HY:=Lib.hid (show -(sgI r.L)=yz by rw [HRS.out,if_pos hk3])
             have hy:=HY.out
             have hyw:IntKind.i64.wrap yz=yz:=by rw [← hy];rcases sg_sign r.L with e | e <;> rw [e] <;> decide
             clear hk3
             go_wp2_with fail
             refine HOF.out.mono ?_
             rintro e w2 ⟨rfl,hb2⟩
             have e0:=(hb2.cell (p:=⟨sb+1,sk,none⟩) hgw).trans d0
             have e2:=(hb2.frozen (p:=⟨sb+1,sk,none⟩) hgw).trans d1
             have hf3:=HFIN.out w2 hb2
             clear d0 d1
             go_wp2_with fail
             go_meet
             exact ⟨by rw [HS1.out],_,hf3.1,HU.out,hf3.2.1,hf3.2.2⟩
            ·have hk3':(r.L.kind == 3)=false:=by simpa using hk3
             have HOF2:=Lib.hid (show Calls Tryz.prog 63 #[.int .i64 (sgI r.L)] wr fun e w'=>e=.returned (.string (B (decI yz)))∧Below wr.heap.size wr w' by rw [show sgI r.L=yz by rw [HRS.out,if_neg hk3]];exact HOF.out)
             clear hk3
             go_wp2_with fail
             refine HOF2.out.mono ?_
             rintro e w2 ⟨rfl,hb2⟩
             have e0:=(hb2.cell (p:=⟨sb+1,sk,none⟩) hgw).trans d0
             have e2:=(hb2.frozen (p:=⟨sb+1,sk,none⟩) hgw).trans d1
             have hf3:=HFIN.out w2 hb2
             clear d0 d1
             go_wp2_with fail
             go_meet
             exact ⟨by rw [HS1.out],_,hf3.1,HU.out,hf3.2.1,hf3.2.2⟩
          case rest =>
           obtain ⟨rfl,xs',hown,htx,hb,hrow⟩:=hcut
           have hkt:=HKT.out
           subst hkt
           clear e1
           obtain ⟨g1,e1x,_,hgw,hgc,hgf⟩:=hown.at_ (by omega)
           obtain rfl:g1=sb+1:=by injection e1x with e1x;injection e1x with e1x _ _;exact e1x.symm
           have huI:(ci:Int)+(q:Int)=((ci+q:Nat):Int):=by omega
           generalize hue:ci+q=u at *
           have HUE:=Lib.hid hue
           have huW:u<W:=by omega
           have hur:u<rr:=by omega
           have wu:=wrap_nat (n:=u) (by omega)
           have d0:=hgc u huW
           rw [strs_get _ _ (by rw [htx.1];exact huW)] at d0
           have d1:=hgf u
           have hqP:q<(linOf cost rs).rows.length:=by rw [HPM.out];exact hlt
           have hcol:colI (linOf cost rs)=ci:=HCI.out.symm
           have hncl:(linOf cost rs).cost.length=n:=HN.out
           have hml2:(linOf cost rs).rows.length=m:=by rw [HPM.out]
           have hR1:R0 (linOf cost rs) q u=1:=by
            unfold R0
            rw [hncl,hcol,hml2,if_neg (by omega),if_neg (by omega),if_pos (by omega),if_pos (by omega)]
           have htx2:TxL W (RowA (linOf cost rs) q rr) (xs'.set u [49]):=RowA.put htx (by omega) hur (by rw [hR1];exact decI_o1.symm) fun x h1 h2 h3=>by
            unfold R0
            rw [hncl,hcol,hml2,if_neg (by omega),if_neg (by omega),if_pos (by omega),if_neg (by omega)]
           have hR2:R0 (linOf cost rs) q rr=sgI r.L*r.L.right:=by
            unfold R0
            rw [hncl,hcol,hml2,if_neg (by omega),if_neg (by omega),if_neg (by omega),if_pos (by omega),HRA.out]
           have htx3:TxL W (RowA (linOf cost rs) q W) ((xs'.set u [49]).set rr (decI (R0 (linOf cost rs) q rr))):=RowA.put htx2 (by omega) hW1 rfl fun x h1 h2 h3=>absurd h3 (by omega)
           have hownB:=hown.stored u (.string (B [49]))
           rw [strs_set] at hownB
           have hbB:=hb.setCell (Nat.le_succ sb) (.string (B [49])) (p:=⟨sb+1,u,none⟩)
           have hrowB:(wc.setCell ⟨sb+1,u,none⟩ (.string (B [49]))).heap[sb]? = some (.cells #[.slice r.A n r.c,.int .i64 r.L.kind,.int .i64 r.L.right] 45):=by
            rw [Below.heap_setCell _ _ _ _ (Nat.ne_of_lt (Nat.lt_succ_self sb))];exact hrow
           have f2:(wc.setCell ⟨sb+1,u,none⟩ (.string (B [49]))).cell? ⟨sb,2,none⟩=some (.int .i64 r.L.right):=cell_heap (i:=2) hrowB
           have hbwB:=hbw.trans (hbB.mono (show w.heap.size≤sb from HSZ.out))
           have HSG:=Lib.hid (sxsigned_any H.kt (sgI r.L) r.L.right (wc.setCell ⟨sb+1,u,none⟩ (.string (B [49]))) (sg_sign _) HSR.out (HS.out.err.below (by rw [HSB.out];exact hbB)) (HE.out.below hbwB))
           rw [← hR2] at HSG
           obtain ⟨g1,e1x,_,hgw2,hgc2,hgf2⟩:=hownB.at_ (by omega)
           obtain rfl:g1=sb+1:=by injection e1x with e1x;injection e1x with e1x _ _;exact e1x.symm
           have dr0:=hgc2 rr hW1
           rw [strs_get _ _ (by rw [htx2.1];exact hW1)] at dr0
           have dr1:=hgf2 rr
           have HTX3:=Lib.hid htx3
           have HOB:=Lib.hid hownB
           have HBB:=Lib.hid hbB
           have HRB:=Lib.hid hrowB
           have HML:=Lib.hid HB.out.ml
           generalize hys:(xs'.set u [49]).set rr (decI (R0 (linOf cost rs) q rr))=ys at *
           have HYS:=Lib.hid hys
           generalize (xs'.set u [49]).getD rr []=u1 at *
           generalize xs'.getD u []=u0 at *
           clear hgc hgf hgc2 hgf2 htx htx2 htx3 hown hownB hb hbB hrow hrowB hR1 hR2 hcol hncl hml2 hys hue
           have HWB:=Lib.hid (show ∃ wB,wB=wc.setCell ⟨sb+1,u,none⟩ (.string (B [49])) from ⟨_,rfl⟩)
           generalize decI (R0 (linOf cost rs) q rr)=yr at *
           go_wp2_with fail
           refine HSG.out.mono ?_
           rintro e w2 ⟨rfl,hb2⟩
           have e0:=(hb2.cell (p:=⟨sb+1,rr,none⟩) hgw2).trans dr0
           have e1:=(hb2.frozen (p:=⟨sb+1,rr,none⟩) hgw2).trans dr1
           have hown3:=(HOB.out.below hb2).stored rr (.string (B yr))
           rw [strs_set] at hown3
           have hb3:=(HBB.out.trans (hb2.mono (Nat.le_trans (by rw [← HSB.out];exact Nat.le_refl _) HBB.out.size))).setCell (Nat.le_succ sb) (.string (B yr)) (p:=⟨sb+1,rr,none⟩)
           have hS3:=HS.out.below (show Below wo.heap.size wo (w2.setCell ⟨sb+1,rr,none⟩ (.string (B yr))) by rw [HSB.out];exact hb3)
           have hbw3:=hbw.trans (hb3.mono (show w.heap.size≤sb from HSZ.out))
           have hgr3:sb+1<(w2.setCell ⟨sb+1,rr,none⟩ (.string (B yr))).heap.size:=by rw [World.size_setCell];exact Nat.lt_of_lt_of_le hgw2 hb2.size
           have HY:=Lib.hid (show OwnS (w2.setCell ⟨sb+1,rr,none⟩ (.string (B yr))) w.heap.size 29 (some ⟨sb+1,0,none⟩) ys.length (W+1) (strs ys) by
            have h1:ys.length=W:=HTX3.out.1
            rw [h1,← HYS.out]
            exact hown3.mono (by have:=HSZ.out;omega))
           have HYL:=Lib.hid (show ys.length=W from HTX3.out.1)
           have HFR:=Lib.hid (show ∀ i,i<M.length→H.hA i≠some ⟨sb+1,0,none⟩ from fun i hi e=>by
            have h1:=HS.out.mat.rows i hi
            rw [e] at h1
            have:=h1.typ.2.1
            rw [HSB.out] at this
            omega)
           have hMl:M.length≤300:=by rw [HML.out];omega
           have hbl3:bs.length≤300:=by rw [HB.out.bl];omega
           have hul3:us.length≤300:=by rw [HB.out.ul];omega
           have htl3:tv.length≤300:=by rw [HB.out.tl];omega
           have HS3:=Lib.hid hS3
           have HBW3:=Lib.hid hbw3
           have f0:=hS3.cell 0
           have z0:(w2.setCell ⟨sb+1,rr,none⟩ (.string (B yr))).frozen? ⟨H.kt,0,none⟩=false:=free_of_heap hS3.obj 0
           clear d0 d1 dr0 dr1 HSG hown3 hb3 hb2 hS3 hbw3 hgr3 f2 hgw hgw2
           go_upto_region 38 with fail
           generalize w2.setCell ⟨sb+1,rr,none⟩ (.string (B yr))=w3 at *
           clear e0 e1
           have HKA:=Lib.hid (fun (A':Option Addr) (c':Nat) (w4:World) (h1:OwnS w4 w.heap.size 28 A' (M.length+1) c' (hdrs H.hA H.hC M ++ [.slice (some ⟨sb+1,0,none⟩) W W])) (hk:KeptA H.A w3 w4)=>HS3.out.appRow (gr:=sb+1) (cr:=W) (cR:=W+1) (r:=ys) HY.out (by rw [HYL.out];exact ⟨Nat.le_refl _,by unfold maxLen;omega⟩) HFR.out (by rw [HYL.out];exact h1) hk)
           go_upto_region 39 with (at_builtin;refine wp_app1f el_mrow rfl _ _ rfl w.heap.size _ _ _ _ _ (.slice (some ⟨sb+1,0,none⟩) W W) rfl HS3.out.mat.outer rfl rfl (by unfold maxLen;omega) (by omega) HBW3.out.size ?_;intro A4 c4 w4 hown4 hb4 hk4 hf4;have hS4:=HKA.out A4 c4 w4 hown4 hk4;have g0:=(cell_at (hk4.2 H.kt HS3.out.lt (HS3.out.mat.outer.not HS3.out.obj (by decide))) 0).trans f0;have y0:=(frozen_at (hk4.2 H.kt HS3.out.lt (HS3.out.mat.outer.not HS3.out.obj (by decide))) 0).trans z0;have HB4:=Lib.hid ((HBW3.out.trans hb4).setCell HS3.out.base (.slice A4 (M.length+1) c4) (p:=⟨H.kt,0,none⟩));have HS4:=Lib.hid (show ∃ H4:SxH,H4.kt=H.kt∧SxB (w4.setCell ⟨H.kt,0,none⟩ (.slice A4 (M.length+1) c4)) w.heap.size H4 (.slice none 0 0) n ci (M ++ [ys]) bs us tv from ⟨_,(by rfl),hS4⟩);clear hS4 hown4 hb4)
           generalize w4.setCell ⟨H.kt,0,none⟩ (.slice A4 (M.length+1) c4)=w5 at *
           clear g0 y0 f0 z0 hk4 hf4 HKA HS3 HBW3 HY HFR
           obtain ⟨H4,hk4,hS4⟩:=HS4.out
           have HK4:=Lib.hid hk4
           clear HS4
           have f4:=hS4.cell 2
           have z4:=free_of_heap hS4.obj 2
           rw [hk4] at f4 z4
           have HS4:=Lib.hid hS4
           clear hS4 hk4
           go_upto_region 40 with (at_builtin;refine wp_app1f el_bint rfl _ _ rfl w.heap.size _ _ _ _ _ (.int .i64 u) rfl HS4.out.bas rfl rfl (by unfold maxLen;omega) (by omega) HB4.out.size ?_;intro A5 c5 v5 hown5 hb5 hk5 hf5;have ne5:=hk5.2 H4.kt HS4.out.lt (HS4.out.bas.not HS4.out.obj (by decide));have ne5:v5.heap[H.kt]? = w5.heap[H.kt]? := (congrArg (fun b=>v5.heap[b]?) HK4.out).symm.trans (ne5.trans (congrArg (fun b=>w5.heap[b]?) HK4.out));have g5:=(cell_at ne5 2).trans f4;have y5:=(frozen_at ne5 2).trans z4;have HOWN5:=Lib.hid hown5;have HKK5:=Lib.hid hk5;have HFF5:=Lib.hid hf5;have HBB5:=Lib.hid hb5;clear hown5 hb5 hk5 hf5)
           have hown5:=HOWN5.out
           rw [nums_snoc_b] at hown5
           have hS5:=HS4.out.appBase hown5 HKK5.out HFF5.out
           rw [HK4.out] at hS5
           have HB5:=Lib.hid ((HB4.out.trans HBB5.out).setCell (show w.heap.size≤H.kt by rw [← HK4.out];exact HS4.out.base) (.slice A5 (bs.length+1) c5) (p:=⟨H.kt,2,none⟩))
           have HS5:=Lib.hid (show ∃ H5:SxH,H5.kt=H.kt∧SxB (v5.setCell ⟨H.kt,2,none⟩ (.slice A5 (bs.length+1) c5)) w.heap.size H5 (.slice none 0 0) n ci (M ++ [ys]) (bs ++ [u]) us tv from ⟨_,(by first | rfl | exact HK4.out),hS5⟩)
           clear hS5 hown5 ne5
           generalize v5.setCell ⟨H.kt,2,none⟩ (.slice A5 (bs.length+1) c5)=w6 at *
           clear g5 y5 f4 z4 HKK5 HFF5 HOWN5 HBB5 HS4 HB4
           obtain ⟨H5,hk5,hS5⟩:=HS5.out
           have HK5:=Lib.hid hk5
           clear HS5
           have f5:=hS5.cell 3
           have z5:=free_of_heap hS5.obj 3
           rw [hk5] at f5 z5
           have HS5:=Lib.hid hS5
           clear hS5 hk5
           go_upto_region 41 with (at_builtin;refine wp_app1f el_bint rfl _ _ rfl w.heap.size _ _ _ _ _ (.int .i64 u) rfl HS5.out.uni rfl rfl (by unfold maxLen;omega) (by omega) HB5.out.size ?_;intro A6 c6 v6 hown6 hb6 hk6 hf6;have ne6:=hk6.2 H5.kt HS5.out.lt (HS5.out.uni.not HS5.out.obj (by decide));have ne6:v6.heap[H.kt]? = w6.heap[H.kt]? := (congrArg (fun b=>v6.heap[b]?) HK5.out).symm.trans (ne6.trans (congrArg (fun b=>w6.heap[b]?) HK5.out));have g6:=(cell_at ne6 3).trans f5;have y6:=(frozen_at ne6 3).trans z5;have HOWN6:=Lib.hid hown6;have HKK6:=Lib.hid hk6;have HFF6:=Lib.hid hf6;have HBB6:=Lib.hid hb6;clear hown6 hb6 hk6 hf6)
           have hown6:=HOWN6.out
           rw [nums_snoc_b] at hown6
           have hS6:=HS5.out.appUnit hown6 HKK6.out HFF6.out
           rw [HK5.out] at hS6
           have HB6:=Lib.hid ((HB5.out.trans HBB6.out).setCell (show w.heap.size≤H.kt by rw [← HK5.out];exact HS5.out.base) (.slice A6 (us.length+1) c6) (p:=⟨H.kt,3,none⟩))
           have HS6:=Lib.hid (show ∃ H6:SxH,H6.kt=H.kt∧SxB (v6.setCell ⟨H.kt,3,none⟩ (.slice A6 (us.length+1) c6)) w.heap.size H6 (.slice none 0 0) n ci (M ++ [ys]) (bs ++ [u]) (us ++ [u]) tv from ⟨_,(by first | rfl | exact HK5.out),hS6⟩)
           clear hS6 hown6 ne6
           generalize v6.setCell ⟨H.kt,3,none⟩ (.slice A6 (us.length+1) c6)=w7 at *
           clear g6 y6 f5 z5 HKK6 HFF6 HOWN6 HBB6 HS5 HB5
           obtain ⟨H6,hk6,hS6⟩:=HS6.out
           have HK6:=Lib.hid hk6
           clear HS6
           have f6:=hS6.cell 4
           have z6:=free_of_heap hS6.obj 4
           rw [hk6] at f6 z6
           have HS6:=Lib.hid hS6
           clear hS6 hk6
           go_upto_region 42 with (at_builtin;refine wp_app1f el_bool rfl _ _ rfl w.heap.size _ _ _ _ _ (.bool (decide (sgI r.L<0))) rfl HS6.out.tur rfl rfl (by unfold maxLen;omega) (by omega) HB6.out.size ?_;intro A7 c7 v7 hown7 hb7 hk7 hf7;have ne7:=hk7.2 H6.kt HS6.out.lt (HS6.out.tur.not HS6.out.obj (by decide));have ne7:v7.heap[H.kt]? = w7.heap[H.kt]? := (congrArg (fun b=>v7.heap[b]?) HK6.out).symm.trans (ne7.trans (congrArg (fun b=>w7.heap[b]?) HK6.out));have g7:=(cell_at ne7 4).trans f6;have y7:=(frozen_at ne7 4).trans z6;have HOWN7:=Lib.hid hown7;have HKK7:=Lib.hid hk7;have HFF7:=Lib.hid hf7;have HBB7:=Lib.hid hb7;clear hown7 hb7 hk7 hf7)
           have hown7:=HOWN7.out
           rw [bools_snoc_b] at hown7
           have hS7:=HS6.out.appTurn hown7 HKK7.out
           rw [HK6.out] at hS7
           have HB7:=Lib.hid ((HB6.out.trans HBB7.out).setCell (show w.heap.size≤H.kt by rw [← HK6.out];exact HS6.out.base) (.slice A7 (tv.length+1) c7) (p:=⟨H.kt,4,none⟩))
           have HS7:=Lib.hid (show ∃ H7:SxH,H7.kt=H.kt∧SxB (v7.setCell ⟨H.kt,4,none⟩ (.slice A7 (tv.length+1) c7)) w.heap.size H7 (.slice none 0 0) n ci (M ++ [ys]) (bs ++ [u]) (us ++ [u]) (tv ++ [decide (sgI r.L<0)]) from ⟨_,(by first | rfl | exact HK6.out),hS7⟩)
           clear hS7 hown7 ne7
           generalize v7.setCell ⟨H.kt,4,none⟩ (.slice A7 (tv.length+1) c7)=w8 at *
           clear g7 y7 f6 z6 HKK7 HFF7 HOWN7 HBB7 HS6 HB6
           obtain ⟨H7,hk7,hS7⟩:=HS7.out
           have HK7:=Lib.hid hk7
           clear HS7
           have HS7:=Lib.hid hS7
           clear hS7 hk7
           go_wp2_with fail
           go_roundw
           case rel =>
            refine ⟨q+1,H7,M ++ [ys],bs ++ [u],us ++ [u],tv ++ [decide (sgI r.L<0)],by omega,by go_num,rfl,HK7.out,HS7.out,?_,HB7.out⟩
            have hnx:=HB.out.next (r:=ys) (by
             have h1:colI (linOf cost rs)+(linOf cost rs).rows.length+1=W:=by rw [← HCI.out,HPM.out,HRE.out,HWE.out]
             rw [h1]
             have h2:=HTX3.out
             exact h2.imp fun x hx s hs=>by unfold RowA at hs;rw [if_pos hx] at hs;exact hs)
            rw [← HCI.out,HUE.out,HRA.out] at hnx
            have hb9:decide (sgI r.L<0)=decide (r.L.right<0):=by
             unfold sgI
             by_cases e:r.L.right<0
             ·rw [if_pos e];simp [e]
             ·rw [if_neg e];simp [e]
            rw [hb9]
            exact hnx
           case measure=>simp [intOf];omega
    ·have hqm:q=m:=by omega
     have hqx:¬ (q:Int)<(m:Int):=by omega
     have HX:=Lib.hid (show BuP (linOf cost rs) rs.length M bs us tv by rw [HM.out];rw [hqm] at hB;exact hB)
     have HKT:=Lib.hid hkt
     have HSX:=Lib.hid (show SxB wr w.heap.size H (.slice none 0 0) cost.length (colI (linOf cost rs)) M bs us tv by rw [HN.out,← HCI.out];exact HS.out)
     clear hqm hB hS hkt
     go_wp2_with fail
     go_ret
     exact ⟨H,by rw [HKT.out];rfl,M,bs,us,tv,HSX.out,HX.out,hbw⟩
end Go.Proofs.YtmppmdmekomjbaaGreatDoor

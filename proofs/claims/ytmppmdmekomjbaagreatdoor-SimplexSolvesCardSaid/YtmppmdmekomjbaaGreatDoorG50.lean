/- lorryref26: Solve: what stands in memory; whole numbers that are laid one by one. -/
import Derived.Test.YtmppmdmekomjbaaGreatDoorG43
import Derived.Test.YtmppmdmekomjbaaGreatDoorG37
import Derived.BigQuiet
import Derived.Test.YtmppmdmekomjbaaGreatDoorG40
import Derived.Test.YtmppmdmekomjbaaGreatDoorG38
namespace Go.Proofs.YtmppmdmekomjbaaGreatDoor
open Go.RowKit Num
set_option linter.unusedVariables false
attribute [local go_sem] B_size B_get B_toList B_mk B_extract B_append
attribute [local go_sem high] run_max2
theorem ints_setK (xs:List Int) (j:Nat) (n:Int):(ints xs).set j (.int .i64 n)=ints (xs.set j n):=by unfold ints;rw [List.map_set]
theorem ints_repK (n:Nat):List.replicate n (Value.int .i64 0)=ints (List.replicate n 0):=by unfold ints;rw [List.map_replicate]
def IxZ (f:Nat→Int) (q:Nat) (xs:List Int) (N:Nat):Prop:=xs.length=N∧∀ k,k<N→xs.getD k 0=if k<q then f k else 0
theorem IxZ.new {f:Nat→Int} {q N:Nat} (h:∀ k,k<q→f k=0):IxZ f q (List.replicate N 0) N:=by
 refine ⟨by simp,fun k hk=>?_⟩
 rw [getD_repK,if_pos hk]
 by_cases e:k<q
 ·rw [if_pos e,h k e]
 ·rw [if_neg e]
theorem IxZ.put {f:Nat→Int} {q N:Nat} {xs:List Int} {v:Int} (h:IxZ f q xs N) (hq:q<N) (hv:v=f q):IxZ f (q+1) (xs.set q v) N:=by
 refine ⟨by rw [List.length_set];exact h.1,fun k hk=>?_⟩
 rw [List.getD_eq_getElem?_getD,List.getElem?_set]
 by_cases e:q=k
 ·rw [if_pos e,if_pos (by rw [h.1];exact hq),if_pos (by omega),hv,e];rfl
 ·rw [if_neg e,← List.getD_eq_getElem?_getD,h.2 k hk]
  by_cases e2:k<q
  ·rw [if_pos e2,if_pos (by omega)]
  ·rw [if_neg e2,if_neg (by omega)]
theorem IxZ.out {c:List Int} {q N:Nat} {xs:List Int} (h:IxZ (cstI c) q xs N) (hc:c.length=N) (hz:∀ k,q≤k→k<N→cstI c k=0):xs=c:=by
 refine List.ext_getElem (by rw [h.1,hc]) fun k h1 h2=>?_
 have h3:=h.2 k (by rw [← h.1];exact h1)
 rw [List.getD_eq_getElem?_getD,List.getElem?_eq_getElem h1] at h3
 have h3:xs[k]=_:=h3
 have h4:cstI c k=c[k]:=by unfold cstI;rw [List.getD_eq_getElem?_getD,List.getElem?_eq_getElem h2];rfl
 rw [h3]
 by_cases e:k<q
 ·rw [if_pos e,h4]
 ·rw [if_neg e,← h4,hz k (by omega) (by omega)]
theorem SxK.kept {w w':World} {Bs:Nat} {H:KH} {vars aux:Nat} {rs:List VecV} {bs:List Nat} {tv:List Bool} {g:Nat} {l:Array Value} {z:Nat × Nat} (h:SxK w Bs H vars aux rs bs tv) (hk:KeptB g w w') (hg:w.heap[g]? = some (.cells l 31 z)):SxK w' Bs H vars aux rs bs tv:=by
 have hkt:H.kt≠g:=fun e=>by
  have:=h.obj
  rw [e,hg] at this
  injection this with this
  injection this with _ this _
  exact absurd this (by decide)
 exact ⟨h.base,(hk.2 _ h.lt hkt).trans h.obj,⟨h.part.outer.kept hk (h.part.outer.not hg (by decide)),fun r hr=>(h.part.rows r hr).kept hk hg (by decide),h.part.bas.kept hk (h.part.bas.not hg (by decide)),h.part.tur.kept hk (h.part.tur.not hg (by decide))⟩⟩
theorem val_ok {m c:Nat} {E:List (List Str)} (turn:Bool) (h:∀ i,i<m→FrD 255 255 (cellM E i c)):∀ i,i<m→(cellM E i c).length≤100000∧(turn=true→mulQE [49] (cellM E i c)=0∧subQE [48] (mulQS [49] (cellM E i c))=0):=fun i hi=>by
 have hf:=h i hi
 have h1:=one_mul_t hf (by omega)
 refine ⟨?_,fun _=>⟨h1.1,?_⟩⟩
 ·have:=frx_len hf;omega
 ·rw [h1.2];exact ((fr_small (.inl rfl):FrD 1 1 [48]).sub hf (by omega) (by omega)).1
set_option maxRecDepth 100000 in
theorem rsolve_res {w:World} {g:Nat} {a b c d f:Value} {e:Int} {tmps:Array Value} {t:TypeId} (hrow:w.heap[g]? = some (.cells #[a,b,c,d,f] t)) (h4:tmps.getD 2 undef=.pointer (some ⟨g,0,none⟩)) (h5:tmps.getD 3 undef=.int .i64 e) :
  (results Tryz.f11 tmps).run Tryz.prog w=.ok (.tuple #[.agg #[a,b,c,d,f],.int .i64 e]) w:=by
 rw [results_cell_tmp (p:=2) (u:=3) (ty:=31) rfl,h4,h5]
 have hl:=run_loadVar_row (P:=Tryz.prog) w g t 31 #[a,b,c,d,f] _ _ hrow Tryz.underlying31 rfl (by kernel_rfl)
 show ((loadVar 31 ⟨g,0,none⟩).run Tryz.prog w).andThen _=_
 rw [hl];rfl
structure RsS (w wB:World) (B1:Nat) (H:KH) (n ci:Nat) (vs:List VecV) (bs:List Nat) (tv:List Bool) (ga rb:Nat) (l:Array Value):Prop where
 tab:SxK w B1 H n ci vs bs tv
 ans:w.heap[ga]? = some (.cells l 31)
 res:w.heap[rb]? = some (.cells #[.int .i64 0,.slice none 0 0,.slice none 0 0,.slice none 0 0,.string (B [])] 31)
 bel:Below wB.heap.size wB w
section
variable {w w' wB:World} {B1 n ci ga rb:Nat} {H:KH} {vs:List VecV} {bs:List Nat} {tv:List Bool} {l:Array Value}
theorem RsS.below (h:RsS w wB B1 H n ci vs bs tv ga rb l) (hb:Below w.heap.size w w'):RsS w' wB B1 H n ci vs bs tv ga rb l:=⟨h.tab.below hb,row_on h.ans hb,row_on h.res hb,below_lift3 h.bel hb⟩
theorem RsS.put (h:RsS w wB B1 H n ci vs bs tv ga rb l) (hne:rb≠ga) (hB:wB.heap.size≤ga) (k:Nat) (v:Value):RsS (w.setCell ⟨ga,k,none⟩ v) wB B1 H n ci vs bs tv ga rb (l.setIfInBounds k v) :=
 have hk:=(KeptB.refl ga w).store k v
 ⟨h.tab.kept hk h.ans,heap_setCell_at h.ans,(hk.2 _ (lt_of_heap h.res) hne).trans h.res,h.bel.setCell hB v⟩
theorem RsS.own (h:RsS w wB B1 H n ci vs bs tv ga rb l) {Bs m c:Nat} {X:Option Addr} {xs:List Value} (hX:OwnS w Bs 29 X m c xs) (k:Nat) (v:Value):OwnS (w.setCell ⟨ga,k,none⟩ v) Bs 29 X m c xs:=hX.kept ((KeptB.refl ga w).store k v) (hX.not h.ans (by decide))
theorem RsS.bad (h:RsS w wB B1 H n ci vs bs tv ga rb l) (hg:H.kt≠ga) (hr:H.kt≠rb) (hB:wB.heap.size≤H.kt):RsS (w.setCell ⟨H.kt,5,none⟩ (.bool false)) wB B1 H n ci vs bs tv ga rb l:=by
 have hk:=(KeptB.refl H.kt w).store 5 (.bool false)
 have ho:=h.tab.obj
 exact ⟨⟨h.tab.base,heap_setCell_at ho,⟨h.tab.part.outer.kept hk (h.tab.part.outer.not ho (by decide)),fun r hr=>(h.tab.part.rows r hr).kept hk ho (by decide),h.tab.part.bas.kept hk (h.tab.part.bas.not ho (by decide)),h.tab.part.tur.kept hk (h.tab.part.tur.not ho (by decide))⟩⟩,(hk.2 _ (lt_of_heap h.ans) hg.symm).trans h.ans,(hk.2 _ (lt_of_heap h.res) hr.symm).trans h.res,h.bel.setCell hB _⟩
theorem RsS.ownB (h:RsS w wB B1 H n ci vs bs tv ga rb l) {Bs m c:Nat} {X:Option Addr} {xs:List Value} (hX:OwnS w Bs 29 X m c xs) (v:Value):OwnS (w.setCell ⟨H.kt,5,none⟩ v) Bs 29 X m c xs:=hX.kept ((KeptB.refl H.kt w).store 5 v) (hX.not h.tab.obj (by decide))
end
theorem same_ans {D D':Nat} {p:LinL} {a b:AnsL} (ha:AnsR D p a) (hb:AnsR D' p b):b.kind=a.kind∧b.value=a.value:=by
 rcases ha with ⟨k1,_,p1,d1,v1,e1⟩ | ⟨k1,_,_,u1,d1,e1⟩ | ⟨k1,_,u1,p1,r1⟩
 ·rcases hb with ⟨k2,_,p2,d2,v2,e2⟩ | ⟨k2,_,_,u2,d2,e2⟩ | ⟨k2,_,u2,p2,r2⟩
  ·refine ⟨k2.trans k1.symm,?_⟩
   have q1:=ans_rq (D:=D) v1
   have q2:=ans_rq (D:=D') v2
   have w1:=prim_dual p2 d1
   have w2:=prim_dual p1 d2
   rw [e1] at w1
   rw [e2] at w2
   exact rq_inj q2.1 q1.1 (by rw [q1.2,q2.2];grind)
  ·exact (prim_none p1 d2 e2).elim
  ·exact (ray_dual r2 d1).elim
 ·rcases hb with ⟨k2,_,p2,d2,v2,e2⟩ | ⟨k2,_,_,u2,d2,e2⟩ | ⟨k2,_,u2,p2,r2⟩
  ·exact (prim_none p2 d1 e1).elim
  ·exact ⟨k2.trans k1.symm,u2.trans u1.symm⟩
  ·exact (prim_none p2 d1 e1).elim
 ·rcases hb with ⟨k2,_,p2,d2,v2,e2⟩ | ⟨k2,_,_,u2,d2,e2⟩ | ⟨k2,_,u2,p2,r2⟩
  ·exact (ray_dual r1 d2).elim
  ·exact (prim_none p1 d2 e2).elim
  ·exact ⟨k2.trans k1.symm,u2.trans u1.symm⟩
theorem check_ne {p:LinL} {f:Int × Str}:∀ k,f ∈ checkK p k→f.1≠0
 | 0,hf=>by
  unfold checkK headF at hf
  rcases List.mem_append.1 hf with h | h
  ·split at h
   ·rw [List.mem_singleton.1 h];decide
   ·exact absurd h (by simp)
  ·split at h
   ·rw [List.mem_singleton.1 h];decide
   ·exact absurd h (by simp)
 | k+1,hf=>by
  unfold checkK at hf
  rcases List.mem_append.1 hf with h | h
  ·exact check_ne k h
  ·unfold rowF at h
   rcases List.mem_append.1 h with h | h
   ·split at h
    ·exact absurd h (by simp)
    ·rw [List.mem_singleton.1 h];exact (by decide:(2:Int)≠0)
   ·split at h
    ·rw [List.mem_singleton.1 h];exact (by decide:(8:Int)≠0)
    ·exact absurd h (by simp)
section
variable (cost:List Int) (rs:List RowV) (A:Option Addr) (ca:Nat) (R:Option Addr) (cr:Nat) (w:World)
set_option maxHeartbeats 4000000 in
set_option maxRecDepth 100000 in
theorem sxsolve_bad (f:Int × Str) (l:List (Int × Str)) (hm:rs.length≤1000000) (hcl:checkK (linOf cost rs) rs.length=f :: l) (hp:LinAt w cost rs A ca R cr) (he:Env w) :
  Calls Tryz.prog 10 #[linV A cost.length ca R rs.length cr] w fun e w'=>e=.returned (.tuple #[ansV 0 (.slice none 0 0) (.slice none 0 0) (.slice none 0 0) [],.int .i64 f.1])∧Below w.heap.size w w':=by
 have b0:=new_below w (linO A cost.length ca R rs.length cr)
 have n2:=new_below (w.alloc (linO A cost.length ca R rs.length cr)) (.cells #[.int .i64 0,.slice none 0 0,.slice none 0 0,.slice none 0 0,.string (B [])] 31)
 have HBB:=Lib.hid (below_lift3 b0 n2)
 have r2:=row_new (w:=w.alloc (linO A cost.length ca R rs.length cr)) (o:=.cells #[.int .i64 0,.slice none 0 0,.slice none 0 0,.slice none 0 0,.string (B [])] 31)
 rw [show (w.alloc (linO A cost.length ca R rs.length cr)).heap.size=w.heap.size+1 by simp] at r2
 have HR2:=Lib.hid r2
 obtain ⟨x0,x1,x2⟩:=lin_cells n2
 have HCK:=Lib.hid (fun w' (h:Below w.heap.size w w')=>lcheck_any cost rs A ca R cr w' hm (hp.below h) (he.below h).1)
 rw [hcl] at HCK
 have hl:=checkK_len (linOf cost rs) rs.length
 rw [hcl] at hl
 have hl0:(0:Int)<((f :: l).length:Int):=by rw [List.length_cons];omega
 clear hp b0 n2 hcl r2
 go_enter Tryz.func10,Tryz.ntmps10
 simp only [B_mk]
 go_upto_region 1 with fail
 generalize (w.alloc (linO A cost.length ca R rs.length cr)).alloc (.cells #[.int .i64 0,.slice none 0 0,.slice none 0 0,.slice none 0 0,.string (B [])] 31)=wB at *
 have HC1:=Lib.hid (HCK.out wB HBB.out)
 go_wp2_with fail
 refine HC1.out.mono ?_
 rintro e w0 ⟨⟨v,rfl,hF⟩,hb0⟩
 obtain ⟨F,cf,rfl,hown⟩:=hF
 obtain ⟨g,rfl,e0,e1⟩:=fault_at (k:=0) hown (by simp)
 have hw0:=below_lift3 HBB.out hb0
 have hne:g≠w.heap.size+1:=by
  obtain ⟨g',e,h,_⟩:=hown.at_ (by simp)
  injection e with e;injection e with e _ _
  have:=lt_of_heap HR2.out
  omega
 rw [Nat.zero_mul,List.getElem_cons_zero] at e0
 have hres:=row_on HR2.out hb0
 obtain ⟨⟨q0,q1,q2,q3,q4⟩,z0,z1,z2,z3,z4⟩:=row_cells5 hres
 clear x0 x1 e1 hown
 generalize (f :: l).length=ll at *
 go_wp2_with fail
 go_region
 all_goals
  go_wp2_with fail
  (try simp only [Exit.inBlock,Exit.then])
  refine bodyPost_ret (solve_res (row_set5 hres) rfl rfl) rfl ?_
  exact ⟨rfl,below_drew (below5 hw0 (Nat.le_succ _))⟩
set_option maxHeartbeats 4000000 in
set_option maxRecDepth 100000 in
theorem rxsolve_bad (f:Int × Str) (l:List (Int × Str)) (hm:rs.length≤1000000) (hcl:checkK (linOf cost rs) rs.length=f :: l) (hp:LinAt w cost rs A ca R cr) :
  Calls Tryz.prog 11 #[linV A cost.length ca R rs.length cr] w fun e w'=>e=.returned (.tuple #[ansV 0 (.slice none 0 0) (.slice none 0 0) (.slice none 0 0) [],.int .i64 f.1])∧Below w.heap.size w w':=by
 have b0:=new_below w (linO A cost.length ca R rs.length cr)
 have n2:=new_below (w.alloc (linO A cost.length ca R rs.length cr)) (.cells #[.int .i64 0,.slice none 0 0,.slice none 0 0,.slice none 0 0,.string (B [])] 31)
 have HBB:=Lib.hid (below_lift3 b0 n2)
 have r2:=row_new (w:=w.alloc (linO A cost.length ca R rs.length cr)) (o:=.cells #[.int .i64 0,.slice none 0 0,.slice none 0 0,.slice none 0 0,.string (B [])] 31)
 rw [show (w.alloc (linO A cost.length ca R rs.length cr)).heap.size=w.heap.size+1 by simp] at r2
 have HR2:=Lib.hid r2
 obtain ⟨x0,x1,x2⟩:=lin_cells n2
 have HCK:=Lib.hid (fun w' (h:Below w.heap.size w w')=>rlcheck_any cost rs A ca R cr w' hm (hp.below h))
 rw [hcl] at HCK
 have hl:=checkK_len (linOf cost rs) rs.length
 rw [hcl] at hl
 have hl0:(0:Int)<((f :: l).length:Int):=by rw [List.length_cons];omega
 clear hp b0 n2 hcl r2
 go_enter Tryz.func11,Tryz.ntmps11
 simp only [B_mk]
 go_upto_region 1 with fail
 generalize (w.alloc (linO A cost.length ca R rs.length cr)).alloc (.cells #[.int .i64 0,.slice none 0 0,.slice none 0 0,.slice none 0 0,.string (B [])] 31)=wB at *
 have HC1:=Lib.hid (HCK.out wB HBB.out)
 go_wp2_with fail
 refine HC1.out.mono ?_
 rintro e w0 ⟨⟨v,rfl,hF⟩,hb0⟩
 obtain ⟨F,cf,rfl,hown⟩:=hF
 obtain ⟨g,rfl,e0,e1⟩:=fault_at (k:=0) hown (by simp)
 have hw0:=below_lift3 HBB.out hb0
 have hne:g≠w.heap.size+1:=by
  obtain ⟨g',e,h,_⟩:=hown.at_ (by simp)
  injection e with e;injection e with e _ _
  have:=lt_of_heap HR2.out
  omega
 rw [Nat.zero_mul,List.getElem_cons_zero] at e0
 have hres:=row_on HR2.out hb0
 obtain ⟨⟨q0,q1,q2,q3,q4⟩,z0,z1,z2,z3,z4⟩:=row_cells5 hres
 clear x0 x1 e1 hown
 generalize (f :: l).length=ll at *
 go_wp2_with fail
 go_region
 all_goals
  go_wp2_with fail
  (try simp only [Exit.inBlock,Exit.then])
  refine bodyPost_ret (rsolve_res (row_set5 hres) rfl rfl) rfl ?_
  exact ⟨rfl,below_drew (below5 hw0 (Nat.le_succ _))⟩
end
end Go.Proofs.YtmppmdmekomjbaaGreatDoor

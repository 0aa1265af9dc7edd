/- lorryref39: the reader of lines, next. -/
import Derived.Test.YtljekdpgjaahjaaGreatDoorPtU1
import Derived.Test.YtljekdpgjaahjaaGreatDoorG60
namespace Go.Proofs.YtljekdpgjaahjaaGreatDoor
open Go.RowKit Num Txt Pf
set_option linter.unusedVariables false
attribute [local go_sem] B_size B_get B_toList B_mk B_extract B_append
structure RdL (w:World) (g:Nat) (A:Option Addr) (c:Nat) (L:List Str) (n:Nat):Prop where
 row:w.heap[g]? = some (.cells #[.slice A L.length c,.int .i64 (n:Int)] 86)
 lines:Cells w A (strs L)
 ne:∀ off sp,A≠some ⟨g,off,sp⟩
 cap:L.length≤c∧c≤maxLen
section
variable {w w':World} {g c n:Nat} {A:Option Addr} {L:List Str}
theorem RdL.below (h:RdL w g A c L n) (hb:Below w.heap.size w w'):RdL w' g A c L n:=⟨row_keep h.row hb,h.lines.below hb,h.ne,h.cap⟩
theorem RdL.kp {m:Nat} (h:RdL w g A c L n) (hk:KpB g w w') (hr:w'.heap[g]? = some (.cells #[.slice A L.length c,.int .i64 (m:Int)] 86)):RdL w' g A c L m:=by
 refine ⟨hr,fun h0=>?_,h.ne,h.cap⟩
 obtain ⟨b,o,hA,hb,hx⟩:=h.lines h0
 have hne:b≠g:=fun e=>h.ne o none (by rw [hA,e])
 exact ⟨b,o,hA,Nat.lt_of_lt_of_le hb hk.size,fun k v hv=>(World.cell?_of_block (w:=w) (w':=w') (a:=⟨b,o+k,none⟩) (hk.2 b hb hne)).trans (hx k v hv)⟩
theorem RdL.other {b:Nat} (h:RdL w g A c L n) (hk:KpB b w w') (hb:b≠g) (hA:∀ off sp,A≠some ⟨b,off,sp⟩):RdL w' g A c L n:=by
 refine ⟨hk.row h.row hb.symm,fun h0=>?_,h.ne,h.cap⟩
 obtain ⟨b2,o,hA2,hb2,hx⟩:=h.lines h0
 have hne:b2≠b:=fun e=>hA o none (by rw [hA2,e])
 exact ⟨b2,o,hA2,Nat.lt_of_lt_of_le hb2 hk.size,fun k v hv=>(World.cell?_of_block (w:=w) (w':=w') (a:=⟨b2,o+k,none⟩) (hk.2 b2 hb2 hne)).trans (hx k v hv)⟩
end
theorem getD_drop {L:List Str} {n:Nat} {l:Str} {ls:List Str} (h:L.drop n=l :: ls):n<L.length∧L.getD n []=l∧L.drop (n+1)=ls:=by
 have hn:n<L.length:=by
  rcases Nat.lt_or_ge n L.length with h' | h'
  ·exact h'
  ·rw [List.drop_of_length_le h'] at h;cases h
 rw [List.drop_eq_getElem_cons hn] at h
 injection h with h1 h2
 exact ⟨hn,by rw [List.getD_eq_getElem?_getD,List.getElem?_eq_getElem hn];exact h1,h2⟩
theorem getD_end {L:List Str} {n:Nat} (h:L.drop n=[]):¬ n<L.length∧L.getD n []=[]∧L.drop (n+1)=[]:=by
 have hn:L.length≤n:=List.drop_eq_nil_iff.1 h
 exact ⟨by omega,by rw [List.getD_eq_getElem?_getD,List.getElem?_eq_none hn];rfl,List.drop_of_length_le (by omega)⟩
set_option maxHeartbeats 4000000 in
set_option maxRecDepth 100000 in
theorem rnext_any (g:Nat) (A:Option Addr) (c:Nat) (L:List Str) (n:Nat) (w:World) (h:RdL w g A c L n) (hn:n≤1000000) :
  Calls Tryz.prog 38 #[.pointer (some ⟨g,0,none⟩)] w fun e w'=>e=.returned (.string (B (L.getD n [])))∧KpB g w w'∧RdL w' g A c L (n+1):=by
 have hcap:=h.cap
 unfold maxLen at hcap
 have HST:=Lib.hid (fun (w':World) (hb:Below w.heap.size w w')=>(⟨((KpB.refl g w).below hb).store 1 (.int .i64 ((n:Int)+1)),h.kp (((KpB.refl g w).below hb).store 1 (.int .i64 ((n:Int)+1))) (heap_put (row_keep h.row hb))⟩:KpB g w (w'.setCell ⟨g,1,none⟩ (.int .i64 ((n:Int)+1)))∧RdL (w'.setCell ⟨g,1,none⟩ (.int .i64 ((n:Int)+1))) g A c L (n+1)))
 have HCL:=Lib.hid (fun (w':World) (hb:Below w.heap.size w w')=>cells2 (row_keep h.row hb))
 have HFZ:=Lib.hid (fun (w':World) (hb:Below w.heap.size w w')=>frz (row_keep h.row hb) 1)
 have hn0:(0:Int)≤(n:Int):=by omega
 obtain ⟨c0,c1⟩:=HCL.out w (Below.refl _ _)
 by_cases hlt:n<L.length
 ·have hlt1:(n:Int)<(L.length:Int):=by omega
  obtain ⟨b,o,hA,hb,hx⟩:=h.lines (by unfold strs;rw [List.length_map];omega)
  subst hA
  have x0:=hx n (.string (B L[n])) (by unfold strs;rw [List.getElem?_map,List.getElem?_eq_getElem hlt];rfl)
  have HX:=Lib.hid (fun (w':World) (hbb:Below w.heap.size w w')=>(hbb.cell (p:=⟨b,o+n,none⟩) hb).trans x0)
  have HG:=Lib.hid (show L.getD n []=L[n] by rw [List.getD_eq_getElem?_getD,List.getElem?_eq_getElem hlt];rfl)
  generalize L.getD n []=q at *
  generalize L[n]=l at *
  clear h hx hlt x0
  go_enter Tryz.func38,Tryz.ntmps38
  (try simp only [B_mk])
  go_upto_region 2 with fail
  go_quiet (fail)
  have hq:=below_drewN (Below.refl w.heap.size w) nq
  generalize w.drewN nq=w1 at *
  clear c0 c1
  obtain ⟨c0,c1⟩:=HCL.out w1 hq
  have x0:=HX.out w1 hq
  go_upto_region 3 with fail
  go_quiet (fail)
  have hq2:=below_drewN hq nq
  generalize w1.drewN nq=w2 at *
  clear c0 c1 x0
  obtain ⟨c0,c1⟩:=HCL.out w2 hq2
  have z1:=HFZ.out w2 hq2
  obtain ⟨k1,r1⟩:=HST.out w2 hq2
  go_wp2_with fail
  go_ret
  exact ⟨by rw [HG.out];rfl,k1,r1⟩
 ·have hlt1:¬ (n:Int)<(L.length:Int):=by omega
  have HG:=Lib.hid (show L.getD n []=[] by rw [List.getD_eq_getElem?_getD,List.getElem?_eq_none (by omega)];rfl)
  generalize L.getD n []=q at *
  clear h hlt
  go_enter Tryz.func38,Tryz.ntmps38
  (try simp only [B_mk])
  go_upto_region 2 with fail
  go_quiet (fail)
  have hq:=below_drewN (Below.refl w.heap.size w) nq
  generalize w.drewN nq=w1 at *
  clear c0 c1
  obtain ⟨c0,c1⟩:=HCL.out w1 hq
  have z1:=HFZ.out w1 hq
  obtain ⟨k1,r1⟩:=HST.out w1 hq
  go_wp2_with fail
  go_ret
  exact ⟨by rw [HG.out];rfl,k1,r1⟩
end Go.Proofs.YtljekdpgjaahjaaGreatDoor

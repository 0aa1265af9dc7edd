/- lorryref26: first. -/
import Derived.Test.YtmppmdmekomjbaaGreatDoorG41
import Derived.Test.YtmppmdmekomjbaaGreatDoorG35
import Derived.Test.YtmppmdmekomjbaaGreatDoorRRef5
import Derived.Laws.ResultCell
namespace Go.Proofs.YtmppmdmekomjbaaGreatDoor
open Go.RowKit Num
set_option linter.unusedVariables false
attribute [local go_sem] B_size B_get B_toList B_mk B_extract B_append
attribute [local go_sem high] run_max2
theorem results_cell_one {fn:Func} {p:Tmp} {ty:TypeId} (h:fn.results=#[.cell p ty]) (tmps:Array Value) (P:Program) (w:World) :
  (results fn tmps).run P w=((asAddr (tmps.getD p undef)).run P w).andThen fun a w₁=>(loadVar ty a).run P w₁:=by
 simp only [results,h]
 simp [Sem.run_bind,Result.andThen]
theorem fits_dl {z:Int} (h:dl z≤18):fits z:=by
 have:=(dl_le (z:=z) (k:=18) (by omega)).1 h
 constructor <;> omega
theorem wrap_fits {z:Int} (h:fits z):IntKind.i64.wrap z=z:=by
 obtain ⟨h1,h2⟩:=h
 simp [IntKind.wrap,IntKind.bits,IntKind.signed]
 omega
theorem SxK.cellA {w w':World} {Bs:Nat} {H:KH} {vars aux:Nat} {rs:List VecV} {bs:List Nat} {tv:List Bool} {Bs' n' c':Nat} {X:Option Addr} {ys:List Value} {e:TypeId} (h:SxK w Bs H vars aux rs bs tv) (hX:OwnS w Bs' e X n' c' ys) (he:e≠68) (hk:KeptA X w w') (i:Nat) :
  w'.cell? ⟨H.kt,i,none⟩=#[Value.slice H.A rs.length H.c,.int .i64 vars,.int .i64 aux,.slice H.Bb bs.length H.cb,.slice H.V tv.length H.cv,.bool false][i]? ∧ w'.frozen? ⟨H.kt,i,none⟩=false:=by
 have ho:=(hk.2 H.kt h.lt (hX.not h.obj he)).trans h.obj
 exact ⟨cell_heap ho,free_of_heap ho i⟩
theorem row_cells6 {w:World} {g:Nat} {a b c d e f:Value} {t:TypeId} (h:w.heap[g]? = some (.cells #[a,b,c,d,e,f] t)) :
  (w.cell? ⟨g,0,none⟩=some a∧w.cell? ⟨g,1,none⟩=some b∧w.cell? ⟨g,2,none⟩=some c∧w.cell? ⟨g,3,none⟩=some d∧w.cell? ⟨g,4,none⟩=some e∧w.cell? ⟨g,5,none⟩=some f) ∧
  (w.frozen? ⟨g,0,none⟩=false∧w.frozen? ⟨g,1,none⟩=false∧w.frozen? ⟨g,2,none⟩=false∧w.frozen? ⟨g,3,none⟩=false∧w.frozen? ⟨g,4,none⟩=false∧w.frozen? ⟨g,5,none⟩=false):=by
 refine ⟨⟨?_,?_,?_,?_,?_,?_⟩,?_,?_,?_,?_,?_,?_⟩
 ·rw [cell_of_row w g 0 _ _ _ h];rfl
 ·rw [cell_of_row w g 1 _ _ _ h];rfl
 ·rw [cell_of_row w g 2 _ _ _ h];rfl
 ·rw [cell_of_row w g 3 _ _ _ h];rfl
 ·rw [cell_of_row w g 4 _ _ _ h];rfl
 ·rw [cell_of_row w g 5 _ _ _ h];rfl
 all_goals (unfold World.frozen?;simp [h])
theorem row_set6 {w:World} {g:Nat} {x0 x1 x2 x3 x4 x5 a b c d e f:Value} {t:TypeId} (h:w.heap[g]? = some (.cells #[x0,x1,x2,x3,x4,x5] t)) :
  ((((((w.setCell ⟨g,0,none⟩ a).setCell ⟨g,1,none⟩ b).setCell ⟨g,2,none⟩ c).setCell ⟨g,3,none⟩ d).setCell ⟨g,4,none⟩ e).setCell ⟨g,5,none⟩ f).heap[g]? = some (.cells #[a,b,c,d,e,f] t):=by
 have h1:=heap_setCell_at (i:=0) (v:=a) h
 have h2:=heap_setCell_at (i:=1) (v:=b) h1
 have h3:=heap_setCell_at (i:=2) (v:=c) h2
 have h4:=heap_setCell_at (i:=3) (v:=d) h3
 have h5:=heap_setCell_at (i:=4) (v:=e) h4
 have h6:=heap_setCell_at (i:=5) (v:=f) h5
 exact h6
theorem kept6 {w:World} {g:Nat} {a b c d e f:Value}:KeptB g w ((((((w.setCell ⟨g,0,none⟩ a).setCell ⟨g,1,none⟩ b).setCell ⟨g,2,none⟩ c).setCell ⟨g,3,none⟩ d).setCell ⟨g,4,none⟩ e).setCell ⟨g,5,none⟩ f):=((((((KeptB.refl _ w).store _ _).store _ _).store _ _).store _ _).store _ _).store _ _
theorem below6 {w0 w:World} {g B:Nat} {a b c d e f:Value} (h:Below B w0 w) (hg:B≤g):Below B w0 ((((((w.setCell ⟨g,0,none⟩ a).setCell ⟨g,1,none⟩ b).setCell ⟨g,2,none⟩ c).setCell ⟨g,3,none⟩ d).setCell ⟨g,4,none⟩ e).setCell ⟨g,5,none⟩ f):=(((((h.setCell hg _).setCell hg _).setCell hg _).setCell hg _).setCell hg _).setCell hg _
theorem KPart.kept {w w':World} {Bs g:Nat} {H:KH} {rs:List VecV} {bs:List Nat} {tv:List Bool} {l:Array Value} {z:Nat × Nat} (h:KPart w Bs H rs bs tv) (hk:KeptB g w w') (hg:w.heap[g]? = some (.cells l 68 z)):KPart w' Bs H rs bs tv :=
 ⟨h.outer.kept hk (h.outer.not hg (by decide)),fun r hr=>(h.rows r hr).kept hk hg (by decide),h.bas.kept hk (h.bas.not hg (by decide)),h.tur.kept hk (h.tur.not hg (by decide))⟩
attribute [local go_sem] cell_set_off
set_option maxRecDepth 100000 in
theorem first_res {w:World} {g:Nat} {a b c d e f:Value} {tmps:Array Value} {t:TypeId} (hrow:w.heap[g]? = some (.cells #[a,b,c,d,e,f] t)) (h4:tmps.getD 2 undef=.pointer (some ⟨g,0,none⟩)) :
  (results Tryz.f34 tmps).run Tryz.prog w=.ok (.agg #[a,b,c,d,e,f]) w:=by
 rw [results_cell_one (p:=2) (ty:=68) rfl,h4]
 have hl:=run_loadVar_row (P:=Tryz.prog) w g t 68 #[a,b,c,d,e,f] _ _ hrow Tryz.underlying68 rfl (by kernel_rfl)
 show (loadVar 68 ⟨g,0,none⟩).run Tryz.prog w=_
 exact hl
def RowZ (f:Nat→Int) (q x:Nat) (s:Str):Prop:=if x<q then s=decI (f x) else s=[48]
theorem RowZ.up {f:Nat→Int} {q q' W:Nat} {xs:List Str} (h:TxL W (RowZ f q) xs) (hq:q≤q') (hz:∀ x,q≤x→x<q'→f x=0):TxL W (RowZ f q') xs:=h.imp fun x hx u hu=>by
 unfold RowZ at *
 by_cases e:x<q
 ·rw [if_pos e] at hu;rw [if_pos (by omega)];exact hu
 ·rw [if_neg e] at hu
  by_cases e2:x<q'
  ·rw [if_pos e2,hz x (by omega) e2,decI_z0];exact hu
  ·rw [if_neg e2];exact hu
theorem RowZ.put {f:Nat→Int} {q q' W j:Nat} {s:Str} {xs:List Str} (h:TxL W (RowZ f q) xs) (hq:q≤q') (hj:j<q') (hs:s=decI (f j)) (hz:∀ x,q≤x→x<q'→x≠j→f x=0):TxL W (RowZ f q') (xs.set j s):=h.set (by unfold RowZ;rw [if_pos hj];exact hs) fun x hx hne u hu=>by
 unfold RowZ at *
 by_cases e:x<q
 ·rw [if_pos e] at hu;rw [if_pos (by omega)];exact hu
 ·rw [if_neg e] at hu
  by_cases e2:x<q'
  ·rw [if_pos e2,hz x (by omega) e2 hne,decI_z0];exact hu
  ·rw [if_neg e2];exact hu
structure KuP (p:LinL) (q:Nat) (M:List (List Str)) (bs:List Nat) (tv:List Bool):Prop where
 ml:M.length=q
 bl:bs.length=q
 tl:tv.length=q
 be:∀ i,i<q→bs.getD i 0=colR p+i
 te:∀ i,i<q→tv.getD i false=decide ((Num.rowAt p i).right<0)
 re:∀ i,i<q→TxL (colR p+p.rows.length+1) (fun j s=>s=decI (R1 p i j)) (M.getD i [])
theorem KuP.next {p:LinL} {q:Nat} {M:List (List Str)} {bs:List Nat} {tv:List Bool} (h:KuP p q M bs tv) {r:List Str} (hr:TxL (colR p+p.rows.length+1) (fun j s=>s=decI (R1 p q j)) r):KuP p (q+1) (M ++ [r]) (bs ++ [colR p+q]) (tv ++ [decide ((Num.rowAt p q).right<0)]):=by
 refine ⟨by rw [List.length_append,h.ml];rfl,by rw [List.length_append,h.bl];rfl,by rw [List.length_append,h.tl];rfl,fun i hi=>?_,fun i hi=>?_,fun i hi=>?_⟩
 ·rw [getD_snoc h.bl hi];split
  ·rename_i e;rw [e]
  ·exact h.be i (by omega)
 ·rw [getD_snoc h.tl hi];split
  ·rename_i e;rw [e]
  ·exact h.te i (by omega)
 ·rw [getD_snoc h.ml hi];split
  ·rename_i e;rw [e];exact hr
  ·exact h.re i (by omega)
structure FirstN (cost:List Int) (rs:List RowV) (n m ci rr W:Nat):Prop where
 en:cost.length=n
 em:rs.length=m
 ec:colR (linOf cost rs)=ci
 c1:ci=n+m
 r1:rr=ci+m
 w1:W=rr+1
theorem first_var {cost:List Int} {rs:List RowV} {n m ci rr W:Nat} (h:FirstN cost rs n m ci rr W) {q j:Nat} {r:RowV} (hr:Num.rowAt (linOf cost rs) q=r.L) (hj:j<n):R1 (linOf cost rs) q j=sgI r.L*r.L.coef.getD j 0:=by
 unfold R1
 rw [if_pos (show j<(linOf cost rs).cost.length by show j<cost.length;rw [h.en];exact hj),hr]
theorem first_slk {cost:List Int} {rs:List RowV} {n m ci rr W:Nat} (h:FirstN cost rs n m ci rr W) {q x:Nat} {r:RowV} (hr:Num.rowAt (linOf cost rs) q=r.L) (h1:n≤x) (h2:x<ci):R1 (linOf cost rs) q x=if r.L.kind≠2∧x=n+q then (if r.L.kind=3 then -(sgI r.L) else sgI r.L) else 0:=by
 unfold R1
 rw [show (linOf cost rs).cost.length=n from h.en,h.ec,if_neg (by omega),if_pos h2,hr]
theorem first_unit {cost:List Int} {rs:List RowV} {n m ci rr W:Nat} (h:FirstN cost rs n m ci rr W) {q x:Nat} (h1:ci≤x) (h2:x<rr):R1 (linOf cost rs) q x=if x=ci+q then 1 else 0:=by
 have h3:=h.c1
 have h4:=h.r1
 unfold R1
 rw [show (linOf cost rs).cost.length=n from h.en,h.ec,lin_rows,h.em,if_neg (by omega),if_neg (by omega),if_pos (by omega)]
theorem first_rhs {cost:List Int} {rs:List RowV} {n m ci rr W:Nat} (h:FirstN cost rs n m ci rr W) {q:Nat} {r:RowV} (hr:Num.rowAt (linOf cost rs) q=r.L):R1 (linOf cost rs) q rr=sgI r.L*r.L.right:=by
 have h3:=h.c1
 have h4:=h.r1
 unfold R1
 rw [show (linOf cost rs).cost.length=n from h.en,h.ec,lin_rows,h.em,if_neg (by omega),if_neg (by omega),if_neg (by omega),if_pos (by omega),hr]
set_option maxHeartbeats 8000000 in
set_option maxRecDepth 100000 in
theorem rxfirst_any (cost:List Int) (rs:List RowV) (A:Option Addr) (ca:Nat) (R:Option Addr) (cr:Nat) (w:World) (hp:LinAt w cost rs A ca R cr) (hw:∀ r ∈ rs,r.L.coef.length=cost.length) (hsm:SmallL 18 18 (linOf cost rs)) (hkd:∀ r ∈ rs,r.L.kind=1∨r.L.kind=2∨r.L.kind=3) (hn:cost.length≤300) (hm:rs.length≤300) :
  Calls Tryz.prog 34 #[linV A cost.length ca R rs.length cr] w fun e w'=>∃ (H:KH) (vs:List VecV) (bs:List Nat) (tv:List Bool),e=.returned (.agg #[.slice H.A vs.length H.c,.int .i64 cost.length,.int .i64 (colR (linOf cost rs):Nat),.slice H.Bb bs.length H.cb,.slice H.V tv.length H.cv,.bool false])∧KPart w' w.heap.size H vs bs tv∧KuP (linOf cost rs) rs.length (rtx vs) bs tv∧Below w.heap.size w w':=by
 have hla:=hp.la
 have hlr:=hp.lr
 unfold maxLen at hla hlr
 have b0:=new_below w (linO A cost.length ca R rs.length cr)
 have n2:=new_below (w.alloc (linO A cost.length ca R rs.length cr)) (.cells #[.slice none 0 0,.int .i64 0,.int .i64 0,.slice none 0 0,.slice none 0 0,.bool false] 68)
 have bB:=below_lift3 b0 n2
 have r2:=row_new (w:=w.alloc (linO A cost.length ca R rs.length cr)) (o:=.cells #[.slice none 0 0,.int .i64 0,.int .i64 0,.slice none 0 0,.slice none 0 0,.bool false] 68)
 rw [show (w.alloc (linO A cost.length ca R rs.length cr)).heap.size=w.heap.size+1 by simp] at r2
 obtain ⟨q0,q1,q2⟩:=lin_cells n2
 have HP:=Lib.hid hp
 have HW:=Lib.hid hw
 have HSM:=Lib.hid hsm
 have HKD:=Lib.hid hkd
 have HR2:=Lib.hid r2
 clear hp hw hsm r2 hkd
 have HF:=Lib.hid (show FirstN cost rs cost.length rs.length (cost.length+rs.length) (cost.length+rs.length+rs.length) (cost.length+rs.length+rs.length+1) from ⟨rfl,rfl,by unfold colR;rw [lin_rows];rfl,rfl,rfl,rfl⟩)
 have HCR:=Lib.hid HF.out.ec
 generalize hn':cost.length=n at *
 have HN:=Lib.hid hn'
 generalize hm':rs.length=m at *
 have HM:=Lib.hid hm'
 clear hn' hm'
 have hcI:(n:Int)+(m:Int)=((n+m:Nat):Int):=by omega
 have hmm:(2:Int)*(m:Int)=((2*m:Nat):Int):=by omega
 have hnr:(n:Int)+((2*m:Nat):Int)=((n+m+m:Nat):Int):=by omega
 generalize hmme:2*m=mm at *
 generalize hce:n+m=ci at *
 generalize hre:ci+m=rr at *
 have hW:(rr:Int)+1=((rr+1:Nat):Int):=by omega
 generalize hwe:rr+1=W at *
 have hci:ci≤600:=by omega
 have hW1:rr<W:=by omega
 have hW2:W≤901:=by omega
 have hW3:(W:Int) - 1=(rr:Int):=by omega
 have hmmb:mm≤600:=by omega
 have wc:=wrap_nat (n:=ci) (by omega)
 have wm:=wrap_nat (n:=mm) (by omega)
 have wrr:=wrap_nat (n:=rr) (by omega)
 have ww:=wrap_nat (n:=W) (by omega)
 have HCE:=Lib.hid hce
 have HRE:=Lib.hid hre
 have HWE:=Lib.hid hwe
 clear hmme hce hre hwe
 go_enter Tryz.func34,Tryz.ntmps34
 simp only [B_mk]
 go_upto_region 1 with fail
 generalize (w.alloc (linO A n ca R m cr)).alloc (.cells #[.slice none 0 0,.int .i64 0,.int .i64 0,.slice none 0 0,.slice none 0 0,.bool false] 68)=wB at *
 go_quiet (fail)
 have bq:=below_drewN (Below.refl wB.heap.size wB) nq
 have c0:=(bq.cell (p:=⟨w.heap.size,0,none⟩) q2).trans q0
 have c1:=(bq.cell (p:=⟨w.heap.size,1,none⟩) q2).trans q1
 have hszC:(wB.drewN nq).heap.size=wB.heap.size:=by simp
 generalize wB.drewN nq=wC at *
 have HQ0:=Lib.hid q0
 have HQ1:=Lib.hid q1
 clear q0 q1
 have row1:=row_new (w:=wC) (o:=.cells #[.slice none 0 0,.int .i64 n,.int .i64 ci,.slice none 0 0,.slice none 0 0,.bool false] 68)
 have n3:=new_below wC (.cells #[.slice none 0 0,.int .i64 n,.int .i64 ci,.slice none 0 0,.slice none 0 0,.bool false] 68)
 have hS0:SxK (wC.alloc (.cells #[.slice none 0 0,.int .i64 n,.int .i64 ci,.slice none 0 0,.slice none 0 0,.bool false] 68)) wB.heap.size ⟨wC.heap.size,none,0,none,0,none,0⟩ n ci [] [] [] :=
  ⟨by show wB.heap.size≤wC.heap.size;omega,row1,⟨OwnS.nil _ _ _,fun r h=>absurd h (by simp),OwnS.nil _ _ _,OwnS.nil _ _ _⟩⟩
 have HS0:=Lib.hid hS0
 have HB1:=Lib.hid (bq.trans (n3.mono bq.size))
 have HBB:=Lib.hid bB
 have HL0:=Lib.hid (fun w' (h:Below wB.heap.size wB w')=>(show w'.cell? ⟨w.heap.size,0,none⟩=some (.slice A n ca)∧w'.cell? ⟨w.heap.size,1,none⟩=some (.slice R m cr) from ⟨(h.cell (p:=⟨w.heap.size,0,none⟩) q2).trans HQ0.out,(h.cell (p:=⟨w.heap.size,1,none⟩) q2).trans HQ1.out⟩))
 go_wp2_with fail
 clear c0 c1 row1 n3 hS0 bq n2 bB q2
 generalize wC.alloc (.cells #[.slice none 0 0,.int .i64 n,.int .i64 ci,.slice none 0 0,.slice none 0 0,.bool false] 68)=w1 at *
 rw [hszC] at HS0
 clear hszC
 go_loopw [7,8,9,10,11] (fun i _ _ _ _ wr=>∃ (q:Nat) (H:KH) (vs:List VecV) (bs:List Nat) (tv:List Bool),q≤m∧i=.int .i64 q∧H.kt=wB.heap.size∧SxK wr wB.heap.size H n ci vs bs tv∧KuP (linOf cost rs) q (rtx vs) bs tv∧Below wB.heap.size wB wr) (fun i _ _ _ _ _=>m - (intOf i).toNat)
 case atStart=>exact ⟨0,_,[],[],[],Nat.zero_le _,rfl,rfl,HS0.out,⟨rfl,rfl,rfl,fun i hi=>absurd hi (Nat.not_lt_zero _),fun i hi=>absurd hi (Nat.not_lt_zero _),fun i hi=>absurd hi (Nat.not_lt_zero _)⟩,HB1.out⟩
 case round =>
  clear HS0 HB1
  obtain ⟨q,H,vs,bs,tv,hq,rfl,hkt,hS,hB,hbB⟩:=hrel
  have HS:=Lib.hid hS
  have HB:=Lib.hid hB
  have hbw:=below_lift3 HBB.out hbB
  have HBw:=Lib.hid hbw
  have HBBr:=Lib.hid hbB
  by_cases hlt:q<m
  ·obtain ⟨bR,oR,rfl,hbR,hcR⟩:=HP.out.rows.at (by rw [HM.out];omega)
   have hql:q<rs.length:=by rw [HM.out];exact hlt
   have hrl:rs[q].L.coef.length=n:=HW.out _ (List.getElem_mem hql)
   have HCR2:=Lib.hid (fun w' (h:Below w.heap.size w w')=>(show w'.cell? ⟨bR,oR+q*3,none⟩=some (.slice rs[q].A n rs[q].c)∧w'.cell? ⟨bR,oR+q*3+1,none⟩=some (.int .i64 rs[q].L.kind)∧w'.cell? ⟨bR,oR+q*3+2,none⟩=some (.int .i64 rs[q].L.right) from ⟨by have:=(h.cell (p:=⟨bR,oR+q*3,none⟩) hbR).trans (hcR q hql).1;rwa [hrl] at this,(h.cell (p:=⟨bR,oR+q*3+1,none⟩) hbR).trans (hcR q hql).2.1,(h.cell (p:=⟨bR,oR+q*3+2,none⟩) hbR).trans (hcR q hql).2.2⟩))
   have HRA:=Lib.hid (lin_rowAt cost rs q hql)
   have hok:=HP.out.ok rs[q] (List.getElem_mem hql)
   have HCC:=Lib.hid (HP.out.rows.2 rs[q] (List.getElem_mem hql))
   have HSR:=Lib.hid (HSM.out.right rs[q].L (by show _ ∈ rs.map (·.L);exact List.mem_map_of_mem (List.getElem_mem hql)))
   have HSC:=Lib.hid (HSM.out.coef rs[q].L (by show _ ∈ rs.map (·.L);exact List.mem_map_of_mem (List.getElem_mem hql)))
   have HRL:=Lib.hid hrl
   have HKK:=Lib.hid (HKD.out rs[q] (List.getElem_mem hql))
   have hrc1:=hok.1
   have hrc2:=hok.2.1
   unfold maxLen at hrc2
   rw [hrl] at hrc1
   clear hcR hok hrl hS hB
   generalize rs[q]=r at *
   obtain ⟨k0,k1⟩:=HL0.out wr hbB
   obtain ⟨c0,c1,c2⟩:=HCR2.out wr hbw
   have hsb:wr.heap.size≤wr.heap.size:=Nat.le_refl _
   go_upto_if 41 with (refine wp_mkn el_mrat rfl _ _ rfl wr.heap.size _ .i64 .i64 _ _ W rfl rfl rfl rfl (by omega) (by unfold maxLen;omega) (Nat.le_refl _) rfl ?_;intro X0 wA hown0 hbA;obtain ⟨j0,j1⟩:=HL0.out wA (HBBr.out.trans (hbA.mono HBBr.out.size));obtain ⟨e0,e1,e2⟩:=HCR2.out wA (below_lift3 HBw.out hbA))
   clear k0 k1 c0 c1 c2 hsb
   obtain ⟨gx,e,hgx1,hgx2,_,_⟩:=hown0.at_ (by omega)
   subst e
   have HOA:=Lib.hid hown0
   have HBA:=Lib.hid hbA
   have HGX:=Lib.hid hgx1
   clear hown0 hbA hgx1 hgx2
   go_cut [9] (fun s wx=>s=.int .i64 (sgI r.L)∧wx=wA)
   case first =>
    by_cases hneg:r.L.right<0
    ·have HG:=Lib.hid (show sgI r.L = -1 from if_pos hneg)
     go_wp2_with fail
     go_meet
     exact ⟨by rw [HG.out],rfl⟩
    ·have HG:=Lib.hid (show sgI r.L=1 from if_neg hneg)
     go_wp2_with fail
     go_meet
     exact ⟨by rw [HG.out],rfl⟩
   case rest =>
    obtain ⟨rfl,hwA⟩:=hcut
    obtain rfl:=hwA.symm
    clear j0 j1 e0 e1 e2
    go_wp2_with fail
    obtain ⟨wo,hwo⟩:∃ wo,wo=wr:=⟨wr,rfl⟩
    subst hwo
    have HST:=Lib.hid (show ∃ xs:List Str,OwnS wA wo.heap.size 29 (some ⟨gx,0,none⟩) W W (strs xs)∧TxL W (fun x s=>x<0→s=[48]) xs from ⟨List.replicate W [],by rw [← strs_rep];exact HOA.out,by simp,fun x _ h=>absurd h (Nat.not_lt_zero _)⟩)
    go_loopw [10] (fun i wr=>∃ (j:Nat) (xs:List Str),j≤W∧i=.int .i64 j∧OwnS wr wo.heap.size 29 (some ⟨gx,0,none⟩) W W (strs xs)∧TxL W (fun x s=>x<j→s=[48]) xs∧Below wo.heap.size wo wr) (fun i _=>W - (intOf i).toNat)
    case atStart =>
     obtain ⟨xs,h1,h2⟩:=HST.out
     exact ⟨0,xs,Nat.zero_le _,rfl,h1,h2,HBA.out⟩
    case round =>
     clear HOA HST HBA
     obtain ⟨j,xs,hj,rfl,hown,htx,hb⟩:=hrel
     have HOW:=Lib.hid hown
     have HTX:=Lib.hid htx
     have HBO:=Lib.hid hb
     by_cases hlj:j<W
     ·
      obtain ⟨g1,e,_,hgw,hgc,hgf⟩:=hown.at_ (by omega)
      obtain rfl:gx=g1:=by injection e with e;injection e with e _ _
      have d0:=hgc j hlj
      rw [strs_get _ _ (by rw [htx.1];exact hlj)] at d0
      have d1:=hgf j
      have HN2:=Lib.hid (show TxL W (fun x s=>x<j+1→s=[48]) (xs.set j [48]) from htx.set (fun _=>rfl) (fun x _ hne u h hx=>h (by omega)))
      clear hgc hgf hown htx hb
      generalize xs.getD j []=u0 at *
      go_wp2_with fail
      go_roundw
      case rel=>exact ⟨j+1,xs.set j [48],by omega,by go_num,by rw [← strs_set];exact HOW.out.stored _ _,HN2.out,HBO.out.setCell HGX.out _⟩
      case measure=>simp [intOf];omega
     ·have HA0:=Lib.hid (show TxL W (RowZ (R1 (linOf cost rs) q) 0) xs from htx.imp fun x hx u h=>by unfold RowZ;rw [if_neg (Nat.not_lt_zero _)];exact h (by omega))
      have hjx:¬ (j:Int)<(W:Int):=by omega
      clear hown htx hb HTX hj hlj
      go_wp2_with fail
      go_loopw [11] (fun i wr=>∃ (j:Nat) (xs:List Str),j≤n∧i=.int .i64 j∧OwnS wr wo.heap.size 29 (some ⟨gx,0,none⟩) W W (strs xs)∧TxL W (RowZ (R1 (linOf cost rs) q) j) xs∧Below wo.heap.size wo wr) (fun i _=>n - (intOf i).toNat)
      case atStart=>exact ⟨0,xs,Nat.zero_le _,rfl,HOW.out,HA0.out,HBO.out⟩
      case round =>
       clear HOW HBO HA0 hjx
       obtain ⟨j,xs,hj,rfl,hown,htx,hb⟩:=hrel
       have HOW:=Lib.hid hown
       have HTX:=Lib.hid htx
       have HBO:=Lib.hid hb
       by_cases hlj:j<n
       ·
        obtain ⟨g1,e,_,hgw,hgc,hgf⟩:=hown.at_ (by omega)
        obtain rfl:gx=g1:=by injection e with e;injection e with e _ _
        have hjW:j<W:=by have:=HCE.out;have:=HRE.out;omega
        have d0:=hgc j hjW
        rw [strs_get _ _ (by rw [htx.1];exact hjW)] at d0
        have d1:=hgf j
        have hbw2:=below_lift3 HBw.out hb
        have hjl:j<r.L.coef.length:=by rw [HRL.out];exact hlj
        obtain ⟨bc,oc,hA,dc⟩:=ints_at (HCC.out.below hbw2) hjl
        have hcj:r.L.coef.getD j 0=r.L.coef[j]:=by rw [List.getD_eq_getElem?_getD,List.getElem?_eq_getElem hjl];rfl
        have hR:R1 (linOf cost rs) q j=sgI r.L*r.L.coef[j]:=by rw [first_var HF.out HRA.out hlj,hcj]
        have hfz:fits (sgI r.L*r.L.coef[j]):=fits_dl (dl_sg (HSC.out _ (List.getElem_mem hjl)))
        have HOF:=Lib.hid (rqof_any (sgI r.L*r.L.coef[j]) wr hfz)
        have HN2:=Lib.hid (show TxL W (RowZ (R1 (linOf cost rs) q) (j+1)) (xs.set j (decI (sgI r.L*r.L.coef[j]))) from RowZ.put htx (Nat.le_succ j) (Nat.lt_succ_self j) (by rw [hR]) (fun x h1 h2 h3=>absurd h3 (by omega)))
        have hwz:IntKind.i64.wrap (sgI r.L*r.L.coef[j])=sgI r.L*r.L.coef[j]:=wrap_fits hfz
        obtain ⟨k0,k1⟩:=HL0.out wr (HBBr.out.trans (hb.mono HBBr.out.size))
        obtain ⟨c0,c1,c2⟩:=HCR2.out wr hbw2
        have HAA:=Lib.hid hA
        clear hgc hgf hown htx hb hcj hR hA hfz hbw2
        generalize r.L.coef[j]=cj at *
        generalize xs.getD j []=u0 at *
        generalize decI (sgI r.L*cj)=y at *
        rw [HAA.out] at c0
        go_wp2_with fail
        refine HOF.out.mono ?_
        rintro e w2 ⟨rfl,hb2⟩
        have e0:=(hb2.cell (p:=⟨gx,j,none⟩) hgw).trans d0
        have e1:=(hb2.frozen (p:=⟨gx,j,none⟩) hgw).trans d1
        have hown2:=(HOW.out.below hb2).stored j (.string (B y))
        have hb3:=(HBO.out.trans (hb2.mono HBO.out.size)).setCell HGX.out (.string (B y)) (p:=⟨gx,j,none⟩)
        clear d0 d1 dc HOF c0 c1 c2 k0 k1
        go_wp2_with fail
        go_roundw
        case rel=>exact ⟨j+1,_,by omega,by go_num,by rw [← strs_set];exact hown2,HN2.out,hb3⟩
        case measure=>simp [intOf];omega
       ·have hjn:j=n:=by omega
        have HXA:=Lib.hid (show TxL W (RowZ (R1 (linOf cost rs) q) n) xs by rw [← hjn];rw [hjn] at htx ⊢;exact htx)
        have hjx:¬ (j:Int)<(n:Int):=by omega
        have hbw2:=below_lift3 HBw.out hb
        obtain ⟨k0,k1⟩:=HL0.out wr (HBBr.out.trans (hb.mono HBBr.out.size))
        obtain ⟨c0,c1,c2⟩:=HCR2.out wr hbw2
        clear hown htx hb HTX hj hlj hjn hbw2
        go_upto_if 76 with fail
        have HSL:=Lib.hid (fun (x:Nat) (h1:n≤x) (h2:x<ci)=>first_slk HF.out HRA.out (q:=q) h1 h2)
        have hsI:(n:Int)+(q:Int)=((n+q:Nat):Int):=by omega
        have hsk:n+q<ci:=by have:=HCE.out;omega
        generalize hske:n+q=sk at *
        have HSKE:=Lib.hid hske
        have hskn:n≤sk:=by omega
        have hskW:sk<W:=by have:=HRE.out;omega
        have wsk:=wrap_nat (n:=sk) (by omega)
        clear hske
        go_cut [] (fun wx=>∃ xs':List Str,OwnS wx wo.heap.size 29 (some ⟨gx,0,none⟩) W W (strs xs')∧((r.L.kind=1∧TxL W (RowZ (R1 (linOf cost rs) q) ci) xs')∨(r.L.kind≠1∧TxL W (RowZ (R1 (linOf cost rs) q) n) xs'))∧Below wo.heap.size wo wx)
        case first =>
         by_cases hk:r.L.kind=1
         ·have hk':(r.L.kind == 1)=true:=by simpa using hk
          have hRs:R1 (linOf cost rs) q sk=sgI r.L:=by rw [HSL.out sk hskn hsk,if_pos ⟨by omega,by have:=HSKE.out;omega⟩,if_neg (by omega)]
          have HU:=Lib.hid (show TxL W (RowZ (R1 (linOf cost rs) q) ci) (xs.set sk (decI (sgI r.L))) from RowZ.put HXA.out (by omega) hsk (by rw [hRs]) fun x h1 h2 h3=>by rw [HSL.out x h1 h2,if_neg (fun h=>h3 (by have:=HSKE.out;omega))])
          have hfz:fits (sgI r.L):=by rcases sg_sign r.L with e | e <;> rw [e] <;> constructor <;> omega
          have hwz:IntKind.i64.wrap (sgI r.L)=sgI r.L:=wrap_fits hfz
          have HOF:=Lib.hid (rqof_any (sgI r.L) wr hfz)
          obtain ⟨g1,e,_,hgw,hgc,hgf⟩:=HOW.out.at_ (by omega)
          obtain rfl:gx=g1:=by injection e with e;injection e with e _ _
          have d0:=hgc sk hskW
          rw [strs_get _ _ (by rw [HXA.out.1];exact hskW)] at d0
          have d1:=hgf sk
          have HK:=Lib.hid hk
          clear hgc hgf hRs hfz hk
          generalize xs.getD sk []=u0 at *
          go_wp2_with fail
          refine HOF.out.mono ?_
          rintro e w2 ⟨rfl,hb2⟩
          have e0:=(hb2.cell (p:=⟨gx,sk,none⟩) hgw).trans d0
          have e1:=(hb2.frozen (p:=⟨gx,sk,none⟩) hgw).trans d1
          have hown2:=(HOW.out.below hb2).stored sk (.string (B (decI (sgI r.L))))
          have hb3:=(HBO.out.trans (hb2.mono HBO.out.size)).setCell HGX.out (.string (B (decI (sgI r.L)))) (p:=⟨gx,sk,none⟩)
          clear d0 d1 HOF
          go_wp2_with fail
          go_meet
          exact ⟨_,by rw [← strs_set];exact hown2,.inl ⟨HK.out,HU.out⟩,hb3⟩
         ·have hk':(r.L.kind == 1)=false:=by simpa using hk
          have HK:=Lib.hid hk
          clear hk
          go_wp2_with fail
          go_meet
          exact ⟨xs,HOW.out,.inr ⟨HK.out,HXA.out⟩,HBO.out⟩
        case rest =>
         obtain ⟨xs1,hown1,hcs,hb1⟩:=hcut
         have HOW1:=Lib.hid hown1
         have HBO1:=Lib.hid hb1
         have HCS:=Lib.hid hcs
         have hbw3:=below_lift3 HBw.out hb1
         clear k0 k1 c0 c1 c2
         obtain ⟨k0,k1⟩:=HL0.out wc (HBBr.out.trans (hb1.mono HBBr.out.size))
         obtain ⟨c0,c1,c2⟩:=HCR2.out wc hbw3
         clear hown1 hb1 hcs hbw3
         go_upto_if 90 with fail
         go_cut [] (fun wx=>∃ xs':List Str,OwnS wx wo.heap.size 29 (some ⟨gx,0,none⟩) W W (strs xs')∧TxL W (RowZ (R1 (linOf cost rs) q) ci) xs'∧Below wo.heap.size wo wx)
         case first =>
          by_cases hk:r.L.kind=3
          ·rcases HCS.out with ⟨h1,_⟩ | ⟨h1,HXB⟩
           ·exact absurd hk (by omega)
           have HXC:=Lib.hid HXB
           clear HXB
           have hk':(r.L.kind == 3)=true:=by simpa using hk
           have hRs:R1 (linOf cost rs) q sk = -(sgI r.L):=by rw [HSL.out sk hskn hsk,if_pos ⟨by omega,by have:=HSKE.out;omega⟩,if_pos hk]
           have HU:=Lib.hid (show TxL W (RowZ (R1 (linOf cost rs) q) ci) (xs1.set sk (decI (-(sgI r.L)))) from RowZ.put HXC.out (by omega) hsk (by rw [hRs]) fun x h1 h2 h3=>by rw [HSL.out x h1 h2,if_neg (fun h=>h3 (by have:=HSKE.out;omega))])
           have hfz:fits (-(sgI r.L)):=by rcases sg_sign r.L with e | e <;> rw [e] <;> constructor <;> omega
           have hwz:IntKind.i64.wrap (-(sgI r.L)) = -(sgI r.L):=wrap_fits hfz
           have HOF:=Lib.hid (rqof_any (-(sgI r.L)) wc hfz)
           obtain ⟨g1,e,_,hgw,hgc,hgf⟩:=HOW1.out.at_ (by omega)
           obtain rfl:gx=g1:=by injection e with e;injection e with e _ _
           have d0:=hgc sk hskW
           rw [strs_get _ _ (by rw [HXC.out.1];exact hskW)] at d0
           have d1:=hgf sk
           have HK:=Lib.hid hk
           clear hgc hgf hRs hfz hk
           generalize xs1.getD sk []=u0 at *
           go_wp2_with fail
           refine HOF.out.mono ?_
           rintro e w2 ⟨rfl,hb2⟩
           have e0:=(hb2.cell (p:=⟨gx,sk,none⟩) hgw).trans d0
           have e1:=(hb2.frozen (p:=⟨gx,sk,none⟩) hgw).trans d1
           have hown2:=(HOW1.out.below hb2).stored sk (.string (B (decI (-(sgI r.L)))))
           have hb3:=(HBO1.out.trans (hb2.mono HBO1.out.size)).setCell HGX.out (.string (B (decI (-(sgI r.L))))) (p:=⟨gx,sk,none⟩)
           clear d0 d1 HOF
           go_wp2_with fail
           go_meet
           exact ⟨_,by rw [← strs_set];exact hown2,HU.out,hb3⟩
          ·have hk':(r.L.kind == 3)=false:=by simpa using hk
           have HU:=Lib.hid (show TxL W (RowZ (R1 (linOf cost rs) q) ci) xs1 from by
            rcases HCS.out with ⟨h1,h2⟩ | ⟨h1,h2⟩
            ·exact h2
            ·exact RowZ.up h2 (by omega) fun x h3 h4=>by
              rw [HSL.out x h3 h4,if_neg]
              intro h
              have:=h.1
              have hkk:=HKK.out
              omega)
           clear hk
           go_wp2_with fail
           go_meet
           exact ⟨xs1,HOW1.out,HU.out,HBO1.out⟩
         case rest =>
          obtain ⟨xs2,hown,htx,hb⟩:=hcut
          have huI:(ci:Int)+(q:Int)=((ci+q:Nat):Int):=by omega
          have hur:ci+q<rr:=by have:=HRE.out;omega
          generalize hue:ci+q=u at *
          have HUE:=Lib.hid hue
          clear hue
          have huW:u<W:=by omega
          have wu:=wrap_nat (n:=u) (by omega)
          obtain ⟨g1,e,_,hgw,hgc,hgf⟩:=hown.at_ (by omega)
          obtain rfl:gx=g1:=by injection e with e;injection e with e _ _
          have d0:=hgc u huW
          rw [strs_get _ _ (by rw [htx.1];exact huW)] at d0
          have d1:=hgf u
          have hR1:R1 (linOf cost rs) q u=1:=by rw [first_unit HF.out (by have:=HUE.out;omega) hur,if_pos HUE.out.symm]
          have htx2:TxL W (RowZ (R1 (linOf cost rs) q) rr) (xs2.set u [49]):=RowZ.put htx (by have:=HRE.out;omega) hur (by rw [hR1];exact decI_o1.symm) fun x h1 h2 h3=>by rw [first_unit HF.out h1 h2,if_neg (by have:=HUE.out;omega)]
          have hR2:R1 (linOf cost rs) q rr=sgI r.L*r.L.right:=first_rhs HF.out HRA.out
          have htx3:TxL W (RowZ (R1 (linOf cost rs) q) W) ((xs2.set u [49]).set rr (decI (sgI r.L*r.L.right))):=RowZ.put htx2 (by omega) hW1 (by rw [hR2]) fun x h1 h2 h3=>absurd h3 (by have:=HWE.out;omega)
          have hownB:=hown.stored u (.string (B [49]))
          rw [strs_set] at hownB
          have hbB:=hb.setCell HGX.out (.string (B [49])) (p:=⟨gx,u,none⟩)
          have hfz:fits (sgI r.L*r.L.right):=fits_dl (dl_sg HSR.out)
          have hwz:=wrap_fits hfz
          have HOF:=Lib.hid (rqof_any (sgI r.L*r.L.right) (wc.setCell ⟨gx,u,none⟩ (.string (B [49]))) hfz)
          obtain ⟨g1,e,_,hgw2,hgc2,hgf2⟩:=hownB.at_ (by omega)
          obtain rfl:gx=g1:=by injection e with e;injection e with e _ _
          have dr0:=hgc2 rr hW1
          rw [strs_get _ _ (by rw [htx2.1];exact hW1)] at dr0
          have dr1:=hgf2 rr
          have HTX3:=Lib.hid htx3
          have HOB:=Lib.hid hownB
          have HBB2:=Lib.hid hbB
          clear k0 k1 c0 c1 c2
          obtain ⟨k0,k1⟩:=HL0.out _ (HBBr.out.trans (hbB.mono HBBr.out.size))
          obtain ⟨c0,c1,c2⟩:=HCR2.out _ (below_lift3 HBw.out hbB)
          generalize hys:(xs2.set u [49]).set rr (decI (sgI r.L*r.L.right))=ys at *
          have HYS:=Lib.hid hys
          generalize (xs2.set u [49]).getD rr []=u1 at *
          generalize xs2.getD u []=u0 at *
          clear hgc hgf hgc2 hgf2 htx htx2 htx3 hown hownB hb hbB hR1 hR2 hys hfz
          generalize decI (sgI r.L*r.L.right)=yr at *
          go_wp2_with fail
          refine HOF.out.mono ?_
          rintro e w2 ⟨rfl,hb2⟩
          have e0:=(hb2.cell (p:=⟨gx,rr,none⟩) hgw2).trans dr0
          have e1:=(hb2.frozen (p:=⟨gx,rr,none⟩) hgw2).trans dr1
          have hown3:=(HOB.out.below hb2).stored rr (.string (B yr))
          rw [strs_set] at hown3
          have hb3:=(HBB2.out.trans (hb2.mono HBB2.out.size)).setCell HGX.out (.string (B yr)) (p:=⟨gx,rr,none⟩)
          have hS3:=HS.out.below hb3
          have hbw3:=below_lift3 HBw.out hb3
          have hbB3:=HBBr.out.trans (hb3.mono HBBr.out.size)
          have HYL:=Lib.hid (show ys.length=W from HTX3.out.1)
          have HY:=Lib.hid (show RowK (w2.setCell ⟨gx,rr,none⟩ (.string (B yr))) ⟨some ⟨gx,0,none⟩,W,ys⟩ from rowK_own (by rw [← HYS.out];exact hown3) HTX3.out.1)
          have HML:=Lib.hid HB.out.ml
          rw [rtx_length] at HML
          have hMl:vs.length≤300:=by rw [HML.out];omega
          have hbl3:bs.length≤300:=by rw [HB.out.bl];omega
          have htl3:tv.length≤300:=by rw [HB.out.tl];omega
          have HS3:=Lib.hid hS3
          have HBW3:=Lib.hid hbw3
          have HBB3:=Lib.hid hbB3
          have f0:=hS3.cell 0
          have z0:=hS3.free 0
          rw [hkt] at f0 z0
          clear d0 d1 dr0 dr1 HOF hown3 hb3 hb2 hS3 hbw3 hbB3 hgw hgw2 k0 k1 c0 c1 c2
          go_upto_region 25 with fail
          generalize w2.setCell ⟨gx,rr,none⟩ (.string (B yr))=w3 at *
          clear e0 e1
          have HKA:=Lib.hid (fun (A':Option Addr) (c':Nat) (w4:World) (h1:OwnS w4 wB.heap.size 28 A' (vs.length+1) c' (vs.map hdrK ++ [.slice (some ⟨gx,0,none⟩) W W])) (hk:KeptA H.A w3 w4)=>(show SxK (w4.setCell ⟨H.kt,0,none⟩ (.slice A' (vs.length+1) c')) wB.heap.size { H with A:=A',c:=c' } n ci (vs ++ [⟨some ⟨gx,0,none⟩,W,ys⟩]) bs tv from by
           have h2:=HS3.out.app (k:=vs.length) (Nat.le_refl _) HY.out (A':=A') (c':=c') (by rw [List.take_length];show OwnS _ _ _ _ _ _ (_ ++ [.slice (some ⟨gx,0,none⟩) ys.length W]);rw [HYL.out];exact h1) hk
           rw [List.take_length] at h2;exact h2))
          rw [hkt] at HKA
          have HCA:=Lib.hid (fun w4 (hk:KeptA H.A w3 w4)=>HS3.out.cellA HS3.out.part.outer (by decide) hk 0)
          rw [hkt] at HCA
          go_upto_region 26 with (at_builtin;refine wp_app1f el_mrow rfl _ _ rfl wB.heap.size _ _ _ _ _ (.slice (some ⟨gx,0,none⟩) W W) rfl HS3.out.part.outer rfl rfl (by unfold maxLen;omega) (by omega) HBB3.out.size ?_;intro A4 c4 w4 hown4 hb4 hk4 hf4;have hS4:=HKA.out A4 c4 w4 hown4 hk4;obtain ⟨g0,y0⟩:=HCA.out w4 hk4;have HB4:=Lib.hid ((HBB3.out.trans hb4).setCell (Nat.le_refl _) (.slice A4 (vs.length+1) c4) (p:=⟨wB.heap.size,0,none⟩));have HS4:=Lib.hid (show ∃ H4:KH,H4.kt=wB.heap.size∧SxK (w4.setCell ⟨wB.heap.size,0,none⟩ (.slice A4 (vs.length+1) c4)) wB.heap.size H4 n ci (vs ++ [⟨some ⟨gx,0,none⟩,W,ys⟩]) bs tv from ⟨_,(by first | rfl | exact hkt),hS4⟩);clear hS4 hown4 hb4)
          generalize w4.setCell ⟨wB.heap.size,0,none⟩ (.slice A4 (vs.length+1) c4)=w5 at *
          clear g0 y0 f0 z0 hk4 hf4 HKA HCA HS3 HBW3 HBB3 HY
          obtain ⟨H4,hk4,hS4⟩:=HS4.out
          clear HS4
          have f4:=hS4.cell 3
          have z4:=hS4.free 3
          rw [hk4] at f4 z4
          have HS4:=Lib.hid hS4
          have HCB:=Lib.hid (fun w' (hk:KeptA H4.Bb w5 w')=>hS4.cellA hS4.part.bas (by decide) hk 3)
          rw [hk4] at HCB
          have HAB:=Lib.hid (fun (A':Option Addr) (c':Nat) (w':World) (h1:OwnS w' wB.heap.size 3 A' (bs.length+1) c' (nums (bs ++ [u]))) (hk:KeptA H4.Bb w5 w')=>hS4.appBase h1 hk)
          rw [hk4] at HAB
          clear hS4
          go_upto_region 27 with (at_builtin;refine wp_app1f el_bint rfl _ _ rfl wB.heap.size _ _ _ _ _ (.int .i64 u) rfl HS4.out.part.bas rfl rfl (by unfold maxLen;omega) (by omega) HB4.out.size ?_;intro A5 c5 v5 hown5 hb5 hk5 hf5;rw [nums_snoc_b] at hown5;have hS5:=HAB.out A5 c5 v5 hown5 hk5;obtain ⟨g5,y5⟩:=HCB.out v5 hk5;have HB5:=Lib.hid ((HB4.out.trans hb5).setCell (Nat.le_refl _) (.slice A5 (bs.length+1) c5) (p:=⟨wB.heap.size,3,none⟩));have HS5:=Lib.hid (show ∃ H5:KH,H5.kt=wB.heap.size∧SxK (v5.setCell ⟨wB.heap.size,3,none⟩ (.slice A5 (bs.length+1) c5)) wB.heap.size H5 n ci (vs ++ [⟨some ⟨gx,0,none⟩,W,ys⟩]) (bs ++ [u]) tv from ⟨_,(by first | rfl | exact hk4),hS5⟩);clear hS5 hown5 hb5)
          generalize v5.setCell ⟨wB.heap.size,3,none⟩ (.slice A5 (bs.length+1) c5)=w6 at *
          clear g5 y5 f4 z4 hk5 hf5 HAB HCB HS4 HB4 hk4
          obtain ⟨H5,hk5,hS5⟩:=HS5.out
          clear HS5
          have f5:=hS5.cell 4
          have z5:=hS5.free 4
          rw [hk5] at f5 z5
          have HS5:=Lib.hid hS5
          have HCC2:=Lib.hid (fun w' (hk:KeptA H5.V w6 w')=>hS5.cellA hS5.part.tur (by decide) hk 4)
          rw [hk5] at HCC2
          have HAC:=Lib.hid (fun (A':Option Addr) (c':Nat) (w':World) (h1:OwnS w' wB.heap.size 4 A' (tv.length+1) c' (boolsV (tv ++ [decide (sgI r.L<0)]))) (hk:KeptA H5.V w6 w')=>hS5.appFlip h1 hk)
          rw [hk5] at HAC
          clear hS5
          go_wp2_with (at_builtin;refine wp_app1f el_bool rfl _ _ rfl wB.heap.size _ _ _ _ _ (.bool (decide (sgI r.L<0))) rfl HS5.out.part.tur rfl rfl (by unfold maxLen;omega) (by omega) HB5.out.size ?_;intro A6 c6 v6 hown6 hb6 hk6 hf6;rw [bools_snoc_b] at hown6;have hS6:=HAC.out A6 c6 v6 hown6 hk6;obtain ⟨g6,y6⟩:=HCC2.out v6 hk6;have HB6:=Lib.hid ((HB5.out.trans hb6).setCell (Nat.le_refl _) (.slice A6 (tv.length+1) c6) (p:=⟨wB.heap.size,4,none⟩));have HS6:=Lib.hid (show ∃ H6:KH,H6.kt=wB.heap.size∧SxK (v6.setCell ⟨wB.heap.size,4,none⟩ (.slice A6 (tv.length+1) c6)) wB.heap.size H6 n ci (vs ++ [⟨some ⟨gx,0,none⟩,W,ys⟩]) (bs ++ [u]) (tv ++ [decide (sgI r.L<0)]) from ⟨_,(by first | rfl | exact hk5),hS6⟩);clear hS6 hown6 hb6)
          obtain ⟨H6,hk6b,hS6⟩:=HS6.out
          go_roundw
          case rel =>
           refine ⟨q+1,H6,_,_,_,by omega,by go_num,hk6b,hS6,?_,HB6.out⟩
           have hnx:=HB.out.next (r:=ys) (by
            have h1:colR (linOf cost rs)+(linOf cost rs).rows.length+1=W:=by rw [HCR.out,lin_rows,HM.out,HRE.out,HWE.out]
            rw [h1]
            exact HTX3.out.imp fun x hx s hs=>by unfold RowZ at hs;rw [if_pos hx] at hs;exact hs)
           rw [HCR.out,HUE.out,HRA.out] at hnx
           have hb9:decide (sgI r.L<0)=decide (r.L.right<0):=by
            unfold sgI
            by_cases e:r.L.right<0
            ·rw [if_pos e];simp [e]
            ·rw [if_neg e];simp [e]
           rw [hb9]
           unfold rtx at hnx ⊢
           rw [List.map_append]
           exact hnx
          case measure=>simp [intOf];omega
  ·have hqm:q=m:=by omega
   have hqx:¬ (q:Int)<(m:Int):=by omega
   have HX:=Lib.hid (show KuP (linOf cost rs) m (rtx vs) bs tv by rw [hqm] at hB;exact hB)
   have r3:=row_on HR2.out hbB
   have HR3:=Lib.hid r3
   obtain ⟨⟨b0',b1',b2',b3',b4',b5'⟩,z0,z1,z2,z3,z4,z5⟩:=row_cells6 r3
   have a0:=hS.cell 0
   have a1:=hS.cell 1
   have a2:=hS.cell 2
   have a3:=hS.cell 3
   have a4:=hS.cell 4
   have a5:=hS.cell 5
   rw [hkt] at a0 a1 a2 a3 a4 a5
   clear hqm hS hB r3
   go_wp2_with fail
   (try simp only [Exit.inBlock,Exit.then])
   refine bodyPost_ret (first_res (row_set6 HR3.out) rfl) rfl ?_
   refine ⟨H,vs,bs,tv,by rw [HCR.out],(HS.out.part.kept kept6 HR3.out).mono HBB.out.size,HX.out,below6 HBw.out (Nat.le_succ _)⟩
end Go.Proofs.YtmppmdmekomjbaaGreatDoor

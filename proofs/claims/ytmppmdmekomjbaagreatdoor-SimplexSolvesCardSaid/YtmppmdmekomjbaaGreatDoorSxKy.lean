/- The law SimplexSolves. -/
import Derived.Test.YtmppmdmekomjbaaGreatDoorG37
import Derived.Test.YtmppmdmekomjbaaGreatDoorG50
import Derived.Test.YtmppmdmekomjbaaGreatDoorSxKu
import Derived.Test.YtmppmdmekomjbaaGreatDoorG40
import Derived.Deep.RegionHeld3
namespace Go.Proofs.YtmppmdmekomjbaaGreatDoor
open Go.RowKit Num
set_option linter.unusedVariables false
attribute [local go_sem] B_size B_get B_toList B_mk B_extract B_append
attribute [local go_sem high] run_max2
section
variable (cost:List Int) (rs:List RowV) (A:Option Addr) (ca:Nat) (R:Option Addr) (cr:Nat) (w:World)
theorem rxsolve_any (hp:LinAt w cost rs A ca R cr) (ho:OkP 3 cost rs) :
  Calls Tryz.prog 11 #[linV A cost.length ca R rs.length cr] w fun e w'=>∃ (v:Value) (a:AnsL),e=.returned (.tuple #[v,.int .i64 0])∧AnsAt w' v a∧AnsR 511 (linOf cost rs) a∧Below w.heap.size w w':=by
 have hm:=lin_rows cost rs
 have hP:RefP 511 (linOf cost rs):=⟨fun i hi=>by
  rw [rowAt_eq hi]
  have:(linOf cost rs).rows[i]=rs[i].L:=List.getElem_map (fun r:RowV=>r.L)
  rw [this]
  exact ho.kd _ (List.getElem_mem (by rw [← hm];exact hi)),ho.sm,ho.n7,by rw [hm];exact ho.m7,?_,?_,by decide,by decide⟩
 ·have:=Ph.of hP
  rw [hm] at this
  exact rxsolve_ph cost rs A ca R cr w hp this rfl rfl (by unfold colR;rw [hm]) ho.cl ho.len ho.kd ⟨fun r hr n hn=>Nat.le_trans (ho.sm.coef r hr n hn) (by omega),fun r hr=>Nat.le_trans (ho.sm.right r hr) (by omega),fun n hn=>Nat.le_trans (ho.sm.cost n hn) (by omega)⟩
 ·rw [hm];exact Nat.le_trans (gr_more (show rs.length - 1≤6 by have:=ho.m7;omega) 3) (show gr 6 3≤255 by decide)
 ·rw [hm];exact Nat.le_trans (gr_seven ho.m7) (by decide)
end
theorem ans_boxK {w:World} (k:Int) (u v x:Value) (s:Str) :
  ∀ w',Below (w.alloc (.cells #[.int .i64 k,u,v,x,.string (B s)] 31)).heap.size (w.alloc (.cells #[.int .i64 k,u,v,x,.string (B s)] 31)) w' →
   w'.cell? ⟨w.heap.size,0,none⟩=some (.int .i64 k)∧w'.cell? ⟨w.heap.size,1,none⟩=some u∧w'.cell? ⟨w.heap.size,2,none⟩=some v∧w'.cell? ⟨w.heap.size,3,none⟩=some x∧w'.cell? ⟨w.heap.size,4,none⟩=some (.string (B s))∧w.heap.size<w'.heap.size:=by
 intro w' hb
 have h:=row_on row_new hb
 refine ⟨?_,?_,?_,?_,?_,?_⟩
 ·rw [cell_of_row w' w.heap.size 0 _ _ _ h];rfl
 ·rw [cell_of_row w' w.heap.size 1 _ _ _ h];rfl
 ·rw [cell_of_row w' w.heap.size 2 _ _ _ h];rfl
 ·rw [cell_of_row w' w.heap.size 3 _ _ _ h];rfl
 ·rw [cell_of_row w' w.heap.size 4 _ _ _ h];rfl
 ·exact Nat.lt_of_lt_of_le (by simp) hb.size
theorem keep7 {wb wo wn:World} {p q:Nat} {x0 x1 y0 y1 y2 y3 y4:Value} (hp:p<wb.heap.size) (hq:q<wb.heap.size)
  (h:Below wb.heap.size wb wo∧wo.cell? ⟨p,0,none⟩=some x0∧wo.cell? ⟨p,1,none⟩=some x1∧wo.cell? ⟨q,0,none⟩=some y0∧wo.cell? ⟨q,1,none⟩=some y1∧wo.cell? ⟨q,2,none⟩=some y2∧wo.cell? ⟨q,3,none⟩=some y3∧wo.cell? ⟨q,4,none⟩=some y4) (hb:Below wo.heap.size wo wn) :
  Below wb.heap.size wb wn∧wn.cell? ⟨p,0,none⟩=some x0∧wn.cell? ⟨p,1,none⟩=some x1∧wn.cell? ⟨q,0,none⟩=some y0∧wn.cell? ⟨q,1,none⟩=some y1∧wn.cell? ⟨q,2,none⟩=some y2∧wn.cell? ⟨q,3,none⟩=some y3∧wn.cell? ⟨q,4,none⟩=some y4:=by
 obtain ⟨h0,h1,h2,h3,h4,h5,h6,h7⟩:=h
 have a:=Nat.lt_of_lt_of_le hp h0.size
 have b:=Nat.lt_of_lt_of_le hq h0.size
 exact ⟨h0.trans (hb.mono h0.size),(hb.cell (p:=⟨p,0,none⟩) a).trans h1,(hb.cell (p:=⟨p,1,none⟩) a).trans h2,(hb.cell (p:=⟨q,0,none⟩) b).trans h3,(hb.cell (p:=⟨q,1,none⟩) b).trans h4,(hb.cell (p:=⟨q,2,none⟩) b).trans h5,(hb.cell (p:=⟨q,3,none⟩) b).trans h6,(hb.cell (p:=⟨q,4,none⟩) b).trans h7⟩
theorem both_ok (cost:List Int) (rs:List RowV) (A:Option Addr) (ca:Nat) (R:Option Addr) (cr:Nat) (a:AnsL) (X Y Z:Option Addr) (cx cy cz:Nat) (w:World) (ho:OkP 3 cost rs) (hR:AnsR 511 (linOf cost rs) a) (hp:LinAt w cost rs A ca R cr) (hX:RatsAt w a.X X cx) (hY:RatsAt w a.dual Y cy) (hZ:RatsAt w a.ray Z cz) (he:Env w) :
  Calls Tryz.prog 13 #[linV A cost.length ca R rs.length cr,ansP a X Y Z cx cy cz] w (fun e w'=>e=.returned (.int .i64 0)∧Below w.heap.size w w')∧Calls Tryz.prog 12 #[linV A cost.length ca R rs.length cr,ansP a X Y Z cx cy cz] w (fun e w'=>e=.returned (.int .i64 0)∧Below w.heap.size w w'):=by
 have hm:rs.length≤1000000:=by have:=ho.m7;omega
 have hv:=ans_val ho.wf ho.n7 hR
 have h1:=sxcheck_any cost rs A ca R cr a X Y Z cx cy cz w hm ho.cl ho.len ho.kd hp hX hY hZ hv he
 have h2:=rxcheck_any cost rs A ca R cr a X Y Z cx cy cz w hm ho.cl ho.len ho.kd hp hX hY hZ hv
 rw [(okp_text ho hR).1] at h1 h2
 exact ⟨h1,h2⟩
set_option maxHeartbeats 8000000 in
set_option maxRecDepth 100000 in
theorem simplexSolves_walk (cost:List Int) (rs:List RowV) (A:Option Addr) (ca:Nat) (R:Option Addr) (cr:Nat) (w:World) (hp:LinAt w cost rs A ca R cr) (he:Env w) :
  Calls Tryz.prog 3 #[linV A cost.length ca R rs.length cr] w fun e w'=>e=.returned (.bool true)∧Below w.heap.size w w':=by
 have b0:=new_below w (linO A cost.length ca R rs.length cr)
 have HP:=Lib.hid hp
 have HE:=Lib.hid he
 have HF:=Lib.hid (few_any cost rs A ca R cr _ (hp.below b0))
 have HAW:=Lib.hid (fun w' (h:Below w.heap.size w w')=>sxawake_any w' (he.below h))
 have HBW:=Lib.hid (fun wr (h:Below (w.alloc (linO A cost.length ca R rs.length cr)).heap.size (w.alloc (linO A cost.length ca R rs.length cr)) wr)=>b0.trans (h.mono b0.size))
 clear hp he
 obtain ⟨d0,d1,d2⟩:=lin_cells (w:=w) (u:=.slice A cost.length ca) (v:=.slice R rs.length cr) (t:=25) (Below.refl _ _)
 rcases hfew:fewB cost rs
 ·rw [hfew] at HF
  go_enter Tryz.func3,Tryz.ntmps3
  go_wp2_with fail
  refine HF.out.mono ?_
  rintro e w1 ⟨rfl,hb1⟩
  have a1:=HBW.out _ hb1
  go_wp2_with fail
  refine (HAW.out w1 a1).mono ?_
  rintro e w2 ⟨rfl,hb2⟩
  go_wp2_with fail
  go_ret
  exact ⟨rfl,below_lift3 a1 hb2⟩
 rw [hfew] at HF
 have hm:rs.length≤1000000:=by have:=(few_parts hfew).2.1;omega
 rcases hc:checkK (linOf cost rs) rs.length with _ | ⟨f,l⟩
 ·have ho:=okp_few hfew hc
  have HOK:=Lib.hid ho
  have HS1:=Lib.hid (fun w' (h:Below w.heap.size w w')=>sol_okp (d2:=3) (D:=511) cost rs A ca R cr w' (HP.out.below h) HOK.out ⟨by decide,by decide⟩ (by decide) (by decide) (by decide) (HE.out.below h))
  have HS2:=Lib.hid (fun w' (h:Below w.heap.size w w')=>rxsolve_any cost rs A ca R cr w' (HP.out.below h) HOK.out)
  clear ho hc hfew hm
  go_enter Tryz.func3,Tryz.ntmps3
  go_wp2_with fail
  refine HF.out.mono ?_
  rintro e w1 ⟨rfl,hb1⟩
  have a1:=HBW.out _ hb1
  obtain ⟨d0,d1,d2⟩:=lin_cells hb1
  go_wp2_with fail
  refine (HS1.out w1 a1).mono ?_
  rintro e w2 ⟨v,a,rfl,⟨AX,AY,AZ,ax,ay,az,rfl,hx,hy,hz⟩,hR,hb2⟩
  have a2:=below_lift3 a1 hb2
  have c2:=below_lift3 hb1 hb2
  have HSA:=Lib.hid (fun (b:AnsL) (h:AnsR 511 (linOf cost rs) b)=>same_ans hR h)
  have HBK:=Lib.hid (fun (w':World) (h:Below w2.heap.size w2 w')=>both_ok cost rs A ca R cr a AX AY AZ ax ay az w' HOK.out hR (HP.out.below (below_lift3 a2 h)) (hx.below h) (hy.below h) (hz.below h) (HE.out.below (below_lift3 a2 h)))
  clear hR hx hy hz
  obtain ⟨ak,aX,aD,aR,aV⟩:=a
  have n3:=new_below w2 (.cells #[.int .i64 ak,.slice AX aX.length ax,.slice AY aD.length ay,.slice AZ aR.length az,.string (B aV)] 31)
  have a3:=below_lift3 a2 n3
  have c3:=below_lift3 c2 n3
  have HBXA:=Lib.hid (ans_boxK (w:=w2) ak (.slice AX aX.length ax) (.slice AY aD.length ay) (.slice AZ aR.length az) aV)
  have HS22:=Lib.hid (HS2.out _ a3)
  clear d0 d1 d2 HS1 HS2
  obtain ⟨d0,d1,d2⟩:=lin_cells c3
  go_wp2_with fail
  refine HS22.out.mono ?_
  rintro e w4 ⟨v,b,rfl,⟨BX,BY,BZ,bx,by_,bz,rfl,_,_,_⟩,hRb,hb4⟩
  obtain ⟨hk,hv⟩:=HSA.out b hRb
  obtain ⟨bk,bX,bD,bR,bV⟩:=b
  simp only at hk hv
  subst hk hv
  have n5:=new_below w4 (.cells #[.int .i64 bk,.slice BX bX.length bx,.slice BY bD.length by_,.slice BZ bR.length bz,.string (B bV)] 31)
  have q5:=below_lift3 n3 (below_lift3 hb4 n5)
  have a5:=below_lift3 a2 q5
  have c5:=below_lift3 c2 q5
  obtain ⟨x0,x1,x2,x3,x4,x5⟩:=HBXA.out _ (below_lift3 hb4 n5)
  obtain ⟨y0,_,_,_,y4,y5⟩:=ans_boxK (w:=w4) bk (.slice BX bX.length bx) (.slice BY bD.length by_) (.slice BZ bR.length bz) bV _ (Below.refl _ _)
  have HQ5:=Lib.hid q5
  have HX5:=Lib.hid (below_lift3 hb4 n5)
  have HA5:=Lib.hid a5
  clear d0 d1 d2 hRb HSA n3 n5 q5 a5 hb4 a3 c3
  obtain ⟨d0,d1,d2⟩:=lin_cells c5
  go_upto_region 5 with fail
  generalize w4.alloc (.cells #[.int .i64 bk,.slice BX bX.length bx,.slice BY bD.length by_,.slice BZ bR.length bz,.string (B bV)] 31)=w5 at *
  have HB5:=Lib.hid (HBK.out w5 HQ5.out)
  have hkk:(bk != bk)=false:=by simp
  have hvv:(bV != bV)=false:=by simp
  go_wp2_with fail
  refine HB5.out.2.mono ?_
  rintro e w6 ⟨rfl,hb6⟩
  have HB6:=Lib.hid (HBK.out w6 (below_lift3 HQ5.out hb6))
  have c6:=below_lift3 c5 hb6
  clear d0 d1 d2 x0 x1 x2 x3 x4 x5 y0 y4 y5
  obtain ⟨d0,d1,d2⟩:=lin_cells c6
  obtain ⟨x0,x1,x2,x3,x4,x5⟩:=HBXA.out _ (below_lift3 HX5.out hb6)
  go_wp2_with fail
  refine HB6.out.1.mono ?_
  rintro e w7 ⟨rfl,hb7⟩
  have a7:=below_lift3 (below_lift3 HA5.out hb6) hb7
  go_wp2_with fail
  refine (HAW.out w7 a7).mono ?_
  rintro e w8 ⟨rfl,hb8⟩
  go_wp2_with fail
  go_ret
  exact ⟨rfl,below_lift3 a7 hb8⟩
 ·have hne:=check_ne (p:=linOf cost rs) rs.length (f:=f) (by rw [hc];simp)
  have HS1:=Lib.hid (fun w' (h:Below w.heap.size w w')=>sxsolve_bad cost rs A ca R cr w' f l hm hc (HP.out.below h) (HE.out.below h))
  have HS2:=Lib.hid (fun w' (h:Below w.heap.size w w')=>rxsolve_bad cost rs A ca R cr w' f l hm hc (HP.out.below h))
  clear hc hfew hm
  generalize f.1=fe at *
  go_enter Tryz.func3,Tryz.ntmps3
  go_wp2_with fail
  refine HF.out.mono ?_
  rintro e w1 ⟨rfl,hb1⟩
  have a1:=HBW.out _ hb1
  obtain ⟨d0,d1,d2⟩:=lin_cells hb1
  go_wp2_with fail
  refine (HS1.out w1 a1).mono ?_
  rintro e w2 ⟨rfl,hb2⟩
  have a2:=below_lift3 a1 hb2
  have c2:=below_lift3 hb1 hb2
  have n3:=new_below w2 (.cells #[.int .i64 0,.slice none 0 0,.slice none 0 0,.slice none 0 0,.string (B [])] 31)
  have a3:=below_lift3 a2 n3
  have c3:=below_lift3 c2 n3
  have HBXA:=Lib.hid (ans_boxK (w:=w2) 0 (.slice none 0 0) (.slice none 0 0) (.slice none 0 0) [])
  clear d0 d1 d2
  obtain ⟨d0,d1,d2⟩:=lin_cells c3
  go_wp2_with fail
  refine (HS2.out _ a3).mono ?_
  rintro e w4 ⟨rfl,hb4⟩
  have n5:=new_below w4 (.cells #[.int .i64 0,.slice none 0 0,.slice none 0 0,.slice none 0 0,.string (B [])] 31)
  have a5:=below_lift3 (below_lift3 a3 hb4) n5
  obtain ⟨x0,x1,x2,x3,x4,x5⟩:=HBXA.out _ (below_lift3 hb4 n5)
  obtain ⟨y0,_,_,_,y4,y5⟩:=ans_boxK (w:=w4) 0 (.slice none 0 0) (.slice none 0 0) (.slice none 0 0) [] _ (Below.refl _ _)
  clear d0 d1 d2
  go_upto_region 5 with fail
  generalize w4.alloc (.cells #[.int .i64 0,.slice none 0 0,.slice none 0 0,.slice none 0 0,.string (B [])] 31)=w5 at *
  go_wp2_with fail
  refine (HAW.out w5 a5).mono ?_
  rintro e w6 ⟨rfl,hb6⟩
  go_wp2_with fail
  go_ret
  exact ⟨rfl,below_lift3 a5 hb6⟩
end Go.Proofs.YtmppmdmekomjbaaGreatDoor

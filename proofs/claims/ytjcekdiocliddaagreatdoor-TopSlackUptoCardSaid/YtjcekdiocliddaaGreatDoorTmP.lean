/- The walk of lorrytop.TopSlack. (Printed by wip/tk/mkTmP.py.) -/
import Derived.Test.YtjcekdiocliddaaGreatDoorTmO
import Derived.Test.YtjcekdiocliddaaGreatDoorG82
import Derived.Test.YtjcekdiocliddaaGreatDoorG48
namespace Go.Proofs.YtjcekdiocliddaaGreatDoor
open Go.RowKit Num Txt Pf Tk
set_option linter.unusedVariables false
attribute [local go_sem] B_size B_get B_toList B_mk B_extract B_append
theorem wrap_next {y:Int} (h0:0≤y) (h1:y≤4096):IntKind.i64.wrap (y+1)=y+1:=by
 unfold IntKind.wrap
 simp [IntKind.signed,IntKind.bits]
 omega
def TrueE (w:World) (e:Ending) (w':World):Prop:=e=.returned (.bool true)∧Below w.heap.size w w'
set_option maxHeartbeats 32000000 in
set_option maxRecDepth 100000 in
theorem topslack_walk (m:InsM) (r:RouM) (at_:Int) (w:World) (hm:InsAt w m) (hr:RouAt w r) (hat:fits at_) (hlen:∀ t ∈ m.arcs,t.a.trav.length≤1048576∧t.a.slow.length≤1048576) (he:Env w) (hT:Tab w) :
  Calls Tryz.prog 3 #[insA m,rouA r,.int .i64 at_] w (TrueE w):=by
 obtain ⟨k1,k2,kb⟩:=alloc2 w (.cells (insQ m) 30) (.cells (rouR r) 34)
 have HB:=Lib.hid kb
 have HK1:=Lib.hid k1
 have HK2:=Lib.hid k2
 have HM:=Lib.hid (fun w' (hb:Below w.heap.size w w')=>hm.below hb)
 have HR:=Lib.hid (fun w' (hb:Below w.heap.size w w')=>hr.below hb)
 have HT:=Lib.hid (fun w' (hb:Below w.heap.size w w')=>hT.below hb)
 have HAW:=Lib.hid (fun w' (hb:Below w.heap.size w w')=>tawake_any w' (he.below hb) (hT.below hb))
 have HFT:=Lib.hid (fits_any m 3 _ (hm.below kb) (by decide) hlen)
 have hvl:=hr.vl
 have hrl:=hr.rl
 unfold maxLen at hvl hrl
 clear hm hr hT he k1 k2 kb hlen
 go_enter Tryz.func3,Tryz.ntmps3
 (try simp only [B_mk])
 go_upto_region 1 with fail
 rw [show (w.alloc (.cells #[.slice m.pA m.places.length m.pc,.slice m.aA m.arcs.length m.ac,.slice m.tA m.types.length m.tc,.slice m.oA m.ords.length m.oc,.slice m.xA m.apart.length m.xc,.slice m.bA m.before.length m.bc] 30)).alloc (.cells #[.int .i64 r.r.kind,.int .i64 r.r.start,.slice r.A r.r.rests.length r.ca,.slice r.C r.r.vis.length r.cc] 34)=(w.alloc (.cells (insQ m) 30)).alloc (.cells (rouR r) 34) from rfl]
 generalize (w.alloc (.cells (insQ m) 30)).alloc (.cells (rouR r) 34)=wa at *
 obtain ⟨h1,hh1⟩:∃ h1,h1=w.heap.size:=⟨_,rfl⟩
 obtain ⟨h2,hh2⟩:∃ h2,h2=w.heap.size+1:=⟨_,rfl⟩
 rw [← hh2] at HK2
 rw [← hh1] at HK1
 rw [← hh2,← hh1]
 clear hh1 hh2
 go_wp2_with (first | (refine wpList_load_row rfl 30 _ rfl h1 rfl 30 _ _ _ HK1.out Tryz.underlying30 rfl (by kernel_rfl) ?_) | (refine wpList_load_row rfl 34 _ rfl h2 rfl 34 _ _ _ HK2.out Tryz.underlying34 rfl (by kernel_rfl) ?_))
 refine HFT.out.mono ?_
 rintro e w1 ⟨b,rfl,hok,hb1⟩
 have HOKF:=Lib.hid hok
 have HB1:=Lib.hid (below_lift HB.out hb1)
 have HK11:=Lib.hid (row_keep HK1.out hb1)
 have HK21:=Lib.hid (row_keep HK2.out hb1)
 clear hok hb1 HFT HB HK1 HK2
 cases b with
 |false =>
  go_wp2_with fail
  refine (HAW.out w1 HB1.out).mono ?_
  rintro e wz ⟨rfl,hbz⟩
  have HBZ:=Lib.hid (below_lift HB1.out hbz)
  clear hbz
  go_wp2_with fail
  go_ret
  exact ⟨rfl,HBZ.out⟩
 |true =>
 have r3:=cellsX HK21.out 3 (.slice r.C r.r.vis.length r.cc) rfl
 have r2:=cellsX HK21.out 2 (.slice r.A r.r.rests.length r.ca) rfl
 by_cases c1:(8:Int)<(r.r.vis.length:Int)
 ·skip
  go_wp2_with fail
  refine (HAW.out w1 HB1.out).mono ?_
  rintro e wz ⟨rfl,hbz⟩
  have HBZ:=Lib.hid (below_lift HB1.out hbz)
  clear hbz
  go_wp2_with fail
  go_ret
  exact ⟨rfl,HBZ.out⟩
 by_cases c2:(9:Int)<(r.r.rests.length:Int)
 ·skip
  go_wp2_with fail
  refine (HAW.out w1 HB1.out).mono ?_
  rintro e wz ⟨rfl,hbz⟩
  have HBZ:=Lib.hid (below_lift HB1.out hbz)
  clear hbz
  go_wp2_with fail
  go_ret
  exact ⟨rfl,HBZ.out⟩
 by_cases c3:at_<0
 ·skip
  go_wp2_with fail
  refine (HAW.out w1 HB1.out).mono ?_
  rintro e wz ⟨rfl,hbz⟩
  have HBZ:=Lib.hid (below_lift HB1.out hbz)
  clear hbz
  go_wp2_with fail
  go_ret
  exact ⟨rfl,HBZ.out⟩
 by_cases c4:(r.r.vis.length:Int)<at_
 ·skip
  go_wp2_with fail
  refine (HAW.out w1 HB1.out).mono ?_
  rintro e wz ⟨rfl,hbz⟩
  have HBZ:=Lib.hid (below_lift HB1.out hbz)
  clear hbz
  go_wp2_with fail
  go_ret
  exact ⟨rfl,HBZ.out⟩
 have HOK:=Lib.hid (HOKF.out rfl).2
 have hfew:=(HOKF.out rfl).1.no
 have hv8:r.r.vis.length≤8:=by omega
 have HEV:=Lib.hid (evaluate_any m r w1 (HM.out w1 HB1.out) HOK.out hfew (HR.out w1 HB1.out) hv8 (HT.out w1 HB1.out))
 clear HOKF
 go_upto_region 3 with fail
 clear r3 r2
 go_wp2_with (first | (refine wpList_load_row rfl 30 _ rfl h1 rfl 30 _ _ _ HK11.out Tryz.underlying30 rfl (by kernel_rfl) ?_) | (refine wpList_load_row rfl 34 _ rfl h2 rfl 34 _ _ _ HK21.out Tryz.underlying34 rfl (by kernel_rfl) ?_))
 refine HEV.out.mono ?_
 rintro e w2 ⟨A,c,s,sv,z,rfl,hyes,hno,hb2⟩
 have HYES:=Lib.hid hyes
 have HB2:=Lib.hid (below_lift HB1.out hb2)
 have HK12:=Lib.hid (row_keep HK11.out hb2)
 have HK22:=Lib.hid (row_keep HK21.out hb2)
 clear hyes hno hb2 HEV HB1 HK11 HK21
 obtain ⟨a1,a2,ab⟩:=alloc2 w2 (.cells #[.bool false,.int .i64 0,.slice none 0 0,.int .i64 0,.int .i64 0] 39) (.cells #[.int .i64 0,.int .i64 0,.int .i64 0,.int .i64 0] 41)
 have HNE:=Lib.hid (show w2.heap.size+1≠w2.heap.size by omega)
 have HNE':=Lib.hid (show w2.heap.size≠w2.heap.size+1 by omega)
 obtain ⟨s1,sb1⟩:=row_set (Bs:=w2.heap.size) (sheetQ A c s) a1 ab (Nat.le_refl _)
 have s2:=(setRow_other _ w2.heap.size (w2.heap.size+1) (sheetQ A c s) HNE.out).trans a2
 obtain ⟨s3,sb3⟩:=row_set (Bs:=w2.heap.size) (scoreR sv) s2 sb1 (Nat.le_succ _)
 have s4:=(setRow_other _ (w2.heap.size+1) w2.heap.size (scoreR sv) HNE'.out).trans s1
 go_upto_region 4 with (first | (refine wpList_store_row rfl 39 _ _ rfl w2.heap.size (sheetQ A c s) rfl rfl 39 _ a1 (by kernel_rfl) rfl (by kernel_rfl) ?_) | (refine wpList_store_row rfl 41 _ _ rfl (w2.heap.size+1) (scoreR sv) rfl rfl 41 _ s2 (by kernel_rfl) rfl (by kernel_rfl) ?_))
 generalize hw3:(((w2.alloc (.cells #[.bool false,.int .i64 0,.slice none 0 0,.int .i64 0,.int .i64 0] 39)).alloc (.cells #[.int .i64 0,.int .i64 0,.int .i64 0,.int .i64 0] 41)).setRow w2.heap.size (sheetQ A c s)).setRow (w2.heap.size+1) (scoreR sv)=w3 at *
 have HB3:=Lib.hid (below_lift HB2.out sb3)
 have HK13:=Lib.hid (row_keep HK12.out sb3)
 have HK23:=Lib.hid (row_keep HK22.out sb3)
 have HK73:=Lib.hid s4
 have HN3:=Lib.hid sb3
 obtain ⟨h7,hh7⟩:∃ h7,h7=w2.heap.size:=⟨_,rfl⟩
 obtain ⟨h8,hh8⟩:∃ h8,h8=w2.heap.size+1:=⟨_,rfl⟩
 have HL7:=Lib.hid (show h7<h8 by omega)
 rw [← hh7] at HK73
 rw [← hh8,← hh7]
 clear hh7 hh8 hw3 a1 a2 ab s1 s2 s3 s4 sb1 sb3 HB2 HK12 HK22
 by_cases hz:z=0
 rotate_left
 ·have hzb:=int_bf hz
  clear hz
  go_wp2_with fail
  refine (HAW.out w3 HB3.out).mono ?_
  rintro e wz ⟨rfl,hbz⟩
  have HBZ:=Lib.hid (below_lift HB3.out hbz)
  clear hbz
  go_wp2_with fail
  go_ret
  exact ⟨rfl,HBZ.out⟩
 subst hz
 obtain ⟨htm,p,hp,hbs,_,_,_⟩:=HYES.out rfl
 have HTM:=Lib.hid (htm.below HN3.out)
 have HP:=Lib.hid hp
 have HBS:=Lib.hid hbs
 have HPL:=Lib.hid hp.len
 clear htm hp hbs HYES HN3
 have HVA:=Lib.hid (fun w' (hb:Below w3.heap.size w3 w')=>dvalid_any m r A c s p w' (HM.out w' (below_lift HB3.out hb)) HOK.out (HR.out w' (below_lift HB3.out hb)) hv8 (HT.out w' (below_lift HB3.out hb)) (HTM.out.below hb) HP.out HBS.out)
 have HSL:=Lib.hid (fun w' (hb:Below w3.heap.size w3 w')=>slack_any m r A c s p w' (HM.out w' (below_lift HB3.out hb)) HOK.out (HR.out w' (below_lift HB3.out hb)) hv8 (HT.out w' (below_lift HB3.out hb)) (HTM.out.below hb) HP.out HBS.out)
 have HAF:=Lib.hid (fun (n:Nat) (ticks:Int) w' (hb:Below w3.heap.size w3 w') (hn:n≤r.r.vis.length) (ht:0≤ticks∧ticks≤100000)=>after_any m r A c s p n ticks w' (HM.out w' (below_lift HB3.out hb)) HOK.out (HR.out w' (below_lift HB3.out hb)) hv8 (HT.out w' (below_lift HB3.out hb)) (HTM.out.below hb) HP.out HBS.out hn ht)
 obtain ⟨i,hi⟩:∃ i:Nat,at_=(i:Int):=⟨at_.toNat,by omega⟩
 subst hi
 have hin:i≤r.r.vis.length:=by omega
 go_wp2_with (first | (refine wpList_load_row rfl 30 _ rfl h1 rfl 30 _ _ _ HK13.out Tryz.underlying30 rfl (by kernel_rfl) ?_) | (refine wpList_load_row rfl 34 _ rfl h2 rfl 34 _ _ _ HK23.out Tryz.underlying34 rfl (by kernel_rfl) ?_) | (refine wpList_load_row rfl 39 _ rfl h7 rfl 39 _ _ _ HK73.out Tryz.underlying39 rfl (by kernel_rfl) ?_))
 refine (HVA.out w3 (Below.refl _ _)).mono ?_
 rintro e w4 ⟨rfl,hb4⟩
 have HB4:=Lib.hid hb4
 have HK14:=Lib.hid (row_keep HK13.out hb4)
 have HK24:=Lib.hid (row_keep HK23.out hb4)
 have HK74:=Lib.hid (row_keep HK73.out hb4)
 clear hb4 HVA HK13 HK23 HK73
 go_wp2_with (first | (refine wpList_load_row rfl 30 _ rfl h1 rfl 30 _ _ _ HK14.out Tryz.underlying30 rfl (by kernel_rfl) ?_) | (refine wpList_load_row rfl 34 _ rfl h2 rfl 34 _ _ _ HK24.out Tryz.underlying34 rfl (by kernel_rfl) ?_) | (refine wpList_load_row rfl 39 _ rfl h7 rfl 39 _ _ _ HK74.out Tryz.underlying39 rfl (by kernel_rfl) ?_))
 refine (HSL.out w4 HB4.out).mono ?_
 rintro e w5 ⟨Al,cl,l,rfl,hown,hll,hare,hb5⟩
 have HOW:=Lib.hid hown
 have HLL:=Lib.hid (hll.trans (by rw [HPL.out]))
 have HB5:=Lib.hid (below_lift HB4.out hb5)
 have HK15:=Lib.hid (row_keep HK14.out hb5)
 have HK25:=Lib.hid (row_keep HK24.out hb5)
 have HK75:=Lib.hid (row_keep HK74.out hb5)
 have hil:i<l.length:=by rw [HLL.out];omega
 have HDL:=Lib.hid (hare i l[i] (List.getElem?_eq_getElem hil))
 obtain ⟨gl,ol,hA1,hgl,hx1⟩:=OwnR.cells hown (by unfold delays;rw [List.length_map];omega)
 have hxi:=hx1 i (.int .i64 l[i]) (by unfold delays;rw [List.getElem?_map,List.getElem?_eq_getElem hil];rfl)
 have hcl:=OwnR.cap hown
 unfold maxLen at hcl
 obtain ⟨y,hy⟩:∃ y,y=l[i]:=⟨_,rfl⟩
 rw [← hy] at HDL hxi
 obtain ⟨⟨hy0,hy1⟩,hl1,hl2⟩:=HDL.out
 have HL1:=Lib.hid hl1
 have HL2:=Lib.hid hl2
 have HXI:=Lib.hid hxi
 rw [hA1]
 clear hown hll hare hb5 hx1 hA1 hy hl1 hl2 HDL HOW HB4 HK14 HK24 HK74 HSL hxi
 have r3:=cellsX HK25.out 3 (.slice r.C r.r.vis.length r.cc) rfl
 have hlen2:((l.length:Int) != (r.r.vis.length:Int)+1)=false:=by rw [HLL.out];simp
 have hil2:(i:Int)<(l.length:Int):=by omega
 generalize l.length=ln at *
 go_upto_region 11 with fail
 clear r3
 have HKa:=HK15
 have HKb:=HK25
 have HKc:=HK75
 have HC11:=Lib.hid (fun w' (hb:Below w5.heap.size w5 w')=>HAF.out i y w' (below_lift HB5.out hb) hin (by omega))
 have HC12:=Lib.hid (fun w' (hb:Below w5.heap.size w5 w')=>HAF.out i (y+1) w' (below_lift HB5.out hb) hin (by omega))
 clear HAF
 go_cut [13] (fun s2 wx=>∃ k:Int,s2=.int .i64 k∧(k=0↔lateP p s i y=true)∧Below w5.heap.size w5 wx)
 case first =>
  as_aux_lemma =>
   have hd:Below w5.heap.size w5 w5.drew:=(Below.refl _ w5).drew
   have hln9:ln≤cl:=hcl.1
   have hS0:(fun w'=>Below w5.heap.size w5 w') w5.drew:=hd
   refine wp_region_held_drew (S:=fun w'=>Below w5.heap.size w5 w') (by kernel_rfl) hS0 (fun hHeld=>?_)
   refine wpAnyH_take (i:=0) (v:=.agg (insQ m)) (by simp only [List.getElem?_toArray,List.getElem?_cons_zero];rfl) (by kernel_rfl) (by kernel_rfl) (by kernel_rfl) (by exact fun _ _ _ h=>h) (Or.inl ⟨by rfl,?_⟩) (by assumption) ?_
   ·(intro w hSw;exact yl_row 30 _ rfl h1 rfl 30 _ _ Tryz.underlying30 rfl (by kernel_rfl) (row_keep HKa.out hSw))
   (try simp only [Act.put,List.setIfInBounds_toArray,List.set_cons_zero,List.set_cons_succ])
   refine wpAnyH_take (i:=1) (v:=.agg (rouR r)) (by simp only [List.getElem?_toArray,List.getElem?_cons_succ,List.getElem?_cons_zero];rfl) (by kernel_rfl) (by kernel_rfl) (by kernel_rfl) (by exact fun _ _ _ h=>h) (Or.inl ⟨by rfl,?_⟩) (by assumption) ?_
   ·(intro w hSw;exact yl_row 34 _ rfl h2 rfl 34 _ _ Tryz.underlying34 rfl (by kernel_rfl) (row_keep HKb.out hSw))
   (try simp only [Act.put,List.setIfInBounds_toArray,List.set_cons_zero,List.set_cons_succ])
   refine wpAnyH_take (i:=2) (v:=.agg (sheetQ A c s)) (by simp only [List.getElem?_toArray,List.getElem?_cons_succ,List.getElem?_cons_zero];rfl) (by kernel_rfl) (by kernel_rfl) (by kernel_rfl) (by exact fun _ _ _ h=>h) (Or.inl ⟨by rfl,?_⟩) (by assumption) ?_
   ·(intro w hSw;exact yl_row 39 _ rfl h7 rfl 39 _ _ Tryz.underlying39 rfl (by kernel_rfl) (row_keep HKc.out hSw))
   (try simp only [Act.put,List.setIfInBounds_toArray,List.set_cons_zero,List.set_cons_succ])
   refine wpAnyH_take (i:=3) (v:=?_) (by simp only [List.getElem?_toArray,List.getElem?_cons_succ,List.getElem?_cons_zero];rfl) (by kernel_rfl) (by kernel_rfl) (by kernel_rfl) (by exact fun _ _ _ h=>h) (Or.inl ⟨by rfl,?_⟩) (by assumption) ?_
   rotate_left
   ·(intro w hSw;(try dsimp only at hSw);go_simp;(try with_reducible rfl))
   (try simp only [Act.put,List.setIfInBounds_toArray,List.set_cons_zero,List.set_cons_succ])
   refine wpAnyH_take (i:=4) (v:=?_) (by simp only [List.getElem?_toArray,List.getElem?_cons_succ,List.getElem?_cons_zero];rfl) (by kernel_rfl) (by kernel_rfl) (by kernel_rfl) (by exact fun _ _ _ h=>h) (Or.inl ⟨by rfl,?_⟩) (by assumption) ?_
   rotate_left
   ·(intro w hSw;(try dsimp only at hSw);go_simp;(try with_reducible rfl))
   (try simp only [Act.put,List.setIfInBounds_toArray,List.set_cons_zero,List.set_cons_succ])
   refine wpAnyH_take (i:=5) (v:=?_) (by simp only [List.getElem?_toArray,List.getElem?_cons_succ,List.getElem?_cons_zero];rfl) (by kernel_rfl) (by kernel_rfl) (by kernel_rfl) (by exact fun _ _ _ h=>h) (Or.inl ⟨by rfl,?_⟩) (by assumption) ?_
   rotate_left
   ·(intro w hSw;(try dsimp only at hSw);go_simp;(try with_reducible rfl))
   (try simp only [Act.put,List.setIfInBounds_toArray,List.set_cons_zero,List.set_cons_succ])
   refine wpAnyH_take (i:=6) (v:=?_) (by simp only [List.getElem?_toArray,List.getElem?_cons_succ,List.getElem?_cons_zero];rfl) (by kernel_rfl) (by kernel_rfl) (by kernel_rfl) (by exact fun _ _ _ h=>h) (Or.inl ⟨by rfl,?_⟩) (by assumption) ?_
   rotate_left
   ·(intro w hSw;(try dsimp only at hSw);go_simp;(try with_reducible rfl))
   (try simp only [Act.put,List.setIfInBounds_toArray,List.set_cons_zero,List.set_cons_succ])
   refine wpAnyH_take (i:=7) (v:=?_) (by simp only [List.getElem?_toArray,List.getElem?_cons_succ,List.getElem?_cons_zero];rfl) (by kernel_rfl) (by kernel_rfl) (by kernel_rfl) (by exact fun _ _ _ h=>h) (Or.inl ⟨by rfl,?_⟩) (by assumption) ?_
   rotate_left
   ·(intro w hSw;have q0:=(hSw.cell (p:=⟨gl,ol+i,none⟩) hgl).trans HXI.out;go_simp;(try with_reducible rfl))
   (try simp only [Act.put,List.setIfInBounds_toArray,List.set_cons_zero,List.set_cons_succ])
   refine wpAnyH_ready (rs:=[8,12]) (by kernel_rfl) (by simp) (AllReadyH.cons (by simp only [List.getElem?_toArray,List.getElem?_cons_succ,List.getElem?_cons_zero];rfl) (fun K hK=>?_) (AllReadyH.cons (by simp only [List.getElem?_toArray,List.getElem?_cons_succ,List.getElem?_cons_zero];rfl) (fun K hK=>?_) AllReadyH.nil))
   ·skip
    have hdd:=hd
    go_simp
    refine (HC11.out _ (by assumption)).mono ?_
    rintro e w7 ⟨A2,c2,sh,z,rfl,hiff,hb7⟩
    have hB7:=below_lift hd hb7
    refine hK.out _ _ (hB7) (fun hHeld=>?_)
    clear hK K
    (try simp only [Act.put,List.setIfInBounds_toArray,List.set_cons_zero,List.set_cons_succ])
    refine wpAnyH_take (i:=9) (v:=?_) (by simp only [List.getElem?_toArray,List.getElem?_cons_succ,List.getElem?_cons_zero];rfl) (by kernel_rfl) (by kernel_rfl) (by kernel_rfl) (by exact fun _ _ _ h=>h) (Or.inl ⟨by rfl,?_⟩) (by assumption) ?_
    rotate_left
    ·(intro w hSw;(try dsimp only at hSw);go_simp;(try with_reducible rfl))
    (try simp only [Act.put,List.setIfInBounds_toArray,List.set_cons_zero,List.set_cons_succ])
    refine wpAnyH_take (i:=10) (v:=?_) (by simp only [List.getElem?_toArray,List.getElem?_cons_succ,List.getElem?_cons_zero];rfl) (by kernel_rfl) (by kernel_rfl) (by kernel_rfl) (by exact fun _ _ _ h=>h) (Or.inl ⟨by rfl,?_⟩) (by assumption) ?_
    rotate_left
    ·(intro w hSw;(try dsimp only at hSw);go_simp;(try with_reducible rfl))
    (try simp only [Act.put,List.setIfInBounds_toArray,List.set_cons_zero,List.set_cons_succ])
    refine wpAnyH_take (i:=11) (v:=?_) (by simp only [List.getElem?_toArray,List.getElem?_cons_succ,List.getElem?_cons_zero];rfl) (by kernel_rfl) (by kernel_rfl) (by kernel_rfl) (by exact fun _ _ _ h=>h) (Or.inl ⟨by rfl,?_⟩) (by assumption) ?_
    rotate_left
    ·(intro w hSw;(try dsimp only at hSw);go_simp;(try with_reducible rfl))
    (try simp only [Act.put,List.setIfInBounds_toArray,List.set_cons_zero,List.set_cons_succ])
    refine wpAnyH_ready (rs:=[12]) (by kernel_rfl) (by simp) (AllReadyH.cons (by simp only [List.getElem?_toArray,List.getElem?_cons_succ,List.getElem?_cons_zero];rfl) (fun K hK=>?_) AllReadyH.nil)
    refine wanted_go (by rfl) ?_
    refine wp_alloc_new 39 rfl (#[.bool false,.int .i64 0,.slice none 0 0,.int .i64 0,.int .i64 0]) (by kernel_rfl) ?_
    refine hK.out _ _ (below_lift hB7 (new_at w7 _).1) (fun hHeld=>?_)
    clear hK K
    (try simp only [Act.put,List.setIfInBounds_toArray,List.set_cons_zero,List.set_cons_succ])
    refine wpAnyH_ready (rs:=[13]) (by kernel_rfl) (by simp) (AllReadyH.cons (by simp only [List.getElem?_toArray,List.getElem?_cons_succ,List.getElem?_cons_zero];rfl) (fun K hK=>?_) AllReadyH.nil)
    refine wanted_go (by rfl) ?_
    refine wp_store_row 39 _ _ rfl w7.heap.size (sheetQ A2 c2 sh) rfl rfl 39 _ (new_at w7 _).2 (by kernel_rfl) rfl (by kernel_rfl) ?_
    refine hK.out _ _ (below_setRow (below_lift hB7 (new_at w7 _).1) hB7.size _) (fun hHeld=>?_)
    clear hK K
    (try simp only [Act.put])
    refine wpAnyH_take (i:=14) (v:=?_) (by simp only [List.getElem?_toArray,List.getElem?_cons_succ,List.getElem?_cons_zero];rfl) (by kernel_rfl) (by kernel_rfl) (by kernel_rfl) (by exact fun _ _ _ h=>h) (Or.inl ⟨by rfl,?_⟩) (by assumption) ?_
    rotate_left
    ·(intro w hSw;(try dsimp only at hSw);go_simp;(try with_reducible rfl))
    (try simp only [Act.put,List.setIfInBounds_toArray,List.set_cons_zero,List.set_cons_succ])
    refine wpAnyH_done (by kernel_rfl) ?_ _
    go_wp2_with fail
    go_meet
    exact ⟨z,rfl,hiff,below_setRow (below_lift hB7 (new_at w7 _).1) hB7.size _⟩
   ·skip
    refine wanted_go (by rfl) ?_
    refine wp_alloc_new 39 rfl (#[.bool false,.int .i64 0,.slice none 0 0,.int .i64 0,.int .i64 0]) (by kernel_rfl) ?_
    obtain ⟨nA,pA⟩:=new_at w5.drew (.cells #[.bool false,.int .i64 0,.slice none 0 0,.int .i64 0,.int .i64 0] 39)
    have hdA:=below_lift hd nA
    refine hK.out _ _ (hdA) (fun hHeld=>?_)
    clear hK K
    (try simp only [Act.put,List.setIfInBounds_toArray,List.set_cons_zero,List.set_cons_succ])
    refine wpAnyH_ready (rs:=[8]) (by kernel_rfl) (by simp) (AllReadyH.cons (by simp only [List.getElem?_toArray,List.getElem?_cons_succ,List.getElem?_cons_zero];rfl) (fun K hK=>?_) AllReadyH.nil)
    go_simp
    refine (HC11.out _ hdA).mono ?_
    rintro e w7 ⟨A2,c2,sh,z,rfl,hiff,hb7⟩
    have hB7:=below_lift hdA hb7
    have hP7:=row_keep pA hb7
    refine hK.out _ _ (hB7) (fun hHeld=>?_)
    clear hK K
    (try simp only [Act.put,List.setIfInBounds_toArray,List.set_cons_zero,List.set_cons_succ])
    refine wpAnyH_take (i:=9) (v:=?_) (by simp only [List.getElem?_toArray,List.getElem?_cons_succ,List.getElem?_cons_zero];rfl) (by kernel_rfl) (by kernel_rfl) (by kernel_rfl) (by exact fun _ _ _ h=>h) (Or.inl ⟨by rfl,?_⟩) (by assumption) ?_
    rotate_left
    ·(intro w hSw;(try dsimp only at hSw);go_simp;(try with_reducible rfl))
    (try simp only [Act.put,List.setIfInBounds_toArray,List.set_cons_zero,List.set_cons_succ])
    refine wpAnyH_take (i:=10) (v:=?_) (by simp only [List.getElem?_toArray,List.getElem?_cons_succ,List.getElem?_cons_zero];rfl) (by kernel_rfl) (by kernel_rfl) (by kernel_rfl) (by exact fun _ _ _ h=>h) (Or.inl ⟨by rfl,?_⟩) (by assumption) ?_
    rotate_left
    ·(intro w hSw;(try dsimp only at hSw);go_simp;(try with_reducible rfl))
    (try simp only [Act.put,List.setIfInBounds_toArray,List.set_cons_zero,List.set_cons_succ])
    refine wpAnyH_take (i:=11) (v:=?_) (by simp only [List.getElem?_toArray,List.getElem?_cons_succ,List.getElem?_cons_zero];rfl) (by kernel_rfl) (by kernel_rfl) (by kernel_rfl) (by exact fun _ _ _ h=>h) (Or.inl ⟨by rfl,?_⟩) (by assumption) ?_
    rotate_left
    ·(intro w hSw;(try dsimp only at hSw);go_simp;(try with_reducible rfl))
    (try simp only [Act.put,List.setIfInBounds_toArray,List.set_cons_zero,List.set_cons_succ])
    refine wpAnyH_ready (rs:=[13]) (by kernel_rfl) (by simp) (AllReadyH.cons (by simp only [List.getElem?_toArray,List.getElem?_cons_succ,List.getElem?_cons_zero];rfl) (fun K hK=>?_) AllReadyH.nil)
    refine wanted_go (by rfl) ?_
    refine wp_store_row 39 _ _ rfl w5.drew.heap.size (sheetQ A2 c2 sh) rfl rfl 39 _ hP7 (by kernel_rfl) rfl (by kernel_rfl) ?_
    refine hK.out _ _ (below_setRow hB7 hd.size _) (fun hHeld=>?_)
    clear hK K
    (try simp only [Act.put])
    refine wpAnyH_take (i:=14) (v:=?_) (by simp only [List.getElem?_toArray,List.getElem?_cons_succ,List.getElem?_cons_zero];rfl) (by kernel_rfl) (by kernel_rfl) (by kernel_rfl) (by exact fun _ _ _ h=>h) (Or.inl ⟨by rfl,?_⟩) (by assumption) ?_
    rotate_left
    ·(intro w hSw;(try dsimp only at hSw);go_simp;(try with_reducible rfl))
    (try simp only [Act.put,List.setIfInBounds_toArray,List.set_cons_zero,List.set_cons_succ])
    refine wpAnyH_done (by kernel_rfl) ?_ _
    go_wp2_with fail
    go_meet
    exact ⟨z,rfl,hiff,below_setRow hB7 hd.size _⟩
 case rest =>
  rename World=>w6
  obtain ⟨k1,rfl,hk1,hb6⟩:=hcut
  have HZ1:=Lib.hid hk1
  have HB6:=Lib.hid hb6
  have HKa6:=Lib.hid (row_keep HKa.out hb6)
  have HKb6:=Lib.hid (row_keep HKb.out hb6)
  have HKc6:=Lib.hid (row_keep HKc.out hb6)
  have HXI6:=Lib.hid (show w6.cell? ⟨gl,ol+i,none⟩=some (.int .i64 y) from (hb6.cell (p:=⟨gl,ol+i,none⟩) hgl).trans HXI.out)
  have HGL6:=Lib.hid (show gl<w6.heap.size from Nat.lt_of_lt_of_le hgl hb6.size)
  clear hk1 hb6 HKa HKb HKc HK15 HK25 HK75 HXI HC11 hgl
  have HKa:=HKa6
  have HKb:=HKb6
  have HKc:=HKc6
  have HXI:=HXI6
  have hgl:=HGL6.out
  have HC6:=Lib.hid (fun w' (hb:Below w6.heap.size w6 w')=>HC12.out w' (below_lift HB6.out hb))
  clear HKa6 HKb6 HKc6 HXI6 HGL6 HC12
  go_upto_region 12 with fail
  go_cut [15] (fun s2 wx=>∃ k:Int,s2=.int .i64 k∧(k=0↔lateP p s i (y+1)=true)∧Below w6.heap.size w6 wx)
  case first =>
   as_aux_lemma =>
    have hd:Below w6.heap.size w6 w6.drew:=(Below.refl _ w6).drew
    have hln9:ln≤cl:=hcl.1
    have hS0:(fun w'=>Below w6.heap.size w6 w') w6.drew:=hd
    refine wp_region_held_drew (S:=fun w'=>Below w6.heap.size w6 w') (by kernel_rfl) hS0 (fun hHeld=>?_)
    refine wpAnyH_take (i:=0) (v:=.agg (insQ m)) (by simp only [List.getElem?_toArray,List.getElem?_cons_zero];rfl) (by kernel_rfl) (by kernel_rfl) (by kernel_rfl) (by exact fun _ _ _ h=>h) (Or.inl ⟨by rfl,?_⟩) (by assumption) ?_
    ·(intro w hSw;exact yl_row 30 _ rfl h1 rfl 30 _ _ Tryz.underlying30 rfl (by kernel_rfl) (row_keep HKa.out hSw))
    (try simp only [Act.put,List.setIfInBounds_toArray,List.set_cons_zero,List.set_cons_succ])
    refine wpAnyH_take (i:=1) (v:=.agg (rouR r)) (by simp only [List.getElem?_toArray,List.getElem?_cons_succ,List.getElem?_cons_zero];rfl) (by kernel_rfl) (by kernel_rfl) (by kernel_rfl) (by exact fun _ _ _ h=>h) (Or.inl ⟨by rfl,?_⟩) (by assumption) ?_
    ·(intro w hSw;exact yl_row 34 _ rfl h2 rfl 34 _ _ Tryz.underlying34 rfl (by kernel_rfl) (row_keep HKb.out hSw))
    (try simp only [Act.put,List.setIfInBounds_toArray,List.set_cons_zero,List.set_cons_succ])
    refine wpAnyH_take (i:=2) (v:=.agg (sheetQ A c s)) (by simp only [List.getElem?_toArray,List.getElem?_cons_succ,List.getElem?_cons_zero];rfl) (by kernel_rfl) (by kernel_rfl) (by kernel_rfl) (by exact fun _ _ _ h=>h) (Or.inl ⟨by rfl,?_⟩) (by assumption) ?_
    ·(intro w hSw;exact yl_row 39 _ rfl h7 rfl 39 _ _ Tryz.underlying39 rfl (by kernel_rfl) (row_keep HKc.out hSw))
    (try simp only [Act.put,List.setIfInBounds_toArray,List.set_cons_zero,List.set_cons_succ])
    refine wpAnyH_take (i:=3) (v:=?_) (by simp only [List.getElem?_toArray,List.getElem?_cons_succ,List.getElem?_cons_zero];rfl) (by kernel_rfl) (by kernel_rfl) (by kernel_rfl) (by exact fun _ _ _ h=>h) (Or.inl ⟨by rfl,?_⟩) (by assumption) ?_
    rotate_left
    ·(intro w hSw;(try dsimp only at hSw);go_simp;(try with_reducible rfl))
    (try simp only [Act.put,List.setIfInBounds_toArray,List.set_cons_zero,List.set_cons_succ])
    refine wpAnyH_take (i:=4) (v:=?_) (by simp only [List.getElem?_toArray,List.getElem?_cons_succ,List.getElem?_cons_zero];rfl) (by kernel_rfl) (by kernel_rfl) (by kernel_rfl) (by exact fun _ _ _ h=>h) (Or.inl ⟨by rfl,?_⟩) (by assumption) ?_
    rotate_left
    ·(intro w hSw;(try dsimp only at hSw);go_simp;(try with_reducible rfl))
    (try simp only [Act.put,List.setIfInBounds_toArray,List.set_cons_zero,List.set_cons_succ])
    refine wpAnyH_take (i:=5) (v:=?_) (by simp only [List.getElem?_toArray,List.getElem?_cons_succ,List.getElem?_cons_zero];rfl) (by kernel_rfl) (by kernel_rfl) (by kernel_rfl) (by exact fun _ _ _ h=>h) (Or.inl ⟨by rfl,?_⟩) (by assumption) ?_
    rotate_left
    ·(intro w hSw;(try dsimp only at hSw);go_simp;(try with_reducible rfl))
    (try simp only [Act.put,List.setIfInBounds_toArray,List.set_cons_zero,List.set_cons_succ])
    refine wpAnyH_take (i:=6) (v:=?_) (by simp only [List.getElem?_toArray,List.getElem?_cons_succ,List.getElem?_cons_zero];rfl) (by kernel_rfl) (by kernel_rfl) (by kernel_rfl) (by exact fun _ _ _ h=>h) (Or.inl ⟨by rfl,?_⟩) (by assumption) ?_
    rotate_left
    ·(intro w hSw;(try dsimp only at hSw);go_simp;(try with_reducible rfl))
    (try simp only [Act.put,List.setIfInBounds_toArray,List.set_cons_zero,List.set_cons_succ])
    refine wpAnyH_take (i:=7) (v:=?_) (by simp only [List.getElem?_toArray,List.getElem?_cons_succ,List.getElem?_cons_zero];rfl) (by kernel_rfl) (by kernel_rfl) (by kernel_rfl) (by exact fun _ _ _ h=>h) (Or.inl ⟨by rfl,?_⟩) (by assumption) ?_
    rotate_left
    ·(intro w hSw;have q0:=(hSw.cell (p:=⟨gl,ol+i,none⟩) hgl).trans HXI.out;go_simp;(try with_reducible rfl))
    (try simp only [Act.put,List.setIfInBounds_toArray,List.set_cons_zero,List.set_cons_succ])
    refine wpAnyH_take (i:=8) (v:=.int .i64 (y+1)) (by simp only [List.getElem?_toArray,List.getElem?_cons_succ,List.getElem?_cons_zero];rfl) (by kernel_rfl) (by kernel_rfl) (by kernel_rfl) (by exact fun _ _ _ h=>h) (Or.inl ⟨by rfl,?_⟩) (by assumption) ?_
    ·(intro w hSw;have e1:=wrap_next hy0 hy1;go_simp;first | done | rfl | (rw [e1]) | (simp [e1]))
    (try simp only [Act.put,List.setIfInBounds_toArray,List.set_cons_zero,List.set_cons_succ])
    refine wpAnyH_ready (rs:=[9,13]) (by kernel_rfl) (by simp) (AllReadyH.cons (by simp only [List.getElem?_toArray,List.getElem?_cons_succ,List.getElem?_cons_zero];rfl) (fun K hK=>?_) (AllReadyH.cons (by simp only [List.getElem?_toArray,List.getElem?_cons_succ,List.getElem?_cons_zero];rfl) (fun K hK=>?_) AllReadyH.nil))
    ·skip
     have hdd:=hd
     go_simp
     refine (HC6.out _ (by assumption)).mono ?_
     rintro e w7 ⟨A2,c2,sh,z,rfl,hiff,hb7⟩
     have hB7:=below_lift hd hb7
     refine hK.out _ _ (hB7) (fun hHeld=>?_)
     clear hK K
     (try simp only [Act.put,List.setIfInBounds_toArray,List.set_cons_zero,List.set_cons_succ])
     refine wpAnyH_take (i:=10) (v:=?_) (by simp only [List.getElem?_toArray,List.getElem?_cons_succ,List.getElem?_cons_zero];rfl) (by kernel_rfl) (by kernel_rfl) (by kernel_rfl) (by exact fun _ _ _ h=>h) (Or.inl ⟨by rfl,?_⟩) (by assumption) ?_
     rotate_left
     ·(intro w hSw;(try dsimp only at hSw);go_simp;(try with_reducible rfl))
     (try simp only [Act.put,List.setIfInBounds_toArray,List.set_cons_zero,List.set_cons_succ])
     refine wpAnyH_take (i:=11) (v:=?_) (by simp only [List.getElem?_toArray,List.getElem?_cons_succ,List.getElem?_cons_zero];rfl) (by kernel_rfl) (by kernel_rfl) (by kernel_rfl) (by exact fun _ _ _ h=>h) (Or.inl ⟨by rfl,?_⟩) (by assumption) ?_
     rotate_left
     ·(intro w hSw;(try dsimp only at hSw);go_simp;(try with_reducible rfl))
     (try simp only [Act.put,List.setIfInBounds_toArray,List.set_cons_zero,List.set_cons_succ])
     refine wpAnyH_take (i:=12) (v:=?_) (by simp only [List.getElem?_toArray,List.getElem?_cons_succ,List.getElem?_cons_zero];rfl) (by kernel_rfl) (by kernel_rfl) (by kernel_rfl) (by exact fun _ _ _ h=>h) (Or.inl ⟨by rfl,?_⟩) (by assumption) ?_
     rotate_left
     ·(intro w hSw;(try dsimp only at hSw);go_simp;(try with_reducible rfl))
     (try simp only [Act.put,List.setIfInBounds_toArray,List.set_cons_zero,List.set_cons_succ])
     refine wpAnyH_ready (rs:=[13]) (by kernel_rfl) (by simp) (AllReadyH.cons (by simp only [List.getElem?_toArray,List.getElem?_cons_succ,List.getElem?_cons_zero];rfl) (fun K hK=>?_) AllReadyH.nil)
     refine wanted_go (by rfl) ?_
     refine wp_alloc_new 39 rfl (#[.bool false,.int .i64 0,.slice none 0 0,.int .i64 0,.int .i64 0]) (by kernel_rfl) ?_
     refine hK.out _ _ (below_lift hB7 (new_at w7 _).1) (fun hHeld=>?_)
     clear hK K
     (try simp only [Act.put,List.setIfInBounds_toArray,List.set_cons_zero,List.set_cons_succ])
     refine wpAnyH_ready (rs:=[14]) (by kernel_rfl) (by simp) (AllReadyH.cons (by simp only [List.getElem?_toArray,List.getElem?_cons_succ,List.getElem?_cons_zero];rfl) (fun K hK=>?_) AllReadyH.nil)
     refine wanted_go (by rfl) ?_
     refine wp_store_row 39 _ _ rfl w7.heap.size (sheetQ A2 c2 sh) rfl rfl 39 _ (new_at w7 _).2 (by kernel_rfl) rfl (by kernel_rfl) ?_
     refine hK.out _ _ (below_setRow (below_lift hB7 (new_at w7 _).1) hB7.size _) (fun hHeld=>?_)
     clear hK K
     (try simp only [Act.put])
     refine wpAnyH_take (i:=15) (v:=?_) (by simp only [List.getElem?_toArray,List.getElem?_cons_succ,List.getElem?_cons_zero];rfl) (by kernel_rfl) (by kernel_rfl) (by kernel_rfl) (by exact fun _ _ _ h=>h) (Or.inl ⟨by rfl,?_⟩) (by assumption) ?_
     rotate_left
     ·(intro w hSw;(try dsimp only at hSw);go_simp;(try with_reducible rfl))
     (try simp only [Act.put,List.setIfInBounds_toArray,List.set_cons_zero,List.set_cons_succ])
     refine wpAnyH_done (by kernel_rfl) ?_ _
     go_wp2_with fail
     go_meet
     exact ⟨z,rfl,hiff,below_setRow (below_lift hB7 (new_at w7 _).1) hB7.size _⟩
    ·skip
     refine wanted_go (by rfl) ?_
     refine wp_alloc_new 39 rfl (#[.bool false,.int .i64 0,.slice none 0 0,.int .i64 0,.int .i64 0]) (by kernel_rfl) ?_
     obtain ⟨nA,pA⟩:=new_at w6.drew (.cells #[.bool false,.int .i64 0,.slice none 0 0,.int .i64 0,.int .i64 0] 39)
     have hdA:=below_lift hd nA
     refine hK.out _ _ (hdA) (fun hHeld=>?_)
     clear hK K
     (try simp only [Act.put,List.setIfInBounds_toArray,List.set_cons_zero,List.set_cons_succ])
     refine wpAnyH_ready (rs:=[9]) (by kernel_rfl) (by simp) (AllReadyH.cons (by simp only [List.getElem?_toArray,List.getElem?_cons_succ,List.getElem?_cons_zero];rfl) (fun K hK=>?_) AllReadyH.nil)
     go_simp
     refine (HC6.out _ hdA).mono ?_
     rintro e w7 ⟨A2,c2,sh,z,rfl,hiff,hb7⟩
     have hB7:=below_lift hdA hb7
     have hP7:=row_keep pA hb7
     refine hK.out _ _ (hB7) (fun hHeld=>?_)
     clear hK K
     (try simp only [Act.put,List.setIfInBounds_toArray,List.set_cons_zero,List.set_cons_succ])
     refine wpAnyH_take (i:=10) (v:=?_) (by simp only [List.getElem?_toArray,List.getElem?_cons_succ,List.getElem?_cons_zero];rfl) (by kernel_rfl) (by kernel_rfl) (by kernel_rfl) (by exact fun _ _ _ h=>h) (Or.inl ⟨by rfl,?_⟩) (by assumption) ?_
     rotate_left
     ·(intro w hSw;(try dsimp only at hSw);go_simp;(try with_reducible rfl))
     (try simp only [Act.put,List.setIfInBounds_toArray,List.set_cons_zero,List.set_cons_succ])
     refine wpAnyH_take (i:=11) (v:=?_) (by simp only [List.getElem?_toArray,List.getElem?_cons_succ,List.getElem?_cons_zero];rfl) (by kernel_rfl) (by kernel_rfl) (by kernel_rfl) (by exact fun _ _ _ h=>h) (Or.inl ⟨by rfl,?_⟩) (by assumption) ?_
     rotate_left
     ·(intro w hSw;(try dsimp only at hSw);go_simp;(try with_reducible rfl))
     (try simp only [Act.put,List.setIfInBounds_toArray,List.set_cons_zero,List.set_cons_succ])
     refine wpAnyH_take (i:=12) (v:=?_) (by simp only [List.getElem?_toArray,List.getElem?_cons_succ,List.getElem?_cons_zero];rfl) (by kernel_rfl) (by kernel_rfl) (by kernel_rfl) (by exact fun _ _ _ h=>h) (Or.inl ⟨by rfl,?_⟩) (by assumption) ?_
     rotate_left
     ·(intro w hSw;(try dsimp only at hSw);go_simp;(try with_reducible rfl))
     (try simp only [Act.put,List.setIfInBounds_toArray,List.set_cons_zero,List.set_cons_succ])
     refine wpAnyH_ready (rs:=[14]) (by kernel_rfl) (by simp) (AllReadyH.cons (by simp only [List.getElem?_toArray,List.getElem?_cons_succ,List.getElem?_cons_zero];rfl) (fun K hK=>?_) AllReadyH.nil)
     refine wanted_go (by rfl) ?_
     refine wp_store_row 39 _ _ rfl w6.drew.heap.size (sheetQ A2 c2 sh) rfl rfl 39 _ hP7 (by kernel_rfl) rfl (by kernel_rfl) ?_
     refine hK.out _ _ (below_setRow hB7 hd.size _) (fun hHeld=>?_)
     clear hK K
     (try simp only [Act.put])
     refine wpAnyH_take (i:=15) (v:=?_) (by simp only [List.getElem?_toArray,List.getElem?_cons_succ,List.getElem?_cons_zero];rfl) (by kernel_rfl) (by kernel_rfl) (by kernel_rfl) (by exact fun _ _ _ h=>h) (Or.inl ⟨by rfl,?_⟩) (by assumption) ?_
     rotate_left
     ·(intro w hSw;(try dsimp only at hSw);go_simp;(try with_reducible rfl))
     (try simp only [Act.put,List.setIfInBounds_toArray,List.set_cons_zero,List.set_cons_succ])
     refine wpAnyH_done (by kernel_rfl) ?_ _
     go_wp2_with fail
     go_meet
     exact ⟨z,rfl,hiff,below_setRow hB7 hd.size _⟩
  case rest =>
   rename World=>w8
   obtain ⟨k2,rfl,hk2,hb8⟩:=hcut
   have HB8:=Lib.hid (below_lift HB5.out (below_lift HB6.out hb8))
   have HBW:=Lib.hid (below_lift HB3.out HB8.out)
   have hxi:=(hb8.cell (p:=⟨gl,ol+i,none⟩) hgl).trans HXI.out
   have hk10:k1=0:=HZ1.out.2 HL1.out
   have hk20:k2≠0:=fun h=>by have h3:=HL2.out;rw [hk2.1 h] at h3;cases h3
   subst hk10
   have hk2b:(k2 != 0)=true:=by simpa using hk20
   have hk2c:=int_bf hk20
   clear hk2 hk20 hb8 HZ1 HC6
   go_wp2_with fail
   refine (HAW.out w8 HBW.out).mono ?_
   rintro e wz ⟨rfl,hbz⟩
   have HBZ:=Lib.hid (below_lift HBW.out hbz)
   clear hbz
   go_wp2_with fail
   go_ret
   exact ⟨rfl,HBZ.out⟩
end Go.Proofs.YtjcekdiocliddaaGreatDoor

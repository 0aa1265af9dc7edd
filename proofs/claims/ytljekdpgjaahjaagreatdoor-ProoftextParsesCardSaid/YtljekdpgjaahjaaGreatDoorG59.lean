/- strings.Builder.WriteByte. -/
import Derived.Test.YtljekdpgjaahjaaGreatDoorG55
import Derived.Test.YtljekdpgjaahjaaGreatDoorG58
import Derived.Deep.RegionHeld3
import Derived.Test.YtljekdpgjaahjaaGreatDoorG47
namespace Go.Proofs.YtljekdpgjaahjaaGreatDoor
open Go.RowKit Num Txt Pf
set_option linter.unusedVariables false
attribute [local go_sem] B_size B_get B_toList B_mk B_extract B_append
def renB:Go.Shelf.Ren:=⟨fun n=>if n=167 then 113 else Tryz.lays105_ren.f n,Tryz.lays105_ren.t,Tryz.lays105_ren.g⟩
set_option maxRecDepth 100000 in
theorem layB:Go.Proofs.Lays.n167 Tryz.prog renB:={
 mixed:=Tryz.lays105.mixed
 f167:=Tryz.func113.trans (congrArg some (by kernel_rfl))
 f240:=Tryz.lays105.f240
 f276:=Tryz.lays105.f276
 t0:=Tryz.lays105.t0
 a0:=Tryz.lays105.a0
 z0:=Tryz.lays105.z0
 v0:=Tryz.lays105.v0
 t4:=Tryz.lays105.t4
 a4:=Tryz.lays105.a4
 z4:=Tryz.lays105.z4
 v4:=Tryz.lays105.v4
 t5:=Tryz.Builder_Extra_105.t5
 a5:=Tryz.Builder_Extra_105.a5
 z5:=Tryz.Builder_Extra_105.z5
 v5:=Tryz.Builder_Extra_105.v5
 t9:=Tryz.lays105.t9
 a9:=Tryz.lays105.a9
 z9:=Tryz.lays105.z9
 v9:=Tryz.lays105.v9
 t20:=Tryz.lays105.t20
 a20:=Tryz.lays105.a20
 z20:=Tryz.lays105.z20
 v20:=Tryz.lays105.v20
 t37:=Tryz.lays105.t37
 a37:=Tryz.lays105.a37
 z37:=Tryz.lays105.z37
 v37:=Tryz.lays105.v37
 t70:=Tryz.lays105.t70
 a70:=Tryz.lays105.a70
 z70:=Tryz.lays105.z70
 v70:=Tryz.lays105.v70
 t72:=Tryz.lays105.t72
 a72:=Tryz.lays105.a72
 z72:=Tryz.lays105.z72
 v72:=Tryz.lays105.v72
 t75:=Tryz.lays105.t75
 a75:=Tryz.lays105.a75
 z75:=Tryz.lays105.z75
 v75:=Tryz.lays105.v75
 t164:=Tryz.lays105.t164
 a164:=Tryz.lays105.a164
 z164:=Tryz.lays105.z164
 v164:=Tryz.lays105.v164 }
set_option maxRecDepth 100000 in
theorem extB:Builder.Extra Tryz.prog renB:={
 sizeBuilder:=by kernel_rfl
 liesBuilder:=by kernel_rfl
 t5:=Tryz.Builder_Extra_105.t5
 a5:=Tryz.Builder_Extra_105.a5
 z5:=Tryz.Builder_Extra_105.z5
 v5:=Tryz.Builder_Extra_105.v5
 infoByte:=by kernel_rfl
 cellsByte:=by kernel_rfl
 sizeByte:=by kernel_rfl
 neB5:=by decide }
theorem byte_any (b:Nat) (l:List UInt8) (c:UInt8) (w:World) (h:Bld w b l) (hl:l.length+1≤1000000000000) :
  Calls Tryz.prog 113 #[.pointer (some ⟨b,0,none⟩),.int .u8 c.toNat] w fun e w'=>e=.returned .nilIface∧Bld w' b (l ++ [c])∧Below b w w':=by
 have hb:b≤w.heap.size:=by
  have:∀ p,Lib.BuilderAtF 57 5 b b p (Lib.byteCells l) w→b≤w.heap.size:=by
   rintro p ⟨hB,v,hbk,_⟩
   rcases Nat.lt_or_ge b w.heap.size with h' | h'
   ·omega
   ·rw [Array.getElem?_eq_none h'] at hbk;cases hbk
  rcases h with h | h
  ·exact this _ h
  ·exact this _ h
 refine (show Calls Tryz.prog 113 #[.pointer (some ⟨b,0,none⟩),.int .u8 c.toNat] w _ from Any.Builder_WriteByte_k layB extB b b (Lib.byteCells l) c.toNat w h (by rw [Lib.byteCells_length];omega) hb).mono ?_
 rintro e w' ⟨rfl,hb',hbel,_⟩
 refine ⟨rfl,.inr ?_,hbel⟩
 have e1:Lib.byteCells l ++ [.int .u8 c.toNat]=Lib.byteCells (l ++ [c]):=by simp [Lib.byteCells]
 rw [e1] at hb'
 exact hb'
def restB (b:Bool):UInt8:=if b then 121 else 110
theorem write1 (b:Nat) (l:List UInt8) (c:UInt8) (w:World) (h:Bld w b l) (hl:l.length+1≤1000000000000) :
  Calls Tryz.prog 113 #[.pointer (some ⟨b,0,none⟩),.int .u8 c.toNat] w fun e w'=>e=.returned .nilIface∧Bld w' b (l ++ [c])∧Below b w w':=byte_any b l c w h hl
set_option maxHeartbeats 4000000 in
set_option maxRecDepth 100000 in
theorem rests_any (l:List Bool) (A:Option Addr) (c:Nat) (w:World) (hc:Cells w A (boolsP l)) (hn:l.length≤c∧c≤maxLen) (hl:l.length≤1000000) :
  Calls Tryz.prog 87 #[.slice A l.length c] w fun e w'=>e=.returned (.string (B (restsW l)))∧Below w.heap.size w w':=by
 unfold maxLen at hn
 have HC:=Lib.hid hc
 clear hc
 by_cases h0:l=[]
 ·subst h0
  go_enter Tryz.func87,Tryz.ntmps87
  simp only [B_mk]
  go_wp2_with fail
  go_ret
  exact ⟨rfl,Below.refl _ _⟩
 ·have hr:restsW l=l.map restB:=by unfold restsW restB;rw [if_neg h0]
  rw [hr]
  have hp:0<l.length:=List.length_pos_iff.2 h0
  have hpi:((l.length:Int) == 0)=false:=by rw [beq_eq_false_iff_ne];omega
  clear h0 hr
  obtain ⟨b,o,hA,hb,hx⟩:=HC.out (by unfold boolsP;rw [List.length_map];exact hp)
  subst hA
  have HX:=Lib.hid hx
  clear hx HC
  go_enter Tryz.func87,Tryz.ntmps87
  simp only [B_mk]
  have hd0:=Bld.new w
  obtain ⟨n0,_⟩:=new_at w (.cells #[.pointer none,.slice none 0 0] 57)
  go_wp2_with fail
  generalize w.alloc (.cells #[.pointer none,.slice none 0 0] 57)=w2 at *
  go_loopw [5,11] (fun _ i wr=>∃ k:Nat,k≤l.length∧i=.int .i64 k∧Bld wr w.heap.size ((l.take k).map restB)∧Below w.heap.size w wr) (fun _ i _=>l.length - (intOf i).toNat)
  case atStart=>exact ⟨0,by omega,rfl,hd0,n0⟩
  case round =>
   clear hd0 n0
   obtain ⟨k,hk,rfl,hd,hbel⟩:=hrel
   by_cases hlt:k<l.length
   ·have hkl:(k:Int)<(l.length:Int):=by omega
    have x0:wr.cell? ⟨b,o+k,none⟩=some (.bool l[k]):=(hbel.cell (p:=⟨b,o+k,none⟩) hb).trans (HX.out k _ (boolsP_get l k hlt))
    have HTK:=Lib.hid (show (l.take k).map restB ++ [restB l[k]]=(l.take (k+1)).map restB by rw [List.take_succ_eq_append_getElem hlt,List.map_append];rfl)
    have HW:=fun u=>write1 w.heap.size ((l.take k).map restB) u wr hd (by rw [List.length_map,List.length_take_of_le hk];omega)
    generalize l[k]=r at *
    cases r with
    |true =>
     have HW:=Lib.hid (HW 121)
     clear hd
     go_wp2_with fail
     refine HW.out.mono ?_
     rintro e w6 ⟨rfl,hd6,hb7⟩
     have hd6:=HTK.out ▸ (show Bld w6 w.heap.size ((l.take k).map restB ++ [restB true]) from hd6)
     have hb8:Below w.heap.size w w6:=hbel.trans hb7
     clear HW HTK hb7
     go_wp2_with fail
     all_goals first
      |(go_roundw
        case rel=>exact ⟨k+1,by omega,by go_num,hd6,hb8⟩
        case measure=>simp [intOf];omega)
      |exact ⟨⟨k+1,by omega,by go_num,hd6,hb8⟩,by simp [intOf];omega⟩
    |false =>
     have HW:=Lib.hid (HW 110)
     clear hd
     go_wp2_with fail
     refine HW.out.mono ?_
     rintro e w6 ⟨rfl,hd6,hb7⟩
     have hd6:=HTK.out ▸ (show Bld w6 w.heap.size ((l.take k).map restB ++ [restB false]) from hd6)
     have hb8:Below w.heap.size w w6:=hbel.trans hb7
     clear HW HTK hb7
     go_wp2_with fail
     all_goals first
      |(go_roundw
        case rel=>exact ⟨k+1,by omega,by go_num,hd6,hb8⟩
        case measure=>simp [intOf];omega)
      |exact ⟨⟨k+1,by omega,by go_num,hd6,hb8⟩,by simp [intOf];omega⟩
   ·have hkl:¬ (k:Int)<(l.length:Int):=by omega
    have hkn:k=l.length:=by omega
    subst hkn
    rw [List.take_of_length_le (Nat.le_refl _)] at hd
    have HS:=Lib.hid (bstring_any w.heap.size _ wr hd hbel.size)
    clear hd
    go_wp2_with fail
    refine HS.out.mono ?_
    rintro e w5 ⟨rfl,_,hb5⟩
    have hb8:Below w.heap.size w w5:=hbel.trans hb5
    clear HS hb5
    go_wp2_with fail
    go_ret
    exact ⟨rfl,hb8⟩
theorem rouWs_len {r:RouV} (hk:fits r.kind) (hs:fits r.start) (h1:r.rests.length≤6000) (h2:r.vis.length≤6000) (hv:∀ v ∈ r.vis,fits v.1):(joinP (rouWs r)).length≤40000000:=by
 refine Nat.le_trans (join_len (k:=6022) fun x hx=>?_) ?_
 ·unfold rouWs at hx
  simp only [List.mem_cons,List.mem_map] at hx
  rcases hx with rfl | rfl | rfl | rfl | ⟨v,hm,rfl⟩
  ·decide
  ·exact Nat.le_trans (Pf.decI_len hk) (by decide)
  ·exact Nat.le_trans (Pf.decI_len hs) (by decide)
  ·unfold restsW
   split
   ·simp
   ·rw [List.length_map];omega
  ·have:=Pf.decI_len (hv v hm)
   show (decI v.1).length+1≤6022
   omega
 ·have:(rouWs r).length=4+r.vis.length:=by simp [rouWs];omega
  rw [this]
  omega
set_option maxHeartbeats 4000000 in
set_option maxRecDepth 100000 in
theorem pprint_any (m:PlanM) (w:World) (h:PlanAt w m) (h1:m.rs.length≤10000) (h2:m.us.length≤100000) (h3:∀ r ∈ m.rs,r.r.rests.length≤6000∧r.r.vis.length≤6000) (ht:Tab w) :
  Calls Tryz.prog 53 #[planA m] w fun e w'=>e=.returned (.string (B (planS m.v)))∧Below w.heap.size w w':=by
 have HP:=Lib.hid h
 have HT:=Lib.hid ht
 have l1:=h.rl
 have l2:=h.ul
 unfold maxLen at l1 l2
 generalize hns:planS m.v=ns
 have HNS:=Lib.hid hns
 clear h ht hns
 obtain ⟨A,cA,rs,C,cC,us⟩:=m
 simp only at l1 l2 h1 h2 h3
 go_enter Tryz.func53,Tryz.ntmps53
 simp only [B_mk]
 obtain ⟨ba,oa⟩:=new_at w (.cells #[.slice A rs.length cA,.slice C us.length cC] 25)
 have hga:(w.alloc (.cells #[.slice A rs.length cA,.slice C us.length cC] 25)).heap.size=w.heap.size+1:=by show (w.heap.push _).size=w.heap.size+1;exact Array.size_push ..
 go_wp2_with fail
 generalize w.alloc (.cells #[.slice A rs.length cA,.slice C us.length cC] 25)=wA at *
 rw [← hga]
 have hd0:=Bld.new wA
 obtain ⟨n0,_⟩:=new_at wA (.cells #[.pointer none,.slice none 0 0] 57)
 generalize wA.alloc (.cells #[.pointer none,.slice none 0 0] 57)=w2 at *
 have HA:=Lib.hid (HP.out.below ba)
 have HTA:=Lib.hid (HT.out.below ba)
 have HOA:=Lib.hid oa
 have HBA:=Lib.hid ba
 clear hga HP HT ba oa
 go_loopw [16] (fun i wr=>∃ k:Nat,k≤rs.length∧i=.int .i64 k∧Bld wr wA.heap.size ((rs.take k).flatMap fun r=>lineS (rouWs r.r))∧Below wA.heap.size wA wr) (fun i _=>rs.length - (intOf i).toNat)
 case atStart=>exact ⟨0,by omega,rfl,hd0,n0⟩
 case round =>
  clear hd0 n0
  obtain ⟨k,hk,rfl,hd,hbel⟩:=hrel
  by_cases hlt:k<rs.length
  ·have hkl:(k:Int)<(rs.length:Int):=by omega
   obtain ⟨b,o,hA,hb,hx⟩:=elems RouM.cells_len (by decide) HA.out.rous (show 0<rs.length by omega)
   change A=_ at hA
   subst hA
   have x0:=(hbel.cell (p:=⟨b,o+k*4,none⟩) hb).trans (hx k hlt 0 (.int .i64 rs[k].r.kind) rfl)
   have x1:=(hbel.cell (p:=⟨b,o+k*4+1,none⟩) hb).trans (hx k hlt 1 (.int .i64 rs[k].r.start) rfl)
   have x2:=(hbel.cell (p:=⟨b,o+k*4+2,none⟩) hb).trans (hx k hlt 2 (.slice rs[k].A rs[k].r.rests.length rs[k].ca) rfl)
   have x3:=(hbel.cell (p:=⟨b,o+k*4+3,none⟩) hb).trans (hx k hlt 3 (.slice rs[k].C rs[k].r.vis.length rs[k].cc) rfl)
   have HTK:=Lib.hid (flat_take (fun r:RouM=>lineS (rouWs r.r)) hlt)
   have HR:=Lib.hid (HA.out.each _ (List.getElem_mem hlt))
   have HRL:=Lib.hid (h3 _ (List.getElem_mem hlt))
   clear hx
   generalize rs[k]=r at *
   obtain ⟨rA,rca,rC,rcc,⟨rk,rst,rrs,rvs⟩⟩:=r
   dsimp only at x0 x1 x2 x3
   go_upto_region 5 with fail
   obtain ⟨n3,p3⟩:=new_at wr (.cells #[.int .i64 rk,.int .i64 rst,.slice rA rrs.length rca,.slice rC rvs.length rcc] 50)
   generalize wr.alloc (.cells #[.int .i64 rk,.int .i64 rst,.slice rA rrs.length rca,.slice rC rvs.length rcc] 50)=wc at *
   obtain ⟨d0,d1,d2,d3⟩:=cells4 p3
   clear x0 x1 x2 x3
   have HPC:=Lib.hid p3
   have HN3:=Lib.hid n3
   have HTC:=Lib.hid ((HTA.out.below hbel).below n3)
   have HBL:=Lib.hid hbel
   have HD:=Lib.hid hd
   clear p3 n3 hbel hd
   have HALL:=Lib.hid (show ∀ w',Below wc.heap.size wc w'→Below wc.heap.size wc w'∧w'.cell? ⟨wr.heap.size,0,none⟩=some (.int .i64 rk)∧w'.cell? ⟨wr.heap.size,1,none⟩=some (.int .i64 rst)∧w'.cell? ⟨wr.heap.size,2,none⟩=some (.slice rA rrs.length rca)∧w'.cell? ⟨wr.heap.size,3,none⟩=some (.slice rC rvs.length rcc) from fun w' h=>⟨h,cells4 (row_keep HPC.out h)⟩)
   have hS0:=HALL.out wc.drew (Below.refl _ _).drew
   have HKP:=Lib.hid (fun (wo wn:World) (h:Below wc.heap.size wc wo∧wo.cell? ⟨wr.heap.size,0,none⟩=some (.int .i64 rk)∧wo.cell? ⟨wr.heap.size,1,none⟩=some (.int .i64 rst)∧wo.cell? ⟨wr.heap.size,2,none⟩=some (.slice rA rrs.length rca)∧wo.cell? ⟨wr.heap.size,3,none⟩=some (.slice rC rvs.length rcc)) (hbz:Below wo.heap.size wo wn)=>HALL.out wn (below_lift h.1 hbz))
   have HRC:=Lib.hid ((HR.out.below HBL.out).below HN3.out)
   have HK1:=Lib.hid (fun (w':World) (h:Below wc.heap.size wc w'∧w'.cell? ⟨wr.heap.size,0,none⟩=some (.int .i64 rk)∧w'.cell? ⟨wr.heap.size,1,none⟩=some (.int .i64 rst)∧w'.cell? ⟨wr.heap.size,2,none⟩=some (.slice rA rrs.length rca)∧w'.cell? ⟨wr.heap.size,3,none⟩=some (.slice rC rvs.length rcc))=>decimal_any rk w' HRC.out.kind (HTC.out.below h.1))
   have HK2:=Lib.hid (fun (w':World) (h:Below wc.heap.size wc w'∧w'.cell? ⟨wr.heap.size,0,none⟩=some (.int .i64 rk)∧w'.cell? ⟨wr.heap.size,1,none⟩=some (.int .i64 rst)∧w'.cell? ⟨wr.heap.size,2,none⟩=some (.slice rA rrs.length rca)∧w'.cell? ⟨wr.heap.size,3,none⟩=some (.slice rC rvs.length rcc))=>decimal_any rst w' HRC.out.start (HTC.out.below h.1))
   have HK3:=Lib.hid (fun (w':World) (h:Below wc.heap.size wc w'∧w'.cell? ⟨wr.heap.size,0,none⟩=some (.int .i64 rk)∧w'.cell? ⟨wr.heap.size,1,none⟩=some (.int .i64 rst)∧w'.cell? ⟨wr.heap.size,2,none⟩=some (.slice rA rrs.length rca)∧w'.cell? ⟨wr.heap.size,3,none⟩=some (.slice rC rvs.length rcc))=>rests_any rrs rA rca w' (HRC.out.rests.below h.1) HRC.out.rl (by have:=HRL.out.1;simp only at this;omega))
   go_region_held3 (fun w'=>Below wc.heap.size wc w'∧w'.cell? ⟨wr.heap.size,0,none⟩=some (.int .i64 rk)∧w'.cell? ⟨wr.heap.size,1,none⟩=some (.int .i64 rst)∧w'.cell? ⟨wr.heap.size,2,none⟩=some (.slice rA rrs.length rca)∧w'.cell? ⟨wr.heap.size,3,none⟩=some (.slice rC rvs.length rcc))
    (first | (exact HKP.out _ _ (by assumption) hbz) | (exact HKP.out wz _ (by assumption) (new_at wz _).1) | (with_reducible exact hS0))
    (first | (go_at_call 62;((with_reducible refine (HK1.out _ (by assumption)).mono ?_);rintro e wz ⟨rfl,hbz⟩)) | (go_at_call 62;((with_reducible refine (HK2.out _ (by assumption)).mono ?_);rintro e wz ⟨rfl,hbz⟩)) | (go_at_call 87;((with_reducible refine (HK3.out _ (by assumption)).mono ?_);rintro e wz ⟨rfl,hbz⟩)))
   all_goals
    have hs:=(show Below wc.heap.size wc (wz.alloc (.cells #[.string (B [114,111,117,116,101]),.string (B (decI rk)),.string (B (decI rst)),.string (B (restsW rrs))] 9))∧(wz.alloc (.cells #[.string (B [114,111,117,116,101]),.string (B (decI rk)),.string (B (decI rst)),.string (B (restsW rrs))] 9)).cell? ⟨wr.heap.size,0,none⟩=some (.int .i64 rk)∧(wz.alloc (.cells #[.string (B [114,111,117,116,101]),.string (B (decI rk)),.string (B (decI rst)),.string (B (restsW rrs))] 9)).cell? ⟨wr.heap.size,1,none⟩=some (.int .i64 rst)∧(wz.alloc (.cells #[.string (B [114,111,117,116,101]),.string (B (decI rk)),.string (B (decI rst)),.string (B (restsW rrs))] 9)).cell? ⟨wr.heap.size,2,none⟩=some (.slice rA rrs.length rca)∧(wz.alloc (.cells #[.string (B [114,111,117,116,101]),.string (B (decI rk)),.string (B (decI rst)),.string (B (restsW rrs))] 9)).cell? ⟨wr.heap.size,3,none⟩=some (.slice rC rvs.length rcc) from by assumption)
    have hvl:rvs.length≤6000:=HRL.out.2
    have hb4:=hs.1
    have hsz:wr.heap.size≤wz.heap.size:=by
     have e1:=lt_heap HPC.out
     have e2:=hb4.size
     have e3:(wz.alloc (.cells #[.string (B [114,111,117,116,101]),.string (B (decI rk)),.string (B (decI rst)),.string (B (restsW rrs))] 9)).heap.size=wz.heap.size+1:=by show (wz.heap.push _).size=wz.heap.size+1;exact Array.size_push ..
     omega
    have hown:=OwnS.lit wz 9 #[.string (B [114,111,117,116,101]),.string (B (decI rk)),.string (B (decI rst)),.string (B (restsW rrs))] wr.heap.size 4 hsz rfl (by unfold maxLen;decide)
    generalize wz.alloc (.cells #[.string (B [114,111,117,116,101]),.string (B (decI rk)),.string (B (decI rst)),.string (B (restsW rrs))] 9)=w4 at *
    obtain ⟨_,_,_,d3⟩:=(HALL.out w4 hb4).2
    have hbr:=below_lift HN3.out hb4
    have HRW:=Lib.hid (HR.out.below HBL.out)
    clear hs hb4 HK1 HK2 HK3 HKP HALL hS0
    clear hsz
    generalize wr=wo at *
    go_wp2_with fail
    go_loopw [6,33] (fun ws i wi=>∃ (j:Nat) (X:Option Addr) (cx:Nat),j≤rvs.length∧i=.int .i64 j∧ws=.slice X (4+j) cx∧OwnS wi wo.heap.size 9 X (4+j) cx (strs ([routeW,decI rk,decI rst,restsW rrs] ++ (rvs.take j).map visW))∧Below wo.heap.size wo wi) (fun _ i _=>rvs.length - (intOf i).toNat)
    case atStart=>exact ⟨0,_,_,by omega,rfl,rfl,hown,hbr⟩
    case round =>
     clear hown hbr
     obtain ⟨j,X,cx,hj,rfl,rfl,hown,hbi⟩:=hrel
     by_cases hjl:j<rvs.length
     ·have hjk:(j:Int)<(rvs.length:Int):=by omega
      obtain ⟨bv,ov,hV,hbv,hv⟩:=elems visC_len (by decide) HRW.out.vis (show 0<rvs.length by omega)
      change rC=_ at hV
      subst hV
      have y0:=(hbi.cell (p:=⟨bv,ov+j*2,none⟩) hbv).trans (hv j hjl 0 (.int .i64 rvs[j].1) rfl)
      have y1:=(hbi.cell (p:=⟨bv,ov+j*2+1,none⟩) hbv).trans (hv j hjl 1 (.bool rvs[j].2) rfl)
      have HTJ:=Lib.hid (show (rvs.take j).map visW ++ [visW rvs[j]]=(rvs.take (j+1)).map visW by rw [List.take_succ_eq_append_getElem hjl,List.map_append];rfl)
      have HFV:=Lib.hid (⟨HRW.out.visF _ (List.getElem_mem hjl),True.intro⟩:fits rvs[j].1∧True)
      clear hv
      generalize rvs[j]=v at *
      obtain ⟨vo,vd⟩:=v
      dsimp only at y0 y1
      go_upto_region 9 with fail
      obtain ⟨n5,p5⟩:=new_at wr (.cells #[.int .i64 vo,.bool vd] 133)
      generalize wr.alloc (.cells #[.int .i64 vo,.bool vd] 133)=wv at *
      obtain ⟨z0,z1⟩:=cells2 p5
      have hownv:=hown.below n5
      have hbv:=below_lift hbi n5
      have HTV:=Lib.hid ((HTC.out.below (Below.refl _ _)))
      have HTV:=Lib.hid (((HTA.out.below HBL.out).below hbv))
      clear y0 y1 hown hbi n5 p5
      cases vd with
      |true =>
       have HTJ:=Lib.hid (show (rvs.take j).map visW ++ [45 :: decI vo]=(rvs.take (j+1)).map visW from HTJ.out)
       go_wp2_with fail
       refine (decimal_any vo wv HFV.out.1 HTV.out).mono ?_
       rintro e w6 ⟨rfl,hb6⟩
       have hown6:=hownv.below hb6
       have hbel6:=below_lift hbv hb6
       clear hownv hbv hb6
       have hdl:=Pf.decI_len HFV.out.1
       go_wp2_with (at_builtin;refine wp_app1 el_string rfl _ _ rfl wo.heap.size _ _ _ (strs ([routeW,decI rk,decI rst,restsW rrs] ++ (rvs.take j).map visW)) _ (.string (B (45 :: decI vo))) rfl hown6 rfl rfl (by unfold maxLen;omega) (by omega) hbel6.size ?_;intro A' c' w7 hown7 hb7)
       rw [snoc_strs,List.append_assoc,HTJ.out] at hown7
       exact ⟨⟨j+1,A',c',by omega,by go_num,rfl,hown7,hbel6.trans hb7⟩,by simp [intOf];omega⟩
      |false =>
       have HTJ:=Lib.hid (show (rvs.take j).map visW ++ [43 :: decI vo]=(rvs.take (j+1)).map visW from HTJ.out)
       go_wp2_with fail
       refine (decimal_any vo wv HFV.out.1 HTV.out).mono ?_
       rintro e w6 ⟨rfl,hb6⟩
       have hown6:=hownv.below hb6
       have hbel6:=below_lift hbv hb6
       clear hownv hbv hb6
       have hdl:=Pf.decI_len HFV.out.1
       go_wp2_with (at_builtin;refine wp_app1 el_string rfl _ _ rfl wo.heap.size _ _ _ (strs ([routeW,decI rk,decI rst,restsW rrs] ++ (rvs.take j).map visW)) _ (.string (B (43 :: decI vo))) rfl hown6 rfl rfl (by unfold maxLen;omega) (by omega) hbel6.size ?_;intro A' c' w7 hown7 hb7)
       rw [snoc_strs,List.append_assoc,HTJ.out] at hown7
       exact ⟨⟨j+1,A',c',by omega,by go_num,rfl,hown7,hbel6.trans hb7⟩,by simp [intOf];omega⟩
     ·have hjk:¬ (j:Int)<(rvs.length:Int):=by omega
      have hjn:j=rvs.length:=by omega
      subst hjn
      rw [List.take_of_length_le (Nat.le_refl _)] at hown
      have hll:(rouWs ⟨rk,rst,rrs,rvs⟩).length=4+rvs.length:=by simp [rouWs];omega
      have hown:OwnS wr wo.heap.size 9 X (4+rvs.length) cx (strs (rouWs ⟨rk,rst,rrs,rvs⟩)):=hown
      have HJL:=Lib.hid (rouWs_len (r:=⟨rk,rst,rrs,rvs⟩) HR.out.kind HR.out.start HRL.out.1 HRL.out.2 HR.out.visF)
      have HJ:=Lib.hid (join_any (rouWs ⟨rk,rst,rrs,rvs⟩) X cx wr hown.cells (by rw [hll];exact hown.cap.1) (by have:=HJL.out;omega) (by rw [hll];omega))
      rw [hll] at HJ
      have hdr:=HD.out.below hbi
      have HTL:=Lib.hid (flat_le (fun r:RouM=>lineS (rouWs r.r)) (b:=40000001) (rs.take k) fun r hr=>by
       have hm:=List.mem_of_mem_take hr
       have e:=rouWs_len (HA.out.each r hm).kind (HA.out.each r hm).start (h3 r hm).1 (h3 r hm).2 (HA.out.each r hm).visF
       show (joinP (rouWs r.r) ++ [10]).length≤40000001
       rw [List.length_append];exact Nat.add_le_add_right e 1)
      rw [List.length_take_of_le hk] at HTL
      clear hown hjk
      generalize hjw:joinP (rouWs ⟨rk,rst,rrs,rvs⟩)=jw at *
      have HTK:=Lib.hid (show (rs.take k).flatMap (fun r:RouM=>lineS (rouWs r.r)) ++ (jw ++ [10])=(rs.take (k+1)).flatMap (fun r:RouM=>lineS (rouWs r.r)) by rw [← HTK.out,← hjw];rfl)
      clear hjw
      go_wp2_with fail
      refine HJ.out.mono ?_
      rintro e w6 ⟨rfl,hb6⟩
      have HW:=Lib.hid (write_any wA.heap.size _ (jw ++ [10]) w6 (hdr.below hb6) (by
       have e1:=HTL.out
       have e2:=HJL.out
       rw [List.length_append,List.length_cons,List.length_nil]
       omega))
      have hb7:=HBL.out.trans (below_lift hbi hb6 |>.mono HBL.out.size)
      have hjl2:=HJL.out
      clear HJ hdr hb6
      go_wp2_with fail
      refine HW.out.mono ?_
      rintro e w7 ⟨rfl,hd7,hb8⟩
      rw [HTK.out] at hd7
      have hb9:=hb7.trans hb8
      clear HW HTK hb7 hb8
      go_wp2_with fail
      all_goals first
       |(go_roundw
         case rel=>exact ⟨k+1,by omega,by go_num,hd7,hb9⟩
         case measure=>simp [intOf];omega)
       |exact ⟨⟨k+1,by omega,by go_num,hd7,hb9⟩,by simp [intOf];omega⟩
  ·have hkl:¬ (k:Int)<(rs.length:Int):=by omega
   have hkn:k=rs.length:=by omega
   subst hkn
   rw [List.take_of_length_le (Nat.le_refl _)] at hd
   obtain ⟨_,c1⟩:=cells2 (row_keep HOA.out hbel)
   have c2:(wr.alloc (.cells #[.string (B [117,110,115,101,114,118,101,100])] 9)).cell? ⟨w.heap.size,1,none⟩=some (.slice C us.length cC):=(cells2 (row_keep HOA.out (below_lift hbel (new_at wr _).1))).2
   have hown:=OwnS.lit wr 9 #[.string (B [117,110,115,101,114,118,101,100])] wr.heap.size 1 (Nat.le_refl _) rfl (by unfold maxLen;decide)
   obtain ⟨n3,_⟩:=new_at wr (.cells #[.string (B [117,110,115,101,114,118,101,100])] 9)
   have HBL:=Lib.hid hbel
   have HD:=Lib.hid hd
   clear hbel hd
   go_wp2_with fail
   generalize wr.alloc (.cells #[.string (B [117,110,115,101,114,118,101,100])] 9)=w4 at *
   generalize wr=wo at *
   go_loopw [10,57] (fun ws i wi=>∃ (j:Nat) (X:Option Addr) (cx:Nat),j≤us.length∧i=.int .i64 j∧ws=.slice X (1+j) cx∧OwnS wi wo.heap.size 9 X (1+j) cx (strs ([unsW] ++ (us.take j).map decI))∧Below wo.heap.size wo wi) (fun _ i _=>us.length - (intOf i).toNat)
   case atStart=>exact ⟨0,_,_,by omega,rfl,rfl,hown,n3⟩
   case round =>
    clear hown n3
    obtain ⟨j,X,cx,hj,rfl,rfl,hown,hbi⟩:=hrel
    have HBR:=Lib.hid (below_lift HBL.out hbi)
    by_cases hjl:j<us.length
    ·have hjk:(j:Int)<(us.length:Int):=by omega
     obtain ⟨b,o,hC,hb,hx⟩:=HA.out.uns (by unfold ints;rw [List.length_map];exact Nat.lt_of_le_of_lt (Nat.zero_le _) hjl)
     change C=_ at hC
     subst hC
     have x0:wr.cell? ⟨b,o+j,none⟩=some (.int .i64 us[j]):=(HBR.out.cell (p:=⟨b,o+j,none⟩) hb).trans (hx j _ (by show (us.map _)[j]? = _;rw [List.getElem?_map,List.getElem?_eq_getElem hjl];rfl))
     have HTJ:=Lib.hid (show (us.take j).map decI ++ [decI us[j]]=(us.take (j+1)).map decI by rw [List.take_succ_eq_append_getElem hjl,List.map_append];rfl)
     have HFV:=Lib.hid (HA.out.unsF _ (List.getElem_mem hjl))
     clear hx
     generalize us[j]=u at *
     have HDC:=Lib.hid (decimal_any u wr HFV.out (HTA.out.below HBR.out))
     go_wp2_with fail
     refine HDC.out.mono ?_
     rintro e w6 ⟨rfl,hb6⟩
     have hown6:=hown.below hb6
     have hbel6:=below_lift hbi hb6
     clear hown hbi hb6
     go_wp2_with (at_builtin;refine wp_app1 el_string rfl _ _ rfl wo.heap.size _ _ _ (strs ([unsW] ++ (us.take j).map decI)) _ (.string (B (decI u))) rfl hown6 rfl rfl (by unfold maxLen;omega) (by omega) hbel6.size ?_;intro A' c' w7 hown7 hb7)
     rw [snoc_strs,List.append_assoc,HTJ.out] at hown7
     first
      |exact ⟨⟨j+1,A',c',by omega,by go_num,rfl,hown7,hbel6.trans hb7⟩,by simp [intOf];omega⟩
      |(go_roundw
        case rel=>exact ⟨j+1,A',c',by omega,by go_num,rfl,hown7,hbel6.trans hb7⟩
        case measure=>simp [intOf];omega)
    ·have hjk:¬ (j:Int)<(us.length:Int):=by omega
     have hjn:j=us.length:=by omega
     subst hjn
     rw [List.take_of_length_le (Nat.le_refl _)] at hown
     have hll:(unsWs us).length=1+us.length:=by simp [unsWs];omega
     have hown:OwnS wr wo.heap.size 9 X (1+us.length) cx (strs (unsWs us)):=hown
     have HJL:=Lib.hid (show (joinP (unsWs us)).length≤40000000 by
      refine Nat.le_trans (join_len (k:=100) fun x hx=>?_) (by rw [hll];omega)
      unfold unsWs at hx
      simp only [List.mem_cons,List.mem_map] at hx
      rcases hx with rfl | ⟨u,hm,rfl⟩
      ·decide
      ·exact Nat.le_trans (Pf.decI_len (HA.out.unsF u hm)) (by decide))
     have HJ:=Lib.hid (join_any (unsWs us) X cx wr hown.cells (by rw [hll];exact hown.cap.1) (by have:=HJL.out;omega) (by rw [hll];omega))
     rw [hll] at HJ
     have hdr:=HD.out.below hbi
     have HTL:=Lib.hid (flat_le (fun r:RouM=>lineS (rouWs r.r)) (b:=40000001) rs fun r hm=>by
      have e:=rouWs_len (HA.out.each r hm).kind (HA.out.each r hm).start (h3 r hm).1 (h3 r hm).2 (HA.out.each r hm).visF
      show (joinP (rouWs r.r) ++ [10]).length≤40000001
      rw [List.length_append];exact Nat.add_le_add_right e 1)
     have HTK:=Lib.hid (show rs.flatMap (fun r:RouM=>lineS (rouWs r.r)) ++ (joinP (unsWs us) ++ [10])=ns by rw [← HNS.out];unfold planS rousS PlanM.v lineS;rw [List.flatMap_map])
     clear hown hjk
     generalize joinP (unsWs us)=jw at *
     go_wp2_with fail
     refine HJ.out.mono ?_
     rintro e w6 ⟨rfl,hb6⟩
     have HW:=Lib.hid (write_any wA.heap.size _ (jw ++ [10]) w6 (hdr.below hb6) (by
      have e1:=HTL.out
      have e2:=HJL.out
      rw [List.length_append,List.length_cons,List.length_nil]
      omega))
     have hb7:=HBR.out.trans (hb6.mono HBR.out.size)
     have hjl2:=HJL.out
     clear HJ hdr hb6
     go_wp2_with fail
     refine HW.out.mono ?_
     rintro e w7 ⟨rfl,hd7,hb8⟩
     rw [HTK.out] at hd7
     have hb9:=hb7.trans hb8
     have HS:=Lib.hid (bstring_any _ _ w7 hd7 hb9.size)
     clear HW HTK hb7 hb8 hd7
     go_wp2_with fail
     refine HS.out.mono ?_
     rintro e w8 ⟨rfl,_,hb10⟩
     have hb11:=hb9.trans hb10
     clear HS hb10
     go_wp2_with fail
     go_ret
     exact ⟨rfl,below_lift HBA.out hb11⟩
set_option maxHeartbeats 4000000 in
set_option maxRecDepth 100000 in
theorem phead_any (m:ProofM) (w:World) (h:ProofAt w m) (h1:m.P.rs.length≤1000) (h2:m.P.us.length≤100000) (h3:∀ r ∈ m.P.rs,r.r.rests.length≤6000∧r.r.vis.length≤6000) (hq:(planS m.P.v).length≤10000) (ht:Tab w) :
  Calls Tryz.prog 21 #[proofA m] w fun e w'=>e=.returned (.string (B (headS m.v)))∧Below w.heap.size w w':=by
 obtain ⟨bw,o1⟩:=new_at w (proofB m)
 have HB:=Lib.hid bw
 have HO:=Lib.hid o1
 have HN:=Lib.hid (h.below bw)
 have HT:=Lib.hid (ht.below bw)
 have HQ:=Lib.hid hq
 have H3:=Lib.hid h3
 generalize hhs:headS m.v=hh
 have HHS:=Lib.hid hhs
 clear h bw o1 ht hq h3 hhs
 obtain ⟨none,P,A,ca,ns⟩:=m
 obtain ⟨pA,pca,rs,pC,pcc,us⟩:=P
 simp only at h1 h2
 go_enter Tryz.func21,Tryz.ntmps21
 simp only [B_mk]
 go_upto_region 1 with fail
 generalize (w.alloc _)=wB at *
 obtain ⟨a0,a1,a2,a3⟩:=cells4 HO.out
 cases none with
 |true =>
  go_upto_region 2 with fail
  have HL:=Lib.hid (line_new (w:=wB.alloc (.cells #[.iface 9 (.string (B proofW)),.iface 9 (.string (B noneW))] 20)) (g:=wB.heap.size) (ps:=[.str proofW,.str noneW]) (new_at wB _).2 (by simp) (by
   intro p hp
   simp only [List.mem_cons,List.not_mem_nil,or_false] at hp
   rcases hp with rfl | rfl <;> trivial) (by decide) (HT.out.below (new_at wB _).1))
  have hb2:=below_lift HB.out (new_at wB (.cells #[.iface 9 (.string (B proofW)),.iface 9 (.string (B noneW))] 20)).1
  go_wp2_with fail
  refine HL.out.mono ?_
  rintro e w3 ⟨rfl,hb3⟩
  have hb4:=below_lift hb2 hb3
  have hr:lineS (List.map ptS [.str proofW,.str noneW])=hh:=by rw [← HHS.out];rfl
  rw [hr]
  clear hr HL
  go_wp2_with fail
  go_ret
  exact ⟨rfl,hb4⟩
 |false =>
  go_upto_region 3 with fail
  have HPP:=Lib.hid (pprint_any { A:=pA,ca:=pca,rs:=rs,C:=pC,cc:=pcc,us:=us } wB HN.out.plan (Nat.le_trans h1 (by decide)) h2 H3.out HT.out)
  have HR:=Lib.hid (show lineS [proofW,planW,quote (planS (PlanM.v { A:=pA,ca:=pca,rs:=rs,C:=pC,cc:=pcc,us:=us }))]=hh by rw [← HHS.out];rfl)
  have HQ:=Lib.hid (show (planS (PlanM.v { A:=pA,ca:=pca,rs:=rs,C:=pC,cc:=pcc,us:=us })).length≤10000 from HQ.out)
  generalize planS (PlanM.v { A:=pA,ca:=pca,rs:=rs,C:=pC,cc:=pcc,us:=us })=ps at *
  go_wp2_with fail
  refine HPP.out.mono ?_
  rintro e w2 ⟨rfl,hb2⟩
  have HQA:=Lib.hid (quote_any ps w2 HQ.out)
  go_wp2_with fail
  refine HQA.out.mono ?_
  rintro e w3 ⟨rfl,hb3⟩
  have hb3:=below_lift hb2 hb3
  have HL:=Lib.hid (line_new (w:=w3.alloc (.cells #[.iface 9 (.string (B proofW)),.iface 9 (.string (B planW)),.iface 9 (.string (B (quote ps)))] 20)) (g:=w3.heap.size) (ps:=[.str proofW,.str planW,.str (quote ps)]) (new_at w3 _).2 (by simp) (by
   intro p hp
   simp only [List.mem_cons,List.not_mem_nil,or_false] at hp
   rcases hp with rfl | rfl | rfl <;> trivial) (by
   refine Nat.le_trans (join_len (k:=100000) fun x hx=>?_) (show 3*(100000+1)≤1000000 by decide)
   simp only [List.map_cons,List.map_nil,ptS,List.mem_cons,List.not_mem_nil,or_false] at hx
   rcases hx with rfl | rfl | rfl
   ·decide
   ·decide
   ·have e1:=HQ.out
    have e2:=Pf.quote_len ps
    omega) ((HT.out.below hb3).below (new_at w3 _).1))
  have hb4:=below_lift hb3 (new_at w3 (.cells #[.iface 9 (.string (B proofW)),.iface 9 (.string (B planW)),.iface 9 (.string (B (quote ps)))] 20)).1
  go_wp2_with fail
  refine HL.out.mono ?_
  rintro e w5 ⟨rfl,hb5⟩
  have hb6:=below_lift HB.out (below_lift hb4 hb5)
  have hr:lineS (List.map ptS [.str proofW,.str planW,.str (quote ps)])=hh:=HR.out
  rw [hr]
  clear hr HL HR
  go_wp2_with fail
  go_ret
  exact ⟨rfl,hb6⟩
theorem wrong_any (d:Str) (w:World) (hl:d.length≤100000) (he:Env w) :
  Calls Tryz.prog 24 #[.string (B d)] w fun e w'=>e=.returned (.bool (!rightQ d))∧Below w.heap.size w w':=by
 have HQ:=Lib.hid (rq_any d w (by omega) he)
 generalize rightQ d=q at *
 go_enter Tryz.func24,Tryz.ntmps24
 go_wp2_with fail
 refine HQ.out.mono ?_
 rintro e w2 ⟨rfl,hb2⟩
 go_wp2_with fail
 go_ret
 exact ⟨rfl,hb2⟩
set_option maxHeartbeats 4000000 in
set_option maxRecDepth 100000 in
theorem pindex_any (ds:List Str) (A:Option Addr) (c:Nat) (w:World) (hc:Cells w A (strs ds)) (hn:ds.length≤c∧c≤maxLen) (hl:∀ d ∈ ds,d.length≤100000) (he:Env w) :
  Calls Tryz.prog 54 #[.slice A ds.length c,.func (Fn.func 24) #[] #[]] w fun e w'=>(∃ i:Int,e=.returned (.int .i64 i)∧(decide (0≤i)=!ds.all rightQ))∧Below w.heap.size w w':=by
 unfold maxLen at hn
 have HC:=Lib.hid hc
 have HE:=Lib.hid he
 have HL:=Lib.hid hl
 clear hc he hl
 go_enter Tryz.func54,Tryz.ntmps54
 go_wp2_with fail
 go_loopw [4,5,8] (fun _ _ i wr=>∃ k:Nat,k≤ds.length∧i=.int .i64 k∧(ds.take k).all rightQ=true∧Below w.heap.size w wr) (fun _ _ i _=>ds.length - (intOf i).toNat)
 case atStart=>exact ⟨0,by omega,rfl,by simp,Below.refl _ _⟩
 case round =>
  obtain ⟨k,hk,rfl,hall,hbel⟩:=hrel
  have HALL:=Lib.hid hall
  clear hall
  by_cases hlt:k<ds.length
  ·have hkl:(k:Int)<(ds.length:Int):=by omega
   obtain ⟨b,o,hA,hb,hx⟩:=HC.out (by rw [strs_length];omega)
   subst hA
   have x0:wr.cell? ⟨b,o+k,none⟩=some (.string (B ds[k])):=(hbel.cell (p:=⟨b,o+k,none⟩) hb).trans (hx k _ (by show (ds.map _)[k]? = _;rw [List.getElem?_map,List.getElem?_eq_getElem hlt];rfl))
   have HW:=Lib.hid (wrong_any ds[k] wr (HL.out _ (List.getElem_mem hlt)) (HE.out.below hbel))
   have HTK:=Lib.hid (show ∀ q,rightQ ds[k]=q→(q=true→(ds.take (k+1)).all rightQ=true)∧(q=false→ds.all rightQ=false) from fun q hq=>⟨fun h=>by rw [List.take_succ_eq_append_getElem hlt,List.all_append,HALL.out];simp [hq,h],fun h=>by rw [List.all_eq_false];exact ⟨_,List.getElem_mem hlt,by rw [hq,h];simp⟩⟩)
   clear hx
   generalize ds[k]=d at *
   generalize rightQ d=q at *
   have HT2:=Lib.hid (HTK.out q rfl)
   go_wp2_with fail
   refine HW.out.mono ?_
   rintro e w2 ⟨rfl,hb2⟩
   have hb3:=below_lift hbel hb2
   cases q with
   |true =>
    go_wp2_with fail
    all_goals first
     |exact ⟨⟨k+1,by omega,by go_num,HT2.out.1 (by first | rfl | trivial),hb3⟩,by simp [intOf];omega⟩
     |(go_roundw
       case rel=>exact ⟨k+1,by omega,by go_num,HT2.out.1 (by first | rfl | trivial),hb3⟩
       case measure=>simp [intOf];omega)
   |false =>
    go_wp2_with fail
    go_ret
    refine ⟨⟨k,rfl,?_⟩,hb3⟩
    rw [HT2.out.2 (by first | rfl | trivial)];simp
  ·have hkl:¬ (k:Int)<(ds.length:Int):=by omega
   have hkn:k=ds.length:=by omega
   subst hkn
   rw [List.take_of_length_le (Nat.le_refl _)] at HALL
   go_wp2_with fail
   go_ret
   refine ⟨⟨-1,rfl,?_⟩,hbel⟩
   rw [HALL.out];simp
theorem contains_any (ds:List Str) (A:Option Addr) (c:Nat) (w:World) (hc:Cells w A (strs ds)) (hn:ds.length≤c∧c≤maxLen) (hl:∀ d ∈ ds,d.length≤100000) (he:Env w) :
  Calls Tryz.prog 23 #[.slice A ds.length c,.func (Fn.func 24) #[] #[]] w fun e w'=>e=.returned (.bool (!ds.all rightQ))∧Below w.heap.size w w':=by
 have HI:=Lib.hid (pindex_any ds A c w hc hn hl he)
 clear hc hl he
 generalize ds.all rightQ=q at *
 go_enter Tryz.func23,Tryz.ntmps23
 go_wp2_with fail
 refine HI.out.mono ?_
 rintro e w2 ⟨⟨i,rfl,hi⟩,hb2⟩
 have HIQ:=Lib.hid hi
 clear hi
 go_wp2_with fail
 go_ret
 exact ⟨by rw [← HIQ.out];rfl,hb2⟩
theorem nodesE_cons (n:NodeV) (l:List NodeV):nodesE (n :: l)=if foreign n=true then 2 else if n.dual.all rightQ=true then nodesE l else 3:=rfl
theorem nodesE_append:∀ (a b:List NodeV),nodesE a=0→nodesE (a ++ b)=nodesE b
 |[],_,_=>rfl
 |n :: a,b,h=>by
  rw [List.cons_append,nodesE_cons]
  rw [nodesE_cons] at h
  by_cases h1:foreign n=true
  ·rw [if_pos h1] at h;exact absurd h (by decide)
  ·rw [if_neg h1] at h ⊢
   by_cases h2:n.dual.all rightQ=true
   ·rw [if_pos h2] at h ⊢;exact nodesE_append a b h
   ·rw [if_neg h2] at h;exact absurd h (by decide)
theorem nodesE_at {l:List NodeV} {k:Nat} (hk:k<l.length) (h:nodesE (l.take k)=0) :
  (foreign l[k]=true→nodesE l=2)∧(foreign l[k]=false→l[k].dual.all rightQ=false→nodesE l=3)∧(foreign l[k]=false→l[k].dual.all rightQ=true→nodesE (l.take (k+1))=0):=by
 have e:l=l.take k ++ l[k] :: l.drop (k+1):=by rw [List.getElem_cons_drop];exact (List.take_append_drop k l).symm
 have e1:nodesE l=nodesE (l[k] :: l.drop (k+1)):=by
  conv=>lhs;rw [e]
  exact nodesE_append _ _ h
 refine ⟨fun h1=>?_,fun h1 h2=>?_,fun h1 h2=>?_⟩
 ·rw [e1,nodesE_cons,if_pos h1]
 ·rw [e1,nodesE_cons,if_neg (by rw [h1];decide),if_neg (by rw [h2];decide)]
 ·rw [List.take_succ_eq_append_getElem hk,nodesE_append _ _ h]
  rw [nodesE_cons,if_neg (by rw [h1];decide),if_pos h2];rfl
theorem flat_le2 {α} (f:α→Str) {b:Nat} (l:List α) (h:∀ x ∈ l,(f x).length≤b) (k:Nat) (hl:l.length≤k):(l.flatMap f).length≤k*b:=Nat.le_trans (flat_le f l h) (Nat.mul_le_mul_right b hl)
theorem nodeS_len {w:World} {m:NodeM} (h:NodeAt w m) (h1:m.n.cuts.length≤1000) (h2:m.n.dual.length≤1000) (h3:∀ d ∈ m.n.dual,d.length≤10000):(nodeS m.n).length≤20000000:=by
 unfold nodeS
 split
 ·rw [List.length_append,List.length_append]
  have e1:=flat_le2 cutS (b:=100) m.n.cuts (fun c hc=>cutS_len (h.cutsF c hc)) 1000 h1
  have e2:=flat_le2 dualS (b:=10020) m.n.dual (fun d hd=>dualS_len (h3 d hd)) 1000 h2
  have e3:(lineS [leafW,decI m.n.kind,decI m.n.cuts.length,decI m.n.dual.length]).length≤1000:=by
   refine Nat.le_trans (line_len (k:=21) fun x hx=>?_) (show 4*(21+1)+1≤1000 by decide)
   simp only [List.mem_cons,List.not_mem_nil,or_false] at hx
   rcases hx with rfl | rfl | rfl | rfl
   ·decide
   ·exact Pf.decI_len h.kind
   ·exact Pf.decI_len (fits_nat (by omega))
   ·exact Pf.decI_len (fits_nat (by omega))
  omega
 ·refine Nat.le_trans (line_len (k:=21) fun x hx=>?_) (show 7*(21+1)+1≤20000000 by decide)
  simp only [List.mem_cons,List.not_mem_nil,or_false] at hx
  rcases hx with rfl | rfl | rfl | rfl | rfl | rfl | rfl
  ·decide
  ·exact Pf.decI_len h.ck
  ·exact Pf.decI_len h.ca
  ·exact Pf.decI_len h.cb
  ·exact Pf.decI_len h.cn
  ·exact Pf.decI_len h.yes
  ·exact Pf.decI_len h.no
theorem headS_len {p:ProofV} (h:(planS p.plan).length≤10000):(headS p).length≤100000:=by
 unfold headS lineS
 have e:=Pf.quote_len (planS p.plan)
 split
 ·decide
 ·have:joinP [proofW,planW,quote (planS p.plan)]=proofW ++ 32 :: (planW ++ 32 :: quote (planS p.plan)):=rfl
  rw [this]
  simp only [List.length_append,List.length_cons,List.length_nil]
  omega
theorem blen_any (b:Nat) (l:List UInt8) (w:World) (h:Bld w b l) :
  Calls Tryz.prog 28 #[.pointer (some ⟨b,0,none⟩)] w fun e w'=>e=.returned (.int .i64 (l.length:Int))∧w'=w:=by
 have h1:=Tryz.Builder_Len_f b b (Lib.byteCells l) w h
 rw [Lib.byteCells_length] at h1
 exact h1
set_option maxHeartbeats 4000000 in
set_option maxRecDepth 100000 in
theorem pprintp_any (m:ProofM) (w:World) (h:ProofAt w m) (h1:m.P.rs.length≤1000) (h2:m.P.us.length≤6000) (h3:∀ r ∈ m.P.rs,r.r.rests.length≤6000∧r.r.vis.length≤6000) (hq:(planS m.P.v).length≤10000) (h4:∀ n ∈ m.ns,n.n.cuts.length≤1000∧n.n.dual.length≤1000∧∀ d ∈ n.n.dual,d.length≤10000) (he:Env w) :
  Calls Tryz.prog 11 #[proofA m] w fun e w'=>e=.returned (.tuple #[.string (B (printR m.v).1),.int .i64 (printR m.v).2])∧Below w.heap.size w w':=by
 obtain ⟨bw,o1⟩:=new_at w (proofB m)
 have HB:=Lib.hid bw
 have HO:=Lib.hid o1
 have HN:=Lib.hid (h.below bw)
 have HE:=Lib.hid (he.below bw)
 have HQ:=Lib.hid hq
 have H3:=Lib.hid h3
 have H4:=Lib.hid h4
 have l1:=h.nl
 unfold maxLen at l1
 generalize hr:printR m.v=R
 have HR:=Lib.hid hr
 clear h bw o1 he hq h3 h4 hr
 obtain ⟨none,P,A,ca,ns⟩:=m
 obtain ⟨pA,pca,rs,pC,pcc,us⟩:=P
 simp only at h1 h2 l1
 go_enter Tryz.func11,Tryz.ntmps11
 simp only [B_mk]
 go_upto_region 1 with fail
 generalize (w.alloc _)=wB at *
 obtain ⟨a0,a1,a2,a3⟩:=cells4 HO.out
 by_cases hbig:1024<ns.length
 ·have hb1:(1024:Int)<(ns.length:Int):=by omega
  have hRR:R=([],4):=by
   rw [← HR.out];unfold printR
   rw [if_pos (by show (ns.map (·.n)).length > 1024;rw [List.length_map];exact hbig)]
  subst hRR
  clear HR
  go_wp2_with fail
  go_ret2
  exact ⟨rfl,HB.out⟩
 ·have hb1:¬ (1024:Int)<(ns.length:Int):=by omega
  by_cases hz:none=true∧0<rs.length+us.length
  ·obtain ⟨rfl,hz⟩:=hz
   have hz1:(0:Int)<(rs.length:Int)+(us.length:Int):=by omega
   have hRR:R=([],2):=by
    rw [← HR.out];unfold printR
    rw [if_neg (by show ¬ (ns.map (·.n)).length > 1024;rw [List.length_map];exact hbig),if_pos ⟨rfl,fun h=>by
     have e1:rs.map (·.r)=[]:=h.1
     have e2:us=[]:=h.2
     rw [List.map_eq_nil_iff] at e1
     rw [e1,e2] at hz
     exact absurd hz (by decide)⟩]
   subst hRR
   clear HR
   go_wp2_with fail
   go_ret2
   exact ⟨rfl,HB.out⟩
  ·obtain ⟨V,hV⟩:∃ x,x=ProofM.v { none:=none,P:={ A:=pA,ca:=pca,rs:=rs,C:=pC,cc:=pcc,us:=us },A:=A,ca:=ca,ns:=ns }:=⟨_,rfl⟩
   have hVn:V.nodes=ns.map (·.n):=by rw [hV];rfl
   have hRR:R=if nodesE (ns.map (·.n))≠0 then ([],nodesE (ns.map (·.n))) else if (headS V ++ (ns.map (·.n)).flatMap nodeS ++ lineS [endW]).length > 65536 then ([],4) else (headS V ++ (ns.map (·.n)).flatMap nodeS ++ lineS [endW],0):=by
    rw [← HR.out,← hV]
    unfold printR
    rw [if_neg (by rw [hVn,List.length_map];exact hbig),if_neg (by
     rintro ⟨e1,e2⟩
     have hn:V.none=none:=by rw [hV];rfl
     have hp:V.plan=⟨rs.map (·.r),us⟩:=by rw [hV];rfl
     rw [hp] at e2
     change ¬ (rs.map (·.r)=[]∧us=[]) at e2
     refine hz ⟨by rw [← hn];exact e1,?_⟩
     rcases Nat.eq_zero_or_pos (rs.length+us.length) with h0 | h0
     ·exact absurd ⟨by rw [List.map_eq_nil_iff];exact List.length_eq_zero_iff.1 (by omega),List.length_eq_zero_iff.1 (by omega)⟩ e2
     ·exact h0)]
    unfold proofS
    rw [hVn]
   have HH:=Lib.hid (fun w' (hb:Below wB.heap.size wB w')=>phead_any { none:=none,P:={ A:=pA,ca:=pca,rs:=rs,C:=pC,cc:=pcc,us:=us },A:=A,ca:=ca,ns:=ns } w' (HN.out.below hb) (Nat.le_trans h1 (by decide)) (Nat.le_trans h2 (by decide)) H3.out HQ.out (HE.out.below hb).1)
   rw [← hV] at HH
   have hT0L:(headS V).length≤100000:=headS_len (by rw [hV];exact HQ.out)
   generalize headS V=t0 at *
   have HT0L:=Lib.hid hT0L
   have HF2:=Lib.hid (show nodesE (ns.map (·.n))≠0→R=([],nodesE (ns.map (·.n))) from fun h=>by rw [hRR,if_pos h])
   have HF4:=Lib.hid (show nodesE (ns.map (·.n))=0→(t0 ++ (ns.map (·.n)).flatMap nodeS ++ lineS [endW]).length > 65536→R=([],4) from fun h h2=>by rw [hRR,if_neg (fun h3=>h3 h),if_pos h2])
   have HF0:=Lib.hid (show nodesE (ns.map (·.n))=0→¬ (t0 ++ (ns.map (·.n)).flatMap nodeS ++ lineS [endW]).length > 65536→R=(t0 ++ (ns.map (·.n)).flatMap nodeS ++ lineS [endW],0) from fun h h2=>by rw [hRR,if_neg (fun h3=>h3 h),if_neg h2])
   have HZ:=Lib.hid hz
   clear hV hVn hRR hT0L HR hz
   have hgo:none=false∨none=true:=by cases none <;> simp
   have hg:(none=true→¬ (0:Int)<(rs.length:Int)+(us.length:Int)):=fun h=>by have:=HZ.out;simp only [h,true_and] at this;omega
   rcases hgo with rfl | rfl
   all_goals first | (have hz1:=hg rfl) | skip
   all_goals clear hg HZ
   all_goals go_upto_region 6 with fail
   all_goals
    have hd:=Bld.new wB
    obtain ⟨n2,_⟩:=new_at wB (.cells #[.pointer none,.slice none 0 0] 57)
    generalize wB.alloc (.cells #[.pointer none,.slice none 0 0] 57)=w2 at *
    clear a0 a1 a2 a3
    obtain ⟨a0,a1,a2,a3⟩:=cells4 (row_keep HO.out n2)
    have HH2:=Lib.hid (HH.out w2 n2)
    go_wp2_with fail
    refine HH2.out.mono ?_
    rintro e w3 ⟨rfl,hb3⟩
    have HN2:=Lib.hid n2
    have hb4:=below_lift n2 hb3
    have HW:=Lib.hid (write_any wB.heap.size [] t0 w3 (hd.below hb3) (by rw [List.length_nil];have:=HT0L.out;omega))
    clear n2 hd hb3 HH HH2
    go_wp2_with fail
    refine HW.out.mono ?_
    rintro e w4 ⟨rfl,hd4,hb5⟩
    have hb6:Below wB.heap.size wB w4:=hb4.trans hb5
    clear a0 a1 a2 a3
    obtain ⟨a0,a1,a2,a3⟩:=cells4 (row_keep HO.out hb6)
    rw [List.nil_append] at hd4
    clear HW hb4 hb5
    go_wp2_with fail
    go_loopw [6,33] (fun _ i wr=>∃ k:Nat,k≤ns.length∧i=.int .i64 k∧nodesE ((ns.take k).map (·.n))=0∧Bld wr wB.heap.size (t0 ++ (ns.take k).flatMap (fun m=>nodeS m.n))∧Below wB.heap.size wB wr) (fun _ i _=>ns.length - (intOf i).toNat)
    case atStart=>exact ⟨0,by omega,rfl,rfl,by simpa using hd4,hb6⟩
    case round =>
     clear hd4 hb6 a0 a1 a2 a3
     obtain ⟨k,hk,rfl,hz,hd,hbel⟩:=hrel
     have HZ:=Lib.hid hz
     clear hz
     by_cases hlt:k<ns.length
     ·have hkl:(k:Int)<(ns.length:Int):=by omega
      obtain ⟨b,o,hA,hb,hx⟩:=elems NodeM.cells_len (by decide) HN.out.nodes (show 0<ns.length by omega)
      change A=_ at hA
      subst hA
      have HTK:=Lib.hid (flat_take (fun m:NodeM=>nodeS m.n) hlt)
      have HNK:=Lib.hid (HN.out.each _ (List.getElem_mem hlt))
      have HLK:=Lib.hid (H4.out _ (List.getElem_mem hlt))
      have HEK:=Lib.hid (nodesE_at (l:=ns.map (·.n)) (k:=k) (by rw [List.length_map];exact hlt) (by rw [← List.map_take];exact HZ.out))
      have HTL:=Lib.hid (flat_le2 (fun m:NodeM=>nodeS m.n) (b:=20000000) (ns.take k) (fun m hm=>nodeS_len (HN.out.each m (List.mem_of_mem_take hm)) (H4.out m (List.mem_of_mem_take hm)).1 (H4.out m (List.mem_of_mem_take hm)).2.1 (H4.out m (List.mem_of_mem_take hm)).2.2) 1024 (by rw [List.length_take];omega))
      rw [← List.map_take,List.getElem_map] at HEK
      have hx1:=hx k hlt
      clear hx
      generalize ns[k]=m1 at *
      have x0:wr.cell? ⟨b,o+k*10,none⟩=some (.bool m1.n.leaf):=(hbel.cell (p:=⟨b,o+k*10,none⟩) hb).trans (hx1 0 _ rfl)
      have x1:wr.cell? ⟨b,o+k*10+1,none⟩=some (.int .i64 m1.n.kind):=(hbel.cell (p:=⟨b,o+k*10+1,none⟩) hb).trans (hx1 1 _ rfl)
      have x2:wr.cell? ⟨b,o+k*10+2,none⟩=some (.slice m1.A m1.n.cuts.length m1.ca):=(hbel.cell (p:=⟨b,o+k*10+2,none⟩) hb).trans (hx1 2 _ rfl)
      have x3:wr.cell? ⟨b,o+k*10+3,none⟩=some (.slice m1.C m1.n.dual.length m1.cc):=(hbel.cell (p:=⟨b,o+k*10+3,none⟩) hb).trans (hx1 3 _ rfl)
      have x4:wr.cell? ⟨b,o+k*10+4,none⟩=some (.int .i64 m1.n.ck):=(hbel.cell (p:=⟨b,o+k*10+4,none⟩) hb).trans (hx1 4 _ rfl)
      have x5:wr.cell? ⟨b,o+k*10+5,none⟩=some (.int .i64 m1.n.ca):=(hbel.cell (p:=⟨b,o+k*10+5,none⟩) hb).trans (hx1 5 _ rfl)
      have x6:wr.cell? ⟨b,o+k*10+6,none⟩=some (.int .i64 m1.n.cb):=(hbel.cell (p:=⟨b,o+k*10+6,none⟩) hb).trans (hx1 6 _ rfl)
      have x7:wr.cell? ⟨b,o+k*10+7,none⟩=some (.int .i64 m1.n.cn):=(hbel.cell (p:=⟨b,o+k*10+7,none⟩) hb).trans (hx1 7 _ rfl)
      have x8:wr.cell? ⟨b,o+k*10+8,none⟩=some (.int .i64 m1.n.yes):=(hbel.cell (p:=⟨b,o+k*10+8,none⟩) hb).trans (hx1 8 _ rfl)
      have x9:wr.cell? ⟨b,o+k*10+9,none⟩=some (.int .i64 m1.n.no):=(hbel.cell (p:=⟨b,o+k*10+9,none⟩) hb).trans (hx1 9 _ rfl)
      clear hx1
      go_upto_region 10 with fail
      obtain ⟨n5,p5⟩:=new_at wr (nodeB m1)
      generalize wr.alloc (nodeB m1)=wc at *
      have HB1:=Lib.hid (below_lift hbel n5)
      have HD1:=Lib.hid (hd.below n5)
      have HP1:=Lib.hid p5
      have HE1:=Lib.hid (HE.out.below HB1.out)
      clear x0 x1 x2 x3 x4 x5 x6 x7 x8 x9 n5 p5 hd hbel
      obtain ⟨a0,a1,a2,a3,a4,a5,a6,a7,a8,a9⟩:=cells10 HP1.out
      have HF:=Lib.hid (foreign_any m1 wc (HNK.out.below HB1.out))
      go_wp2_with fail
      refine HF.out.mono ?_
      rintro e w6 ⟨rfl,hb6⟩
      have HB6:=Lib.hid (below_lift HB1.out hb6)
      have HD6:=Lib.hid (HD1.out.below hb6)
      have HP6:=Lib.hid (row_keep HP1.out hb6)
      clear a0 a1 a2 a3 a4 a5 a6 a7 a8 a9 hb6 HF HP1 HD1 HB1 HE1
      obtain ⟨a0,a1,a2,a3,a4,a5,a6,a7,a8,a9⟩:=cells10 HP6.out
      have HEQ:=Lib.hid (HEK.out.1)
      cases hf:foreign m1.n with
      |true =>
       have HRR:=Lib.hid (show R=([],2) by rw [HF2.out (by rw [HEQ.out hf];decide),HEQ.out hf])
       clear hf
       go_wp2_with fail
       go_ret2
       rw [HRR.out]
       exact ⟨rfl,below_lift HB.out HB6.out⟩
      |false =>
       have HC:=Lib.hid (contains_any m1.n.dual m1.C m1.cc w6 (HNK.out.dual.below HB6.out) HNK.out.dl (fun d hd=>Nat.le_trans (HLK.out.2.2 d hd) (by decide)) (HE.out.below HB6.out))
       have HEF:=Lib.hid hf
       clear hf
       go_wp2_with fail
       refine HC.out.mono ?_
       rintro e w7 ⟨rfl,hb7⟩
       have HB7:=Lib.hid (below_lift HB6.out hb7)
       have HD7:=Lib.hid (HD6.out.below hb7)
       have HP7:=Lib.hid (row_keep HP6.out hb7)
       clear a0 a1 a2 a3 a4 a5 a6 a7 a8 a9 hb7 HC HP6 HD6 HB6
       obtain ⟨a0,a1,a2,a3,a4,a5,a6,a7,a8,a9⟩:=cells10 HP7.out
       cases hq:m1.n.dual.all rightQ with
       |false =>
        have HRR:=Lib.hid (show R=([],3) by rw [HF2.out (by rw [HEK.out.2.1 HEF.out hq];decide),HEK.out.2.1 HEF.out hq])
        clear hq
        go_wp2_with fail
        go_ret2
        rw [HRR.out]
        exact ⟨rfl,below_lift HB.out HB7.out⟩
       |true =>
        have HZ1:=Lib.hid (HEK.out.2.2 HEF.out hq)
        clear hq
        have HPN:=Lib.hid (pnode_any m1 w7 (HNK.out.below HB7.out) (Nat.le_trans HLK.out.1 (by decide)) (Nat.le_trans HLK.out.2.1 (by decide)) (fun d hd=>Nat.le_trans (HLK.out.2.2 d hd) (by decide)) (HE.out.below HB7.out).1)
        have HNL:=Lib.hid (nodeS_len HNK.out HLK.out.1 HLK.out.2.1 HLK.out.2.2)
        generalize nodeS m1.n=t1 at *
        go_wp2_with fail
        refine HPN.out.mono ?_
        rintro e w8 ⟨rfl,hb8⟩
        have HB8:=Lib.hid (below_lift HB7.out hb8)
        have HW:=Lib.hid (write_any wB.heap.size (t0 ++ (ns.take k).flatMap (fun m=>nodeS m.n)) t1 w8 (HD7.out.below hb8) (by
         rw [List.length_append]
         have e1:=HT0L.out
         have e2:=HTL.out
         have e3:=HNL.out
         omega))
        clear a0 a1 a2 a3 a4 a5 a6 a7 a8 a9 hb8 HPN HP7 HD7 HB7
        go_wp2_with fail
        refine HW.out.mono ?_
        rintro e w9 ⟨rfl,hd9,hb9⟩
        have hb10:Below wB.heap.size wB w9:=HB8.out.trans hb9
        rw [List.append_assoc,HTK.out] at hd9
        clear HW HTK hb9
        go_wp2_with fail
        all_goals first
         |(go_roundw
           case rel=>exact ⟨k+1,by omega,by go_num,HZ1.out,hd9,hb10⟩
           case measure=>simp [intOf];omega)
         |exact ⟨⟨k+1,by omega,by go_num,HZ1.out,hd9,hb10⟩,by simp [intOf];omega⟩
     ·have hkl:¬ (k:Int)<(ns.length:Int):=by omega
      have hkn:k=ns.length:=by omega
      subst hkn
      rw [List.take_of_length_le (Nat.le_refl _)] at hd HZ
      have HTL:=Lib.hid (flat_le2 (fun m:NodeM=>nodeS m.n) (b:=20000000) ns (fun m hm=>nodeS_len (HN.out.each m hm) (H4.out m hm).1 (H4.out m hm).2.1 (H4.out m hm).2.2) 1024 (by omega))
      have hfm:(ns.map (·.n)).flatMap nodeS=ns.flatMap (fun m=>nodeS m.n):=List.flatMap_map _ _ _
      rw [hfm] at HF4 HF0
      generalize hss:t0 ++ ns.flatMap (fun m=>nodeS m.n)=ss at *
      have HSL:=Lib.hid (show ss.length≤30000000000 by
       rw [← hss,List.length_append]
       have e1:=HT0L.out
       have e2:=HTL.out
       omega)
      have hl:lineS [endW]=[101,110,100,10]:=rfl
      rw [hl] at HF4 HF0
      clear hfm hss HTL hl
      have HL:=Lib.hid (line_new (w:=wr.alloc (.cells #[.iface 9 (.string (B endW))] 20)) (g:=wr.heap.size) (ps:=[.str endW]) (new_at wr _).2 (by simp) (by
       intro p hp
       simp only [List.mem_cons,List.not_mem_nil,or_false] at hp
       rcases hp with rfl;trivial) (by decide) ((HE.out.below hbel).1.below (new_at wr _).1))
      have HBl:=Lib.hid hbel
      have HBn:=Lib.hid (below_lift hbel (new_at wr (.cells #[.iface 9 (.string (B endW))] 20)).1)
      have HDn:=Lib.hid (hd.below (new_at wr (.cells #[.iface 9 (.string (B endW))] 20)).1)
      clear hd hbel
      go_wp2_with fail
      refine HL.out.mono ?_
      rintro e w5 ⟨rfl,hb5⟩
      have hr:lineS (List.map ptS [.str endW])=[101,110,100,10]:=rfl
      rw [hr]
      clear hr HL
      have HW:=Lib.hid (write_any wB.heap.size ss [101,110,100,10] w5 (HDn.out.below hb5) (by
       have e1:=HSL.out
       simp only [List.length_cons,List.length_nil]
       omega))
      have HB6:=Lib.hid (below_lift HBn.out hb5)
      clear hb5
      go_wp2_with fail
      refine HW.out.mono ?_
      rintro e w6 ⟨rfl,hd6,hb7⟩
      have HB7:=Lib.hid (show Below wB.heap.size wB w6 from HB6.out.trans hb7)
      have HBL:=Lib.hid (blen_any wB.heap.size _ w6 hd6)
      have HST:=Lib.hid (bstring_any wB.heap.size _ w6 hd6 (HB6.out.trans hb7).size)
      clear hd6 hb7 HW HB6 HBn HDn
      generalize ss ++ [101,110,100,10]=fs at *
      go_wp2_with fail
      refine HBL.out.mono ?_
      rintro e w' ⟨rfl,h⟩;obtain rfl:=h.symm
      by_cases hlen:65536<fs.length
      ·have hl1:(65536:Int)<(fs.length:Int):=by omega
       have HRR:=Lib.hid (HF4.out HZ.out hlen)
       go_wp2_with fail
       go_ret2
       rw [HRR.out]
       exact ⟨rfl,below_lift HB.out HB7.out⟩
      ·have hl1:¬ (65536:Int)<(fs.length:Int):=by omega
       have HRR:=Lib.hid (HF0.out HZ.out hlen)
       go_wp2_with fail
       refine HST.out.mono ?_
       rintro e w8 ⟨rfl,_,hb8⟩
       have hb9:=HB7.out.trans hb8
       go_wp2_with fail
       go_ret2
       rw [HRR.out]
       exact ⟨rfl,below_lift HB.out hb9⟩
end Go.Proofs.YtljekdpgjaahjaaGreatDoor

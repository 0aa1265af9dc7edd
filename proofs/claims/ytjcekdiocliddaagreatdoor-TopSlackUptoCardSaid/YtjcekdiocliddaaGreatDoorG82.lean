/- slack.After. (Printed by wip/tk/mkTmB.py.) -/
import Derived.Test.YtjcekdiocliddaaGreatDoorTmA
import Derived.Test.YtjcekdiocliddaaGreatDoorG80
namespace Go.Proofs.YtjcekdiocliddaaGreatDoor
open Go.RowKit Num Txt Pf Tk
set_option linter.unusedVariables false
attribute [local go_sem] B_size B_get B_toList B_mk B_extract B_append
theorem arr_nn {p:TripV} {s:SheetV} (h:SmallS p s) {i:Nat}:0≤arrAt s i:=by
 unfold arrAt
 cases hts:s.times[i]? with
 |none=>exact h.fin.1
 |some tv=>exact (h.each tv (List.mem_of_getElem? hts)).1.1
set_option maxHeartbeats 32000000 in
set_option maxRecDepth 100000 in
theorem after_any (m:InsM) (r:RouM) (A:Option Addr) (c:Nat) (s:SheetV) (p:TripV) (n:Nat) (ticks:Int) (w:World) (hm:InsAt w m) (hok:InsOK m.v) (hr:RouAt w r) (hvl:r.r.vis.length≤8) (hT:Tab w) (ht:TmAt w A c s.times) (hp:PlanIs m.v r.r p) (hs:BestS p s) (hn:n≤r.r.vis.length) (htk:0≤ticks∧ticks≤100000) :
  Calls Tryz.prog 10 #[insA m,rouA r,sheetA A c s,.int .i64 n,.int .i64 ticks] w (LateE p s n ticks w):=by
 obtain ⟨k1,k2,k3,k4,k5⟩:=alloc4 w (.cells (insQ m) 30) (.cells (rouR r) 34) (.cells (sheetQ A c s) 39) (.cells (sheetQ none 0 shZ) 39)
 have HB:=Lib.hid k5
 have HK1:=Lib.hid k1
 have HK2:=Lib.hid k2
 have HK3:=Lib.hid k3
 have HK4:=Lib.hid k4
 obtain ⟨hleg,hstl⟩:=hs.legs
 have hsm:=small_of (hp.ok hok) hleg hstl
 have hpl:=hp.len
 have HBIG:=Lib.hid (show ¬ ticks≤4096→lateP p s n ticks=false from fun h=>by
  cases hl:lateP p s n ticks with
  |false=>rfl
  |true=>exact absurd (lateP_bound (hp.ok hok) (by omega) (arr_nn hsm) hl) h)
 have HV:=Lib.hid (fun (w':World) (hb:Below w.heap.size w w')=>dvalid_any m r A c s p w' (hm.below hb) hok (hr.below hb) hvl (hT.below hb) (ht.below hb) hp hs)
 have HLA:=Lib.hid (fun (w':World) (hb:Below w.heap.size w w')=>late_any m r A c s p n ticks w' (hm.below hb) hok (hr.below hb) hvl (hT.below hb) (ht.below hb) hp hs hn htk)
 have hrc:=hr.vl
 unfold maxLen at hrc
 clear hm hok hr hT ht hp hs k1 k2 k3 k4 k5 hleg hstl hsm
 go_enter Tryz.func10,Tryz.ntmps10
 (try simp only [B_mk])
 go_upto_region 1 with fail
 rw [show (((w.alloc (.cells #[.slice m.pA m.places.length m.pc,.slice m.aA m.arcs.length m.ac,.slice m.tA m.types.length m.tc,.slice m.oA m.ords.length m.oc,.slice m.xA m.apart.length m.xc,.slice m.bA m.before.length m.bc] 30)).alloc (.cells #[.int .i64 r.r.kind,.int .i64 r.r.start,.slice r.A r.r.rests.length r.ca,.slice r.C r.r.vis.length r.cc] 34)).alloc (.cells #[.bool s.rest,.int .i64 s.dep,.slice A s.times.length c,.int .i64 s.fin,.int .i64 s.miles] 39)).alloc (.cells #[.bool false,.int .i64 0,.slice none 0 0,.int .i64 0,.int .i64 0] 39)=(((w.alloc (.cells (insQ m) 30)).alloc (.cells (rouR r) 34)).alloc (.cells (sheetQ A c s) 39)).alloc (.cells (sheetQ none 0 shZ) 39) from rfl]
 generalize (((w.alloc (.cells (insQ m) 30)).alloc (.cells (rouR r) 34)).alloc (.cells (sheetQ A c s) 39)).alloc (.cells (sheetQ none 0 shZ) 39)=w4 at *
 obtain ⟨h1,hh1⟩:∃ h1,h1=w.heap.size:=⟨_,rfl⟩
 obtain ⟨h2,hh2⟩:∃ h2,h2=w.heap.size+1:=⟨_,rfl⟩
 obtain ⟨h3,hh3⟩:∃ h3,h3=w.heap.size+1+1:=⟨_,rfl⟩
 obtain ⟨h4,hh4⟩:∃ h4,h4=w.heap.size+1+1+1:=⟨_,rfl⟩
 rw [← hh4] at HK4
 rw [← hh3] at HK3
 rw [← hh2] at HK2
 rw [← hh1] at HK1
 have HG4:=Lib.hid (show w.heap.size≤h4 by omega)
 rw [← hh4,← hh3,← hh2,← hh1]
 clear hh1 hh2 hh3 hh4
 go_wp2_with (first | (refine wpList_load_row rfl 30 _ rfl h1 rfl 30 _ _ _ HK1.out Tryz.underlying30 rfl (by kernel_rfl) ?_) | (refine wpList_load_row rfl 34 _ rfl h2 rfl 34 _ _ _ HK2.out Tryz.underlying34 rfl (by kernel_rfl) ?_) | (refine wpList_load_row rfl 39 _ rfl h3 rfl 39 _ _ _ HK3.out Tryz.underlying39 rfl (by kernel_rfl) ?_))
 refine (HV.out w4 HB.out).mono ?_
 rintro e w5 ⟨rfl,hb5⟩
 have HR1:=Lib.hid (row_keep HK1.out hb5)
 have HR2:=Lib.hid (row_keep HK2.out hb5)
 have HR3:=Lib.hid (row_keep HK3.out hb5)
 have HR4:=Lib.hid (row_keep HK4.out hb5)
 have HB5:=Lib.hid (below_lift HB.out hb5)
 clear HK1 HK2 HK3 HK4 hb5 HB HV
 have r3:=cellsX HR2.out 3 (.slice r.C r.r.vis.length r.cc) rfl
 have t1:¬ (n:Int)<0:=by omega
 have t2:¬ (r.r.vis.length:Int)<(n:Int):=by omega
 have t3:¬ ticks<0:=by omega
 by_cases t4:4096<ticks
 ·have HNO:=Lib.hid (HBIG.out (by omega))
  have HS:=Lib.hid (row_set (sheetQ none 0 shZ) HR4.out HB5.out HG4.out)
  clear HBIG
  go_wp2_with (refine wpList_store_row rfl 39 _ _ rfl h4 (sheetQ none 0 shZ) rfl rfl 39 _ HR4.out (by kernel_rfl) rfl (by kernel_rfl) ?_)
  refine bodyPost_ret (res_row rfl (ld_sheet HS.out.1) rfl rfl) rfl ?_
  exact LateE.no (by decide) HNO.out HS.out.2
 ·clear HBIG
  go_upto_region 6 with fail
  go_wp2_with (first | (refine wpList_load_row rfl 30 _ rfl h1 rfl 30 _ _ _ HR1.out Tryz.underlying30 rfl (by kernel_rfl) ?_) | (refine wpList_load_row rfl 34 _ rfl h2 rfl 34 _ _ _ HR2.out Tryz.underlying34 rfl (by kernel_rfl) ?_) | (refine wpList_load_row rfl 39 _ rfl h3 rfl 39 _ _ _ HR3.out Tryz.underlying39 rfl (by kernel_rfl) ?_))
  refine (HLA.out w5 HB5.out).mono ?_
  rintro e w6 ⟨A2,c2,sh,k,rfl,hiff,hb6⟩
  have HIFF:=Lib.hid hiff
  have HR46:=Lib.hid (row_keep HR4.out hb6)
  have HS:=Lib.hid (row_set (sheetQ A2 c2 sh) HR46.out (below_lift HB5.out hb6) HG4.out)
  clear hiff hb6 HLA r3
  go_wp2_with (refine wpList_store_row rfl 39 _ _ rfl h4 (sheetQ A2 c2 sh) rfl rfl 39 _ HR46.out (by kernel_rfl) rfl (by kernel_rfl) ?_)
  refine bodyPost_ret (res_row rfl (ld_sheet HS.out.1) rfl rfl) rfl ?_
  exact ⟨A2,c2,sh,k,rfl,HIFF.out,HS.out.2⟩
theorem el_slk:ElemR Tryz.prog 46 3 (.int .i64 0) 1 8:=⟨Tryz.underlying46,info_parts int_info,rfl,by decide⟩
def delays (l:List Int):List Value:=l.map (fun n=>Value.int .i64 n)
def IsDelay (p:TripV) (s:SheetV) (i:Nat) (x:Int):Prop:=(0≤x∧x≤4096)∧lateP p s i x=true∧lateP p s i (x+1)=false
def AreDelays (p:TripV) (s:SheetV) (l:List Int):Prop:=∀ i x,l[i]? = some x→IsDelay p s i x
theorem AreDelays.snoc {p:TripV} {s:SheetV} {l:List Int} {x:Int} (h:AreDelays p s l) (hx:IsDelay p s l.length x):AreDelays p s (l ++ [x]):=by
 intro i y hy
 rcases Nat.lt_or_ge i l.length with hi | hi
 ·rw [List.getElem?_append_left hi] at hy
  exact h i y hy
 ·rw [List.getElem?_append_right hi] at hy
  obtain ⟨h0,h1⟩:=List.getElem?_eq_some_iff.1 hy
  have hil:i=l.length:=by simp only [List.length_singleton] at h0;omega
  subst hil
  have:x=y:=by simpa using h1
  rw [← this]
  exact hx
def SlackE (p:TripV) (s:SheetV) (w:World) (e:Ending) (w':World):Prop:=∃ (A2:Option Addr) (c2:Nat) (l:List Int),e=.returned (.tuple #[.slice A2 l.length c2,.int .i64 0])∧OwnR w' w.heap.size 3 1 A2 l.length c2 (delays l)∧l.length=p.stops.length+1∧AreDelays p s l∧Below w.heap.size w w'
set_option maxHeartbeats 32000000 in
set_option maxRecDepth 100000 in
theorem slack_any (m:InsM) (r:RouM) (A:Option Addr) (c:Nat) (s:SheetV) (p:TripV) (w:World) (hm:InsAt w m) (hok:InsOK m.v) (hr:RouAt w r) (hvl:r.r.vis.length≤8) (hT:Tab w) (ht:TmAt w A c s.times) (hp:PlanIs m.v r.r p) (hs:BestS p s) :
  Calls Tryz.prog 9 #[insA m,rouA r,sheetA A c s] w (SlackE p s w):=by
 obtain ⟨k1,k2,k3,k5⟩:=alloc3 w (.cells (insQ m) 30) (.cells (rouR r) 34) (.cells (sheetQ A c s) 39)
 have HB:=Lib.hid k5
 have HK1:=Lib.hid k1
 have HK2:=Lib.hid k2
 have HK3:=Lib.hid k3
 obtain ⟨hleg,hstl⟩:=hs.legs
 have hsm:=small_of (hp.ok hok) hleg hstl
 have hpl:=hp.len
 have HBIG:=Lib.hid (fun (n:Nat) (ticks:Int) (hn:n≤r.r.vis.length) (hl:lateP p s n ticks=true)=>lateP_bound (hp.ok hok) (i:=n) (n:=ticks) (by omega) (arr_nn hsm) hl)
 have HZERO:=Lib.hid (fun (n:Nat) (hn:n≤r.r.vis.length)=>lateP_zero hleg hstl (i:=n) (by omega))
 have HV:=Lib.hid (fun (w':World) (hb:Below w.heap.size w w')=>dvalid_any m r A c s p w' (hm.below hb) hok (hr.below hb) hvl (hT.below hb) (ht.below hb) hp hs)
 have HLA:=Lib.hid (fun (n:Nat) (ticks:Int) (w':World) (hn:n≤r.r.vis.length) (htk:0≤ticks∧ticks≤100000) (hb:Below w.heap.size w w')=>late_any m r A c s p n ticks w' (hm.below hb) hok (hr.below hb) hvl (hT.below hb) (ht.below hb) hp hs hn htk)
 have HPL:=Lib.hid hpl
 clear hm hok hr hT ht hp hs k1 k2 k3 k5 hleg hstl hsm
 go_enter Tryz.func9,Tryz.ntmps9
 (try simp only [B_mk])
 go_upto_region 1 with fail
 rw [show ((w.alloc (.cells #[.slice m.pA m.places.length m.pc,.slice m.aA m.arcs.length m.ac,.slice m.tA m.types.length m.tc,.slice m.oA m.ords.length m.oc,.slice m.xA m.apart.length m.xc,.slice m.bA m.before.length m.bc] 30)).alloc (.cells #[.int .i64 r.r.kind,.int .i64 r.r.start,.slice r.A r.r.rests.length r.ca,.slice r.C r.r.vis.length r.cc] 34)).alloc (.cells #[.bool s.rest,.int .i64 s.dep,.slice A s.times.length c,.int .i64 s.fin,.int .i64 s.miles] 39)=((w.alloc (.cells (insQ m) 30)).alloc (.cells (rouR r) 34)).alloc (.cells (sheetQ A c s) 39) from rfl]
 generalize ((w.alloc (.cells (insQ m) 30)).alloc (.cells (rouR r) 34)).alloc (.cells (sheetQ A c s) 39)=w4 at *
 obtain ⟨h1,hh1⟩:∃ h1,h1=w.heap.size:=⟨_,rfl⟩
 obtain ⟨h2,hh2⟩:∃ h2,h2=w.heap.size+1:=⟨_,rfl⟩
 obtain ⟨h3,hh3⟩:∃ h3,h3=w.heap.size+1+1:=⟨_,rfl⟩
 rw [← hh3] at HK3
 rw [← hh2] at HK2
 rw [← hh1] at HK1
 rw [← hh3,← hh2,← hh1]
 clear hh1 hh2 hh3
 go_wp2_with (first | (refine wpList_load_row rfl 30 _ rfl h1 rfl 30 _ _ _ HK1.out Tryz.underlying30 rfl (by kernel_rfl) ?_) | (refine wpList_load_row rfl 34 _ rfl h2 rfl 34 _ _ _ HK2.out Tryz.underlying34 rfl (by kernel_rfl) ?_) | (refine wpList_load_row rfl 39 _ rfl h3 rfl 39 _ _ _ HK3.out Tryz.underlying39 rfl (by kernel_rfl) ?_))
 refine (HV.out w4 HB.out).mono ?_
 rintro e w5 ⟨rfl,hb5⟩
 have HR1:=Lib.hid (row_keep HK1.out hb5)
 have HR2:=Lib.hid (row_keep HK2.out hb5)
 have HR3:=Lib.hid (row_keep HK3.out hb5)
 have HB5:=Lib.hid (below_lift HB.out hb5)
 clear HK1 HK2 HK3 hb5 HB HV
 have r3:=cellsX HR2.out 3 (.slice r.C r.r.vis.length r.cc) rfl
 clear HPL
 have HNIL:=Lib.hid (show OwnR w5 w.heap.size 3 1 none 0 0 (delays []) from OwnR.nil _ _ _ _)
 go_wp2_with fail
 clear r3
 go_loopw [9,25] (fun l i wr=>∃ (k:Nat) (A2:Option Addr) (c2:Nat) (ls:List Int),k≤r.r.vis.length+1∧i=.int .i64 k∧l=.slice A2 k c2∧ls.length=k∧AreDelays p s ls∧OwnR wr w.heap.size 3 1 A2 k c2 (delays ls)∧wr.heap[h1]? = some (.cells (insQ m) 30)∧wr.heap[h2]? = some (.cells (rouR r) 34)∧wr.heap[h3]? = some (.cells (sheetQ A c s) 39)∧Below w.heap.size w wr) (fun _ i _=>r.r.vis.length+1 - (intOf i).toNat)
 case atStart=>exact ⟨0,none,0,[],by omega,rfl,rfl,rfl,fun i x h=>by simp at h,HNIL.out,HR1.out,HR2.out,HR3.out,HB5.out⟩
 case round =>
  clear HR1 HR2 HR3 HB5 HNIL
  obtain ⟨k,A2,c2,ls,hk,rfl,rfl,hll,hds,hown,hr1,hr2,hr3,hbw⟩:=hrel
  have HDS:=Lib.hid hds
  have HLL:=Lib.hid hll
  have HOW:=Lib.hid hown
  have HR1:=Lib.hid hr1
  have HR2:=Lib.hid hr2
  have HR3:=Lib.hid hr3
  have HBW:=Lib.hid hbw
  clear hds hll hown hr1 hr2 hr3 hbw
  by_cases hlt:(k:Int)<(r.r.vis.length:Int)+1
  ·have hkl:k≤r.r.vis.length:=by omega
   generalize wr=wo at *
   have HZ:=Lib.hid (HZERO.out k hkl)
   go_wp2_with fail
   go_loopw [11] (fun t wr=>∃ n:Nat,n≤4096∧t=.int .i64 n∧lateP p s k n=true∧OwnR wr w.heap.size 3 1 A2 k c2 (delays ls)∧wr.heap[h1]? = some (.cells (insQ m) 30)∧wr.heap[h2]? = some (.cells (rouR r) 34)∧wr.heap[h3]? = some (.cells (sheetQ A c s) 39)∧Below w.heap.size w wr) (fun t _=>4097 - (intOf t).toNat)
   case atStart=>exact ⟨0,by omega,rfl,HZ.out,HOW.out,HR1.out,HR2.out,HR3.out,HBW.out⟩
   case round =>
    clear HZ HOW HR1 HR2 HR3 HBW
    obtain ⟨n,hn,rfl,hlp,hown,hr1,hr2,hr3,hbw⟩:=hrel
    have HLP:=Lib.hid hlp
    have HOW:=Lib.hid hown
    have HR1:=Lib.hid hr1
    have HR2:=Lib.hid hr2
    have HR3:=Lib.hid hr3
    have HBW:=Lib.hid hbw
    clear hlp hown hr1 hr2 hr3 hbw
    have HL1:=Lib.hid (HLA.out k ((n:Int)+1) wr hkl (by omega) HBW.out)
    go_wp2_with (first | (refine wpList_load_row rfl 30 _ rfl h1 rfl 30 _ _ _ HR1.out Tryz.underlying30 rfl (by kernel_rfl) ?_) | (refine wpList_load_row rfl 34 _ rfl h2 rfl 34 _ _ _ HR2.out Tryz.underlying34 rfl (by kernel_rfl) ?_) | (refine wpList_load_row rfl 39 _ rfl h3 rfl 39 _ _ _ HR3.out Tryz.underlying39 rfl (by kernel_rfl) ?_))
    refine HL1.out.mono ?_
    rintro e w6 ⟨A3,c3,sh,z,rfl,hiff,hb6⟩
    have HIFF:=Lib.hid hiff
    have HR16:=Lib.hid (row_keep HR1.out hb6)
    have HR26:=Lib.hid (row_keep HR2.out hb6)
    have HR36:=Lib.hid (row_keep HR3.out hb6)
    have HB6:=Lib.hid (below_lift HBW.out hb6)
    have HO6:=Lib.hid (OwnR.below HOW.out hb6)
    clear hiff hb6 HL1 HR1 HR2 HR3 HBW HOW
    go_upto_region 10 with fail
    have HNW:=Lib.hid (new_at w6 (.cells (sheetQ A3 c3 sh) 39)).1
    rw [show w6.alloc (.cells #[.bool sh.rest,.int .i64 sh.dep,.slice A3 sh.times.length c3,.int .i64 sh.fin,.int .i64 sh.miles] 39)=w6.alloc (.cells (sheetQ A3 c3 sh) 39) from rfl]
    generalize w6.alloc (.cells (sheetQ A3 c3 sh) 39)=w7 at *
    have HR17:=Lib.hid (row_keep HR16.out HNW.out)
    have HR27:=Lib.hid (row_keep HR26.out HNW.out)
    have HR37:=Lib.hid (row_keep HR36.out HNW.out)
    have HB7:=Lib.hid (below_lift HB6.out HNW.out)
    have HO7:=Lib.hid (OwnR.below HO6.out HNW.out)
    clear HNW HR16 HR26 HR36 HB6 HO6
    generalize hg6:w6.heap.size=g6
    clear hg6
    by_cases hz:z=0
    ·subst hz
     have hlt1:=HIFF.out.1 rfl
     have hn1:=HBIG.out k ((n:Int)+1) hkl hlt1
     have HL1:=Lib.hid (show lateP p s k ((n+1:Nat):Int)=true from hlt1)
     clear hlt1 HIFF
     go_wp2_with fail
     go_roundw
     case rel=>exact ⟨n+1,by omega,by go_num,HL1.out,HO7.out,HR17.out,HR27.out,HR37.out,HB7.out⟩
     case measure=>simp [intOf];omega
    ·have hno:lateP p s k ((n:Int)+1)=false:=by
      cases h:lateP p s k ((n:Int)+1) with
      |false=>rfl
      |true=>exact absurd (HIFF.out.2 h) hz
     have HNO:=Lib.hid hno
     have hzb:=int_bf hz
     clear hno hz HIFF
     go_wp2_with (at_builtin;refine wp_appN el_slk rfl _ _ rfl w.heap.size A2 k c2 (delays ls) w7 #[.int .i64 n] rfl HO7.out rfl rfl (by intro u hu;simp at hu;subst hu;rfl) (by unfold maxLen;omega) (by omega) HB7.out.size ?_;intro A8 c8 w8 hown8 hb8 hkp8 hwh8)
     go_roundw
     case rel =>
      refine ⟨k+1,A8,c8,ls ++ [(n:Int)],by omega,by go_num,rfl,by rw [List.length_append,HLL.out];rfl,?_,?_,hkp8.row HR17.out (HO7.out.far HR17.out (by decide)),hkp8.row HR27.out (HO7.out.far HR27.out (by decide)),hkp8.row HR37.out (HO7.out.far HR37.out (by decide)),HB7.out.trans hb8⟩
      ·exact AreDelays.snoc HDS.out (by rw [HLL.out];exact ⟨⟨by omega,by omega⟩,HLP.out,HNO.out⟩)
      ·rw [show delays (ls ++ [(n:Int)])=delays ls ++ [Value.int .i64 n] by simp [delays]]
       exact hown8
     case measure=>simp [intOf];omega
  ·go_wp2_with fail
   go_ret2
   obtain rfl:=HLL.out
   exact ⟨A2,c2,ls,rfl,HOW.out,by rw [hpl];omega,HDS.out,HBW.out⟩
end Go.Proofs.YtjcekdiocliddaaGreatDoor

/- drive.rests, slices.Equal of one list of times, drive.same of one schedule. (Printed by wip/tk/mkTlS.py.) -/
import Derived.Test.YtjcekdiocliddaaGreatDoorTlQ
namespace Go.Proofs.YtjcekdiocliddaaGreatDoor
open Go.RowKit Num Txt Pf Tk
set_option linter.unusedVariables false
attribute [local go_sem] B_size B_get B_toList B_mk B_extract B_append
theorem el_boolR:ElemR Tryz.prog 31 4 (.bool false) 1 1:=⟨Tryz.underlying31,info_parts bool_infoT,rfl,by decide⟩
def RstE (s:SheetV) (w:World) (e:Ending) (w':World):Prop:=∃ (A':Option Addr) (c':Nat),e=.returned (.slice A' (rsts s).length c')∧OwnR w' w.heap.size 4 1 A' (rsts s).length c' (boolsP (rsts s))∧Below w.heap.size w w'
set_option maxHeartbeats 8000000 in
set_option maxRecDepth 100000 in
theorem drests_any (s:SheetV) (A:Option Addr) (c:Nat) (w:World) (ht:TmAt w A c s.times) (hl:s.times.length≤20):Calls Tryz.prog 25 #[sheetA A c s] w (RstE s w):=by
 obtain ⟨k1,k2,k3⟩:=alloc2 w (.cells (sheetQ A c s) 39) (.cells #[.bool s.rest] 4)
 have HB:=Lib.hid k3
 have HK1:=Lib.hid k1
 have HC:=Lib.hid ht.1
 have hn:=ht.2.1
 have HO0:=Lib.hid (show OwnR ((w.alloc (.cells (sheetQ A c s) 39)).alloc (.cells #[.bool s.rest] 4)) w.heap.size 4 1 (some ⟨w.heap.size+1,0,none⟩) 1 1 (boolsP [s.rest]) from ⟨rfl,.inr ⟨w.heap.size+1,1,#[.bool s.rest],rfl,by omega,k2,Nat.le_refl _,by decide,rfl,rfl⟩⟩)
 unfold maxLen at hn
 clear ht k1 k2 k3
 go_enter Tryz.func25,Tryz.ntmps25
 go_upto_region 2 with fail
 rw [show (w.alloc (.cells #[.bool s.rest,.int .i64 s.dep,.slice A s.times.length c,.int .i64 s.fin,.int .i64 s.miles] 39)).alloc (.cells #[.bool s.rest] 4)=(w.alloc (.cells (sheetQ A c s) 39)).alloc (.cells #[.bool s.rest] 4) from rfl]
 generalize (w.alloc (.cells (sheetQ A c s) 39)).alloc (.cells #[.bool s.rest] 4)=w2 at *
 have y2:=cellsX HK1.out 2 (.slice A s.times.length c) rfl
 obtain ⟨g2,hg2⟩:∃ g2,g2=w.heap.size+1:=⟨_,rfl⟩
 rw [← hg2] at HO0
 rw [← hg2]
 clear hg2
 go_wp2_with fail
 clear y2 HK1
 generalize hts:s.times=ts at *
 go_loopw [3,12] (fun o j wr=>∃ (k:Nat) (A':Option Addr) (c':Nat),k≤ts.length∧j=.int .i64 k∧o=.slice A' (k+1) c'∧OwnR wr w.heap.size 4 1 A' (k+1) c' (boolsP (s.rest :: (ts.take k).map (·.rest)))∧Below w.heap.size w wr) (fun _ j _=>ts.length - (intOf j).toNat)
 case atStart=>exact ⟨0,_,_,Nat.zero_le _,rfl,rfl,HO0.out,HB.out⟩
 case round =>
  clear HO0 HB
  obtain ⟨k,A',c',hk,rfl,rfl,hown,hbel⟩:=hrel
  have HO:=Lib.hid hown
  have HB:=Lib.hid hbel
  clear hown hbel
  by_cases hlt:k<ts.length
  ·have hlt1:(k:Int)<(ts.length:Int):=by omega
   obtain ⟨g1,o1,hA1,hg1,hx1⟩:=elemsP timeC_len (by decide) HC.out (by omega)
   subst hA1
   have x0:=(HB.out.cell (p:=⟨g1,o1+k*4+0,none⟩) hg1).trans (hx1 k hlt 0 _ rfl)
   have x1:=(HB.out.cell (p:=⟨g1,o1+k*4+1,none⟩) hg1).trans (hx1 k hlt 1 _ rfl)
   have x2:=(HB.out.cell (p:=⟨g1,o1+k*4+2,none⟩) hg1).trans (hx1 k hlt 2 _ rfl)
   have x3:=(HB.out.cell (p:=⟨g1,o1+k*4+3,none⟩) hg1).trans (hx1 k hlt 3 _ rfl)
   have HTK:=Lib.hid (show (ts.take (k+1)).map (·.rest)=(ts.take k).map (·.rest) ++ [ts[k].rest] by rw [List.take_succ_eq_append_getElem hlt,List.map_append];rfl)
   rw [Nat.add_zero] at x0
   generalize ts[k]=t at *
   obtain ⟨n4,p4⟩:=new_at wr (.cells #[.int .i64 t.arr,.int .i64 t.beg,.int .i64 t.dep,.bool t.rest] 158)
   have HB4:=Lib.hid (HB.out.trans (n4.mono HB.out.size))
   have HO4:=Lib.hid (HO.out.below n4)
   clear hx1 n4
   go_upto_region 5 with fail
   clear x0 x1 x2 x3
   generalize wr.alloc (.cells #[.int .i64 t.arr,.int .i64 t.beg,.int .i64 t.dep,.bool t.rest] 158)=w4 at *
   obtain ⟨y0,y1,y2,y3⟩:=cells4 p4
   clear p4
   go_wp2_with (at_builtin;refine wp_appk el_boolR rfl _ _ rfl w.heap.size A' (k+1) c' (boolsP (s.rest :: (ts.take k).map (·.rest))) w4 #[.bool t.rest] rfl HO4.out rfl rfl (by intro u hu;simp at hu;rw [hu];rfl) (by unfold maxLen;omega) (by omega) HB4.out.size ?_;intro A8 c8 w8 hown8 hb8 hkp8)
   go_roundw
   case rel =>
    refine ⟨k+1,A8,c8,by omega,by go_num,rfl,?_,HB4.out.trans hb8⟩
    rw [HTK.out]
    have h:=hown8
    have e:boolsP (s.rest :: ((ts.take k).map (·.rest) ++ [t.rest]))=boolsP (s.rest :: (ts.take k).map (·.rest)) ++ [.bool t.rest]:=by simp [boolsP]
    rw [e]
    exact h
   case measure=>simp [intOf];omega
  ·have hlt1:¬ (k:Int)<(ts.length:Int):=by omega
   have hkn:k=ts.length:=by omega
   subst hkn
   have HRL:=Lib.hid (show (rsts s).length=ts.length+1 by unfold rsts;rw [hts];simp)
   have HRR:=Lib.hid (show boolsP (rsts s)=boolsP (s.rest :: (ts.take ts.length).map (·.rest)) by unfold rsts;rw [hts,List.take_length])
   go_wp2_with fail
   go_ret
   refine ⟨A',c',by rw [HRL.out];rfl,?_,HB.out⟩
   rw [HRL.out,HRR.out]
   exact HO.out
set_option maxHeartbeats 8000000 in
set_option maxRecDepth 100000 in
theorem eqTimes_same (ts:List TimeV) (A C:Option Addr) (ca cc:Nat) (w:World) (hx:TmAt w A ca ts) (hy:TmAt w C cc ts) :
  Calls Tryz.prog 73 #[.slice A ts.length ca,.slice C ts.length cc] w fun e w'=>e=.returned (.bool true)∧Below w.heap.size w w':=by
 obtain ⟨hx,hnx,hx9⟩:=hx
 clear hx9
 obtain ⟨hy,hny,hy9⟩:=hy
 clear hy9
 unfold maxLen at hnx hny
 have HX:=Lib.hid hx
 have HY:=Lib.hid hy
 have e0:((ts.length:Int) != (ts.length:Int))=false:=by simp
 clear hx hy
 go_enter Tryz.func73,Tryz.ntmps73
 go_wp2_with fail
 go_loopw [5,13] (fun _ i wr=>∃ k:Nat,k≤ts.length∧i=.int .i64 k∧Below w.heap.size w wr) (fun _ i _=>ts.length - (intOf i).toNat)
 case atStart=>exact ⟨0,Nat.zero_le _,rfl,Below.refl _ _⟩
 case round =>
  obtain ⟨k,hk,rfl,hbel⟩:=hrel
  have HB:=Lib.hid hbel
  by_cases hlt:k<ts.length
  ·have hkl:(k:Int)<(ts.length:Int):=by omega
   obtain ⟨b1,o1,hA1,hb1,hx1⟩:=elemsP timeC_len (by decide) HX.out (by omega)
   obtain ⟨b2,o2,hA2,hb2,hx2⟩:=elemsP timeC_len (by decide) HY.out (by omega)
   subst hA1 hA2
   have x0:=(HB.out.cell (p:=⟨b1,o1+k*4+0,none⟩) hb1).trans (hx1 k hlt 0 _ rfl)
   have x1:=(HB.out.cell (p:=⟨b1,o1+k*4+1,none⟩) hb1).trans (hx1 k hlt 1 _ rfl)
   have x2:=(HB.out.cell (p:=⟨b1,o1+k*4+2,none⟩) hb1).trans (hx1 k hlt 2 _ rfl)
   have x3:=(HB.out.cell (p:=⟨b1,o1+k*4+3,none⟩) hb1).trans (hx1 k hlt 3 _ rfl)
   have y0:=(HB.out.cell (p:=⟨b2,o2+k*4+0,none⟩) hb2).trans (hx2 k hlt 0 _ rfl)
   have y1:=(HB.out.cell (p:=⟨b2,o2+k*4+1,none⟩) hb2).trans (hx2 k hlt 1 _ rfl)
   have y2:=(HB.out.cell (p:=⟨b2,o2+k*4+2,none⟩) hb2).trans (hx2 k hlt 2 _ rfl)
   have y3:=(HB.out.cell (p:=⟨b2,o2+k*4+3,none⟩) hb2).trans (hx2 k hlt 3 _ rfl)
   rw [Nat.add_zero] at x0 y0
   generalize ts[k]=t at *
   clear hx1 hx2
   go_wp2_with fail
   go_quiet (fail)
   have hb7:=below_drewN HB.out nq
   go_wp2_with fail
   all_goals first
    |(go_roundw
      case rel=>exact ⟨k+1,by omega,by go_num,hb7⟩
      case measure=>simp [intOf];omega)
    |exact ⟨⟨k+1,by omega,by go_num,hb7⟩,by simp [intOf];omega⟩
  ·have hkl:¬ (k:Int)<(ts.length:Int):=by omega
   go_wp2_with fail
   go_ret
   exact ⟨rfl,HB.out⟩
set_option maxHeartbeats 8000000 in
set_option maxRecDepth 100000 in
theorem dsame_any (s:SheetV) (A C:Option Addr) (ca cc:Nat) (w:World) (hx:TmAt w A ca s.times) (hy:TmAt w C cc s.times) :
  Calls Tryz.prog 28 #[sheetA A ca s,sheetA C cc s] w fun e w'=>e=.returned (.bool true)∧Below w.heap.size w w':=by
 obtain ⟨k1,k2,k3⟩:=alloc2 w (.cells (sheetQ A ca s) 39) (.cells (sheetQ C cc s) 39)
 have HB:=Lib.hid k3
 have a0:=cellsX k1 0 (.bool s.rest) rfl
 have a1:=cellsX k1 1 (.int .i64 s.dep) rfl
 have a2:=cellsX k1 2 (.slice A s.times.length ca) rfl
 have a3:=cellsX k1 3 (.int .i64 s.fin) rfl
 have a4:=cellsX k1 4 (.int .i64 s.miles) rfl
 have b0:=cellsX k2 0 (.bool s.rest) rfl
 have b1:=cellsX k2 1 (.int .i64 s.dep) rfl
 have b2:=cellsX k2 2 (.slice C s.times.length cc) rfl
 have b3:=cellsX k2 3 (.int .i64 s.fin) rfl
 have b4:=cellsX k2 4 (.int .i64 s.miles) rfl
 have HE:=Lib.hid (eqTimes_same s.times A C ca cc _ (hx.below k3) (hy.below k3))
 clear k1 k2 k3 hx hy
 go_enter Tryz.func28,Tryz.ntmps28
 go_upto_region 1 with fail
 rw [show (w.alloc (.cells #[.bool s.rest,.int .i64 s.dep,.slice A s.times.length ca,.int .i64 s.fin,.int .i64 s.miles] 39)).alloc (.cells #[.bool s.rest,.int .i64 s.dep,.slice C s.times.length cc,.int .i64 s.fin,.int .i64 s.miles] 39)=(w.alloc (.cells (sheetQ A ca s) 39)).alloc (.cells (sheetQ C cc s) 39) from rfl]
 generalize (w.alloc (.cells (sheetQ A ca s) 39)).alloc (.cells (sheetQ C cc s) 39)=w2 at *
 go_wp2_with fail
 refine HE.out.mono ?_
 rintro e w3 ⟨rfl,hb3⟩
 have HB3:=Lib.hid (below_lift HB.out hb3)
 clear hb3
 go_wp2_with fail
 go_ret
 exact ⟨rfl,HB3.out⟩
set_option maxHeartbeats 32000000 in
set_option maxRecDepth 100000 in
theorem dvalid_any (m:InsM) (r:RouM) (A:Option Addr) (c:Nat) (s:SheetV) (p:TripV) (w:World) (hm:InsAt w m) (hok:InsOK m.v) (hr:RouAt w r) (hvl:r.r.vis.length≤8) (hT:Tab w) (ht:TmAt w A c s.times) (hp:PlanIs m.v r.r p) (hs:BestS p s) :
  Calls Tryz.prog 8 #[insA m,rouA r,sheetA A c s] w fun e w'=>e=.returned (.int .i64 0)∧Below w.heap.size w w':=by
 obtain ⟨k1,k2,k3,k4⟩:=alloc3 w (.cells (insQ m) 30) (.cells (rouR r) 34) (.cells (sheetQ A c s) 39)
 have HB:=Lib.hid k4
 have HK1:=Lib.hid k1
 have HK2:=Lib.hid k2
 have HK3:=Lib.hid k3
 have HM:=Lib.hid hm
 have HO:=Lib.hid hok
 have HR:=Lib.hid hr
 have HT:=Lib.hid hT
 have HTM:=Lib.hid ht
 have HP:=Lib.hid hp
 have HS:=Lib.hid hs
 have hpl:=hp.len
 obtain ⟨mm,hrun,hsh,hrl,hrr,htk⟩:=hs.rsts (hp.ok hok)
 have htl:=hs.legs.2
 have hprr:p.r.rests=r.r.rests:=by rw [hp.r]
 rw [hprr] at hrr htk
 have HRUN:=Lib.hid (And.intro hrun hsh)
 have HTK:=Lib.hid htk
 have hrc:=hr.rl
 unfold maxLen at hrc
 have e1:((s.times.length:Int) != (r.r.vis.length:Int))=false:=by
  have:s.times.length=r.r.vis.length:=by omega
  rw [this];simp
 have e2:¬ ((r.r.vis.length:Int)+1<(r.r.rests.length:Int)):=by omega
 have hs8:s.times.length≤8:=by omega
 have hr9:(rsts s).length≤9:=by omega
 have HLS:=Lib.hid (And.intro hpl hrl)
 have hrr9:r.r.rests.length≤9:=by omega
 have HRR:=Lib.hid hrr
 clear hm hok hr hT ht hp hs hrun hsh htk hprr k1 k2 k3 k4 hpl htl hrl hrr
 go_enter Tryz.func8,Tryz.ntmps8
 (try simp only [B_mk])
 go_upto_region 1 with fail
 rw [show ((w.alloc (.cells #[.slice m.pA m.places.length m.pc,.slice m.aA m.arcs.length m.ac,.slice m.tA m.types.length m.tc,.slice m.oA m.ords.length m.oc,.slice m.xA m.apart.length m.xc,.slice m.bA m.before.length m.bc] 30)).alloc (.cells #[.int .i64 r.r.kind,.int .i64 r.r.start,.slice r.A r.r.rests.length r.ca,.slice r.C r.r.vis.length r.cc] 34)).alloc (.cells #[.bool s.rest,.int .i64 s.dep,.slice A s.times.length c,.int .i64 s.fin,.int .i64 s.miles] 39)=((w.alloc (.cells (insQ m) 30)).alloc (.cells (rouR r) 34)).alloc (.cells (sheetQ A c s) 39) from rfl]
 generalize ((w.alloc (.cells (insQ m) 30)).alloc (.cells (rouR r) 34)).alloc (.cells (sheetQ A c s) 39)=w3 at *
 obtain ⟨g1,hg1⟩:∃ g1,g1=w.heap.size:=⟨_,rfl⟩
 obtain ⟨g2,hg2⟩:∃ g2,g2=w.heap.size+1:=⟨_,rfl⟩
 obtain ⟨g3,hg3⟩:∃ g3,g3=w.heap.size+1+1:=⟨_,rfl⟩
 rw [← hg3] at HK3
 rw [← hg3,← hg2,← hg1]
 rw [← hg2] at HK2
 rw [← hg1] at HK1
 clear hg1 hg2 hg3
 have HPL:=Lib.hid (dplan_any m r w3 (HM.out.below HB.out) HO.out (HR.out.below HB.out) hvl)
 go_wp2_with (first | (refine wpList_load_row rfl 30 _ rfl g1 rfl 30 _ _ _ HK1.out Tryz.underlying30 rfl (by kernel_rfl) ?_) | (refine wpList_load_row rfl 34 _ rfl g2 rfl 34 _ _ _ HK2.out Tryz.underlying34 rfl (by kernel_rfl) ?_))
 refine HPL.out.mono ?_
 rintro e w4 ⟨q,ok,rfl,hb4,hqy,hqn⟩
 obtain rfl:ok=true:=by
  cases ok with
  |true=>rfl
  |false=>exact absurd HP.out (hqn rfl p)
 obtain ⟨hqt,hqm,hqr⟩:=hqy rfl
 have hqp:q.v=p:=by
  have h:=hqt.is
  rw [hqm,hqr] at h
  exact h.one HP.out
 have HQP:=Lib.hid hqp
 have HQS:=Lib.hid (show q.stops.length=p.stops.length by have:q.v.stops.length=q.stops.length:=rfl;rw [← this,hqp])
 have hq8:q.stops.length≤8:=by have h1:=HQS.out;have h2:=HLS.out.1;omega
 obtain ⟨p5,n5⟩:=new_set w4 #[.slice none 0 0,.slice none 0 0,.slice none 0 0,.slice none 0 0,.slice none 0 0,.slice none 0 0,.string (B []),.int .i64 0,.int .i64 0,.int .i64 0,.slice none 0 0,.int .i64 0,.int .i64 0,.int .i64 0,.int .i64 0,.int .i64 0,.int .i64 0,.int .i64 0,.int .i64 0,.int .i64 0,.int .i64 0,.int .i64 0,.slice none 0 0,.slice none 0 0,.slice none 0 0] (tripR q) 84
 have HB5:=Lib.hid (below_lift (below_lift HB.out hb4) n5)
 have HR25:=Lib.hid (row_keep (row_keep HK2.out hb4) n5)
 have HR35:=Lib.hid (row_keep (row_keep HK3.out hb4) n5)
 have HQ5:=Lib.hid (hqt.below n5)
 clear hb4 hqy hqn n5 HB HK1 HK2 HK3 HPL hqt hqm hqr hqp
 go_upto_region 2 with (refine wpList_store_row rfl 84 _ _ rfl w4.heap.size (tripR q) rfl rfl 84 _ (new_at w4 _).2 (by kernel_rfl) rfl (by kernel_rfl) ?_)
 generalize (w4.alloc (.cells #[.slice none 0 0,.slice none 0 0,.slice none 0 0,.slice none 0 0,.slice none 0 0,.slice none 0 0,.string (B []),.int .i64 0,.int .i64 0,.int .i64 0,.slice none 0 0,.int .i64 0,.int .i64 0,.int .i64 0,.int .i64 0,.int .i64 0,.int .i64 0,.int .i64 0,.int .i64 0,.int .i64 0,.int .i64 0,.int .i64 0,.slice none 0 0,.slice none 0 0,.slice none 0 0] 84)).setRow w4.heap.size (tripR q)=w5 at *
 obtain ⟨g7,hg7⟩:∃ g7,g7=w4.heap.size:=⟨_,rfl⟩
 rw [← hg7] at p5
 rw [← hg7]
 have HR75:=Lib.hid p5
 clear p5 hg7
 have y3:=cellsX HR25.out 3 (.slice r.C r.r.vis.length r.cc) rfl
 have y2:=cellsX HR25.out 2 (.slice r.A r.r.rests.length r.ca) rfl
 have z2:=cellsX HR35.out 2 (.slice A s.times.length c) rfl
 have HRS:=Lib.hid (drests_any s A c w5 (HTM.out.below HB5.out) (by omega))
 go_upto_region 5 with fail
 clear y3 y2 z2 e1 e2
 go_wp2_with (refine wpList_load_row rfl 39 _ rfl g3 rfl 39 _ _ _ HR35.out Tryz.underlying39 rfl (by kernel_rfl) ?_)
 refine HRS.out.mono ?_
 rintro e w6 ⟨A',c',rfl,hown,hb6⟩
 have HB6:=Lib.hid (below_lift HB5.out hb6)
 have HR26:=Lib.hid (row_keep HR25.out hb6)
 have HR36:=Lib.hid (row_keep HR35.out hb6)
 have HR76:=Lib.hid (row_keep HR75.out hb6)
 have HQ6:=Lib.hid (HQ5.out.below hb6)
 have HOW:=Lib.hid hown
 have hcap:=hown.cap
 have hrrc:r.r.rests.length≤c':=Nat.le_trans HRR.out hcap.1
 unfold maxLen at hcap
 clear hb6 hown HB5 HR25 HR35 HR75 HQ5 HRS
 go_upto_region 6 with fail
 go_cut [49] (fun x wx=>x=.bool false∧Below w6.heap.size w6 wx)
 case first =>
  have HEQ:=Lib.hid (show ∀ wz,Below w6.heap.size w6 wz→Calls Tryz.prog 26 #[.slice A' r.r.rests.length c',.slice r.A r.r.rests.length r.ca] wz (fun e w'=>e=.returned (.bool true)∧Below wz.heap.size wz w') from fun wz hb=>by
   have h1:Cells wz A' (boolsP r.r.rests):=fun h0=>by
    rw [boolsP_length] at h0
    have hle:boolsP (rsts s)=boolsP r.r.rests ++ boolsP ((rsts s).drop r.r.rests.length):=by
     rw [← boolsP_app]
     congr 1
     have:=List.take_append_drop r.r.rests.length (rsts s)
     rw [HTK.out] at this
     exact this.symm
    have hrr:=HRR.out
    obtain ⟨b,off,e,hbb,hx⟩:=HOW.out.cells (by rw [boolsP_length];omega)
    refine ⟨b,off,e,Nat.lt_of_lt_of_le hbb hb.size,fun j v hv=>(hb.cell (p:=⟨b,off+j,none⟩) hbb).trans (hx j v ?_)⟩
    rw [hle,List.getElem?_append_left (List.getElem?_eq_some_iff.1 hv).1]
    exact hv
   have h2:=eqBools_any r.r.rests r.r.rests A' r.A c' r.ca wz h1 ((HR.out.below (below_lift HB6.out hb)).rests) ⟨by omega,by unfold maxLen;omega⟩ ⟨by omega,by unfold maxLen;omega⟩
   rw [eqv_true rfl] at h2
   exact h2)
  have HKP:=Lib.hid (show ∀ w' w2,(w'.heap[g2]? = some (.cells (rouR r) 34)∧Below w6.heap.size w6 w')→Below w'.heap.size w' w2→(w2.heap[g2]? = some (.cells (rouR r) 34)∧Below w6.heap.size w6 w2) from fun w' w2 ⟨h0,h1⟩ hb=>⟨row_keep h0 hb,below_lift h1 hb⟩)
  have hS0:(fun w'=>w'.heap[g2]? = some (.cells (rouR r) 34)∧Below w6.heap.size w6 w') w6.drew:=⟨HR26.out,(Below.refl _ w6).drew⟩
  refine wp_region_held_drew (S:=fun w'=>w'.heap[g2]? = some (.cells (rouR r) 34)∧Below w6.heap.size w6 w') (by kernel_rfl) hS0 (fun hHeld=>?_)
  refine wpAnyH_take (i:=0) (v:=?_) (by simp only [List.getElem?_toArray,List.getElem?_cons_zero];rfl) (by kernel_rfl) (by kernel_rfl) (by kernel_rfl) (by exact fun _ _ _ h=>h) (Or.inl ⟨by rfl,?_⟩) (by assumption) ?_
  rotate_left
  ·(intro w hSw;(try dsimp only at hSw);go_simp;(try with_reducible rfl))
  (try simp only [Act.put,List.setIfInBounds_toArray,List.set_cons_zero,List.set_cons_succ])
  refine wpAnyH_take (i:=1) (v:=?_) (by simp only [List.getElem?_toArray,List.getElem?_cons_succ,List.getElem?_cons_zero];rfl) (by kernel_rfl) (by kernel_rfl) (by kernel_rfl) (by exact fun _ _ _ h=>h) (Or.inl ⟨by rfl,?_⟩) (by assumption) ?_
  rotate_left
  ·(intro w hSw;(try dsimp only at hSw);go_simp;(try with_reducible rfl))
  (try simp only [Act.put,List.setIfInBounds_toArray,List.set_cons_zero,List.set_cons_succ])
  refine wpAnyH_take (i:=2) (v:=?_) (by simp only [List.getElem?_toArray,List.getElem?_cons_succ,List.getElem?_cons_zero];rfl) (by kernel_rfl) (by kernel_rfl) (by kernel_rfl) (by exact fun _ _ _ h=>h) (Or.inl ⟨by rfl,?_⟩) (by assumption) ?_
  rotate_left
  ·(intro w hSw;have q0:=cellsX hSw.1 2 (.slice r.A r.r.rests.length r.ca) rfl;go_simp;(try with_reducible rfl))
  (try simp only [Act.put,List.setIfInBounds_toArray,List.set_cons_zero,List.set_cons_succ])
  refine wpAnyH_take (i:=3) (v:=?_) (by simp only [List.getElem?_toArray,List.getElem?_cons_succ,List.getElem?_cons_zero];rfl) (by kernel_rfl) (by kernel_rfl) (by kernel_rfl) (by exact fun _ _ _ h=>h) (Or.inl ⟨by rfl,?_⟩) (by assumption) ?_
  rotate_left
  ·(intro w hSw;(try dsimp only at hSw);go_simp;(try with_reducible rfl))
  (try simp only [Act.put,List.setIfInBounds_toArray,List.set_cons_zero,List.set_cons_succ])
  refine wpAnyH_take (i:=4) (v:=?_) (by simp only [List.getElem?_toArray,List.getElem?_cons_succ,List.getElem?_cons_zero];rfl) (by kernel_rfl) (by kernel_rfl) (by kernel_rfl) (by exact fun _ _ _ h=>h) (Or.inl ⟨by rfl,?_⟩) (by assumption) ?_
  rotate_left
  ·(intro w hSw;(try dsimp only at hSw);go_simp;(try with_reducible rfl))
  (try simp only [Act.put,List.setIfInBounds_toArray,List.set_cons_zero,List.set_cons_succ])
  refine wpAnyH_take (i:=5) (v:=?_) (by simp only [List.getElem?_toArray,List.getElem?_cons_succ,List.getElem?_cons_zero];rfl) (by kernel_rfl) (by kernel_rfl) (by kernel_rfl) (by exact fun _ _ _ h=>h) (Or.inl ⟨by rfl,?_⟩) (by assumption) ?_
  rotate_left
  ·(intro w hSw;(try dsimp only at hSw);go_simp;(try with_reducible rfl))
  (try simp only [Act.put,List.setIfInBounds_toArray,List.set_cons_zero,List.set_cons_succ])
  refine wpAnyH_take (i:=6) (v:=?_) (by simp only [List.getElem?_toArray,List.getElem?_cons_succ,List.getElem?_cons_zero];rfl) (by kernel_rfl) (by kernel_rfl) (by kernel_rfl) (by exact fun _ _ _ h=>h) (Or.inl ⟨by rfl,?_⟩) (by assumption) ?_
  rotate_left
  ·(intro w hSw;have q0:=cellsX hSw.1 2 (.slice r.A r.r.rests.length r.ca) rfl;go_simp;(try with_reducible rfl))
  (try simp only [Act.put,List.setIfInBounds_toArray,List.set_cons_zero,List.set_cons_succ])
  refine wpAnyH_ready (rs:=[7]) (by kernel_rfl) (by simp) (AllReadyH.cons (by simp only [List.getElem?_toArray,List.getElem?_cons_succ,List.getElem?_cons_zero];rfl) (fun K hK=>?_) AllReadyH.nil)
  go_simp
  refine (HEQ.out _ (And.right (by assumption))).mono ?_
  rintro e wy ⟨rfl,hby⟩
  refine hK.out _ _ (HKP.out _ _ (by assumption) hby) (fun hHeld=>?_)
  clear hK K
  (try simp only [Act.put,List.setIfInBounds_toArray,List.set_cons_zero,List.set_cons_succ])
  refine wpAnyH_take (i:=8) (v:=?_) (by simp only [List.getElem?_toArray,List.getElem?_cons_succ,List.getElem?_cons_zero];rfl) (by kernel_rfl) (by kernel_rfl) (by kernel_rfl) (by exact fun _ _ _ h=>h) (Or.inl ⟨by rfl,?_⟩) (by assumption) ?_
  rotate_left
  ·(intro w hSw;(try dsimp only at hSw);go_simp;(try with_reducible rfl))
  (try simp only [Act.put,List.setIfInBounds_toArray,List.set_cons_zero,List.set_cons_succ])
  refine wpAnyH_done (by kernel_rfl) ?_ _
  all_goals
   go_wp2_with fail
   go_meet
   exact ⟨rfl,And.right (by assumption)⟩
 case rest =>
  obtain ⟨rfl,hbc⟩:=hcut
  have HBC:=Lib.hid (below_lift HB6.out hbc)
  have HR3C:=Lib.hid (row_keep HR36.out hbc)
  have HR7C:=Lib.hid (row_keep HR76.out hbc)
  have HRU:=Lib.hid (drun_any q (rsts s) A' c' wc (HQ6.out.below hbc) (HOW.out.cells.below hbc) HOW.out.cap (by have h1:=HQS.out;have h2:=HLS.out;omega) hq8 (HT.out.below HBC.out))
  unfold RunE at HRU
  rw [HQP.out,HRUN.out.1] at HRU
  have HTMC:=Lib.hid (HTM.out.below HBC.out)
  clear hbc HB6 HR26 HR36 HR76 HQ6 HOW
  go_wp2_with (refine wpList_load_row rfl 84 _ rfl g7 rfl 84 _ _ _ HR7C.out Tryz.underlying84 rfl (by kernel_rfl) ?_)
  refine HRU.out.mono ?_
  rintro e w9 ⟨⟨A9,c9,rfl,htm⟩,hb9⟩
  have hsm:mm.sh=s:=HRUN.out.2
  rw [hsm]
  rw [hsm] at htm
  obtain ⟨n10,p10⟩:=new_at w9 (.cells (sheetQ A9 c9 s) 39)
  have HB10:=Lib.hid (below_lift (below_lift HBC.out hb9) n10)
  have HR310:=Lib.hid (row_keep (row_keep HR3C.out hb9) n10)
  have HSM:=Lib.hid (dsame_any s A A9 c c9 _ ((HTMC.out.below hb9).below n10) (htm.below n10))
  clear hb9 htm n10 HBC HR3C HR7C HTMC HRU hsm
  go_upto_region 9 with fail
  rw [show w9.alloc (.cells #[.bool s.rest,.int .i64 s.dep,.slice A9 s.times.length c9,.int .i64 s.fin,.int .i64 s.miles] 39)=w9.alloc (.cells (sheetQ A9 c9 s) 39) from rfl]
  generalize w9.alloc (.cells (sheetQ A9 c9 s) 39)=w10 at *
  obtain ⟨g9,hg9⟩:∃ g9,g9=w9.heap.size:=⟨_,rfl⟩
  rw [← hg9] at p10
  rw [← hg9]
  have HP10:=Lib.hid p10
  clear p10 hg9
  go_upto_region 11 with fail
  go_wp2_with (first | (refine wpList_load_row rfl 39 _ rfl g3 rfl 39 _ _ _ HR310.out Tryz.underlying39 rfl (by kernel_rfl) ?_) | (refine wpList_load_row rfl 39 _ rfl g9 rfl 39 _ _ _ HP10.out Tryz.underlying39 rfl (by kernel_rfl) ?_))
  refine HSM.out.mono ?_
  rintro e w11 ⟨rfl,hb11⟩
  have hbf:=below_lift HB10.out hb11
  go_wp2_with fail
  go_ret
  exact ⟨rfl,hbf⟩
end Go.Proofs.YtjcekdiocliddaaGreatDoor
